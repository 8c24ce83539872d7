/-
  The engine, part 17: the evaluator without a bound on its depth, and what it unfolds to.
-/
import Derived.Test.YtnfciiiohoafaaaGreatDoorPD
import Derived.Laws.BitsLemmas
import Derived.ChangeArms
import Derived.OpenShut
import Derived.Carry
import Derived.ProofKit
import Derived.ChangeSame
set_option linter.unusedSimpArgs false
set_option linter.unusedVariables false
set_option linter.constructorNameAsVariable false
section
namespace Go.AE
structure iG(R R':Rec):Prop where
 code:∀c e h r,R.code c e h=some r->R'.code c e h=some r
 call:∀g a h r,R.call g a h=some r->R'.call g a h=some r
 fg:∀g a m h r,R.fg g a m h=some r->R'.fg g a m h=some r
 round:∀l a h r,R.round l a h=some r->R'.round l a h=some r
section
variable {P:Program} {G:Nat->Option (List AV)} {R R':Rec}
theorem LH(le:iG R R'){e:Env}{h:ae}{c:Call}{r:Res × ae}(hc:eI P R e h c=some r):eI P R' e h c=some r:=by
 unfold eI at hc ⊢
 cases hcc:c.callee with
 |builtin b=>rw[hcc] at hc;cases hc
 |value f=>
  simp only[hcc] at hc ⊢
  split at hc
  ·rename_i h1;(try simp only[h1]);exact le.call _ _ _ _ hc
  ·rename_i h1;(try simp only[h1]);exact le.round _ _ _ _ hc
  ·cases hc
 |invoke v m=>
  simp only[hcc] at hc ⊢
  split at hc
  ·rename_i h1
   (try simp only[h1])
   split at hc
   ·rename_i h2;(try simp only[h2]);exact le.call _ _ _ _ hc
   ·cases hc
  ·cases hc
theorem w8(le:iG R R'){e:Env}{h:ae}{o:Oper}{r:Res × Env × ae}(ho:dC P G R e h o=some r):dC P G R' e h o=some r:=by
 unfold dC at ho ⊢
 split at ho
 ·exact ho
 ·exact ho
 ·exact ho
 ·simp only[Option.map_eq_some_iff] at ho ⊢
  obtain⟨q,hq,he⟩:=ho
  exact⟨q,LH le hq,he⟩
 ·exact ho
 ·exact ho
 ·exact ho
theorem fL(le:iG R R'){ops:Array Oper}:∀{l:List Nat} {e:Env} {h:ae} {r:Xt × Env × ae},br P G R ops l e h=some r->br P G R' ops l e h=some r:=by
 intro l
 induction l with
 |nil=>intro e h r ho;exact ho
 |cons i l ih=>
  intro e h r ho
  simp only[br] at ho ⊢
  cases hoi:ops[i]? with
  |none=>rw[hoi] at ho;cases ho
  |some o=>
   rw[hoi] at ho
   simp only at ho ⊢
   cases hw:bg ops e o with
   |none=>rw[hw] at ho;cases ho
   |some b=>
    rw[hw] at ho
    cases b with
    |false=>exact ih ho
    |true=>
     simp only at ho ⊢
     cases hop:dC P G R e h o with
     |none=>rw[hop] at ho;cases ho
     |some q=>
      rw[hop] at ho
      rw[w8 le hop]
      obtain⟨r1,e1,h1⟩:=q
      cases r1 with
      |ret x=>exact ih ho
      |panic x=>exact ho
theorem o8(le:iG R R'){ops:Array Oper}{e:Env}{h:ae}{r m:Nat}(hs:fX P G R ops e h r m=true):fX P G R' ops e h r m=true:=by
 unfold fX at hs ⊢
 split at hs
 ·rename_i o er hr em hm h1 h2 h3
  rw[h1,fL le h2,fL le h3]
  exact hs
 ·cases hs
theorem oz{ops:Array Oper}{e:Env}{h:ae}{k:Nat}:gC P G R ops e h k=true↔sY P G R ops e h k:=by unfold gC;exact @decide_eq_true_iff _ (Classical.propDecidable _)
theorem ue(le:iG R R'){ops:Array Oper}{e:Env}{h:ae}{k:Nat}(hc:gC P G R ops e h k=true):gC P G R' ops e h k=true:=by
 rw[oz] at hc ⊢
 obtain⟨o,x,er,hr,h1,h2,h3,h4⟩:=hc
 refine⟨o,x,er,hr,h1,h2,fL le h3,fun m hm=>?_⟩
 obtain⟨em,hm',h5,h6⟩:=h4 m hm
 exact⟨em,hm',fL le h5,w8 le h6⟩
theorem yv(le:iG R R'){ops:Array Oper}{e:Env}{h:ae}(hs:df P G R ops e h=true):df P G R' ops e h=true:=by
 unfold df at hs ⊢
 simp only[Bool.and_eq_true,List.all_eq_true,List.mem_range,Bool.or_eq_true] at hs ⊢
 refine⟨hs.1,fun j hj i hi=>?_⟩
 rcases hs.2 j hj i hi with((h1|h1) |h1) |h1
 ·exact .inl (.inl (.inl h1))
 ·exact .inl (.inl (.inr h1))
 ·refine .inl (.inr ?_)
  unfold cX at h1 ⊢
  rw[Bool.and_eq_true] at h1 ⊢
  refine⟨h1.1,?_⟩
  have h2:=h1.2
  split at h2
  ·rename_i hx hy;(try simp only[hx,hy]);exact o8 le h2
  ·rename_i hx hy;(try simp only[hx,hy]);exact o8 le h2
  ·cases h2
 ·exact .inr ⟨h1.1,h1.2.imp (ue le) (ue le)⟩
theorem w9(le:iG R R'){ops:Array Oper}{e:Env}{h:ae}{i:Nat}(hs:iA P G R ops e h i=true):iA P G R' ops e h i=true:=by
 unfold iA at hs ⊢
 split at hs
 ·rename_i h1 h2
  rw[fL le h1,fL le h2]
  exact hs
 ·cases hs
theorem stores_le(le:iG R R'){ops:Array Oper}{e:Env}{h:ae}(D:gu P G R ops e h=true):gu P G R' ops e h=true:=by
 obtain⟨i,h1,h2,h3,h4⟩:=stores_cases D
 exact stores_of h1 h2 (w9 le h3) (yv le h4)
theorem any_le(le:iG R R'){ops:Array Oper}{e:Env}{h:ae}(D:(df P G R ops e h||gu P G R ops e h)=true):(df P G R' ops e h||gu P G R' ops e h)=true:=by
 rcases (Bool.or_eq_true _ _).mp D with q|q
 ·rw[yv le q];rfl
 ·rw[stores_le le q,Bool.or_true]
theorem Ed(le:iG R R'){c:Code}{e:Env}{h:ae}{r:Xt × Env × ae}(hc:b7 P G R c e h=some r):b7 P G R' c e h=some r:=by
 cases c with
 |region id ops draw=>
  cases draw with
  |false=>simp only[b7,Bool.false_eq_true,if_false] at hc ⊢;exact fL le hc
  |true=>
   simp only[b7,if_true] at hc ⊢
   split at hc
   ·rename_i hf
    split at hc
    ·rename_i h1
     rw[if_pos (any_le le hf)]
     simp only[fL le h1]
     exact hc
    ·cases hc
   ·cases hc
 |seq a b=>
  simp only[b7] at hc ⊢
  cases ha:R.code a e h with
  |none=>rw[ha] at hc;cases hc
  |some q=>
   rw[ha] at hc
   rw[le.code _ _ _ _ ha]
   obtain⟨o,e1,h1⟩:=q
   cases o with
   |normal=>exact le.code _ _ _ _ hc
   |_=>exact hc
 |scope a=>simp only[b7] at hc ⊢;exact le.code _ _ _ _ hc
 |cond q a b=>
  simp only[b7] at hc ⊢
  split at hc
  ·rename_i h1;(try simp only[h1]);exact le.code _ _ _ _ hc
  ·rename_i h1;(try simp only[h1]);exact le.code _ _ _ _ hc
  ·cases hc
 |block id a=>
  simp only[b7] at hc ⊢
  cases ha:R.code a e h with
  |none=>rw[ha] at hc;cases hc
  |some q=>
   rw[ha] at hc
   rw[le.code _ _ _ _ ha]
   exact hc
 |loop a=>
  simp only[b7] at hc ⊢
  cases ha:R.code a e h with
  |none=>rw[ha] at hc;cases hc
  |some q=>
   rw[ha] at hc
   rw[le.code _ _ _ _ ha]
   obtain⟨o,e1,h1⟩:=q
   cases o with
   |normal=>exact le.code _ _ _ _ hc
   |_=>exact hc
 |rangeFunc f ps a b=>
  simp only[b7] at hc ⊢
  split at hc
  ·rename_i g first cap hev
   (try simp only[hev])
   generalize hcl:R.call g _ _=q at hc
   cases q with
   |none=>cases hc
   |some q=>rw[le.call _ _ _ _ hcl];exact hc
  ·cases hc
 |_=>exact hc
theorem ss(le:iG R R'){fn:Func}{e:Env}:∀{ds:List (FuncId × List AV)} {m:Option (AV × Bool)} {h:ae} {r:Res × ae},bD P G R fn e ds m h=some r->bD P G R' fn e ds m h=some r:=by
 intro ds
 induction ds with
 |nil=>intro m h r hu;cases m<;>exact hu
 |cons d ds ih=>
  intro m h r hu
  obtain⟨g,args⟩:=d
  simp only[bD] at hu ⊢
  cases hd:R.fg g args m h with
  |none=>rw[hd] at hu;cases hu
  |some q=>
   rw[hd] at hu
   rw[le.fg _ _ _ _ _ hd]
   obtain⟨r1,m1,h1⟩:=q
   cases r1 with
   |panic x=>exact hu
   |ret x=>
    rcases m1 with _|⟨y,b⟩
    ·exact ih hu
    ·cases b<;>exact ih hu
theorem yw(le:iG R R'){g:FuncId}{args:List AV}{m:Option (AV × Bool)}{h:ae}{r:Res × Option (AV × Bool) × ae}(hb:iB P G R g args m h=some r):iB P G R' g args m h=some r:=by
 unfold iB at hb ⊢
 split at hb
 ·cases hb
 ·rename_i fn hfn
  rw[hfn] at *
  simp only
  split at hb
  ·cases hb
  ·rename_i body hbody
   rw[hbody] at *
   (try simp only)
   generalize hcd:R.code body _ h=q at hb
   cases q with
   |none=>cases hb
   |some q=>
    rw[le.code _ _ _ _ hcd]
    obtain⟨o,e1,h1⟩:=q
    cases o with
    |exit id=>cases hb
    |_=>
     simp only[Option.map_eq_some_iff] at hb ⊢
     obtain⟨q,hq,he⟩:=hb
     exact⟨q,ss le hq,he⟩
theorem Ee(le:iG R R'){prims:FuncId->Option (List AV->ae->Option (AV × ae))}{g:FuncId}{args:List AV}{h:ae}{r:Res × ae}(hb:gQ P G R prims g args h=some r):gQ P G R' prims g args h=some r:=by
 unfold gQ at hb ⊢
 split at hb
 ·exact hb
 ·simp only[Option.map_eq_some_iff] at hb ⊢
  obtain⟨q,hq,he⟩:=hb
  exact⟨q,yw le hq,he⟩
theorem Ai(le:iG R R'){l:Nat}{args:List AV}{h:ae}{r:Res × ae}(hb:iC R l args h=some r):iC R' l args h=some r:=by
 unfold iC at hb ⊢
 split at hb
 ·cases hb
 ·split at hb
  ·rename_i hsz
   simp only[hsz,if_true]
   split at hb
   ·rename_i e1 h1 ha
    simp only[le.code _ _ _ _ ha]
    split at hb
    ·rename_i r2 hr2
     split at hb
     ·rename_i hst
      simp only[hst,if_true]
      generalize hcd:R.code _ e1 _=q at hb
      cases q with
      |none=>cases hb
      |some q=>rw[le.code _ _ _ _ hcd];exact hb
     ·cases hb
    ·cases hb
   ·cases hb
  ·cases hb
variable {prims:FuncId->Option (List AV->ae->Option (AV × ae))}
theorem mD(n:Nat):iG (fW P G prims n) (fW P G prims (n+1)):=by
 induction n with
 |zero=>
  refine⟨?_,?_,?_,?_⟩
  ·intro c e h r hh;cases hh
  ·intro g a h r hh;cases hh
  ·intro g a m h r hh;cases hh
  ·intro l a h r hh;cases hh
 |succ n ih=>exact⟨fun c e h r hh=>Ed ih hh,fun g a h r hh=>Ee ih hh,fun g a m h r hh=>yw ih hh,fun l a h r hh=>Ai ih hh⟩
theorem cL{n m:Nat}(h:n<=m):iG (fW P G prims n) (fW P G prims m):=by
 induction m with
 |zero=>rw[Nat.le_zero.1 h];exact⟨fun _ _ _ _ h=>h,fun _ _ _ _ h=>h,fun _ _ _ _ _ h=>h,fun _ _ _ _ h=>h⟩
 |succ m ih=>
  rcases Nat.lt_or_ge n (m+1) with hlt|hge
  ·have h1:=ih (Nat.lt_succ_iff.1 hlt)
   have h2:=mD (P:=P) (G:=G) (prims:=prims) m
   exact⟨fun c e h r hh=>h2.code _ _ _ _ (h1.code _ _ _ _ hh),fun g a h r hh=>h2.call _ _ _ _ (h1.call _ _ _ _ hh),fun g a m h r hh=>h2.fg _ _ _ _ _ (h1.fg _ _ _ _ _ hh),fun l a h r hh=>h2.round _ _ _ _ (h1.round _ _ _ _ hh)⟩
  ·rw[Nat.le_antisymm h hge];exact⟨fun _ _ _ _ h=>h,fun _ _ _ _ h=>h,fun _ _ _ _ _ h=>h,fun _ _ _ _ h=>h⟩
end
noncomputable def tm{α:Type}(f:Nat->Option α):Option α:=by
 classical
 exact if h:∃r n,f n=some r then some h.choose else none
theorem qZ{α:Type}{f:Nat->Option α}(hm:∀n m r,n<=m->f n=some r->f m=some r){n:Nat}{r:α}(h:f n=some r):tm f=some r:=by
 unfold tm
 have hex:∃r n,f n=some r:=⟨r,n,h⟩
 rw[dif_pos hex]
 obtain⟨m,hm2⟩:=hex.choose_spec
 have h1:=hm _ _ _ (Nat.le_max_left n m) h
 have h2:=hm _ _ _ (Nat.le_max_right n m) hm2
 rw[h1] at h2
 exact h2.symm
theorem bR{α:Type}{f:Nat->Option α}{r:α}(h:tm f=some r):∃n,f n=some r:=by
 unfold tm at h
 split at h
 ·rename_i hex
  injection h with h
  rw[<-h]
  exact hex.choose_spec
 ·cases h
section
variable (P:Program) (G:Nat->Option (List AV)) (prims:FuncId->Option (List AV->ae->Option (AV × ae)))
noncomputable def whole:Rec where
 code c e h:=tm fun n=>(fW P G prims n).code c e h
 call g a h:=tm fun n=>(fW P G prims n).call g a h
 fg g a m h:=tm fun n=>(fW P G prims n).fg g a m h
 round l a h:=tm fun n=>(fW P G prims n).round l a h
end
section
variable {P:Program} {G:Nat->Option (List AV)} {prims:FuncId->Option (List AV->ae->Option (AV × ae))}
theorem jx(n:Nat):iG (fW P G prims n) (whole P G prims):=
 ⟨fun _ _ _ _ h=>qZ (fun _ _ _ hl hh=>(cL hl).code _ _ _ _ hh) h,fun _ _ _ _ h=>qZ (fun _ _ _ hl hh=>(cL hl).call _ _ _ _ hh) h,
  fun _ _ _ _ _ h=>qZ (fun _ _ _ hl hh=>(cL hl).fg _ _ _ _ _ hh) h,fun _ _ _ _ h=>qZ (fun _ _ _ hl hh=>(cL hl).round _ _ _ _ hh) h⟩
theorem su{w0:World}(hp:Prog P)(hprim:∀g p,prims g=some p->jb P G w0 g p):mi P G w0 (whole P G prims):=by
 refine⟨?_,?_,?_,?_⟩
 ·intro c e h out e' h' he
  obtain⟨n,hn⟩:=bR he
  exact(qY hp hprim n).code c e h out e' h' hn
 ·intro g args h r h' he
  obtain⟨n,hn⟩:=bR he
  exact(qY hp hprim n).call g args h r h' hn
 ·intro g args m h x m' h' he
  obtain⟨n,hn⟩:=bR he
  exact(qY hp hprim n).fg g args m h x m' h' hn
 ·intro l args h r h' he
  obtain⟨n,hn⟩:=bR he
  exact(qY hp hprim n).round l args h r h' hn
theorem two{α β:Type}{f:Nat->Option α}{g:Nat->Option β}{a:α}{b:β}(hf:∀n m r,n<=m->f n=some r->f m=some r)(hg:∀n m r,n<=m->g n=some r->g m=some r)(h1:∃n,f n=some a)(h2:∃n,g n=some b):
 ∃n,f n=some a/\g n=some b:=by
 obtain⟨n,h1⟩:=h1
 obtain⟨m,h2⟩:=h2
 exact⟨max n m,hf _ _ _ (Nat.le_max_left _ _) h1,hg _ _ _ (Nat.le_max_right _ _) h2⟩
theorem Ie{e:Env}{h:ae}{c:Call}{r:Res × ae}(hc:eI P (whole P G prims) e h c=some r):∃n,eI P (fW P G prims n) e h c=some r:=by
 unfold eI at hc ⊢
 cases hcc:c.callee with
 |builtin b=>rw[hcc] at hc;cases hc
 |value f=>
  simp only[hcc] at hc ⊢
  split at hc
  ·exact bR hc
  ·exact bR hc
  ·cases hc
 |invoke v m=>
  simp only[hcc] at hc ⊢
  split at hc
  ·split at hc
   ·rename_i h2;(try simp only[h2]);exact bR hc
   ·cases hc
  ·cases hc
theorem Ig{e:Env}{h:ae}{o:Oper}{r:Res × Env × ae}(ho:dC P G (whole P G prims) e h o=some r):∃n,dC P G (fW P G prims n) e h o=some r:=by
 unfold dC at ho ⊢
 split at ho
 ·exact⟨0,ho⟩
 ·exact⟨0,ho⟩
 ·exact⟨0,ho⟩
 ·simp only[Option.map_eq_some_iff] at ho ⊢
  obtain⟨q,hq,he⟩:=ho
  obtain⟨n,hn⟩:=Ie hq
  exact⟨n,q,hn,he⟩
 ·exact⟨0,ho⟩
 ·exact⟨0,ho⟩
 ·exact⟨0,ho⟩
theorem l8{ops:Array Oper}:∀{l:List Nat} {e:Env} {h:ae} {r:Xt × Env × ae},br P G (whole P G prims) ops l e h=some r->∃n,br P G (fW P G prims n) ops l e h=some r:=by
 intro l
 induction l with
 |nil=>intro e h r ho;exact⟨0,ho⟩
 |cons i l ih=>
  intro e h r ho
  simp only[br] at ho ⊢
  cases hoi:ops[i]? with
  |none=>rw[hoi] at ho;cases ho
  |some o=>
   rw[hoi] at ho
   simp only at ho ⊢
   cases hw:bg ops e o with
   |none=>rw[hw] at ho;cases ho
   |some b=>
    rw[hw] at ho
    cases b with
    |false=>exact ih ho
    |true=>
     simp only at ho ⊢
     cases hop:dC P G (whole P G prims) e h o with
     |none=>rw[hop] at ho;cases ho
     |some q=>
      rw[hop] at ho
      have h1:=Ig hop
      obtain⟨r1,e1,hh1⟩:=q
      cases r1 with
      |panic x=>
       obtain⟨n,hn⟩:=h1
       exact⟨n,by rw[hn];exact ho⟩
      |ret x=>
       obtain⟨n,h1,h2⟩:=two (fun _ _ _ hl hh=>w8 (cL hl) hh) (fun _ _ _ hl hh=>fL (cL hl) hh) h1 (ih ho)
       exact⟨n,by rw[h1];exact h2⟩
theorem uP{ops:Array Oper}{e:Env}{h:ae}{r m:Nat}(hs:fX P G (whole P G prims) ops e h r m=true):∃n,fX P G (fW P G prims n) ops e h r m=true:=by
 unfold fX at hs ⊢
 split at hs
 ·rename_i o er hr em hm h1 h2 h3
  obtain⟨n,h2,h3⟩:=two (fun _ _ _ hl hh=>fL (cL hl) hh) (fun _ _ _ hl hh=>fL (cL hl) hh) (l8 h2) (l8 h3)
  refine⟨n,?_⟩
  rw[h1,h2,h3]
  exact hs
 ·cases hs
theorem many{p:Nat->Nat->Prop}(hm:∀i n m,n<=m->p i n->p i m):∀k,(∀i,i<k->∃n,p i n)->∃n,∀i,i<k->p i n:=by
 intro k
 induction k with
 |zero=>intro _;exact⟨0,fun i hi=>absurd hi (Nat.not_lt_zero i)⟩
 |succ k ih=>
  intro h
  obtain⟨n,hn⟩:=ih fun i hi=>h i (Nat.lt_succ_of_lt hi)
  obtain⟨m,hm2⟩:=h k (Nat.lt_succ_self k)
  refine⟨max n m,fun i hi=>?_⟩
  rcases Nat.lt_or_ge i k with hlt|hge
  ·exact hm _ _ _ (Nat.le_max_left _ _) (hn i hlt)
  ·rw[Nat.le_antisymm (Nat.lt_succ_iff.1 hi) hge]
   exact hm _ _ _ (Nat.le_max_right _ _) hm2
theorem Aj{R R':Rec}(le:iG R R'){ops:Array Oper}{e:Env}{h:ae}{i j:Nat}(h1:cX P G R ops e h i j=true):cX P G R' ops e h i j=true:=by
 unfold cX at h1 ⊢
 rw[Bool.and_eq_true] at h1 ⊢
 refine⟨h1.1,?_⟩
 have h2:=h1.2
 split at h2
 ·rename_i hx hy;(try simp only[hx,hy]);exact o8 le h2
 ·rename_i hx hy;(try simp only[hx,hy]);exact o8 le h2
 ·cases h2
theorem yx{ops:Array Oper}{e:Env}{h:ae}{i j:Nat}(h1:cX P G (whole P G prims) ops e h i j=true):∃n,cX P G (fW P G prims n) ops e h i j=true:=by
 unfold cX at h1 ⊢
 rw[Bool.and_eq_true] at h1
 have h2:=h1.2
 split at h2
 ·rename_i hx hy
  obtain⟨n,hn⟩:=uP h2
  exact⟨n,by rw[Bool.and_eq_true];exact⟨h1.1,by(try simp only[hx,hy]);exact hn⟩⟩
 ·rename_i hx hy
  obtain⟨n,hn⟩:=uP h2
  exact⟨n,by rw[Bool.and_eq_true];exact⟨h1.1,by(try simp only[hx,hy]);exact hn⟩⟩
 ·cases h2
theorem Ak{ops:Array Oper}{e:Env}{h:ae}{k:Nat}(hc:gC P G (whole P G prims) ops e h k=true):∃n,gC P G (fW P G prims n) ops e h k=true:=by
 rw[oz] at hc
 obtain⟨o,x,er,hr,h1,h2,h3,h4⟩:=hc
 obtain⟨n0,h3⟩:=l8 h3
 have key:∀m,m<ops.size+1->∃n,∃em hm,br P G (fW P G prims n) ops (List.range m) e h=some (.normal,em,hm)/\dC P G (fW P G prims n) er hm o=some (.ret x,er,hm):=by
  intro m hm
  obtain⟨em,hm',h5,h6⟩:=h4 m (Nat.lt_succ_iff.1 hm)
  obtain⟨n,q1,q2⟩:=two (fun _ _ _ hl hh=>fL (cL hl) hh) (fun _ _ _ hl hh=>w8 (cL hl) hh) (l8 h5) (Ig h6)
  exact⟨n,em,hm',q1,q2⟩
 obtain⟨n1,hn⟩:=many (p:=fun m n=>∃em hm,br P G (fW P G prims n) ops (List.range m) e h=some (.normal,em,hm)/\dC P G (fW P G prims n) er hm o=some (.ret x,er,hm))
  (fun m n n' hl ⟨em,hm,q1,q2⟩=>⟨em,hm,fL (cL hl) q1,w8 (cL hl) q2⟩) (ops.size+1) key
 refine⟨max n0 n1,?_⟩
 rw[oz]
 refine⟨o,x,er,hr,h1,h2,fL (cL (Nat.le_max_left _ _)) h3,fun m hm=>?_⟩
 obtain⟨em,hm',q1,q2⟩:=hn m (Nat.lt_succ_iff.2 hm)
 exact⟨em,hm',fL (cL (Nat.le_max_right _ _)) q1,w8 (cL (Nat.le_max_right _ _)) q2⟩
noncomputable def rf(P:Program)(G:Nat->Option (List AV))(R:Rec)(ops:Array Oper)(e:Env)(h:ae)(i j:Nat):Bool:=
 ((Region.before ops).getD j 0).testBit i||ng ops i j||cX P G R ops e h i j|| (eW ops i j&&(gC P G R ops e h i||gC P G R ops e h j))
theorem Ef{R R':Rec}(le:iG R R'){ops:Array Oper}{e:Env}{h:ae}{i j:Nat}(hp:rf P G R ops e h i j=true):rf P G R' ops e h i j=true:=by
 unfold rf at hp ⊢
 simp only[Bool.or_eq_true,Bool.and_eq_true] at hp ⊢
 rcases hp with(h1|h1) |h1
 ·exact .inl (.inl h1)
 ·exact .inl (.inr (Aj le h1))
 ·exact .inr ⟨h1.1,h1.2.imp (ue le) (ue le)⟩
theorem Ih{ops:Array Oper}{e:Env}{h:ae}{i j:Nat}(hp:rf P G (whole P G prims) ops e h i j=true):∃n,rf P G (fW P G prims n) ops e h i j=true:=by
 unfold rf at hp ⊢
 simp only[Bool.or_eq_true,Bool.and_eq_true] at hp ⊢
 rcases hp with(h1|h1) |⟨h1,h2|h2⟩
 ·exact⟨0,.inl (.inl h1)⟩
 ·obtain⟨n,hn⟩:=yx h1
  exact⟨n,.inl (.inr hn)⟩
 ·obtain⟨n,hn⟩:=Ak h2
  exact⟨n,.inr ⟨h1,.inl hn⟩⟩
 ·obtain⟨n,hn⟩:=Ak h2
  exact⟨n,.inr ⟨h1,.inr hn⟩⟩
theorem Al{ops:Array Oper}{e:Env}{h:ae}(hs:df P G (whole P G prims) ops e h=true):∃n,df P G (fW P G prims n) ops e h=true:=by
 unfold df at hs ⊢
 simp only[Bool.and_eq_true,List.all_eq_true,List.mem_range] at hs ⊢
 obtain⟨h1,h2⟩:=hs
 have key:∀j,j<ops.size->∃n,∀i,i<j->rf P G (fW P G prims n) ops e h i j=true:=by
  intro j hj
  exact many (p:=fun i n=>rf P G (fW P G prims n) ops e h i j=true) (fun i n m hl=>Ef (cL hl)) j fun i hi=>Ih (h2 j hj i hi)
 obtain⟨n,hn⟩:=many (p:=fun j n=>∀i,i<j->rf P G (fW P G prims n) ops e h i j=true) (fun j n m hl hh i hi=>Ef (cL hl) (hh i hi)) ops.size key
 exact⟨n,h1,hn⟩
theorem Cy{ops:Array Oper}{e:Env}{h:ae}{i:Nat}(hs:iA P G (whole P G prims) ops e h i=true):∃n,iA P G (fW P G prims n) ops e h i=true:=by
 unfold iA at hs ⊢
 split at hs
 ·rename_i h1 h2
  obtain⟨n,h1,h2⟩:=two (fun _ _ _ hl hh=>fL (cL hl) hh) (fun _ _ _ hl hh=>fL (cL hl) hh) (l8 h1) (l8 h2)
  refine⟨n,?_⟩
  rw[h1,h2]
  exact hs
 ·cases hs
theorem stores_fin{ops:Array Oper}{e:Env}{h:ae}(D:gu P G (whole P G prims) ops e h=true):∃n,gu P G (fW P G prims n) ops e h=true:=by
 obtain⟨i,h1,h2,h3,h4⟩:=stores_cases D
 obtain⟨n,hn⟩:=Al h4
 obtain⟨m,hm⟩:=Cy h3
 exact⟨max n m,stores_of h1 h2 (w9 (cL (Nat.le_max_right n m)) hm) (yv (cL (Nat.le_max_left n m)) hn)⟩
theorem Ii{c:Code}{e:Env}{h:ae}{r:Xt × Env × ae}(hc:b7 P G (whole P G prims) c e h=some r):∃n,b7 P G (fW P G prims n) c e h=some r:=by
 cases c with
 |region id ops draw=>
  cases draw with
  |false=>simp only[b7,Bool.false_eq_true,if_false] at hc ⊢;exact l8 hc
  |true=>
   simp only[b7,if_true] at hc ⊢
   split at hc
   ·rename_i hf
    split at hc
    ·rename_i h1
     obtain⟨n,hn⟩:∃n,(df P G (fW P G prims n) ops e h||gu P G (fW P G prims n) ops e h)=true:=by
      rcases (Bool.or_eq_true _ _).mp hf with q|q
      ·obtain⟨n,hn⟩:=Al q
       exact⟨n,by rw[hn];rfl⟩
      ·obtain⟨n,hn⟩:=stores_fin q
       exact⟨n,by rw[hn,Bool.or_true]⟩
     obtain⟨m,hm⟩:=l8 h1
     refine⟨max n m,?_⟩
     rw[if_pos (any_le (cL (Nat.le_max_left n m)) hn)]
     simp only[fL (cL (Nat.le_max_right n m)) hm]
     exact hc
    ·cases hc
   ·cases hc
 |seq a b=>
  simp only[b7] at hc ⊢
  cases ha:(whole P G prims).code a e h with
  |none=>rw[ha] at hc;cases hc
  |some q=>
   rw[ha] at hc
   have h1:=bR ha
   obtain⟨o,e1,hh1⟩:=q
   by_cases hno:o= .normal
   ·subst hno
    obtain⟨n,h1,h2⟩:=two (fun _ _ _ hl hh=>(cL hl).code _ _ _ _ hh) (fun _ _ _ hl hh=>(cL hl).code _ _ _ _ hh) h1 (bR hc)
    exact⟨n,by rw[h1];exact h2⟩
   ·obtain⟨n,h1⟩:=h1
    refine⟨n,?_⟩
    rw[h1]
    cases o<;>first|exact absurd rfl hno|exact hc
 |scope a=>simp only[b7] at hc ⊢;exact bR hc
 |cond q a b=>
  simp only[b7] at hc ⊢
  split at hc
  ·exact bR hc
  ·exact bR hc
  ·cases hc
 |block id a=>
  simp only[b7] at hc ⊢
  cases ha:(whole P G prims).code a e h with
  |none=>rw[ha] at hc;cases hc
  |some q=>
   rw[ha] at hc
   obtain⟨n,h1⟩:=bR ha
   exact⟨n,by rw[h1];exact hc⟩
 |loop a=>
  simp only[b7] at hc ⊢
  cases ha:(whole P G prims).code a e h with
  |none=>rw[ha] at hc;cases hc
  |some q=>
   rw[ha] at hc
   have h1:=bR ha
   obtain⟨o,e1,hh1⟩:=q
   by_cases hno:o= .normal
   ·subst hno
    obtain⟨n,h1,h2⟩:=two (fun _ _ _ hl hh=>(cL hl).code _ _ _ _ hh) (fun _ _ _ hl hh=>(cL hl).code _ _ _ _ hh) h1 (bR hc)
    exact⟨n,by rw[h1];exact h2⟩
   ·obtain⟨n,h1⟩:=h1
    refine⟨n,?_⟩
    rw[h1]
    cases o<;>first|exact absurd rfl hno|exact hc
 |rangeFunc f ps a b=>
  simp only[b7] at hc ⊢
  split at hc
  ·generalize hcl:(whole P G prims).call _ _ _=q at hc
   cases q with
   |none=>cases hc
   |some q=>
    obtain⟨n,hn⟩:=bR hcl
    exact⟨n,by rw[hn];exact hc⟩
  ·cases hc
 |_=>exact⟨0,hc⟩
theorem Cz{fn:Func}{e:Env}:∀{ds:List (FuncId × List AV)} {m:Option (AV × Bool)} {h:ae} {r:Res × ae},bD P G (whole P G prims) fn e ds m h=some r->∃n,bD P G (fW P G prims n) fn e ds m h=some r:=by
 intro ds
 induction ds with
 |nil=>intro m h r hu;exact⟨0,by cases m<;>exact hu⟩
 |cons d ds ih=>
  intro m h r hu
  obtain⟨g,args⟩:=d
  simp only[bD] at hu ⊢
  cases hd:(whole P G prims).fg g args m h with
  |none=>rw[hd] at hu;cases hu
  |some q=>
   rw[hd] at hu
   have h1:=bR hd
   obtain⟨r1,m1,hh1⟩:=q
   cases r1 with
   |panic x=>simp at hu
   |ret x=>
    have fin:∀m2,bD P G (whole P G prims) fn e ds m2 hh1=some r->∃n,(fW P G prims n).fg g args m h=some (.ret x,m1,hh1)/\bD P G (fW P G prims n) fn e ds m2 hh1=some r:=fun m2 hu=>
     two (fun _ _ _ hl hh=>(cL hl).fg _ _ _ _ _ hh) (fun _ _ _ hl hh=>ss (cL hl) hh) h1 (ih hu)
    rcases m1 with _|⟨y,b⟩
    ·obtain⟨n,h1,h2⟩:=fin _ hu
     exact⟨n,by rw[h1];exact h2⟩
    ·cases b with
     |true=>obtain⟨n,h1,h2⟩:=fin _ hu;exact⟨n,by rw[h1];exact h2⟩
     |false=>obtain⟨n,h1,h2⟩:=fin _ hu;exact⟨n,by rw[h1];exact h2⟩
theorem Am{g:FuncId}{args:List AV}{m:Option (AV × Bool)}{h:ae}{r:Res × Option (AV × Bool) × ae}(hb:iB P G (whole P G prims) g args m h=some r):∃n,iB P G (fW P G prims n) g args m h=some r:=by
 unfold iB at hb ⊢
 split at hb
 ·cases hb
 ·rename_i fn hfn
  simp only[hfn]
  split at hb
  ·cases hb
  ·rename_i body hbody
   (try simp only[hbody])
   generalize hcd:(whole P G prims).code body _ h=q at hb
   cases q with
   |none=>cases hb
   |some q=>
    have h1:=bR hcd
    obtain⟨o,e1,hh1⟩:=q
    cases o with
    |exit id=>cases hb
    |_=>
     simp only[Option.map_eq_some_iff] at hb
     obtain⟨q,hq,he⟩:=hb
     obtain⟨n,h1,h2⟩:=two (fun _ _ _ hl hh=>(cL hl).code _ _ _ _ hh) (fun _ _ _ hl hh=>ss (cL hl) hh) h1 (Cz hq)
     exact⟨n,by rw[h1];simp only[h2,Option.map_some,he]⟩
theorem Ij{g:FuncId}{args:List AV}{h:ae}{r:Res × ae}(hb:gQ P G (whole P G prims) prims g args h=some r):∃n,gQ P G (fW P G prims n) prims g args h=some r:=by
 unfold gQ at hb ⊢
 split at hb
 ·exact⟨0,hb⟩
 ·simp only[Option.map_eq_some_iff] at hb ⊢
  obtain⟨q,hq,he⟩:=hb
  obtain⟨n,hn⟩:=Am hq
  exact⟨n,q,hn,he⟩
theorem Fy{l:Nat}{args:List AV}{h:ae}{r:Res × ae}(hb:iC (whole P G prims) l args h=some r):∃n,iC (fW P G prims n) l args h=some r:=by
 unfold iC at hb ⊢
 split at hb
 ·cases hb
 ·rename_i rc hrc
  (try simp only[hrc])
  split at hb
  ·rename_i hsz
   simp only[hsz,if_true]
   split at hb
   ·rename_i e1 h1 ha
    split at hb
    ·rename_i r2 hr2
     split at hb
     ·rename_i hst
      generalize hcd:(whole P G prims).code _ e1 _=q at hb
      cases q with
      |none=>cases hb
      |some q=>
       obtain⟨n,g1,g2⟩:=two (fun _ _ _ hl hh=>(cL hl).code _ _ _ _ hh) (fun _ _ _ hl hh=>(cL hl).code _ _ _ _ hh) (bR ha) (bR hcd)
       exact⟨n,by rw[g1];simp only[hr2,hst,if_true];rw[g2];exact hb⟩
     ·cases hb
    ·cases hb
   ·cases hb
  ·cases hb
theorem uf{α:Type}{a b:Option α}(h1:∀r,a=some r->b=some r)(h2:∀r,b=some r->a=some r):a=b:=by
 cases ha:a with
 |some r=>exact(h1 r ha).symm
 |none=>
  cases hb:b with
  |none=>rfl
  |some r=>rw[h2 r hb] at ha;cases ha
theorem dz(c:Code)(e:Env)(h:ae):(whole P G prims).code c e h=b7 P G (whole P G prims) c e h:=
 uf (fun r hr=>by
  obtain⟨n,hn⟩:=bR hr
  have:=(mD (P:=P) (G:=G) (prims:=prims) n).code c e h r hn
  exact Ed (jx n) this)
  (fun r hr=>by
   obtain⟨n,hn⟩:=Ii hr
   exact(jx (n+1)).code c e h r hn)
theorem lu(g:FuncId)(a:List AV)(h:ae):(whole P G prims).call g a h=gQ P G (whole P G prims) prims g a h:=
 uf (fun r hr=>by
  obtain⟨n,hn⟩:=bR hr
  have:=(mD (P:=P) (G:=G) (prims:=prims) n).call g a h r hn
  exact Ee (jx n) this)
  (fun r hr=>by
   obtain⟨n,hn⟩:=Ij hr
   exact(jx (n+1)).call g a h r hn)
theorem An(g:FuncId)(a:List AV)(m:Option (AV × Bool))(h:ae):(whole P G prims).fg g a m h=iB P G (whole P G prims) g a m h:=
 uf (fun r hr=>by
  obtain⟨n,hn⟩:=bR hr
  have:=(mD (P:=P) (G:=G) (prims:=prims) n).fg g a m h r hn
  exact yw (jx n) this)
  (fun r hr=>by
   obtain⟨n,hn⟩:=Am hr
   exact(jx (n+1)).fg g a m h r hn)
theorem Ao(l:Nat)(a:List AV)(h:ae):(whole P G prims).round l a h=iC (whole P G prims) l a h:=
 uf (fun r hr=>by
  obtain⟨n,hn⟩:=bR hr
  have:=(mD (P:=P) (G:=G) (prims:=prims) n).round l a h r hn
  exact Ai (jx n) this)
  (fun r hr=>by
   obtain⟨n,hn⟩:=Fy hr
   exact(jx (n+1)).round l a h r hn)
end
end Go.AE
end
section
namespace Go.AE
def Env.st(e:Env)(d:Nat)(x:AV):Env:={e with tmps:=e.tmps.set d x}
theorem Ik(e:Env)(d:Nat)(x:AV):e.put (some d) x=e.st d x:=rfl
theorem Il(e:Env)(x:AV):e.put none x=e:=rfl
theorem yy(e:Env)(d t:Nat)(x:AV):(e.st d x).get t=if d=t then x else e.get t:=mB e.tmps d t x
theorem Fz(e:Env)(d:Nat)(x:AV):(e.st d x).defers=e.defers:=rfl
theorem Oa(e:Env)(d:Nat)(x:AV):(e.st d x).pan=e.pan:=rfl
theorem Ap(e:Env)(d:Nat)(x:AV):(e.st d x).round=e.round:=rfl
def Env.start(args:List AV)(p:Option (AV × Bool)):Env:={tmps:={ch:=[],base:=args},defers:=[],pan:=p,round:=none}
theorem FA(args:List AV)(p:Option (AV × Bool))(t:Nat):(Env.start args p).get t=args.getD t (.tuple []):=rfl
theorem yz(args:List AV)(p:Option (AV × Bool)):(Env.start args p).defers=[]:=rfl
theorem FB(args:List AV)(p:Option (AV × Bool)):(Env.start args p).pan=p:=rfl
theorem oA(args:List AV)(p:Option (AV × Bool)):(Env.start args p).round=none:=rfl
theorem lv(e:Env)(t:Nat):e.eval (.tmp t)=e.get t:=rfl
theorem eval_const(e:Env)(v:Value):e.eval (.const v)=lX v:=rfl
theorem eval_func(e:Env)(f:FuncId):e.eval (.func f)= .func (.func f) [] []:=rfl
theorem eval_global(e:Env)(g:Nat):e.eval (.global g)= .ptr (.dW g) 0:=rfl
theorem FC(k:IntKind)(n:Int):lX (.int k n)= .v (.int k n):=rfl
theorem CA(b:Bool):lX (.bool b)= .v (.bool b):=rfl
theorem yA(s:ByteArray):lX (.string s)= .v (.string s):=rfl
theorem uQ:lX .nilIface= .v .nilIface:=rfl
theorem wm:lX .nilFunc= .v .nilFunc:=rfl
theorem yB:lX (.pointer none)= .v (.pointer none):=rfl
theorem uR:lX (.slice none 0 0)= .list .nil 0 []:=rfl
theorem FD(cs:List Value):lX (.agg ⟨cs⟩)= .agg (cs.map kK):=rfl
section
variable (P:Program) (G:Nat->Option (List AV)) (R:Rec)
def pK(ops:Array Oper):List Oper->Env->ae->Option (Xt × Env × ae)
 | [],e,h=>some (.normal,e,h)
 |o::rest,e,h=>
  match bg ops e o with
  |none=>none
  |some false=>pK ops rest (e.put o.dst (.tuple [])) h
  |some true=>
   match dC P G R e h o with
   |some (.ret x,e,h)=>pK ops rest (e.put o.dst x) h
   |some (.panic x,e,h)=>some (.panic x,e,h)
   |none=>none
theorem yC(ops:Array Oper):∀(n i:Nat),i+n=ops.size->∀(e:Env) (h:ae),br P G R ops (List.range' i n) e h=pK P G R ops (ops.toList.drop i) e h:=by
 intro n
 induction n with
 |zero=>
  intro i hi e h
  rw[List.drop_eq_nil_of_le (by simp;omega)]
  rfl
 |succ n ih=>
  intro i hi e h
  have hlt:i<ops.size:=by omega
  have ho:ops[i]?=some ops[i]:=Array.getElem?_eq_getElem hlt
  rw[List.range'_succ,List.drop_eq_getElem_cons (by simpa using hlt)]
  simp only[br,pK,ho,Array.getElem_toList]
  cases bg ops e ops[i] with
  |none=>rfl
  |some b=>
   cases b with
   |false=>exact ih (i+1) (by omega) _ _
   |true=>
    simp only
    cases dC P G R e h ops[i] with
    |none=>rfl
    |some q=>
     obtain⟨r,e1,h1⟩:=q
     cases r with
     |ret x=>exact ih (i+1) (by omega) _ _
     |panic x=>rfl
def Aq(r:Option (Xt × Env × ae))(Q:Xt->Env->ae->Prop):Prop:=∃o e h,r=some (o,e,h)/\Q o e h
def Run(c:Code)(e:Env)(h:ae)(Q:Xt->Env->ae->Prop):Prop:=Aq (R.code c e h) Q
def cz(ops:Array Oper)(l:List Oper)(e:Env)(h:ae)(Q:Xt->Env->ae->Prop):Prop:=Aq (pK P G R ops l e h) Q
end
theorem ft{o:Xt}{e:Env}{h:ae}{Q:Xt->Env->ae->Prop}:Aq (some (o,e,h)) Q=Q o e h:=
 propext ⟨fun⟨_,_,_,h1,h2⟩=>by
  simp only[Option.some.injEq,Prod.mk.injEq] at h1
  obtain⟨rfl,rfl,rfl⟩:=h1
  exact h2,fun hq=>⟨o,e,h,rfl,hq⟩⟩
theorem ey{Q:Xt->Env->ae->Prop}:Aq none Q=False:=propext ⟨fun⟨_,_,_,h1,_⟩=>(by cases h1),False.elim⟩
theorem Aq.mono{r:Option (Xt × Env × ae)}{Q Q':Xt->Env->ae->Prop}(h:∀o e h,Q o e h->Q' o e h)(hr:Aq r Q):Aq r Q':=by
 obtain⟨o,e,h1,h2,h3⟩:=hr
 exact⟨o,e,h1,h2,h _ _ _ h3⟩
def guardOf(ops:Array Oper)(j:Nat):Option Tmp:=(ops[j]?).bind (·.dst)
theorem yD{o:Oper}{l:List Oper}:guardOf ⟨o::l⟩ 0=o.dst:=rfl
theorem yE{o:Oper}{l:List Oper}{n:Nat}:guardOf ⟨o::l⟩ (n+1)=guardOf ⟨l⟩ n:=by simp[guardOf]
def pW(R:Rec)(a b:Code)(e:Env)(h:ae)(Q:Xt->Env->ae->Prop)(x:AV):Prop:=
 match x with
 | .v (.bool t)=>if t=true then Run R a e h Q else Run R b e h Q
 |_=>False
def fw(P:Program)(G:Nat->Option (List AV))(R:Rec)(ops:Array Oper)(o:Oper)(rest:List Oper)(e:Env)(h:ae)(Q:Xt->Env->ae->Prop)(want:Bool)(x:AV):Prop:=
 match x with
 | .v (.bool b)=>if b=want then cz P G R ops (o::rest) e h Q else cz P G R ops rest (e.put o.dst (.tuple [])) h Q
 | .tuple []=>cz P G R ops rest (e.put o.dst (.tuple [])) h Q
 |_=>False
def Im(P:Program)(G:Nat->Option (List AV))(R:Rec)(ops:Array Oper)(o:Oper)(rest:List Oper)(e:Env)(h:ae)(Q:Xt->Env->ae->Prop)(want:Bool)(d:Option Tmp):Prop:=
 match d with
 |some g=>fw P G R ops o rest e h Q want (e.get g)
 |none=>cz P G R ops rest (e.put o.dst (.tuple [])) h Q
section
variable {P:Program} {G:Nat->Option (List AV)} {R:Rec} {a b:Code} {e:Env} {h:ae} {Q:Xt->Env->ae->Prop} {ops:Array Oper} {o:Oper} {rest:List Oper} {p:Prop} [Decidable p] {t:Bool}
theorem Ar:pW R a b e h Q (.v (.bool true))=Run R a e h Q:=rfl
theorem yF:pW R a b e h Q (.v (.bool false))=Run R b e h Q:=rfl
theorem CB(h1:p->Run R a e h Q)(h2:¬p->Run R b e h Q):pW R a b e h Q (.v (.bool (decide p))):=by
 unfold pW
 simp only[decide_eq_true_eq]
 split
 ·rename_i hp;exact h1 hp
 ·rename_i hp;exact h2 hp
theorem As(h1:p->Run R b e h Q)(h2:¬p->Run R a e h Q):pW R a b e h Q (.v (.bool (!decide p))):=by
 unfold pW
 by_cases hp:p
 ·simp only[hp,decide_true,Bool.not_true,Bool.false_eq_true,if_false];exact h1 hp
 ·simp only[hp,decide_false,Bool.not_false,if_true];exact h2 hp
theorem At(h1:t=true->Run R a e h Q)(h2:t=false->Run R b e h Q):pW R a b e h Q (.v (.bool t)):=by
 cases t
 ·exact h2 rfl
 ·exact h1 rfl
theorem Io:fw P G R ops o rest e h Q true (.v (.bool true))=cz P G R ops (o::rest) e h Q:=rfl
theorem Ip:fw P G R ops o rest e h Q true (.v (.bool false))=cz P G R ops rest (e.put o.dst (.tuple [])) h Q:=rfl
theorem Iq:fw P G R ops o rest e h Q false (.v (.bool true))=cz P G R ops rest (e.put o.dst (.tuple [])) h Q:=rfl
theorem Ir:fw P G R ops o rest e h Q false (.v (.bool false))=cz P G R ops (o::rest) e h Q:=rfl
theorem Is{w:Bool}:fw P G R ops o rest e h Q w (.tuple [])=cz P G R ops rest (e.put o.dst (.tuple [])) h Q:=rfl
theorem FE{w:Bool}(h1:p->fw P G R ops o rest e h Q w (.v (.bool true)))(h2:¬p->fw P G R ops o rest e h Q w (.v (.bool false))):fw P G R ops o rest e h Q w (.v (.bool (decide p))):=by
 by_cases hp:p
 ·simp only[hp,decide_true];exact h1 hp
 ·simp only[hp,decide_false];exact h2 hp
theorem CC{w:Bool}(h1:p->fw P G R ops o rest e h Q w (.v (.bool false)))(h2:¬p->fw P G R ops o rest e h Q w (.v (.bool true))):fw P G R ops o rest e h Q w (.v (.bool (!decide p))):=by
 by_cases hp:p
 ·simp only[hp,decide_true];exact h1 hp
 ·simp only[hp,decide_false];exact h2 hp
theorem CD{w:Bool}(h1:t=true->fw P G R ops o rest e h Q w (.v (.bool true)))(h2:t=false->fw P G R ops o rest e h Q w (.v (.bool false))):fw P G R ops o rest e h Q w (.v (.bool t)):=by
 cases t
 ·exact h2 rfl
 ·exact h1 rfl
theorem Au{w:Bool}(h1:t=true->fw P G R ops o rest e h Q w (.v (.bool false)))(h2:t=false->fw P G R ops o rest e h Q w (.v (.bool true))):fw P G R ops o rest e h Q w (.v (.bool (!t))):=by
 cases t
 ·exact h2 rfl
 ·exact h1 rfl
theorem yG(h1:t=true->Run R b e h Q)(h2:t=false->Run R a e h Q):pW R a b e h Q (.v (.bool (!t))):=by
 cases t
 ·exact h2 rfl
 ·exact h1 rfl
theorem FF{w:Bool}{g:Tmp}:Im P G R ops o rest e h Q w (some g)=fw P G R ops o rest e h Q w (e.get g):=rfl
end
def It(R:Rec)(c:Code)(Q:Xt->Env->ae->Prop):Xt->Env->ae->Prop
 | .normal,e,h=>Run R c e h Q
 |o,e,h=>Q o e h
def uS(id:Nat)(Q:Xt->Env->ae->Prop):Xt->Env->ae->Prop
 | .exit i,e,h=>if i=id then Q .normal e h else Q (.exit i) e h
 |o,e,h=>Q o e h
def rh(Q:Xt->Env->ae->Prop):Xt->Env->ae->Prop
 | .normal,e,h=>Q .normal e h
 |_,_,_=>False
section
variable {R:Rec} {c:Code} {Q:Xt->Env->ae->Prop} {e:Env} {h:ae}
theorem Av:It R c Q .normal e h=Run R c e h Q:=rfl
theorem Iu:It R c Q .ret e h=Q .ret e h:=rfl
theorem FG{i:Nat}:It R c Q (.exit i) e h=Q (.exit i) e h:=rfl
theorem CE{x:AV}:It R c Q (.panic x) e h=Q (.panic x) e h:=rfl
theorem wq{id:Nat}:uS id Q .normal e h=Q .normal e h:=rfl
theorem CF{id:Nat}:uS id Q .ret e h=Q .ret e h:=rfl
theorem tq{id i:Nat}:uS id Q (.exit i) e h=if i=id then Q .normal e h else Q (.exit i) e h:=rfl
theorem yH{id:Nat}{x:AV}:uS id Q (.panic x) e h=Q (.panic x) e h:=rfl
theorem yI:rh Q .normal e h=Q .normal e h:=rfl
theorem Aw{x:AV}:rh Q (.panic x) e h=False:=rfl
end
section
variable {P:Program} {G:Nat->Option (List AV)} {prims:FuncId->Option (List AV->ae->Option (AV × ae))} {Q:Xt->Env->ae->Prop} {e:Env} {h:ae}
theorem Iv:Run (whole P G prims) .skip e h Q=Q .normal e h:=by rw[Run,dz];exact ft
theorem FH{l:Nat}:Run (whole P G prims) (.label l) e h Q=Q .normal e h:=by rw[Run,dz];exact ft
theorem FI{a:Code}:Run (whole P G prims) (.scope a) e h Q=Run (whole P G prims) a e h Q:=by
 unfold Run
 rw[dz]
 simp only[b7]
theorem Iw{id:Nat}:Run (whole P G prims) (.exit id) e h Q=Q (.exit id) e h:=by rw[Run,dz];exact ft
theorem LI:Run (whole P G prims) .ret e h Q=Q .ret e h:=by rw[Run,dz];exact ft
theorem run_seq{a b:Code}:Run (whole P G prims) (.seq a b) e h Q=Run (whole P G prims) a e h (It (whole P G prims) b Q):=by
 unfold Run
 rw[dz]
 simp only[b7]
 cases ha:(whole P G prims).code a e h with
 |none=>simp only[ey]
 |some q=>
  obtain⟨o,e1,h1⟩:=q
  cases o<;>simp only[ft]<;>rfl
theorem Ix{c:Operand}{a b:Code}:Run (whole P G prims) (.cond c a b) e h Q=pW (whole P G prims) a b e h Q (e.eval c):=by
 unfold Run pW
 rw[dz]
 simp only[b7]
 generalize e.eval c=x
 rcases x with _|v|_|_|_|_|_|_|_|_|_
 case v=>
  cases v with
  |bool t=>cases t<;>rfl
  |_=>simp only[ey]
 all_goals (simp only[ey])
theorem FJ{id:Nat}{a:Code}:Run (whole P G prims) (.block id a) e h Q=Run (whole P G prims) a e h (uS id Q):=by
 unfold Run
 rw[dz]
 simp only[b7]
 cases ha:(whole P G prims).code a e h with
 |none=>simp only[ey]
 |some q=>
  obtain⟨o,e1,h1⟩:=q
  cases o with
  |exit i=>
   simp only[ft,tq]
   split<;>simp only[ft]
  |_=>simp only[ft]<;>rfl
theorem CG{id:Nat}{ops:Array Oper}:Run (whole P G prims) (.region id ops false) e h Q=cz P G (whole P G prims) ops ops.toList e h Q:=by
 unfold Run cz
 rw[dz]
 simp only[b7,Bool.false_eq_true,if_false]
 have:=yC P G (whole P G prims) ops ops.size 0 (by omega) e h
 rw[List.drop_zero] at this
 rw[<-this,List.range_eq_range']
theorem CH{R:Rec}{ops:Array Oper}(hd:Cd ops=true)(e:Env)(h:ae):df P G R ops e h=true:=by
 unfold Cd at hd
 unfold df
 simp only[Bool.and_eq_true,List.all_eq_true,List.mem_range,Bool.or_eq_true] at hd ⊢
 exact⟨hd.1,fun j hj i hi=> .inl (.inl (hd.2 j hj i hi))⟩
theorem oB{id:Nat}{ops:Array Oper}(hd:df P G (whole P G prims) ops e h=true)(hr:cz P G (whole P G prims) ops ops.toList e h (rh Q)):Run (whole P G prims) (.region id ops true) e h Q:=by
 unfold Run cz at *
 rw[dz]
 simp only[b7,if_true,hd,Bool.true_or]
 have:=yC P G (whole P G prims) ops ops.size 0 (by omega) e h
 rw[List.drop_zero] at this
 rw[<-this,<-List.range_eq_range'] at hr
 obtain⟨o,e1,h1,h2,h3⟩:=hr
 rw[h2]
 cases o with
 |normal=>exact⟨_,_,_,rfl,h3⟩
 |_=>exact h3.elim
theorem run_draw_stores{id:Nat}{ops:Array Oper}(D:gu P G (whole P G prims) ops e h=true)(hr:cz P G (whole P G prims) ops ops.toList e h (rh Q)):Run (whole P G prims) (.region id ops true) e h Q:=by
 unfold Run cz at *
 rw[dz]
 have:=yC P G (whole P G prims) ops ops.size 0 (by omega) e h
 rw[List.drop_zero] at this
 rw[<-this,<-List.range_eq_range'] at hr
 obtain⟨o,e1,h1,h2,h3⟩:=hr
 simp only[b7,if_true,D,Bool.or_true,h2]
 cases o with
 |normal=>exact⟨_,_,_,rfl,h3⟩
 |_=>exact h3.elim
theorem aP{id:Nat}{ops:Array Oper}(hd:Cd ops=true)(hr:cz P G (whole P G prims) ops ops.toList e h (rh Q)):Run (whole P G prims) (.region id ops true) e h Q:=
 oB (CH hd e h) hr
def uT(I:Nat->Env->ae->Prop)(n:Nat)(Q:Xt->Env->ae->Prop):Xt->Env->ae->Prop
 | .normal,e,h=>∃m,m<n/\I m e h
 |o,e,h=>Q o e h
theorem yJ{I:Nat->Env->ae->Prop}{n:Nat}:uT I n Q .normal e h=∃m,m<n/\I m e h:=rfl
theorem FK{I:Nat->Env->ae->Prop}{n:Nat}:uT I n Q .ret e h=Q .ret e h:=rfl
theorem CI{I:Nat->Env->ae->Prop}{n i:Nat}:uT I n Q (.exit i) e h=Q (.exit i) e h:=rfl
theorem Ax{I:Nat->Env->ae->Prop}{n:Nat}{x:AV}:uT I n Q (.panic x) e h=Q (.panic x) e h:=rfl
theorem aD{c:Code}(I:Nat->Env->ae->Prop)(hstep:∀n e h,I n e h->Run (whole P G prims) c e h (uT I n Q)):
 ∀n e h,I n e h->Run (whole P G prims) (.loop c) e h Q:=by
 intro n
 induction n using Nat.strongRecOn with
 |_ n ih=>
  intro e h hi
  obtain⟨o,e1,h1,h2,h3⟩:=hstep n e h hi
  unfold Run
  rw[dz]
  simp only[b7,h2]
  cases o with
  |normal=>
   obtain⟨m,hm,hi'⟩:=h3
   exact ih m hm e1 h1 hi'
  |_=>exact⟨_,_,_,rfl,h3⟩
theorem Run.mono{R:Rec}{c:Code}{Q1:Xt->Env->ae->Prop}{h1:ae}(hq:∀o e h,Q o e h->Q1 o e h)(hr:Run R c e h1 Q):Run R c e h1 Q1:=Aq.mono hq hr
def yK(P:Program)(G:Nat->Option (List AV))(R:Rec)(fn:Func)(r:Res)(h':ae):Xt->Env->ae->Prop
 | .normal,e,h=>bD P G R fn e e.defers none h=some (r,h')
 | .ret,e,h=>bD P G R fn e e.defers none h=some (r,h')
 | .panic x,e,h=>bD P G R fn e e.defers (some (x,false)) h=some (r,h')
 | .exit _,_,_=>False
theorem ar{g:FuncId}{fn:Func}{body:Code}{args:List AV}{r:Res}{h':ae}(hp:prims g=none)(hfn:P.funcs[g]?=some fn)(hb:fn.body=some body)
 (hr:Run (whole P G prims) body (Env.start args none) h (yK P G (whole P G prims) fn r h')):(whole P G prims).call g args h=some (r,h'):=by
 rw[lu]
 unfold gQ
 rw[hp]
 unfold iB
 rw[hfn]
 simp only[hb]
 obtain⟨o,e1,h1,h2,h3⟩:=hr
 have h2:(whole P G prims).code body {tmps:={ch:=[],base:=args},defers:=[],pan:=none,round:=none} h=some (o,e1,h1):=h2
 rw[h2]
 cases o with
 |exit i=>exact h3.elim
 |_=>simp only[yK] at h3;simp only[h3,Option.map_some]
theorem yL{g:FuncId}{fn:Func}{body:Code}{args:List AV}{m m':Option (AV × Bool)}{r:Res}{h':ae}(hfn:P.funcs[g]?=some fn)(hb:fn.body=some body)
 (hr:Run (whole P G prims) body (Env.start args m) h fun o e h1=>yK P G (whole P G prims) fn r h' o e h1/\e.pan=m'):(whole P G prims).fg g args m h=some (r,m',h'):=by
 rw[An]
 unfold iB
 rw[hfn]
 simp only[hb]
 obtain⟨o,e1,h1,h2,h3,h4⟩:=hr
 have h2:(whole P G prims).code body {tmps:={ch:=[],base:=args},defers:=[],pan:=m,round:=none} h=some (o,e1,h1):=h2
 rw[h2]
 cases o with
 |exit i=>exact h3.elim
 |_=>simp only[yK] at h3;simp only[h3,Option.map_some,h4]
theorem Ay{R:Rec}{fn:Func}{r:Res}{h':ae}:yK P G R fn r h' .normal e h=(bD P G R fn e e.defers none h=some (r,h')):=rfl
theorem Iy{R:Rec}{fn:Func}{r:Res}{h':ae}:yK P G R fn r h' .ret e h=(bD P G R fn e e.defers none h=some (r,h')):=rfl
theorem CJ{R:Rec}{fn:Func}{r:Res}{h':ae}{x:AV}:yK P G R fn r h' (.panic x) e h=(bD P G R fn e e.defers (some (x,false)) h=some (r,h')):=rfl
theorem CK{R:Rec}{fn:Func}:bD P G R fn e [] none h=(mz P G fn e h).map fun x=>(.ret x,h):=rfl
theorem yM{R:Rec}{fn:Func}{x:AV}{b:Bool}:bD P G R fn e [] (some (x,b)) h=some (.panic x,h):=rfl
section
variable {R:Rec} {ops:Array Oper} {rest:List Oper} {d:Option Tmp} {ty:TypeId} {pos:String} {af:Array Edge}
theorem Iz:cz P G R ops [] e h Q=Q .normal e h:=ft
theorem CL{op:Op}{j:Nat}{want:Bool}:cz P G R ops (⟨d,op,ty,pos,af,some (j,want)⟩::rest) e h Q=
 Im P G R ops ⟨d,op,ty,pos,af,none⟩ rest e h Q want (guardOf ops j):=by
 unfold cz guardOf Im fw cz
 simp only[pK,bg]
 cases (ops[j]?).bind (·.dst) with
 |none=>rfl
 |some g=>
  simp only
  generalize e.get g=x
  rcases x with _|v|_|_|_|cs|_|_|_|_|_
  case v=>
   cases v with
   |bool b=>
    simp only
    by_cases hb:b=want
    ·subst hb;simp only[beq_self_eq_true,if_true];rfl
    ·have:(b==want)=false:=by simpa using hb
     simp only[this,if_neg hb]
   |_=>simp only[ey]
  case tuple=>cases cs<;>simp only[ey]
  all_goals (simp only[ey])
def after(P:Program)(G:Nat->Option (List AV))(R:Rec)(ops:Array Oper)(rest:List Oper)(d:Option Tmp)(e:Env)(Q:Xt->Env->ae->Prop):Option (AV × ae)->Prop
 |some (x,h)=>cz P G R ops rest (e.put d x) h Q
 |none=>False
theorem CM{x:AV}:after P G R ops rest d e Q (some (x,h))=cz P G R ops rest (e.put d x) h Q:=rfl
def opsOf(o:Op):Bool:=
 match o with
 | .call _| .defer _| .panic _=>false
 |_=>true
theorem b8{op:Op}(ho:opsOf op=true):cz P G R ops (⟨d,op,ty,pos,af,none⟩::rest) e h Q=after P G R ops rest d e Q (aO P G e.eval h op):=by
 unfold cz
 simp only[pK,bg]
 have hop:dC P G R e h ⟨d,op,ty,pos,af,none⟩=(aO P G e.eval h op).map fun(x,h)=>(.ret x,e,h):=by
  cases op<;>first|rfl| (simp[opsOf] at ho)
 rw[hop]
 cases aO P G e.eval h op with
 |none=>simp only[Option.map_none,ey];rfl
 |some q=>obtain⟨x,h1⟩:=q;rfl
def CN(P:Program)(G:Nat->Option (List AV))(R:Rec)(ops:Array Oper)(rest:List Oper)(d:Option Tmp)(e:Env)(Q:Xt->Env->ae->Prop):Option (Res × ae)->Prop
 |some (.ret x,h)=>cz P G R ops rest (e.put d x) h Q
 |some (.panic x,h)=>Q (.panic x) e h
 |none=>False
theorem CO{x:AV}:CN P G R ops rest d e Q (some (.ret x,h))=cz P G R ops rest (e.put d x) h Q:=rfl
theorem yN{x:AV}:CN P G R ops rest d e Q (some (.panic x,h))=Q (.panic x) e h:=rfl
theorem CP{f:Operand}{args:Array Operand}{ts:Array TypeId}:cz P G R ops (⟨d,.call {callee:= .value f,args,argTypes:=ts},ty,pos,af,none⟩::rest) e h Q=
 CN P G R ops rest d e Q (eI P R e h {callee:= .value f,args,argTypes:=ts}):=by
 unfold cz
 simp only[pK,bg,dC]
 cases eI P R e h {callee:= .value f,args,argTypes:=ts} with
 |none=>simp only[Option.map_none,ey];rfl
 |some q=>obtain⟨r,h1⟩:=q;cases r<;>simp only[Option.map_some,ft]<;>rfl
theorem xc{g:FuncId}{args:Array Operand}{ts:Array TypeId}:eI P R e h {callee:= .value (.func g),args,argTypes:=ts}=R.call g (args.toList.map e.eval) h:=by
 simp[eI,eval_func]
theorem Az{t:Nat}{args:Array Operand}{ts:Array TypeId}:eI P R e h {callee:= .value (.tmp t),args,argTypes:=ts}=
 (match e.get t with
  | .func (.func g) first cap=>R.call g (first++args.toList.map e.eval++cap) h
  | .yield l=>R.round l (args.toList.map e.eval) h
  |_=>none):=rfl
def IA:Builtin->Bool
 | .recover| .panic| .append=>false
 |_=>true
theorem iH{b:Builtin}{args:Array Operand}{ts:Array TypeId}(hb:IA b=true):cz P G R ops (⟨d,.call {callee:= .builtin b,args,argTypes:=ts},ty,pos,af,none⟩::rest) e h Q=
 after P G R ops rest d e Q (bK P h b ts ty (args.toList.map e.eval)):=by
 unfold cz
 simp only[pK,bg]
 have hop:dC P G R e h ⟨d,.call {callee:= .builtin b,args,argTypes:=ts},ty,pos,af,none⟩=(bK P h b ts ty (args.toList.map e.eval)).map fun(x,h)=>(.ret x,e,h):=by
  cases b<;>first|rfl| (simp[IA] at hb)
 rw[hop]
 cases bK P h b ts ty (args.toList.map e.eval) with
 |none=>simp only[Option.map_none,ey];rfl
 |some q=>obtain⟨x,h1⟩:=q;rfl
theorem LJ(x:Operand):cz P G R ops (⟨d,.move x,ty,pos,af,none⟩::rest) e h Q=after P G R ops rest d e Q (aO P G e.eval h (.move x)):=b8 rfl
theorem FL(x:Operand):cz P G R ops (⟨d,.assign x,ty,pos,af,none⟩::rest) e h Q=after P G R ops rest d e Q (aO P G e.eval h (.assign x)):=b8 rfl
theorem LK(c a b:Operand):cz P G R ops (⟨d,.pick c a b,ty,pos,af,none⟩::rest) e h Q=after P G R ops rest d e Q (aO P G e.eval h (.pick c a b)):=b8 rfl
theorem IB(t:TypeId):cz P G R ops (⟨d,.alloc t,ty,pos,af,none⟩::rest) e h Q=after P G R ops rest d e Q (aO P G e.eval h (.alloc t)):=b8 rfl
theorem Ob(t:TypeId)(x:Operand):cz P G R ops (⟨d,.box t x,ty,pos,af,none⟩::rest) e h Q=after P G R ops rest d e Q (aO P G e.eval h (.box t x)):=b8 rfl
theorem IC(t:TypeId)(ps:Array (Nat × Operand)):cz P G R ops (⟨d,.build t ps,ty,pos,af,none⟩::rest) e h Q=after P G R ops rest d e Q (aO P G e.eval h (.build t ps)):=b8 rfl
theorem wu(t:TypeId)(n:Nat)(ps:Array (Nat × Operand)):cz P G R ops (⟨d,.buildSlice t n ps,ty,pos,af,none⟩::rest) e h Q=after P G R ops rest d e Q (aO P G e.eval h (.buildSlice t n ps)):=b8 rfl
theorem LL(t:TypeId)(a:Operand):cz P G R ops (⟨d,.load t a,ty,pos,af,none⟩::rest) e h Q=after P G R ops rest d e Q (aO P G e.eval h (.load t a)):=b8 rfl
theorem ID(t:TypeId)(a x:Operand):cz P G R ops (⟨d,.store t a x,ty,pos,af,none⟩::rest) e h Q=after P G R ops rest d e Q (aO P G e.eval h (.store t a x)):=b8 rfl
theorem AA(x:Operand):cz P G R ops (⟨d,.nilCheck x,ty,pos,af,none⟩::rest) e h Q=after P G R ops rest d e Q (aO P G e.eval h (.nilCheck x)):=b8 rfl
theorem IE(o:BinOp)(t:TypeId)(x y:Operand)(yt:TypeId):cz P G R ops (⟨d,.binOp o t x y yt,ty,pos,af,none⟩::rest) e h Q=after P G R ops rest d e Q (aO P G e.eval h (.binOp o t x y yt)):=b8 rfl
theorem LM(o:UnOp)(t:TypeId)(x:Operand):cz P G R ops (⟨d,.unOp o t x,ty,pos,af,none⟩::rest) e h Q=after P G R ops rest d e Q (aO P G e.eval h (.unOp o t x)):=b8 rfl
theorem CQ(s t:TypeId)(x:Operand):cz P G R ops (⟨d,.convert s t x,ty,pos,af,none⟩::rest) e h Q=after P G R ops rest d e Q (aO P G e.eval h (.convert s t x)):=b8 rfl
theorem sC(t:TypeId)(x:Operand):cz P G R ops (⟨d,.makeInterface t x,ty,pos,af,none⟩::rest) e h Q=after P G R ops rest d e Q (aO P G e.eval h (.makeInterface t x)):=b8 rfl
theorem AB(fn:Fn)(first cap:Array Operand):cz P G R ops (⟨d,.makeFunc fn first cap,ty,pos,af,none⟩::rest) e h Q=after P G R ops rest d e Q (aO P G e.eval h (.makeFunc fn first cap)):=b8 rfl
theorem yO(t:TypeId)(l c:Operand):cz P G R ops (⟨d,.makeSlice t l c,ty,pos,af,none⟩::rest) e h Q=after P G R ops rest d e Q (aO P G e.eval h (.makeSlice t l c)):=b8 rfl
theorem IF(t:TypeId)(x:Operand)(lo hi mx:Option Operand):cz P G R ops (⟨d,.slice t x lo hi mx,ty,pos,af,none⟩::rest) e h Q=after P G R ops rest d e Q (aO P G e.eval h (.slice t x lo hi mx)):=b8 rfl
theorem yP(t:TypeId)(x:Operand)(f:Nat):cz P G R ops (⟨d,.fieldAddr t x f,ty,pos,af,none⟩::rest) e h Q=after P G R ops rest d e Q (aO P G e.eval h (.fieldAddr t x f)):=b8 rfl
theorem IG(t:TypeId)(x:Operand)(f:Nat):cz P G R ops (⟨d,.field t x f,ty,pos,af,none⟩::rest) e h Q=after P G R ops rest d e Q (aO P G e.eval h (.field t x f)):=b8 rfl
theorem yQ(t:TypeId)(x i:Operand):cz P G R ops (⟨d,.indexAddr t x i,ty,pos,af,none⟩::rest) e h Q=after P G R ops rest d e Q (aO P G e.eval h (.indexAddr t x i)):=b8 rfl
theorem IH(t:TypeId)(x i:Operand):cz P G R ops (⟨d,.index t x i,ty,pos,af,none⟩::rest) e h Q=after P G R ops rest d e Q (aO P G e.eval h (.index t x i)):=b8 rfl
theorem wx(x:Operand)(xt t:TypeId)(ok:Bool):cz P G R ops (⟨d,.typeAssert x xt t ok,ty,pos,af,none⟩::rest) e h Q=after P G R ops rest d e Q (aO P G e.eval h (.typeAssert x xt t ok)):=b8 rfl
theorem CR(x:Operand)(i:Nat):cz P G R ops (⟨d,.extract x i,ty,pos,af,none⟩::rest) e h Q=after P G R ops rest d e Q (aO P G e.eval h (.extract x i)):=b8 rfl
theorem Oc(args:Array Operand)(ts:Array TypeId):cz P G R ops (⟨d,.call {callee:= .builtin .len,args,argTypes:=ts},ty,pos,af,none⟩::rest) e h Q=after P G R ops rest d e Q (bK P h .len ts ty (args.toList.map e.eval)):=iH rfl
theorem Od(args:Array Operand)(ts:Array TypeId):cz P G R ops (⟨d,.call {callee:= .builtin .cap,args,argTypes:=ts},ty,pos,af,none⟩::rest) e h Q=after P G R ops rest d e Q (bK P h .cap ts ty (args.toList.map e.eval)):=iH rfl
theorem FM(args:Array Operand)(ts:Array TypeId):cz P G R ops (⟨d,.call {callee:= .builtin .append,args,argTypes:=ts},ty,pos,af,none⟩::rest) e h Q=after P G R ops rest d e Q (eV P G d h .append ts ty (args.toList.map e.eval)):=by
 unfold cz
 simp only[pK,bg]
 have hop:dC P G R e h ⟨d,.call {callee:= .builtin .append,args,argTypes:=ts},ty,pos,af,none⟩=(eV P G d h .append ts ty (args.toList.map e.eval)).map fun(x,h)=>(.ret x,e,h):=rfl
 rw[hop]
 cases eV P G d h .append ts ty (args.toList.map e.eval) with
 |none=>simp only[Option.map_none,ey];rfl
 |some q=>obtain⟨x,h1⟩:=q;rfl
theorem LN(args:Array Operand)(ts:Array TypeId):cz P G R ops (⟨d,.call {callee:= .builtin .copy,args,argTypes:=ts},ty,pos,af,none⟩::rest) e h Q=after P G R ops rest d e Q (bK P h .copy ts ty (args.toList.map e.eval)):=iH rfl
theorem Oe(args:Array Operand)(ts:Array TypeId):cz P G R ops (⟨d,.call {callee:= .builtin .min,args,argTypes:=ts},ty,pos,af,none⟩::rest) e h Q=after P G R ops rest d e Q (bK P h .min ts ty (args.toList.map e.eval)):=iH rfl
theorem Of(args:Array Operand)(ts:Array TypeId):cz P G R ops (⟨d,.call {callee:= .builtin .max,args,argTypes:=ts},ty,pos,af,none⟩::rest) e h Q=after P G R ops rest d e Q (bK P h .max ts ty (args.toList.map e.eval)):=iH rfl
theorem CT{x:Operand}:cz P G R ops (⟨d,.panic x,ty,pos,af,none⟩::rest) e h Q=(match e.eval x with| .iface t y=>Q (.panic (.iface t y)) e h|_=>False):=by
 unfold cz
 simp only[pK,bg,dC]
 generalize e.eval x=y
 cases y<;>first|exact ft|exact ey
theorem yR{args:Array Operand}{ts:Array TypeId}(hr:e.round=none):cz P G R ops (⟨d,.call {callee:= .builtin .recover,args,argTypes:=ts},ty,pos,af,none⟩::rest) e h Q=
 (match e.pan with
  |some (x,false)=>cz P G R ops rest (({e with pan:=some (x,true)}:Env).put d x) h Q
  |_=>cz P G R ops rest (e.put d (.v .nilIface)) h Q):=by
 unfold cz
 simp only[pK,bg,dC,hr,Option.isSome_none,Bool.false_eq_true,if_false]
 rcases hp:e.pan with _|⟨x,b⟩
 ·rfl
 ·cases b<;>rfl
theorem CU{f:Operand}{args:Array Operand}{ts:Array TypeId}(hr:e.round=none):cz P G R ops (⟨d,.defer {callee:= .value f,args,argTypes:=ts},ty,pos,af,none⟩::rest) e h Q=
 (match e.eval f with
  | .func (.func g) first cap=>cz P G R ops rest (({e with defers:=(g,first++args.toList.map e.eval++cap)::e.defers}:Env).put d (.tuple [])) h Q
  |_=>False):=by
 unfold cz
 simp only[pK,bg,dC,hr,Option.isSome_none,Bool.false_eq_true,if_false]
 generalize e.eval f=y
 rcases y with _|_|_|_|_|_|_|_|⟨fn,a,b⟩|_|_
 case func=>cases fn<;>first|rfl|exact ey
 all_goals exact ey
end
end
end Go.AE
end
section
namespace Go.AE
def bs(l:List UInt8):ByteArray:=⟨l.toArray⟩
def str(l:List UInt8):AV:= .v (.string (bs l))
def int(n:Int):AV:= .v (.int .i64 n)
def bool(b:Bool):AV:= .v (.bool b)
theorem Qk(l:List UInt8):ByteArray.mk l.toArray=bs l:=rfl
theorem np(l:List UInt8):(bs l).size=l.length:=rfl
theorem FN(a b:List UInt8):bs a++bs b=bs (a++b):=by
 apply ByteArray.ext
 rw[ByteArray.data_append]
 simp[bs]
theorem qt(l:List UInt8)(i j:Nat):(bs l).extract i j=bs ((l.take j).drop i):=by
 apply ByteArray.ext
 rw[ByteArray.data_extract]
 simp[bs,List.extract_eq_take_drop,List.drop_take]
theorem fE{α β:Type}{P:Program}(m:Sem α)(f:α->Sem β):bQ P (m>>=f)=(bQ P m).bind fun a=>bQ P (f a):=by
 show bQ P (m.bind f)=_
 induction m with
 |pure a=>rfl
 |program k ih=>simp only[Sem.bind,bQ];exact ih _
 |mark m k ih=>simp only[Sem.bind,bQ];exact ih
 |_=>rfl
section
variable {P:Program} {t:TypeId} {x y:Operand} {k:IntKind} {a b:Int}
theorem du{op:BinOp}{v:Value}(h:bQ P (binOp op t (.int k a) (.int k b))=some v):bB P op t x y (.v (.int k a)) (.v (.int k b))=eS v:=by
 have hg:bQ P (eqGuard op t x y (.int k a) (.int k b))=some ():=by cases op<;>rfl
 show(bQ P (do eqGuard op t x y (.int k a) (.int k b);binOp op t (.int k a) (.int k b))).bind eS=_
 rw[fE,hg]
 simp only[Option.bind_some,h]
theorem Eg:bB P .add t x y (.v (.int k a)) (.v (.int k b))=some (.v (.int k (k.wrap (a+b)))):=du (v:= .int k (k.wrap (a+b))) (by simp[binOp,Op.intArith];rfl)
theorem LO:bB P .sub t x y (.v (.int k a)) (.v (.int k b))=some (.v (.int k (k.wrap (a - b)))):=du (v:= .int k (k.wrap (a - b))) (by simp[binOp,Op.intArith];rfl)
theorem LQ:bB P .mul t x y (.v (.int k a)) (.v (.int k b))=some (.v (.int k (k.wrap (a * b)))):=du (v:= .int k (k.wrap (a * b))) (by simp[binOp,Op.intArith];rfl)
theorem LR(h:b≠0):bB P .quo t x y (.v (.int k a)) (.v (.int k b))=some (.v (.int k (k.wrap (a.tdiv b)))):=du (v:= .int k (k.wrap (a.tdiv b))) (by simp[binOp,Op.intDiv,h];rfl)
theorem LS(h:b≠0):bB P .rem t x y (.v (.int k a)) (.v (.int k b))=some (.v (.int k (a.tmod b))):=du (v:= .int k (a.tmod b)) (by simp[binOp,Op.intDiv,h];rfl)
theorem LU:bB P .eql t x y (.v (.int k a)) (.v (.int k b))=some (.v (.bool (decide (a=b)))):=du (v:= .bool (decide (a=b))) (by
 have:(a==b)=decide (a=b):=by rw[Bool.eq_iff_iff];simp
 simp[binOp,Op.intCmp,this];rfl)
theorem LV:bB P .neq t x y (.v (.int k a)) (.v (.int k b))=some (.v (.bool (!decide (a=b)))):=du (v:= .bool (!decide (a=b))) (by
 have:(a !=b)= !decide (a=b):=by rw[Bool.eq_iff_iff];simp
 simp[binOp,Op.intCmp,this];rfl)
theorem LW:bB P .lss t x y (.v (.int k a)) (.v (.int k b))=some (.v (.bool (decide (a<b)))):=du (v:= .bool (decide (a<b))) (by simp[binOp,Op.intCmp];rfl)
theorem LX:bB P .leq t x y (.v (.int k a)) (.v (.int k b))=some (.v (.bool (decide (a<=b)))):=du (v:= .bool (decide (a<=b))) (by simp[binOp,Op.intCmp];rfl)
theorem LY:bB P .gtr t x y (.v (.int k a)) (.v (.int k b))=some (.v (.bool (decide (b<a)))):=du (v:= .bool (decide (b<a))) (by simp[binOp,Op.intCmp];rfl)
theorem LZ:bB P .geq t x y (.v (.int k a)) (.v (.int k b))=some (.v (.bool (decide (b<=a)))):=du (v:= .bool (decide (b<=a))) (by simp[binOp,Op.intCmp];rfl)
theorem II{p q:List UInt8}:bB P .eql t x y (.v (.string (bs p))) (.v (.string (bs q)))=some (.v (.bool (decide (p=q)))):=by
 show some (AV.v (.bool (p==q)))=_
 rw[Bool.eq_iff_iff.2 (by simp:(p==q)=true↔decide (p=q)=true)]
theorem IJ{p q:List UInt8}:bB P .neq t x y (.v (.string (bs p))) (.v (.string (bs q)))=some (.v (.bool (!decide (p=q)))):=by
 show some (AV.v (.bool (!(p==q))))=_
 rw[Bool.eq_iff_iff.2 (by simp:(p==q)=true↔decide (p=q)=true)]
theorem IK{p q:List UInt8}(h:p.length+q.length<=9223372036854775807):bB P .add t x y (.v (.string (bs p))) (.v (.string (bs q)))=some (.v (.string (bs (p++q)))):=by
 show(if (bs p).size+(bs q).size<=9223372036854775807 then some (AV.v (.string (bs p++bs q))) else none)=_
 rw[np,np,if_pos h,FN]
theorem Og{c:Bool}:HQ P .not (.v (.bool c))=some (.v (.bool (!c))):=rfl
theorem Oh:HQ P .neg (.v (.int k a))=some (.v (.int k (k.wrap (0 - a)))):=rfl
theorem uU{s:ByteArray}(hu:P.underlying t=some .string):cH P t (.v (.string s))=some (.v (.int .i64 s.size)):=by unfold cH;rw[hu]
theorem uV{e:TypeId}{tk:Tok}{sz:Nat}{es:List (List AV)}(hu:P.underlying t=some (.slice e)):cH P t (.list tk sz es)=some (.v (.int .i64 es.length)):=by unfold cH;rw[hu]
theorem yS{e:TypeId}{b o l c:Nat}(hu:P.underlying t=some (.slice e)):cH P t (.arr b o l c)=some (.v (.int .i64 l)):=by unfold cH;rw[hu]
theorem yT{l:List UInt8}(hu:P.underlying t=some .string)(h0:0<=a)(h1:a<l.length):nf P t (.v (.string (bs l))) (.v (.int k a))=some (.v (.int .u8 (l.getD a.toNat 0).toNat)):=by
 unfold nf
 rw[hu]
 have hlt:a.toNat<l.length:=by omega
 simp only[if_pos h0,bs,List.getElem?_toArray,List.getElem?_eq_getElem hlt]
 simp[hlt]
theorem FO{c:Bool}{u v:AV}:yj (.v (.bool c)) u v=some (if c=true then u else v):=by cases c<;>rfl
theorem bT(h0: -9223372036854775808<=a)(h1:a<=9223372036854775807):IntKind.i64.wrap a=a:=by
 rw[IntKind.wrap_i64];omega
theorem yU(h0:0<=a)(h1:a<=255):IntKind.u8.wrap a=a:=by
 rw[IntKind.wrap_u8];omega
end
end Go.AE
end
section
namespace Go.AE
open Go.RowKit (Below)
def aB.init(W:World):aB:={base:=W.heap.size,ic:=fun g j=>W.cell? ⟨g,j,none⟩,β:=[],γ:=[],tn:=0,tk:=fun _=>(0,0,0),md:=[],lb:=fun _=>none}
def ae.init:ae:=⟨[],[],0,[]⟩
theorem IM{G:Nat->Option (List AV)}{ok:FuncId->Nat->Code->Bool}(W:World)(hG:∀g cs,G g=some cs->∃cells,ao (aB.init W) cs cells/\∀(j:Nat) (c:Value),cells[j]?=some c->W.cell? ⟨g,j,none⟩=some c):
 Sim (aB.init W) G ok W ae.init W:=by
 refine⟨.refl _ _,Nat.le_refl _,fun g j c h=>h,hG,rfl,fun b b' g h=>?_,fun b g cs h=>?_,rfl,fun b b' g h=>?_,fun l g r h=>?_,rfl,fun t ht=>?_,fun t t' ht=>?_,fun r hr=>?_,rfl⟩
 ·simp[aB.init] at h
 ·simp[aB.init] at h
 ·simp[aB.init] at h
 ·simp[aB.init] at h
 ·simp[alive,ae.init] at ht
 ·simp[alive,ae.init] at ht
 ·simp[aB.init] at hr
def uW(P:Program):Nat->List Field->Nat->Bool
 |off,[],total=>Nat.beq off total
 |off,f::fs,total=>Nat.beq f.offset off&&uW P (off+P.cellsOf f.type) fs total
def L0(P:Program):Nat->TypeId->Bool
 |0,_=>false
 |n+1,t=>
  match P.underlying t with
  |some .bool|some (.int _) |some .string=>true
  |some (.slice e)=>L0 P n e&&decide (0<P.cellsOf e)
  |some (.struct fs)=>uW P 0 fs.toList (P.cellsOf t)&&fs.toList.all fun f=>L0 P n f.type
  |some (.array m e)=>Nat.beq (P.cellsOf t) (m * P.cellsOf e)&&L0 P n e
  |_=>false
inductive Has {H:Type} (P:Program):TypeId->List AV->DataW H->Prop
 |bool {t:TypeId} (hu:P.underlying t=some .bool) (b:Bool):Has P t [.v (.bool b)] (.lit (.bool b))
 |int {t:TypeId} {k:IntKind} (hu:P.underlying t=some (.int k)) (n:Int) (hn:(Lit.int k n).wf=true):Has P t [.v (.int k n)] (.lit (.int k n))
 |str {t:TypeId} (hu:P.underlying t=some .string) (s:ByteArray) (hs:s.size<=maxLen):Has P t [.v (.string s)] (.lit (.string s.data.toList))
 |none {t e:TypeId} (hu:P.underlying t=some (.slice e)):Has P t [.list .nil (P.cellsOf e) []] .nil
 |list {t e:TypeId} (hu:P.underlying t=some (.slice e)) (k:Tok) (es:List (List AV)) (ds sp:List (DataW H)) (hk:k= .held∨(k= .tight/\es=[])) (hl:es.length<=maxLen) (hd:ds.length=es.length)
  (he:∀(i:Nat) (r:List AV) (d:DataW H),es[i]?=some r->ds[i]?=some d->Has P e r d) (hs:∀r∈es,r.length=P.cellsOf e):Has P t [.list k (P.cellsOf e) es] (.slice ds sp)
 |struct {t:TypeId} {fs:Array Field} (hu:P.underlying t=some (.struct fs)) (xs:List AV) (ds:List (DataW H)) (hl:xs.length=P.cellsOf t) (hd:ds.length=fs.size)
  (hf:∀(i:Nat) (f:Field) (d:DataW H),fs[i]?=some f->ds[i]?=some d->Has P f.type ((xs.drop f.offset).take (P.cellsOf f.type)) d):Has P t xs (.agg ds)
 |array {t e:TypeId} {n:Nat} (hu:P.underlying t=some (.array n e)) (xs:List AV) (ds:List (DataW H)) (hl:xs.length=P.cellsOf t) (hd:ds.length=n)
  (he:∀(i:Nat) (d:DataW H),ds[i]?=some d->Has P e ((xs.drop (i * P.cellsOf e)).take (P.cellsOf e)) d):Has P t xs (.agg ds)
section
variable {H:Type} {enc:TypeId × Value->H} {P:Program} {W:World}
theorem uX{a:Addr}{n:Nat}{vs:List Value}(h:W.cells? 0 a n=some vs):vs.length=n/\∀j,j<n->W.cell? (a.add j)=vs[j]?:=by
 unfold World.cells? at h
 rw[if_pos (Nat.zero_le _)] at h
 refine⟨by simpa using mapM_some_length h,fun j hj=>mapM_some_get h j j (by simp[hj])⟩
theorem FP{a:Addr}{v:Value}(h:W.cell? a=some v):a.spot=none:=by
 unfold World.cell? at h
 split at h
 ·cases hs:a.spot with
  |none=>rfl
  |some s=>rw[hs] at h;simp at h
 ·cases h
theorem AD{α:Type}{sz:Nat}:∀{es:List (List α)},(∀r∈es,r.length=sz)->∀(i j:Nat),j<sz->es.flatten[i * sz+j]?=(es[i]?).bind (·[j]?):=by
 intro es
 induction es with
 |nil=>intro _ i j _;simp
 |cons r es ih=>
  intro hr i j hj
  have h1:r.length=sz:=hr r List.mem_cons_self
  cases i with
  |zero=>simp[List.getElem?_append_left (by omega:j<r.length)]
  |succ i=>
   rw[List.flatten_cons,List.getElem?_append_right (by rw[h1,Nat.add_mul];omega),h1]
   have:(i+1) * sz+j - sz=i * sz+j:=by rw[Nat.add_mul];omega
   rw[this,ih (fun r hm=>hr r (List.mem_cons_of_mem _ hm)) i j hj]
   simp
end
end Go.AE
end
section
namespace Go.AE
open Go.RowKit Go.WideShapes Go.ChangeShapes
def jy{H:Type}(P:Program)(t:TypeId)(x:AV)(d:DataW H):Prop:=
 match P.underlying t with
 |some (.struct _) |some (.array _ _)=>∃cs,x= .agg cs/\Has P t cs d
 |_=>Has P t [x] d
def jF{H:Type}(P:Program):List TypeId->List AV->List (DataW H)->Prop
 | [],[],[]=>True
 |t::ts,x::xs,d::ds=>jy P t x d/\jF P ts xs ds
 |_,_,_=>False
section
variable {H:Type} {enc:TypeId × Value->H} {P:Program} {W:World}
theorem FQ(hl:laidOutB P=true){W':World}{sp:Nat->Bool}:∀{ts:List TypeId} {vs:List Value} {ds:List (DataW H)} {p:List MemPlace},DataW.TrodAll enc P W 0 (fun _=>true) true ts vs ds p->
 (∀t∈ts,P.readableRec t=true/\t<P.types.size)->(∀x∈p,W.sameAt W' x)->(∀x∈p,sp x.block=true)->DataW.TrodAll enc P W' 0 sp true ts vs ds p:=by
 intro ts
 induction ts with
 |nil=>
  intro vs ds p h _ _ _
  obtain⟨rfl,rfl,rfl⟩:=trodAll_nil h
  exact trodAll_mk0
 |cons t ts ih=>
  intro vs ds p h hr hs hsp
  obtain⟨v,vs',d,ds',p1,q1,rfl,rfl,rfl,h1,h2⟩:=trodAll_cons h
  exact trodAll_cons_mk (WideElems.Trod_stays hl (hr t List.mem_cons_self).1 (hr t List.mem_cons_self).2 h1 (fun x hx=>hs x (List.mem_append_left _ hx)) (fun x hx=>hsp x (List.mem_append_left _ hx)))
   (ih h2 (fun t ht=>hr t (List.mem_cons_of_mem _ ht)) (fun x hx=>hs x (List.mem_append_right _ hx)) (fun x hx=>hsp x (List.mem_append_right _ hx)))
theorem CV{f:Func}{s:ChangeSpec}{apart fresh handsOn again:Bool}{W W':World}{args:Array Value}{v:Value}{ds gs:List (DataW H)}{before pa pv:List MemPlace}
 (hW:DataW.Whole enc P f.params.toList s.vars apart W args.toList ds gs before)
 (hres:∀(b:Nat) (sp:Nat->Bool) (hd:Bool),DataW.TrodAll enc P W' b sp hd f.resultTypes.toList (v.resultList f.resultTypes.size) (s.fn H (ds++gs)).results [])
 (hargs:∀sp:Nat->Bool,(∀p∈before,sp p.block=true)->DataW.TrodAll enc P W' 0 sp true f.params.toList args.toList (s.fn H (ds++gs)).args pa)
 (hvars:∀sp:Nat->Bool,(∀p∈before,sp p.block=true)->DataW.TrodVars enc P W' sp s.vars (s.fn H (ds++gs)).vars pv)
 (hps:before=pa++pv) (hb:Below W.heap.size W W')
 (hok:∀(j:Nat) (t:TypeId) (r:Value),f.resultTypes[j]?=some t->(v.resultList f.resultTypes.size)[j]?=some r->Value.okWide P W' .any 0 t r):
 s.post enc P f apart fresh handsOn again W args v W':=by
 have hlt:∀p∈before,p.block<W.heap.size:=fun p hp=>hW.lt p hp
 have hold:∀p∈before,(fun b=>decide (b<W.heap.size)) p.block=true:=fun p hp=>by simpa using hlt p hp
 refine⟨ds,gs,before,[],pa,pv,hW,hres _ _ _,hargs _ hold,hvars _ hold,World.keptBut_mono (fun p hp=>⟨hp,?_⟩) (hb.frame (·∈before)),fun _=>?_⟩
 ·rw[hps,List.mem_append] at hp
  exact Or.inr hp
 ·obtain⟨_,_,_,_,_,hz,hn⟩:=hW
  refine⟨hok,_,_,([]++pa)++pv,⟨[]++pa,pv,trodAll_append (hargs _ (fun _ _=>rfl)) (hres _ _ _),hvars _ (fun _ _=>rfl),rfl,?_,?_⟩,?_⟩
  ·intro b off hp
   have hin:MemPlace.cell b off∈before:=by rw[hps];simpa using hp
   rw[hb.frozen (hlt _ hin)]
   exact hz b off hin
  ·intro ha
   have:=hn ha
   rw[hps] at this
   simpa using this
  ·intro p hp _
   rw[hps]
   simpa using hp
structure Ql(P:Program)(f:FuncId)(fn:Func)(tb:TypeId):Prop where
 func:P.funcs[f]?=some fn
 laid:laidOutB P=true
 tys:∀t∈fn.params.toList,L0 P 9 t=true/\P.readableRec t=true/\t<P.types.size
 res:fn.resultTypes=#[tb]
 bool:P.underlying tb=some .bool
variable {G:Nat->Option (List AV)} {prims:FuncId->Option (List AV->ae->Option (AV × ae))}
end
end Go.AE
end
section
namespace Go.AE
open Go.RowKit (Below)
section
variable {K:aB} {G:Nat->Option (List AV)} {ok:FuncId->Nat->Code->Bool} {w0 w w':World} {h:ae}
theorem Sim.grown(s:Sim K G ok w0 h w)(hb:Below w.heap.size w w'):Sim K G ok w0 h w':=by
 have hk:∀{k:Nat} {o:Obj},w.heap[k]?=some o->w'.heap[k]?=some o:=fun hk=>(hb.block _ (cV hk)).trans hk
 refine⟨s.old.trans (hb.mono s.size),Nat.le_trans s.size hb.size,fun g j c hg=>?_,s.dW,s.js,s.βnd,fun b g cs hb' hc=>?_,s.mA,s.γnd,fun l g r hl hr=>?_,s.tn,fun t ht=>?_,s.oq,fun r hr=>?_,s.all⟩
 ·rw[<-s.ic g j c hg]
  exact World.cell?_of_block (w:=w) (hb.block g (s.fY hg))
 ·obtain⟨h1,h2,ha,cells,e,h3,h4⟩:=s.box b g cs hb' hc
  exact⟨h1,h2,ha,cells,e,hk h3,h4⟩
 ·obtain⟨h1,fn,tmps,d,h2,h3⟩:=s.loop l g r hl hr
  exact⟨h1,fn,tmps,d,hk h2,h3⟩
 ·obtain⟨h1,h2,h3,cells,e,fz,h4,h5,h6⟩:=s.tok t ht
  refine⟨h1,h2,h3,cells,e,fz,hk h4,h5,fun j hj hl=>?_⟩
  rw[<-h6 j hj hl]
  exact World.frozen?_of_block (w:=w) (hb.block _ (cV h4))
 ·exact⟨(s.md r hr).1,hk (s.md r hr).2⟩
end
end Go.AE
end
section
namespace Go.AE
def ae.push(h:ae)(cs:List AV):ae:={h with boxes:=h.boxes++[cs]}
def ae.put(h:ae)(b:Nat)(cs:List AV):ae:={h with boxes:=h.boxes.set b cs}
theorem aw(h:ae)(cs:List AV):h.box cs=(.ptr (.box h.boxes.length) 0,h.push cs):=rfl
theorem az(h:ae)(cs:List AV):(h.push cs).boxes.length=h.boxes.length+1:=by simp[ae.push]
theorem ak(h:ae)(cs:List AV):(h.push cs).boxes[h.boxes.length]?=some cs:=by simp[ae.push]
theorem aj{h:ae}{cs ds:List AV}{b:Nat}(hb:h.boxes[b]?=some ds):(h.push cs).boxes[b]?=some ds:=cC hb
theorem aS{h:ae}{cs:List AV}{b:Nat}(hb:b<h.boxes.length):(h.put b cs).boxes[b]?=some cs:=by simp[ae.put,hb]
theorem av{h:ae}{cs:List AV}{b c:Nat}(hb:c≠b):(h.put b cs).boxes[c]?=h.boxes[c]?:=by simp[ae.put,List.getElem?_set,Ne.symm hb]
theorem dU(h:ae)(b:Nat)(cs:List AV):(h.put b cs).boxes.length=h.boxes.length:=by simp[ae.put]
def aZ(h:ae):Bool:=h.dead.all fun n=>decide (n<h.tn)
structure Ext(h h':ae):Prop where
 box:∀(b:Nat) (cs:List AV),h.boxes[b]?=some cs->h'.boxes[b]?=some cs
 loop:∀(l:Nat) (r:bE),h.loops[l]?=some r->h'.loops[l]?=some r
 tn:h.tn<=h'.tn
 dead:∀n,n<h.tn->n∈h'.dead->n∈h.dead
 ok:aZ h=true->aZ h'=true
theorem Ext.refl(h:ae):Ext h h:=⟨fun _ _ h=>h,fun _ _ h=>h,Nat.le_refl _,fun _ _ h=>h,fun h=>h⟩
theorem Ext.trans{a b c:ae}(h:Ext a b)(k:Ext b c):Ext a c:=
 ⟨fun i cs hb=>k.box i cs (h.box i cs hb),fun l r hl=>k.loop l r (h.loop l r hl),Nat.le_trans h.tn k.tn,fun n hn hd=>h.dead n hn (k.dead n (Nat.lt_of_lt_of_le hn h.tn) hd),fun ho=>k.ok (h.ok ho)⟩
theorem Ext.push(h:ae)(cs:List AV):Ext h (h.push cs):=⟨fun _ _ hb=>aj hb,fun _ _ h=>h,Nat.le_refl _,fun _ _ h=>h,fun h=>h⟩
theorem Ext.fresh(h:ae)(sz:Nat)(es:List (List AV)):Ext h (h.fresh sz es).2:=⟨fun _ _ hb=>hb,fun _ _ h=>h,Nat.le_succ _,fun _ _ h=>h,fun ho=>by
 unfold aZ at *
 simp only[ae.fresh,List.all_eq_true,decide_eq_true_eq] at *
 exact fun n hn=>decide_eq_true (Nat.lt_succ_of_lt (ho n hn))⟩
theorem Ext.alive{h h':ae}(x:Ext h h'){n:Nat}(ha:alive h n=true):alive h' n=true:=by
 unfold AE.alive at *
 simp only[Bool.and_eq_true,decide_eq_true_eq,Bool.not_eq_true',List.contains_eq_mem,decide_eq_false_iff_not] at *
 exact⟨Nat.lt_of_lt_of_le ha.1 x.tn,fun hd=>ha.2 (x.dead n ha.1 hd)⟩
theorem Ext.len{h h':ae}(x:Ext h h'):h.boxes.length<=h'.boxes.length:=by
 rcases Nat.lt_or_ge h'.boxes.length h.boxes.length with hlt|hge
 ·have h1:=x.box h'.boxes.length _ (List.getElem?_eq_getElem hlt)
  have:=(List.getElem?_eq_some_iff.1 h1).1
  omega
 ·exact hge
noncomputable def CW(R:Rec)(g:FuncId)(args:List AV)(h:ae):ae:=
 match R.call g args h with
 |some (_,h')=>h'
 |none=>h
theorem FR{R:Rec}{g:FuncId}{args:List AV}{h h':ae}{r:Res}(hc:R.call g args h=some (r,h')):CW R g args h=h':=by unfold CW;rw[hc]
def Qm(R:Rec)(g:FuncId)(args:List AV)(h:ae)(r:Res):Prop:=∃h',R.call g args h=some (r,h')/\Ext h h'
theorem Qm.ext{R:Rec}{g:FuncId}{args:List AV}{h:ae}{r:Res}(hs:Qm R g args h r):Ext h (CW R g args h):=by
 obtain⟨h',h1,h2⟩:=hs
 rw[FR h1];exact h2
def FT(P:Program)(G:Nat->Option (List AV))(R:Rec)(fn:Func)(r:Res)(Post:ae->Prop):Xt->Env->ae->Prop:=fun o e h=>∃h',yK P G R fn r h' o e h/\Post h'
theorem AF{P:Program}{G:Nat->Option (List AV)}{R:Rec}{fn:Func}{r:Res}{Post:ae->Prop}{e:Env}{h:ae}:FT P G R fn r Post .normal e h=∃h',bD P G R fn e e.defers none h=some (r,h')/\Post h':=rfl
theorem IN{P:Program}{G:Nat->Option (List AV)}{R:Rec}{fn:Func}{r:Res}{Post:ae->Prop}{e:Env}{h:ae}:FT P G R fn r Post .ret e h=∃h',bD P G R fn e e.defers none h=some (r,h')/\Post h':=rfl
theorem CX{P:Program}{G:Nat->Option (List AV)}{R:Rec}{fn:Func}{r:Res}{Post:ae->Prop}{e:Env}{h:ae}{x:AV}:FT P G R fn r Post (.panic x) e h=∃h',bD P G R fn e e.defers (some (x,false)) h=some (r,h')/\Post h':=rfl
theorem dL{P:Program}{G:Nat->Option (List AV)}{prims:FuncId->Option (List AV->ae->Option (AV × ae))}{g:FuncId}{fn:Func}{body:Code}{args:List AV}{r:Res}{h:ae}{Post:ae->Prop}(hp:prims g=none)(hfn:P.funcs[g]?=some fn)(hb:fn.body=some body)
 (hr:Run (whole P G prims) body (Env.start args none) h (FT P G (whole P G prims) fn r Post)):∃h',(whole P G prims).call g args h=some (r,h')/\Post h':=by
 obtain⟨o,e1,h1,h2,h',h3,h4⟩:=hr
 exact⟨h',ar hp hfn hb ⟨o,e1,h1,h2,h3⟩,h4⟩
section
variable {P:Program} {G:Nat->Option (List AV)} {h:ae} {t:TypeId} {b off n:Nat} {cs:List AV}
theorem dc(ha:cZ P t=some false)(hb:h.boxes[b]?=some cs):ai P G h t (.ptr (.box b) off)=(cs.drop off).head?:=by
 unfold ai nb ur
 simp only[ha,hb,Option.map_some]
theorem cP(ha:cZ P t=some true)(hs:bF P t=some n)(hb:h.boxes[b]?=some cs)(hl:off+n<=cs.length):ai P G h t (.ptr (.box b) off)=some (.agg ((cs.drop off).take n)):=by
 unfold ai nb ur
 simp only[ha,hb,hs,Option.map_some]
 rw[if_pos (by simp;omega)]
theorem ez{sz i:Nat}{es:List (List AV)}{row:List AV}(ha:cZ P t=some false)(hb:es[i]?=some row):ai P G h t (.elem sz es i off)=(row.drop off).head?:=by
 unfold ai nb
 simp only[ha,hb,Option.map_some]
theorem jm{sz i:Nat}{es:List (List AV)}{row:List AV}(ha:cZ P t=some true)(hs:bF P t=some n)(hb:es[i]?=some row)(hl:off+n<=row.length):ai P G h t (.elem sz es i off)=some (.agg ((row.drop off).take n)):=by
 unfold ai nb
 simp only[ha,hb,hs,Option.map_some]
 rw[if_pos (by simp;omega)]
theorem al{e:TypeId}{k:Tok}{kk:IntKind}{sz:Nat}{es:List (List AV)}{a:Int}(hu:P.underlying t=some (.slice e))(hs:bF P e=some sz)(h0:0<=a)(h1:a<es.length):ay P t (.list k sz es) (.v (.int kk a))=some (.elem sz es a.toNat 0):=by
 unfold ay
 rw[hu]
 simp only
 rw[if_pos ⟨h0,h1,hs⟩]
theorem mE{e:TypeId}{kk:IntKind}{bb o l c sz:Nat}{a:Int}(hu:P.underlying t=some (.slice e))(hs:bF P e=some sz)(h0:0<=a)(h1:a<l):ay P t (.arr bb o l c) (.v (.int kk a))=some (.ptr (.box bb) (o+a.toNat * sz)):=by
 unfold ay
 rw[hu]
 simp only[hs]
 rw[if_pos ⟨h0,h1⟩]
theorem aW{x:AV}{xs:List AV}(hx:x.aC=some xs)(hs:bF P t=some n)(hb:h.boxes[b]?=some cs)(hn:xs.length=n)(hl:off+n<=cs.length):aA P h t (.ptr (.box b) off) x=some (h.put b (bI cs off xs)):=by
 unfold aA
 simp only[hx,hs,hb]
 rw[if_pos ⟨hn,hl⟩]
 rfl
theorem gg(h:ae)(z cs:List AV):(h.push z).put h.boxes.length cs=h.push cs:=by
 simp[ae.push,ae.put,List.set_append_right]
theorem jc{z xs:List AV}(hl:xs.length=z.length):bI z 0 xs=xs:=by
 simp[bI,hl]
theorem cQ{x:AV}{xs z:List AV}(hx:x.aC=some xs)(hs:bF P t=some n)(hn:xs.length=n)(hz:z.length=n):aA P (h.push z) t (.ptr (.box h.boxes.length) 0) x=some (h.push xs):=by
 rw[aW hx hs (ak h z) hn (by omega),jc (by omega),gg]
end
end Go.AE
end
section
namespace Go.AE
section
variable {P:Program} {G:Nat->Option (List AV)} {R:Rec}
theorem FU(ops:Array Oper):∀(n i:Nat),i+n<=ops.size->∀(e:Env) (h:ae),br P G R ops (List.range' i n) e h=pK P G R ops ((ops.toList.drop i).take n) e h:=by
 intro n
 induction n with
 |zero=>intro i hi e h;rfl
 |succ n ih=>
  intro i hi e h
  have hlt:i<ops.size:=by omega
  have ho:ops[i]?=some ops[i]:=Array.getElem?_eq_getElem hlt
  rw[List.range'_succ,List.drop_eq_getElem_cons (by simpa using hlt),List.take_succ_cons]
  simp only[br,pK,ho,Array.getElem_toList]
  cases bg ops e ops[i] with
  |none=>rfl
  |some b=>
   cases b with
   |false=>exact ih (i+1) (by omega) _ _
   |true=>
    simp only
    cases dC P G R e h ops[i] with
    |none=>rfl
    |some q=>
     obtain⟨r,e1,h1⟩:=q
     cases r with
     |ret x=>exact ih (i+1) (by omega) _ _
     |panic x=>rfl
theorem dM{ops:Array Oper}{m:Nat}(hm:m<=ops.size)(e:Env)(h:ae):br P G R ops (List.range m) e h=pK P G R ops (ops.toList.take m) e h:=by
 rw[List.range_eq_range',FU ops m 0 (by omega)]
 rfl
def mF(ops:Array Oper)(cs:List Nat)(ps:List (Nat × Nat)):Bool:=
 let b:=Region.before ops
 kQ ops b&&(List.range ops.size).all fun j=>(List.range j).all fun i=>(b.getD j 0).testBit i||ng ops i j||ps.contains (i,j) || (eW ops i j&&(cs.contains i||cs.contains j))
theorem sD{ops:Array Oper}{cs:List Nat}{ps:List (Nat × Nat)}{e:Env}{h:ae}(hd:mF ops cs ps=true)(hc:∀k∈cs,sY P G R ops e h k)(hs:∀p∈ps,cX P G R ops e h p.1 p.2=true):df P G R ops e h=true:=by
 unfold mF at hd
 unfold df
 simp only[Bool.and_eq_true,List.all_eq_true,List.mem_range,Bool.or_eq_true] at hd ⊢
 refine⟨hd.1,fun j hj i hi=>?_⟩
 rcases hd.2 j hj i hi with((h1|h1) |h1) |⟨h1,h2⟩
 ·exact .inl (.inl (.inl h1))
 ·exact .inl (.inl (.inr h1))
 ·exact .inl (.inr (hs (i,j) (by simpa using h1)))
 ·exact .inr ⟨h1,h2.imp (fun q=>oz.2 (hc i (by simpa using q))) (fun q=>oz.2 (hc j (by simpa using q)))⟩
theorem o9{ops:Array Oper}{e:Env}{h:ae}{k:Nat}{o:Oper}{c:Call}{x:AV}(ho:ops[k]?=some o)(hop:o.op= .call c)
 (h1:cz P G R ops (ops.toList.take k) e h (fun q er _=>q= .normal/\∀hm,eI P R er hm c=some (.ret x,hm)))
 (h2:cz P G R ops ops.toList e h (fun q _ _=>q= .normal)):sY P G R ops e h k:=by
 have hk:k<ops.size:=(Array.getElem?_eq_some_iff.1 ho).1
 obtain⟨q1,er,hr,e1,rfl,e2⟩:=h1
 obtain⟨q2,en,hn,f1,rfl⟩:=h2
 rw[<-dM (by omega)] at e1
 have hall:br P G R ops (List.range ops.size) e h=some (.normal,en,hn):=by
  rw[dM (Nat.le_refl _),<-Array.length_toList,List.take_length];exact f1
 obtain⟨-,tr,-⟩:=trace hall
 refine⟨o,x,er,hr,ho,?_,e1,fun m hm=>⟨_,_,tr m hm,Ct hop (e2 _)⟩⟩
 have hcal:∀b,c.callee≠ .builtin b:=fun b hb=>by
  have:=e2 hr
  unfold eI at this
  rw[hb] at this
  cases this
 rw[hop]
 obtain⟨callee,args,ts⟩:=c
 cases callee with
 |builtin b=>exact absurd rfl (hcal b)
 |value f=>rfl
 |invoke r n=>rfl
theorem dH{ops:Array Oper}{e:Env}{h:ae}{i j:Nat}{o:Oper}{t:TypeId}{a:Operand}(hap:eW ops i j=true)(ho:ops[i]?=some o)(hop:o.op= .load t a)(hg:o.guard=none)
 (hj:(ops[j]?).map (fun o=>cY o.op)=some .acts) {x v:AV} (hv:cB v v=true)
 (h1:cz P G R ops (ops.toList.take i) e h (fun q er hr=>q= .normal/\er.eval a=x/\ai P G hr t x=some v))
 (h2:cz P G R ops (ops.toList.take (j+1)) e h (fun q _ hm=>q= .normal/\ai P G hm t x=some v)):cX P G R ops e h i j=true:=by
 have hi:i<ops.size:=by
  rcases Nat.lt_or_ge i ops.size with hh|hh
  ·exact hh
  ·rw[Array.getElem?_eq_none hh] at ho;cases ho
 have hjs:j<ops.size:=by
  rcases Nat.lt_or_ge j ops.size with hh|hh
  ·exact hh
  ·rw[Array.getElem?_eq_none hh] at hj;cases hj
 have hc:(ops[i]?).map (fun o=>cY o.op)=some .reads:=by rw[ho];simp only[Option.map_some,hop];rfl
 unfold cX
 rw[hap,hc,hj]
 simp only[Bool.true_and]
 unfold fX
 rw[ho,dM (by omega),dM (by omega)]
 obtain⟨q1,er,hr,e1,rfl,e2,e3⟩:=h1
 obtain⟨q2,em,hm,f1,rfl,f2⟩:=h2
 rw[e1,f1]
 simp only[bg,hg,hop,e2,e3,f2,hv]
theorem dI{ops:Array Oper}{e:Env}{h:ae}{i j:Nat}{o:Oper}{t:TypeId}{a:Operand}(hap:eW ops i j=true)(ho:ops[j]?=some o)(hop:o.op= .load t a)(hg:o.guard=none)
 (hj:(ops[i]?).map (fun o=>cY o.op)=some .acts) {x v:AV} (hv:cB v v=true)
 (h1:cz P G R ops (ops.toList.take j) e h (fun q er hr=>q= .normal/\er.eval a=x/\ai P G hr t x=some v))
 (h2:cz P G R ops (ops.toList.take i) e h (fun q _ hm=>q= .normal/\ai P G hm t x=some v)):cX P G R ops e h i j=true:=by
 have hi:i<ops.size:=by
  rcases Nat.lt_or_ge i ops.size with hh|hh
  ·exact hh
  ·rw[Array.getElem?_eq_none hh] at hj;cases hj
 have hjs:j<ops.size:=by
  rcases Nat.lt_or_ge j ops.size with hh|hh
  ·exact hh
  ·rw[Array.getElem?_eq_none hh] at ho;cases ho
 have hc:(ops[j]?).map (fun o=>cY o.op)=some .reads:=by rw[ho];simp only[Option.map_some,hop];rfl
 unfold cX
 rw[hap,hc,hj]
 simp only[Bool.true_and]
 unfold fX
 rw[ho,dM (by omega),dM (by omega)]
 obtain⟨q1,er,hr,e1,rfl,e2,e3⟩:=h1
 obtain⟨q2,em,hm,f1,rfl,f2⟩:=h2
 rw[e1,f1]
 simp only[bg,hg,hop,e2,e3,f2,hv]
end
section
variable {P:Program} {G:Nat->Option (List AV)} {prims:FuncId->Option (List AV->ae->Option (AV × ae))} {Q:Xt->Env->ae->Prop} {e:Env} {h:ae}
theorem mj{id:Nat}{ops:Array Oper}(cs:List Nat)(ps:List (Nat × Nat))(hd:mF ops cs ps=true)(hc:∀k∈cs,sY P G (whole P G prims) ops e h k)(hs:∀p∈ps,cX P G (whole P G prims) ops e h p.1 p.2=true)
 (hr:cz P G (whole P G prims) ops ops.toList e h (rh Q)):Run (whole P G prims) (.region id ops true) e h Q:=
 oB (sD hd hc hs) hr
end
structure Mut(b n0:Nat)(h h':ae):Prop where
 box:∀(c:Nat) (cs:List AV),c≠b->h.boxes[c]?=some cs->h'.boxes[c]?=some cs
 len:h.boxes.length<=h'.boxes.length
 loop:∀(l:Nat) (r:bE),h.loops[l]?=some r->h'.loops[l]?=some r
 tn:h.tn<=h'.tn
 dead:∀n,n<n0->n∈h'.dead->n∈h.dead
 ok:aZ h=true->aZ h'=true
theorem Mut.refl(b n0:Nat)(h:ae):Mut b n0 h h:=⟨fun _ _ _ h=>h,Nat.le_refl _,fun _ _ h=>h,Nat.le_refl _,fun _ _ h=>h,fun h=>h⟩
theorem Mut.trans{b n0:Nat}{x y z:ae}(h:Mut b n0 x y)(k:Mut b n0 y z):Mut b n0 x z:=
 ⟨fun i cs hi hb=>k.box i cs hi (h.box i cs hi hb),Nat.le_trans h.len k.len,fun l r hl=>k.loop l r (h.loop l r hl),Nat.le_trans h.tn k.tn,fun n hn hd=>h.dead n hn (k.dead n hn hd),fun ho=>k.ok (h.ok ho)⟩
theorem Mut.sF{b n0:Nat}{h h':ae}(x:Ext h h')(hn:n0<=h.tn):Mut b n0 h h':=
 ⟨fun c cs _ hc=>x.box c cs hc,x.len,x.loop,x.tn,fun n h1 h2=>x.dead n (Nat.lt_of_lt_of_le h1 hn) h2,x.ok⟩
theorem Mut.put(b n0:Nat)(h:ae)(cs:List AV):Mut b n0 h (h.put b cs):=
 ⟨fun c ds hc hb=>by rw[av hc];exact hb,by rw[dU];exact Nat.le_refl _,fun _ _ h=>h,Nat.le_refl _,fun _ _ h=>h,fun h=>h⟩
theorem Ext.mut{b:Nat}{h0 h h':ae}(x:Ext h0 h)(m:Mut b h0.tn h h')(hb:h0.boxes.length<=b):Ext h0 h':=
 ⟨fun c cs hc=>by
  have hlt:=(List.getElem?_eq_some_iff.1 hc).1
  exact m.box c cs (by omega) (x.box c cs hc),fun l r hl=>m.loop l r (x.loop l r hl),Nat.le_trans x.tn m.tn,fun n hn hd=>x.dead n hn (m.dead n hn hd),fun ho=>m.ok (x.ok ho)⟩
def ae.app(h:ae)(k:Tok):ae:=
 match k with
 | .free n=>{h with dead:=n::h.dead,tn:=h.tn+1}
 |_=>{h with tn:=h.tn+1}
theorem aT(h:ae)(k:Tok):(h.app k).boxes=h.boxes:=by cases k<;>rfl
theorem ig(h:ae)(k:Tok):(h.app k).loops=h.loops:=by cases k<;>rfl
theorem uY(h:ae)(k:Tok):(h.app k).tn=h.tn+1:=by cases k<;>rfl
def bG(n0:Nat)(h:ae)(k:Tok):Prop:=k= .nil∨k= .tight∨∃n,k= .free n/\n0<=n/\alive h n=true
theorem Mut.app{b n0:Nat}{h:ae}{k:Tok}(hk:bG n0 h k):Mut b n0 h (h.app k):=by
 refine⟨fun c cs _ hc=>by rw[aT];exact hc,by rw[aT];exact Nat.le_refl _,fun l r hl=>by rw[ig];exact hl,by rw[uY];exact Nat.le_succ _,?_,?_⟩
 ·rcases hk with rfl|rfl|⟨m,rfl,hm,ha⟩
  ·exact fun n _ hn=>hn
  ·exact fun n _ hn=>hn
  ·intro n hn hd
   rcases List.mem_cons.1 hd with rfl|hd
   ·omega
   ·exact hd
 ·intro ho
  have hlift:∀n∈h.dead,n<h.tn+1:=fun n hn=>by
   have:=List.all_eq_true.1 ho n hn
   simp only[decide_eq_true_eq] at this
   omega
  rcases hk with rfl|rfl|⟨m,rfl,hm,ha⟩
  ·exact List.all_eq_true.2 fun n hn=>decide_eq_true (hlift n hn)
  ·exact List.all_eq_true.2 fun n hn=>decide_eq_true (hlift n hn)
  ·refine List.all_eq_true.2 fun n hn=>decide_eq_true ?_
   rcases List.mem_cons.1 hn with rfl|hn
   ·unfold alive at ha
    simp only[Bool.and_eq_true,decide_eq_true_eq] at ha
    show n<h.tn+1
    omega
   ·exact hlift n hn
theorem Ext.app{h0 h:ae}{k:Tok}(x:Ext h0 h)(hk:bG h0.tn h k):Ext h0 (h.app k):=by
 have m:=Mut.app (b:=h.boxes.length) hk
 exact x.mut m x.len
theorem FV{h:ae}{k:Tok}(ho:aZ h=true)(hk:bG 0 h k):alive (h.app k) h.tn=true:=by
 have hno:h.dead.contains h.tn=false:=by
  rw[Bool.eq_false_iff]
  intro hc
  have:=List.all_eq_true.1 ho h.tn (by simpa using hc)
  simp at this
 unfold alive
 rw[uY]
 rcases hk with rfl|rfl|⟨m,rfl,-,ha⟩
 ·simp only[ae.app,hno];simp
 ·simp only[ae.app,hno];simp
 ·unfold alive at ha
  simp only[Bool.and_eq_true,decide_eq_true_eq] at ha
  have h1:¬(h.tn=m):=by omega
  have h2:¬(h.tn∈h.dead):=by simpa using hno
  simp[ae.app,h1,h2]
theorem bG.mono{n0:Nat}{h:ae}{k:Tok}(hk:bG n0 h k){n1:Nat}(hn:n1<=n0):bG n1 h k:=by
 rcases hk with rfl|rfl|⟨m,rfl,hm,ha⟩
 ·exact .inl rfl
 ·exact .inr (.inl rfl)
 ·exact .inr (.inr ⟨m,rfl,by omega,ha⟩)
theorem bG.ext{n0:Nat}{h h':ae}{k:Tok}(hk:bG n0 h k)(x:Ext h h'):bG n0 h' k:=by
 rcases hk with rfl|rfl|⟨m,rfl,hm,ha⟩
 ·exact .inl rfl
 ·exact .inr (.inl rfl)
 ·exact .inr (.inr ⟨m,rfl,hm,x.alive ha⟩)
theorem bG.next{n0:Nat}{h:ae}{k:Tok}(hk:bG n0 h k)(ho:aZ h=true)(hn:n0<=h.tn):bG n0 (h.app k) (.free h.tn):=
 .inr (.inr ⟨h.tn,rfl,hn,FV ho (hk.mono (Nat.zero_le _))⟩)
end Go.AE
end
section
namespace Go.AE
theorem jF.cons_inv{H:Type}{P:Program}{t:TypeId}{ts:List TypeId}{xs:List AV}{ds:List (DataW H)}(h:jF P (t::ts) xs ds):∃x xs' d ds',xs=x::xs'/\ds=d::ds'/\jy P t x d/\jF P ts xs' ds':=by
 cases xs with
 |nil=>cases ds<;>exact h.elim
 |cons x xs=>
  cases ds with
  |nil=>exact h.elim
  |cons d ds=>exact⟨x,xs,d,ds,rfl,rfl,h.1,h.2⟩
theorem jF.L7{H:Type}{P:Program}{xs:List AV}{ds:List (DataW H)}(h:jF P [] xs ds):xs=[]:=by
 cases xs with
 |nil=>rfl
 |cons x xs=>cases ds<;>exact h.elim
section
variable {P:Program} {t:TypeId} {x y:Operand}
theorem IP{d:TypeDesc}(hu:P.underlying t=some d):bQ P (underlying t)=some d:=by
 unfold underlying
 simp only[fE]
 show(some P).bind _=_
 simp only[Option.bind_some,hu]
 rfl
theorem AG{v:Value}{ms:Array (String × TypeId)}(hu:P.underlying t=some (.interface ms)):bB P .neq t x (.const v) (.v .nilIface) (.v .nilIface)=some (.v (.bool false)):=by
 have h1:bB P .neq t x (.const v) (.v .nilIface) (.v .nilIface)=(bQ P (do eqGuard .neq t x (.const v) .nilIface .nilIface;binOp .neq t .nilIface .nilIface)).bind eS:=rfl
 have h2:bQ P (eqGuard .neq t x (.const v) .nilIface .nilIface)=some ():=by cases x<;>rfl
 have h3:bQ P (Op.equal t .nilIface .nilIface)=some true:=by
  unfold Op.equal Op.maxDepth Op.equalIn
  rw[fE,IP hu]
  rfl
 have h4:bQ P (binOp .neq t .nilIface .nilIface)=some (.bool false):=by
  show bQ P (do pure (Value.bool (!(<-Op.equal t .nilIface .nilIface))))=_
  rw[fE,h3]
  rfl
 rw[h1,fE,h2,Option.bind_some,h4]
 rfl
end
end Go.AE
end
