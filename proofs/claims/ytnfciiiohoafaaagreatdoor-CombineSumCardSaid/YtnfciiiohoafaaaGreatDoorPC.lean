/-
  The engine, part 18: running code on values that are not known: equations for simp.
-/
import Derived.Test.YtnfciiiohoafaaaGreatDoorPB
import Derived.Laws.BitsLemmas
import Derived.ChangeArms
import Derived.OpenShut
import Derived.Carry
import Derived.ProofKit
import Derived.ChangeSame
import Derived.KernelRfl
import Derived.Test.YtnfciiiohoafaaaGreatDoorChecked
open List renaming range'→agt,range'_succ→agA,drop_eq_getElem_cons→ac9,drop_zero→abZ,range_eq_range'→aeI,all_eq_true→abE,mem_range→abQ,drop_take→aez,getElem?_toArray→abP,getElem?_eq_getElem→abo,mem_cons_self→abM,getElem?_append_left→ab5,flatten_cons→acp,getElem?_append_right→acE,mem_cons_of_mem→abH,mem_append_left→aeH,mem_append_right→af0,mem_append→acX,getElem?_set→aci,getElem?_eq_some_iff→abm,range→aby,take_length→abU,mem_cons→acd,getElem?_eq_none→acf,mem_iff_getElem→ac8,getElem?_map→abF,toArray→afM,getElem?_set_ne→adR,cons_append→ab3,getElem?_take→acj,map_cons→abK,map_nil→ac6,getElem?_cons_zero→abN,getElem?_cons_succ→ace,length_cons→ab0,length_append→abx,take_take→afq,drop_drop→adb,mem_of_mem_take→acq,length_drop→abS,length_take→abI,ext_getElem→aef,getElem_map→acA,replicate→abt,all_cons→aen,nodup_cons→aet,mem_map→aco,map_map→ad5,map_append→acv,map_congr_left→adZ,zipWith→aeA,getD_eq_getElem?_getD→abw,getElem_mem→ab1,length_zipWith→agd,getElem_zipWith→afl,length_map→abu,getElem_drop→ae1,getElem_set_self→aeB,getElem_set_ne→aeL,getElem_set→adi,mem_or_eq_of_mem_set→ach,length_singleton→aeC,range_succ→acx,foldl_append→acs,foldl_cons→ado,foldl_nil→afr,getElem?_replicate→ael,getElem_zipIdx→age
open Array renaming getElem?_eq_getElem→abV,getElem_toList→aga,getElem?_eq_none→acQ
open Option renaming some.injEq→abA,map_some→abJ,map_none→aeO,isSome_none→acW,bind_some→acu,getD_some→aee
open Prod renaming mk.injEq→abC
open Bool renaming not_true→aeJ,false_eq_true→abW,not_false→adL,and_eq_true→abr,or_eq_true→acS,eq_iff_iff→aes,not_eq_true'→ac0,true_and→ac2,false_and→ade,and_assoc→agH
open Nat renaming le_refl→abq,beq→acL,zero_le→abG,add_mul→ab4,le_trans→abT,lt_of_lt_of_le→ab8,le_succ→aft,lt_or_ge→abL,add_zero→adO,zero_mul→aeS,mul_le_mul_right→ab6,min_eq_left→adD,add_comm→agP,Coprime→acR,Coprime.symm→afb,dvd_of_mod_eq_zero→adH,le_of_dvd→aeo,mod_lt→acK,eq_zero_or_pos→adM,mul_add→agu,add_mod→afw,mul_assoc→ae8,mul_mod_mod→agE,mul_le_mul_left→afp,mod_eq_of_lt→acn,one_mul→aeb,mod_mul_mod→afh,div_add_mod→afi,mul_mod→adk,mul_one→acM,mul_comm→afN,mod_two_eq_zero_or_one→ac4,pow_pos→afY,mul_add_mod→afU,pow_succ→aeg,pow_mod→ae6,pow_mul→aeK,one_pow→agx,pow_add→agW
open And renaming intro→abp
open Int renaming toNat_natCast→abB,natCast_mul→acY,mul_left_comm→adC,pow_succ→adS,mul_assoc→adz,mul_comm→ad6,pow_add→agv,sub_mul→afX,mul_sub→aec,dvd_add→ad3,dvd_mul_of_dvd_right→adv,natAbs_dvd_natAbs→af1,natAbs_natCast→afA,natCast_add→agF,mul_add→afx,mul_one→ae3,one_mul→ae4,pow_mul→ae5,natCast_dvd_natCast→aeZ,emod_nonneg→adT,emod_lt_of_pos→adw,add_emod→agQ,mul_emod→aeh,mul_zero→afj,zero_mul→afk,sub_emod→agR,neg_zero→agS,neg_mul→agX,ofNat_lt→agT,natCast_emod→afP,sub_self→afQ,emod_add_mul_ediv→af2,dvd_sub→agy,dvd_zero→agm
open Decidable renaming not_not→ae2
set_option linter.unusedSimpArgs false
set_option linter.unusedVariables false
set_option linter.constructorNameAsVariable false
section
namespace Go.AE
def Env.st(e:Env)(d:Nat)(x:AV):Env:={e with tmps:=e.tmps.set d x}
theorem Ik(e:Env)(d:Nat)(x:AV):e.put (some d) x=e.st d x:=rfl
theorem Il(e:Env)(x:AV):e.put none x=e:=rfl
theorem yy(e:Env)(d t:Nat)(x:AV):(e.st d x).get t=if d=t then x else e.get t:=mB e.tmps d t x
theorem Fz(e:Env)(d:Nat)(x:AV):(e.st d x).defers=e.defers:=rfl
theorem Oa(e:Env)(d:Nat)(x:AV):(e.st d x).pan=e.pan:=rfl
theorem Ap(e:Env)(d:Nat)(x:AV):(e.st d x).round=e.round:=rfl
def Env.start(args:List AV)(p:Option (AV × Bool)):Env:={tmps:={ch:=[],base:=args},defers:=[],pan:=p,round:=none}
theorem FA(args:List AV)(p:Option (AV × Bool))(t:Nat):(Env.start args p).get t=args.getD t (.tuple []):=rfl
theorem yz(args:List AV)(p:Option (AV × Bool)):(Env.start args p).defers=[]:=rfl
theorem FB(args:List AV)(p:Option (AV × Bool)):(Env.start args p).pan=p:=rfl
theorem oA(args:List AV)(p:Option (AV × Bool)):(Env.start args p).round=none:=rfl
theorem lv(e:Env)(t:Nat):e.eval (.tmp t)=e.get t:=rfl
theorem eval_const(e:Env)(v:Value):e.eval (.const v)=lX v:=rfl
theorem eval_func(e:Env)(f:FuncId):e.eval (.func f)=.func (.func f) [] []:=rfl
theorem eval_global(e:Env)(g:Nat):e.eval (.global g)=.ptr (.dW g) 0:=rfl
theorem FC(k:IntKind)(n:Int):lX (.int k n)=.v (.int k n):=rfl
theorem CA(b:Bool):lX (.bool b)=.v (.bool b):=rfl
theorem yA(s:ByteArray):lX (.string s)=.v (.string s):=rfl
theorem uQ:lX .nilIface=.v .nilIface:=rfl
theorem wm:lX .nilFunc=.v .nilFunc:=rfl
theorem yB:lX (.pointer none)=.v (.pointer none):=rfl
theorem uR:lX (.slice none 0 0)=.list .nil 0 []:=rfl
theorem FD(cs:List Value):lX (.agg ⟨cs⟩)=.agg (cs.map kK):=rfl
section
variable (P:Program) (G:Nat->Option (List AV)) (R:Rec)
def pK(ops:Array Oper):List Oper->Env->ae->Option (Xt × Env × ae)
 | [],e,h=>some (.normal,e,h)
 |o::rest,e,h=>
  match bg ops e o with
  |none=>none
  |some false=>pK ops rest (e.put o.dst (.tuple [])) h
  |some true=>
   match dC P G R e h o with
   |some (.ret x,e,h)=>pK ops rest (e.put o.dst x) h
   |some (.panic x,e,h)=>some (.panic x,e,h)
   |none=>none
theorem yC(ops:Array Oper):∀(n i:Nat),i+n=ops.size->∀(e:Env) (h:ae),br P G R ops (agt i n) e h=pK P G R ops (ops.toList.drop i) e h:=by
 intro n
 induction n with
 |zero=>
  intro i hi e h
  rw[List.drop_eq_nil_of_le (by simp;omega)]
  rfl
 |succ n ih=>
  intro i hi e h
  have hlt:i<ops.size:=by omega
  have ho:ops[i]?=some ops[i]:=abV hlt
  rw[agA,ac9 (by simpa using hlt)]
  simp only[br,pK,ho,aga]
  cases bg ops e ops[i] with
  |none=>rfl
  |some b=>
   cases b with
   |false=>exact ih (i+1) (by omega) _ _
   |true=>
    simp only
    cases dC P G R e h ops[i] with
    |none=>rfl
    |some q=>
     obtain⟨r,e1,h1⟩:=q
     cases r with
     |ret x=>exact ih (i+1) (by omega) _ _
     |panic x=>rfl
def Aq(r:Option (Xt × Env × ae))(Q:Xt->Env->ae->Prop):Prop:=∃o e h,r=some (o,e,h)/\Q o e h
def Run(c:Code)(e:Env)(h:ae)(Q:Xt->Env->ae->Prop):Prop:=Aq (R.code c e h) Q
def cz(ops:Array Oper)(l:List Oper)(e:Env)(h:ae)(Q:Xt->Env->ae->Prop):Prop:=Aq (pK P G R ops l e h) Q
end
theorem ft{o:Xt}{e:Env}{h:ae}{Q:Xt->Env->ae->Prop}:Aq (some (o,e,h)) Q=Q o e h:=
 propext ⟨fun⟨_,_,_,h1,h2⟩=>by
  simp only[abA,abC] at h1
  obtain⟨rfl,rfl,rfl⟩:=h1
  exact h2,fun hq=>⟨o,e,h,rfl,hq⟩⟩
theorem ey{Q:Xt->Env->ae->Prop}:Aq none Q=False:=propext ⟨fun⟨_,_,_,h1,_⟩=>(by cases h1),False.elim⟩
theorem Aq.mono{r:Option (Xt × Env × ae)}{Q Q':Xt->Env->ae->Prop}(h:∀o e h,Q o e h->Q' o e h)(hr:Aq r Q):Aq r Q':=by
 obtain⟨o,e,h1,h2,h3⟩:=hr
 exact⟨o,e,h1,h2,h _ _ _ h3⟩
def guardOf(ops:Array Oper)(j:Nat):Option Tmp:=(ops[j]?).bind (·.dst)
theorem yD{o:Oper}{l:List Oper}:guardOf ⟨o::l⟩ 0=o.dst:=rfl
theorem yE{o:Oper}{l:List Oper}{n:Nat}:guardOf ⟨o::l⟩ (n+1)=guardOf ⟨l⟩ n:=by simp[guardOf]
def pW(R:Rec)(a b:Code)(e:Env)(h:ae)(Q:Xt->Env->ae->Prop)(x:AV):Prop:=
 match x with
 | .v (.bool t)=>if t=true then Run R a e h Q else Run R b e h Q
 |_=>False
def fw(P:Program)(G:Nat->Option (List AV))(R:Rec)(ops:Array Oper)(o:Oper)(rest:List Oper)(e:Env)(h:ae)(Q:Xt->Env->ae->Prop)(want:Bool)(x:AV):Prop:=
 match x with
 | .v (.bool b)=>if b=want then cz P G R ops (o::rest) e h Q else cz P G R ops rest (e.put o.dst (.tuple [])) h Q
 | .tuple []=>cz P G R ops rest (e.put o.dst (.tuple [])) h Q
 |_=>False
def Im(P:Program)(G:Nat->Option (List AV))(R:Rec)(ops:Array Oper)(o:Oper)(rest:List Oper)(e:Env)(h:ae)(Q:Xt->Env->ae->Prop)(want:Bool)(d:Option Tmp):Prop:=
 match d with
 |some g=>fw P G R ops o rest e h Q want (e.get g)
 |none=>cz P G R ops rest (e.put o.dst (.tuple [])) h Q
section
variable {P:Program} {G:Nat->Option (List AV)} {R:Rec} {a b:Code} {e:Env} {h:ae} {Q:Xt->Env->ae->Prop} {ops:Array Oper} {o:Oper} {rest:List Oper} {p:Prop} [Decidable p] {t:Bool}
theorem Ar:pW R a b e h Q (.v (.bool true))=Run R a e h Q:=rfl
theorem yF:pW R a b e h Q (.v (.bool false))=Run R b e h Q:=rfl
theorem CB(h1:p->Run R a e h Q)(h2:¬p->Run R b e h Q):pW R a b e h Q (.v (.bool (decide p))):=by
 unfold pW
 simp only[decide_eq_true_eq]
 split
 ·rename_i hp;exact h1 hp
 ·rename_i hp;exact h2 hp
theorem As(h1:p->Run R b e h Q)(h2:¬p->Run R a e h Q):pW R a b e h Q (.v (.bool (!decide p))):=by
 unfold pW
 by_cases hp:p
 ·simp only[hp,decide_true,aeJ,abW,if_false];exact h1 hp
 ·simp only[hp,decide_false,adL,if_true];exact h2 hp
theorem At(h1:t=true->Run R a e h Q)(h2:t=false->Run R b e h Q):pW R a b e h Q (.v (.bool t)):=by
 cases t
 ·exact h2 rfl
 ·exact h1 rfl
theorem Io:fw P G R ops o rest e h Q true (.v (.bool true))=cz P G R ops (o::rest) e h Q:=rfl
theorem Ip:fw P G R ops o rest e h Q true (.v (.bool false))=cz P G R ops rest (e.put o.dst (.tuple [])) h Q:=rfl
theorem Iq:fw P G R ops o rest e h Q false (.v (.bool true))=cz P G R ops rest (e.put o.dst (.tuple [])) h Q:=rfl
theorem Ir:fw P G R ops o rest e h Q false (.v (.bool false))=cz P G R ops (o::rest) e h Q:=rfl
theorem Is{w:Bool}:fw P G R ops o rest e h Q w (.tuple [])=cz P G R ops rest (e.put o.dst (.tuple [])) h Q:=rfl
theorem FE{w:Bool}(h1:p->fw P G R ops o rest e h Q w (.v (.bool true)))(h2:¬p->fw P G R ops o rest e h Q w (.v (.bool false))):fw P G R ops o rest e h Q w (.v (.bool (decide p))):=by
 by_cases hp:p
 ·simp only[hp,decide_true];exact h1 hp
 ·simp only[hp,decide_false];exact h2 hp
theorem CC{w:Bool}(h1:p->fw P G R ops o rest e h Q w (.v (.bool false)))(h2:¬p->fw P G R ops o rest e h Q w (.v (.bool true))):fw P G R ops o rest e h Q w (.v (.bool (!decide p))):=by
 by_cases hp:p
 ·simp only[hp,decide_true];exact h1 hp
 ·simp only[hp,decide_false];exact h2 hp
theorem CD{w:Bool}(h1:t=true->fw P G R ops o rest e h Q w (.v (.bool true)))(h2:t=false->fw P G R ops o rest e h Q w (.v (.bool false))):fw P G R ops o rest e h Q w (.v (.bool t)):=by
 cases t
 ·exact h2 rfl
 ·exact h1 rfl
theorem Au{w:Bool}(h1:t=true->fw P G R ops o rest e h Q w (.v (.bool false)))(h2:t=false->fw P G R ops o rest e h Q w (.v (.bool true))):fw P G R ops o rest e h Q w (.v (.bool (!t))):=by
 cases t
 ·exact h2 rfl
 ·exact h1 rfl
theorem yG(h1:t=true->Run R b e h Q)(h2:t=false->Run R a e h Q):pW R a b e h Q (.v (.bool (!t))):=by
 cases t
 ·exact h2 rfl
 ·exact h1 rfl
theorem FF{w:Bool}{g:Tmp}:Im P G R ops o rest e h Q w (some g)=fw P G R ops o rest e h Q w (e.get g):=rfl
end
def It(R:Rec)(c:Code)(Q:Xt->Env->ae->Prop):Xt->Env->ae->Prop
 | .normal,e,h=>Run R c e h Q
 |o,e,h=>Q o e h
def uS(id:Nat)(Q:Xt->Env->ae->Prop):Xt->Env->ae->Prop
 | .exit i,e,h=>if i=id then Q .normal e h else Q (.exit i) e h
 |o,e,h=>Q o e h
def rh(Q:Xt->Env->ae->Prop):Xt->Env->ae->Prop
 | .normal,e,h=>Q .normal e h
 |_,_,_=>False
section
variable {R:Rec} {c:Code} {Q:Xt->Env->ae->Prop} {e:Env} {h:ae}
theorem Av:It R c Q .normal e h=Run R c e h Q:=rfl
theorem Iu:It R c Q .ret e h=Q .ret e h:=rfl
theorem FG{i:Nat}:It R c Q (.exit i) e h=Q (.exit i) e h:=rfl
theorem CE{x:AV}:It R c Q (.panic x) e h=Q (.panic x) e h:=rfl
theorem wq{id:Nat}:uS id Q .normal e h=Q .normal e h:=rfl
theorem CF{id:Nat}:uS id Q .ret e h=Q .ret e h:=rfl
theorem tq{id i:Nat}:uS id Q (.exit i) e h=if i=id then Q .normal e h else Q (.exit i) e h:=rfl
theorem yH{id:Nat}{x:AV}:uS id Q (.panic x) e h=Q (.panic x) e h:=rfl
theorem yI:rh Q .normal e h=Q .normal e h:=rfl
theorem Aw{x:AV}:rh Q (.panic x) e h=False:=rfl
end
section
variable {P:Program} {G:Nat->Option (List AV)} {prims:FuncId->Option (List AV->ae->Option (AV × ae))} {Q:Xt->Env->ae->Prop} {e:Env} {h:ae}
theorem Iv:Run (whole P G prims) .skip e h Q=Q .normal e h:=by rw[Run,dz];exact ft
theorem FH{l:Nat}:Run (whole P G prims) (.label l) e h Q=Q .normal e h:=by rw[Run,dz];exact ft
theorem FI{a:Code}:Run (whole P G prims) (.scope a) e h Q=Run (whole P G prims) a e h Q:=by
 unfold Run
 rw[dz]
 simp only[b7]
theorem Iw{id:Nat}:Run (whole P G prims) (.exit id) e h Q=Q (.exit id) e h:=by rw[Run,dz];exact ft
theorem LI:Run (whole P G prims) .ret e h Q=Q .ret e h:=by rw[Run,dz];exact ft
theorem run_seq{a b:Code}:Run (whole P G prims) (.seq a b) e h Q=Run (whole P G prims) a e h (It (whole P G prims) b Q):=by
 unfold Run
 rw[dz]
 simp only[b7]
 cases ha:(whole P G prims).code a e h with
 |none=>simp only[ey]
 |some q=>
  obtain⟨o,e1,h1⟩:=q
  cases o<;>simp only[ft]<;>rfl
theorem Ix{c:Operand}{a b:Code}:Run (whole P G prims) (.cond c a b) e h Q=pW (whole P G prims) a b e h Q (e.eval c):=by
 unfold Run pW
 rw[dz]
 simp only[b7]
 generalize e.eval c=x
 rcases x with _|v|_|_|_|_|_|_|_|_|_
 case v=>
  cases v with
  |bool t=>cases t<;>rfl
  |_=>simp only[ey]
 all_goals (simp only[ey])
theorem FJ{id:Nat}{a:Code}:Run (whole P G prims) (.block id a) e h Q=Run (whole P G prims) a e h (uS id Q):=by
 unfold Run
 rw[dz]
 simp only[b7]
 cases ha:(whole P G prims).code a e h with
 |none=>simp only[ey]
 |some q=>
  obtain⟨o,e1,h1⟩:=q
  cases o with
  |exit i=>
   simp only[ft,tq]
   split<;>simp only[ft]
  |_=>simp only[ft]<;>rfl
theorem CG{id:Nat}{ops:Array Oper}:Run (whole P G prims) (.region id ops false) e h Q=cz P G (whole P G prims) ops ops.toList e h Q:=by
 unfold Run cz
 rw[dz]
 simp only[b7,abW,if_false]
 have:=yC P G (whole P G prims) ops ops.size 0 (by omega) e h
 rw[abZ] at this
 rw[<-this,aeI]
theorem CH{R:Rec}{ops:Array Oper}(hd:Cd ops=true)(e:Env)(h:ae):df P G R ops e h=true:=by
 unfold Cd at hd
 unfold df
 simp only[abr,abE,abQ,acS] at hd ⊢
 exact⟨hd.1,fun j hj i hi=>.inl (.inl (hd.2 j hj i hi))⟩
theorem oB{id:Nat}{ops:Array Oper}(hd:df P G (whole P G prims) ops e h=true)(hr:cz P G (whole P G prims) ops ops.toList e h (rh Q)):Run (whole P G prims) (.region id ops true) e h Q:=by
 unfold Run cz at *
 rw[dz]
 simp only[b7,if_true,hd,Bool.true_or]
 have:=yC P G (whole P G prims) ops ops.size 0 (by omega) e h
 rw[abZ] at this
 rw[<-this,<-aeI] at hr
 obtain⟨o,e1,h1,h2,h3⟩:=hr
 rw[h2]
 cases o with
 |normal=>exact⟨_,_,_,rfl,h3⟩
 |_=>exact h3.elim
theorem run_draw_stores{id:Nat}{ops:Array Oper}(D:gu P G (whole P G prims) ops e h=true)(hr:cz P G (whole P G prims) ops ops.toList e h (rh Q)):Run (whole P G prims) (.region id ops true) e h Q:=by
 unfold Run cz at *
 rw[dz]
 have:=yC P G (whole P G prims) ops ops.size 0 (by omega) e h
 rw[abZ] at this
 rw[<-this,<-aeI] at hr
 obtain⟨o,e1,h1,h2,h3⟩:=hr
 simp only[b7,if_true,D,Bool.or_true,h2]
 cases o with
 |normal=>exact⟨_,_,_,rfl,h3⟩
 |_=>exact h3.elim
theorem aP{id:Nat}{ops:Array Oper}(hd:Cd ops=true)(hr:cz P G (whole P G prims) ops ops.toList e h (rh Q)):Run (whole P G prims) (.region id ops true) e h Q:=
 oB (CH hd e h) hr
def uT(I:Nat->Env->ae->Prop)(n:Nat)(Q:Xt->Env->ae->Prop):Xt->Env->ae->Prop
 | .normal,e,h=>∃m,m<n/\I m e h
 |o,e,h=>Q o e h
theorem yJ{I:Nat->Env->ae->Prop}{n:Nat}:uT I n Q .normal e h=∃m,m<n/\I m e h:=rfl
theorem FK{I:Nat->Env->ae->Prop}{n:Nat}:uT I n Q .ret e h=Q .ret e h:=rfl
theorem CI{I:Nat->Env->ae->Prop}{n i:Nat}:uT I n Q (.exit i) e h=Q (.exit i) e h:=rfl
theorem Ax{I:Nat->Env->ae->Prop}{n:Nat}{x:AV}:uT I n Q (.panic x) e h=Q (.panic x) e h:=rfl
theorem aD{c:Code}(I:Nat->Env->ae->Prop)(hstep:∀n e h,I n e h->Run (whole P G prims) c e h (uT I n Q)):
 ∀n e h,I n e h->Run (whole P G prims) (.loop c) e h Q:=by
 intro n
 induction n using Nat.strongRecOn with
 |_ n ih=>
  intro e h hi
  obtain⟨o,e1,h1,h2,h3⟩:=hstep n e h hi
  unfold Run
  rw[dz]
  simp only[b7,h2]
  cases o with
  |normal=>
   obtain⟨m,hm,hi'⟩:=h3
   exact ih m hm e1 h1 hi'
  |_=>exact⟨_,_,_,rfl,h3⟩
theorem Run.mono{R:Rec}{c:Code}{Q1:Xt->Env->ae->Prop}{h1:ae}(hq:∀o e h,Q o e h->Q1 o e h)(hr:Run R c e h1 Q):Run R c e h1 Q1:=Aq.mono hq hr
def yK(P:Program)(G:Nat->Option (List AV))(R:Rec)(fn:Func)(r:Res)(h':ae):Xt->Env->ae->Prop
 | .normal,e,h=>bD P G R fn e e.defers none h=some (r,h')
 | .ret,e,h=>bD P G R fn e e.defers none h=some (r,h')
 | .panic x,e,h=>bD P G R fn e e.defers (some (x,false)) h=some (r,h')
 | .exit _,_,_=>False
theorem ar{g:FuncId}{fn:Func}{body:Code}{args:List AV}{r:Res}{h':ae}(hp:prims g=none)(hfn:P.funcs[g]?=some fn)(hb:fn.body=some body)
 (hr:Run (whole P G prims) body (Env.start args none) h (yK P G (whole P G prims) fn r h')):(whole P G prims).call g args h=some (r,h'):=by
 rw[lu]
 unfold gQ
 rw[hp]
 unfold iB
 rw[hfn]
 simp only[hb]
 obtain⟨o,e1,h1,h2,h3⟩:=hr
 have h2:(whole P G prims).code body {tmps:={ch:=[],base:=args},defers:=[],pan:=none,round:=none} h=some (o,e1,h1):=h2
 rw[h2]
 cases o with
 |exit i=>exact h3.elim
 |_=>simp only[yK] at h3;simp only[h3,abJ]
theorem yL{g:FuncId}{fn:Func}{body:Code}{args:List AV}{m m':Option (AV × Bool)}{r:Res}{h':ae}(hfn:P.funcs[g]?=some fn)(hb:fn.body=some body)
 (hr:Run (whole P G prims) body (Env.start args m) h fun o e h1=>yK P G (whole P G prims) fn r h' o e h1/\e.pan=m'):(whole P G prims).fg g args m h=some (r,m',h'):=by
 rw[An]
 unfold iB
 rw[hfn]
 simp only[hb]
 obtain⟨o,e1,h1,h2,h3,h4⟩:=hr
 have h2:(whole P G prims).code body {tmps:={ch:=[],base:=args},defers:=[],pan:=m,round:=none} h=some (o,e1,h1):=h2
 rw[h2]
 cases o with
 |exit i=>exact h3.elim
 |_=>simp only[yK] at h3;simp only[h3,abJ,h4]
theorem Ay{R:Rec}{fn:Func}{r:Res}{h':ae}:yK P G R fn r h' .normal e h=(bD P G R fn e e.defers none h=some (r,h')):=rfl
theorem Iy{R:Rec}{fn:Func}{r:Res}{h':ae}:yK P G R fn r h' .ret e h=(bD P G R fn e e.defers none h=some (r,h')):=rfl
theorem CJ{R:Rec}{fn:Func}{r:Res}{h':ae}{x:AV}:yK P G R fn r h' (.panic x) e h=(bD P G R fn e e.defers (some (x,false)) h=some (r,h')):=rfl
theorem CK{R:Rec}{fn:Func}:bD P G R fn e [] none h=(mz P G fn e h).map fun x=>(.ret x,h):=rfl
theorem yM{R:Rec}{fn:Func}{x:AV}{b:Bool}:bD P G R fn e [] (some (x,b)) h=some (.panic x,h):=rfl
section
variable {R:Rec} {ops:Array Oper} {rest:List Oper} {d:Option Tmp} {ty:TypeId} {pos:String} {af:Array Edge}
theorem Iz:cz P G R ops [] e h Q=Q .normal e h:=ft
theorem CL{op:Op}{j:Nat}{want:Bool}:cz P G R ops (⟨d,op,ty,pos,af,some (j,want)⟩::rest) e h Q=
 Im P G R ops ⟨d,op,ty,pos,af,none⟩ rest e h Q want (guardOf ops j):=by
 unfold cz guardOf Im fw cz
 simp only[pK,bg]
 cases (ops[j]?).bind (·.dst) with
 |none=>rfl
 |some g=>
  simp only
  generalize e.get g=x
  rcases x with _|v|_|_|_|cs|_|_|_|_|_
  case v=>
   cases v with
   |bool b=>
    simp only
    by_cases hb:b=want
    ·subst hb;simp only[beq_self_eq_true,if_true];rfl
    ·have:(b==want)=false:=by simpa using hb
     simp only[this,if_neg hb]
   |_=>simp only[ey]
  case tuple=>cases cs<;>simp only[ey]
  all_goals (simp only[ey])
def after(P:Program)(G:Nat->Option (List AV))(R:Rec)(ops:Array Oper)(rest:List Oper)(d:Option Tmp)(e:Env)(Q:Xt->Env->ae->Prop):Option (AV × ae)->Prop
 |some (x,h)=>cz P G R ops rest (e.put d x) h Q
 |none=>False
theorem CM{x:AV}:after P G R ops rest d e Q (some (x,h))=cz P G R ops rest (e.put d x) h Q:=rfl
def opsOf(o:Op):Bool:=
 match o with
 | .call _| .defer _| .panic _=>false
 |_=>true
theorem b8{op:Op}(ho:opsOf op=true):cz P G R ops (⟨d,op,ty,pos,af,none⟩::rest) e h Q=after P G R ops rest d e Q (aO P G e.eval h op):=by
 unfold cz
 simp only[pK,bg]
 have hop:dC P G R e h ⟨d,op,ty,pos,af,none⟩=(aO P G e.eval h op).map fun(x,h)=>(.ret x,e,h):=by
  cases op<;>first|rfl|(simp[opsOf] at ho)
 rw[hop]
 cases aO P G e.eval h op with
 |none=>simp only[aeO,ey];rfl
 |some q=>obtain⟨x,h1⟩:=q;rfl
def CN(P:Program)(G:Nat->Option (List AV))(R:Rec)(ops:Array Oper)(rest:List Oper)(d:Option Tmp)(e:Env)(Q:Xt->Env->ae->Prop):Option (Res × ae)->Prop
 |some (.ret x,h)=>cz P G R ops rest (e.put d x) h Q
 |some (.panic x,h)=>Q (.panic x) e h
 |none=>False
theorem CO{x:AV}:CN P G R ops rest d e Q (some (.ret x,h))=cz P G R ops rest (e.put d x) h Q:=rfl
theorem yN{x:AV}:CN P G R ops rest d e Q (some (.panic x,h))=Q (.panic x) e h:=rfl
theorem CP{f:Operand}{args:Array Operand}{ts:Array TypeId}:cz P G R ops (⟨d,.call {callee:=.value f,args,argTypes:=ts},ty,pos,af,none⟩::rest) e h Q=
 CN P G R ops rest d e Q (eI P R e h {callee:=.value f,args,argTypes:=ts}):=by
 unfold cz
 simp only[pK,bg,dC]
 cases eI P R e h {callee:=.value f,args,argTypes:=ts} with
 |none=>simp only[aeO,ey];rfl
 |some q=>obtain⟨r,h1⟩:=q;cases r<;>simp only[abJ,ft]<;>rfl
theorem xc{g:FuncId}{args:Array Operand}{ts:Array TypeId}:eI P R e h {callee:=.value (.func g),args,argTypes:=ts}=R.call g (args.toList.map e.eval) h:=by
 simp[eI,eval_func]
theorem Az{t:Nat}{args:Array Operand}{ts:Array TypeId}:eI P R e h {callee:=.value (.tmp t),args,argTypes:=ts}=
 (match e.get t with
  | .func (.func g) first cap=>R.call g (first++args.toList.map e.eval++cap) h
  | .yield l=>R.round l (args.toList.map e.eval) h
  |_=>none):=rfl
def IA:Builtin->Bool
 | .recover| .panic| .append=>false
 |_=>true
theorem iH{b:Builtin}{args:Array Operand}{ts:Array TypeId}(hb:IA b=true):cz P G R ops (⟨d,.call {callee:=.builtin b,args,argTypes:=ts},ty,pos,af,none⟩::rest) e h Q=
 after P G R ops rest d e Q (bK P h b ts ty (args.toList.map e.eval)):=by
 unfold cz
 simp only[pK,bg]
 have hop:dC P G R e h ⟨d,.call {callee:=.builtin b,args,argTypes:=ts},ty,pos,af,none⟩=(bK P h b ts ty (args.toList.map e.eval)).map fun(x,h)=>(.ret x,e,h):=by
  cases b<;>first|rfl|(simp[IA] at hb)
 rw[hop]
 cases bK P h b ts ty (args.toList.map e.eval) with
 |none=>simp only[aeO,ey];rfl
 |some q=>obtain⟨x,h1⟩:=q;rfl
theorem LJ(x:Operand):cz P G R ops (⟨d,.move x,ty,pos,af,none⟩::rest) e h Q=after P G R ops rest d e Q (aO P G e.eval h (.move x)):=b8 rfl
theorem FL(x:Operand):cz P G R ops (⟨d,.assign x,ty,pos,af,none⟩::rest) e h Q=after P G R ops rest d e Q (aO P G e.eval h (.assign x)):=b8 rfl
theorem LK(c a b:Operand):cz P G R ops (⟨d,.pick c a b,ty,pos,af,none⟩::rest) e h Q=after P G R ops rest d e Q (aO P G e.eval h (.pick c a b)):=b8 rfl
theorem IB(t:TypeId):cz P G R ops (⟨d,.alloc t,ty,pos,af,none⟩::rest) e h Q=after P G R ops rest d e Q (aO P G e.eval h (.alloc t)):=b8 rfl
theorem Ob(t:TypeId)(x:Operand):cz P G R ops (⟨d,.box t x,ty,pos,af,none⟩::rest) e h Q=after P G R ops rest d e Q (aO P G e.eval h (.box t x)):=b8 rfl
theorem IC(t:TypeId)(ps:Array (Nat × Operand)):cz P G R ops (⟨d,.build t ps,ty,pos,af,none⟩::rest) e h Q=after P G R ops rest d e Q (aO P G e.eval h (.build t ps)):=b8 rfl
theorem wu(t:TypeId)(n:Nat)(ps:Array (Nat × Operand)):cz P G R ops (⟨d,.buildSlice t n ps,ty,pos,af,none⟩::rest) e h Q=after P G R ops rest d e Q (aO P G e.eval h (.buildSlice t n ps)):=b8 rfl
theorem LL(t:TypeId)(a:Operand):cz P G R ops (⟨d,.load t a,ty,pos,af,none⟩::rest) e h Q=after P G R ops rest d e Q (aO P G e.eval h (.load t a)):=b8 rfl
theorem ID(t:TypeId)(a x:Operand):cz P G R ops (⟨d,.store t a x,ty,pos,af,none⟩::rest) e h Q=after P G R ops rest d e Q (aO P G e.eval h (.store t a x)):=b8 rfl
theorem AA(x:Operand):cz P G R ops (⟨d,.nilCheck x,ty,pos,af,none⟩::rest) e h Q=after P G R ops rest d e Q (aO P G e.eval h (.nilCheck x)):=b8 rfl
theorem IE(o:BinOp)(t:TypeId)(x y:Operand)(yt:TypeId):cz P G R ops (⟨d,.binOp o t x y yt,ty,pos,af,none⟩::rest) e h Q=after P G R ops rest d e Q (aO P G e.eval h (.binOp o t x y yt)):=b8 rfl
theorem LM(o:UnOp)(t:TypeId)(x:Operand):cz P G R ops (⟨d,.unOp o t x,ty,pos,af,none⟩::rest) e h Q=after P G R ops rest d e Q (aO P G e.eval h (.unOp o t x)):=b8 rfl
theorem CQ(s t:TypeId)(x:Operand):cz P G R ops (⟨d,.convert s t x,ty,pos,af,none⟩::rest) e h Q=after P G R ops rest d e Q (aO P G e.eval h (.convert s t x)):=b8 rfl
theorem sC(t:TypeId)(x:Operand):cz P G R ops (⟨d,.makeInterface t x,ty,pos,af,none⟩::rest) e h Q=after P G R ops rest d e Q (aO P G e.eval h (.makeInterface t x)):=b8 rfl
theorem AB(fn:Fn)(first cap:Array Operand):cz P G R ops (⟨d,.makeFunc fn first cap,ty,pos,af,none⟩::rest) e h Q=after P G R ops rest d e Q (aO P G e.eval h (.makeFunc fn first cap)):=b8 rfl
theorem yO(t:TypeId)(l c:Operand):cz P G R ops (⟨d,.makeSlice t l c,ty,pos,af,none⟩::rest) e h Q=after P G R ops rest d e Q (aO P G e.eval h (.makeSlice t l c)):=b8 rfl
theorem IF(t:TypeId)(x:Operand)(lo hi mx:Option Operand):cz P G R ops (⟨d,.slice t x lo hi mx,ty,pos,af,none⟩::rest) e h Q=after P G R ops rest d e Q (aO P G e.eval h (.slice t x lo hi mx)):=b8 rfl
theorem yP(t:TypeId)(x:Operand)(f:Nat):cz P G R ops (⟨d,.fieldAddr t x f,ty,pos,af,none⟩::rest) e h Q=after P G R ops rest d e Q (aO P G e.eval h (.fieldAddr t x f)):=b8 rfl
theorem IG(t:TypeId)(x:Operand)(f:Nat):cz P G R ops (⟨d,.field t x f,ty,pos,af,none⟩::rest) e h Q=after P G R ops rest d e Q (aO P G e.eval h (.field t x f)):=b8 rfl
theorem yQ(t:TypeId)(x i:Operand):cz P G R ops (⟨d,.indexAddr t x i,ty,pos,af,none⟩::rest) e h Q=after P G R ops rest d e Q (aO P G e.eval h (.indexAddr t x i)):=b8 rfl
theorem IH(t:TypeId)(x i:Operand):cz P G R ops (⟨d,.index t x i,ty,pos,af,none⟩::rest) e h Q=after P G R ops rest d e Q (aO P G e.eval h (.index t x i)):=b8 rfl
theorem wx(x:Operand)(xt t:TypeId)(ok:Bool):cz P G R ops (⟨d,.typeAssert x xt t ok,ty,pos,af,none⟩::rest) e h Q=after P G R ops rest d e Q (aO P G e.eval h (.typeAssert x xt t ok)):=b8 rfl
theorem CR(x:Operand)(i:Nat):cz P G R ops (⟨d,.extract x i,ty,pos,af,none⟩::rest) e h Q=after P G R ops rest d e Q (aO P G e.eval h (.extract x i)):=b8 rfl
theorem Oc(args:Array Operand)(ts:Array TypeId):cz P G R ops (⟨d,.call {callee:=.builtin .len,args,argTypes:=ts},ty,pos,af,none⟩::rest) e h Q=after P G R ops rest d e Q (bK P h .len ts ty (args.toList.map e.eval)):=iH rfl
theorem Od(args:Array Operand)(ts:Array TypeId):cz P G R ops (⟨d,.call {callee:=.builtin .cap,args,argTypes:=ts},ty,pos,af,none⟩::rest) e h Q=after P G R ops rest d e Q (bK P h .cap ts ty (args.toList.map e.eval)):=iH rfl
theorem FM(args:Array Operand)(ts:Array TypeId):cz P G R ops (⟨d,.call {callee:=.builtin .append,args,argTypes:=ts},ty,pos,af,none⟩::rest) e h Q=after P G R ops rest d e Q (eV P G d h .append ts ty (args.toList.map e.eval)):=by
 unfold cz
 simp only[pK,bg]
 have hop:dC P G R e h ⟨d,.call {callee:=.builtin .append,args,argTypes:=ts},ty,pos,af,none⟩=(eV P G d h .append ts ty (args.toList.map e.eval)).map fun(x,h)=>(.ret x,e,h):=rfl
 rw[hop]
 cases eV P G d h .append ts ty (args.toList.map e.eval) with
 |none=>simp only[aeO,ey];rfl
 |some q=>obtain⟨x,h1⟩:=q;rfl
theorem LN(args:Array Operand)(ts:Array TypeId):cz P G R ops (⟨d,.call {callee:=.builtin .copy,args,argTypes:=ts},ty,pos,af,none⟩::rest) e h Q=after P G R ops rest d e Q (bK P h .copy ts ty (args.toList.map e.eval)):=iH rfl
theorem Oe(args:Array Operand)(ts:Array TypeId):cz P G R ops (⟨d,.call {callee:=.builtin .min,args,argTypes:=ts},ty,pos,af,none⟩::rest) e h Q=after P G R ops rest d e Q (bK P h .min ts ty (args.toList.map e.eval)):=iH rfl
theorem Of(args:Array Operand)(ts:Array TypeId):cz P G R ops (⟨d,.call {callee:=.builtin .max,args,argTypes:=ts},ty,pos,af,none⟩::rest) e h Q=after P G R ops rest d e Q (bK P h .max ts ty (args.toList.map e.eval)):=iH rfl
theorem CT{x:Operand}:cz P G R ops (⟨d,.panic x,ty,pos,af,none⟩::rest) e h Q=(match e.eval x with| .iface t y=>Q (.panic (.iface t y)) e h|_=>False):=by
 unfold cz
 simp only[pK,bg,dC]
 generalize e.eval x=y
 cases y<;>first|exact ft|exact ey
theorem yR{args:Array Operand}{ts:Array TypeId}(hr:e.round=none):cz P G R ops (⟨d,.call {callee:=.builtin .recover,args,argTypes:=ts},ty,pos,af,none⟩::rest) e h Q=
 (match e.pan with
  |some (x,false)=>cz P G R ops rest (({e with pan:=some (x,true)}:Env).put d x) h Q
  |_=>cz P G R ops rest (e.put d (.v .nilIface)) h Q):=by
 unfold cz
 simp only[pK,bg,dC,hr,acW,abW,if_false]
 rcases hp:e.pan with _|⟨x,b⟩
 ·rfl
 ·cases b<;>rfl
theorem CU{f:Operand}{args:Array Operand}{ts:Array TypeId}(hr:e.round=none):cz P G R ops (⟨d,.defer {callee:=.value f,args,argTypes:=ts},ty,pos,af,none⟩::rest) e h Q=
 (match e.eval f with
  | .func (.func g) first cap=>cz P G R ops rest (({e with defers:=(g,first++args.toList.map e.eval++cap)::e.defers}:Env).put d (.tuple [])) h Q
  |_=>False):=by
 unfold cz
 simp only[pK,bg,dC,hr,acW,abW,if_false]
 generalize e.eval f=y
 rcases y with _|_|_|_|_|_|_|_|⟨fn,a,b⟩|_|_
 case func=>cases fn<;>first|rfl|exact ey
 all_goals exact ey
end
end
end Go.AE
end
section
namespace Go.AE
def bs(l:List UInt8):ByteArray:=⟨l.toArray⟩
def str(l:List UInt8):AV:=.v (.string (bs l))
def int(n:Int):AV:=.v (.int .i64 n)
def bool(b:Bool):AV:=.v (.bool b)
theorem Qk(l:List UInt8):ByteArray.mk l.toArray=bs l:=rfl
theorem np(l:List UInt8):(bs l).size=l.length:=rfl
theorem FN(a b:List UInt8):bs a++bs b=bs (a++b):=by
 apply ByteArray.ext
 rw[ByteArray.data_append]
 simp[bs]
theorem qt(l:List UInt8)(i j:Nat):(bs l).extract i j=bs ((l.take j).drop i):=by
 apply ByteArray.ext
 rw[ByteArray.data_extract]
 simp[bs,List.extract_eq_take_drop,aez]
theorem fE{α β:Type}{P:Program}(m:Sem α)(f:α->Sem β):bQ P (m>>=f)=(bQ P m).bind fun a=>bQ P (f a):=by
 show bQ P (m.bind f)=_
 induction m with
 |pure a=>rfl
 |program k ih=>simp only[Sem.bind,bQ];exact ih _
 |mark m k ih=>simp only[Sem.bind,bQ];exact ih
 |_=>rfl
section
variable {P:Program} {t:TypeId} {x y:Operand} {k:IntKind} {a b:Int}
theorem du{op:BinOp}{v:Value}(h:bQ P (binOp op t (.int k a) (.int k b))=some v):bB P op t x y (.v (.int k a)) (.v (.int k b))=eS v:=by
 have hg:bQ P (eqGuard op t x y (.int k a) (.int k b))=some ():=by cases op<;>rfl
 show(bQ P (do eqGuard op t x y (.int k a) (.int k b);binOp op t (.int k a) (.int k b))).bind eS=_
 rw[fE,hg]
 simp only[acu,h]
theorem Eg:bB P .add t x y (.v (.int k a)) (.v (.int k b))=some (.v (.int k (k.wrap (a+b)))):=du (v:=.int k (k.wrap (a+b))) (by simp[binOp,Op.intArith];rfl)
theorem LO:bB P .sub t x y (.v (.int k a)) (.v (.int k b))=some (.v (.int k (k.wrap (a - b)))):=du (v:=.int k (k.wrap (a - b))) (by simp[binOp,Op.intArith];rfl)
theorem LQ:bB P .mul t x y (.v (.int k a)) (.v (.int k b))=some (.v (.int k (k.wrap (a * b)))):=du (v:=.int k (k.wrap (a * b))) (by simp[binOp,Op.intArith];rfl)
theorem LR(h:b≠0):bB P .quo t x y (.v (.int k a)) (.v (.int k b))=some (.v (.int k (k.wrap (a.tdiv b)))):=du (v:=.int k (k.wrap (a.tdiv b))) (by simp[binOp,Op.intDiv,h];rfl)
theorem LS(h:b≠0):bB P .rem t x y (.v (.int k a)) (.v (.int k b))=some (.v (.int k (a.tmod b))):=du (v:=.int k (a.tmod b)) (by simp[binOp,Op.intDiv,h];rfl)
theorem LU:bB P .eql t x y (.v (.int k a)) (.v (.int k b))=some (.v (.bool (decide (a=b)))):=du (v:=.bool (decide (a=b))) (by
 have:(a==b)=decide (a=b):=by rw[aes];simp
 simp[binOp,Op.intCmp,this];rfl)
theorem LV:bB P .neq t x y (.v (.int k a)) (.v (.int k b))=some (.v (.bool (!decide (a=b)))):=du (v:=.bool (!decide (a=b))) (by
 have:(a !=b)= !decide (a=b):=by rw[aes];simp
 simp[binOp,Op.intCmp,this];rfl)
theorem LW:bB P .lss t x y (.v (.int k a)) (.v (.int k b))=some (.v (.bool (decide (a<b)))):=du (v:=.bool (decide (a<b))) (by simp[binOp,Op.intCmp];rfl)
theorem LX:bB P .leq t x y (.v (.int k a)) (.v (.int k b))=some (.v (.bool (decide (a<=b)))):=du (v:=.bool (decide (a<=b))) (by simp[binOp,Op.intCmp];rfl)
theorem LY:bB P .gtr t x y (.v (.int k a)) (.v (.int k b))=some (.v (.bool (decide (b<a)))):=du (v:=.bool (decide (b<a))) (by simp[binOp,Op.intCmp];rfl)
theorem LZ:bB P .geq t x y (.v (.int k a)) (.v (.int k b))=some (.v (.bool (decide (b<=a)))):=du (v:=.bool (decide (b<=a))) (by simp[binOp,Op.intCmp];rfl)
theorem II{p q:List UInt8}:bB P .eql t x y (.v (.string (bs p))) (.v (.string (bs q)))=some (.v (.bool (decide (p=q)))):=by
 show some (AV.v (.bool (p==q)))=_
 rw[aes.2 (by simp:(p==q)=true↔decide (p=q)=true)]
theorem IJ{p q:List UInt8}:bB P .neq t x y (.v (.string (bs p))) (.v (.string (bs q)))=some (.v (.bool (!decide (p=q)))):=by
 show some (AV.v (.bool (!(p==q))))=_
 rw[aes.2 (by simp:(p==q)=true↔decide (p=q)=true)]
theorem IK{p q:List UInt8}(h:p.length+q.length<=9223372036854775807):bB P .add t x y (.v (.string (bs p))) (.v (.string (bs q)))=some (.v (.string (bs (p++q)))):=by
 show(if (bs p).size+(bs q).size<=9223372036854775807 then some (AV.v (.string (bs p++bs q))) else none)=_
 rw[np,np,if_pos h,FN]
theorem Og{c:Bool}:HQ P .not (.v (.bool c))=some (.v (.bool (!c))):=rfl
theorem Oh:HQ P .neg (.v (.int k a))=some (.v (.int k (k.wrap (0 - a)))):=rfl
theorem uU{s:ByteArray}(hu:P.underlying t=some .string):cH P t (.v (.string s))=some (.v (.int .i64 s.size)):=by unfold cH;rw[hu]
theorem uV{e:TypeId}{tk:Tok}{sz:Nat}{es:List (List AV)}(hu:P.underlying t=some (.slice e)):cH P t (.list tk sz es)=some (.v (.int .i64 es.length)):=by unfold cH;rw[hu]
theorem yS{e:TypeId}{b o l c:Nat}(hu:P.underlying t=some (.slice e)):cH P t (.arr b o l c)=some (.v (.int .i64 l)):=by unfold cH;rw[hu]
theorem yT{l:List UInt8}(hu:P.underlying t=some .string)(h0:0<=a)(h1:a<l.length):nf P t (.v (.string (bs l))) (.v (.int k a))=some (.v (.int .u8 (l.getD a.toNat 0).toNat)):=by
 unfold nf
 rw[hu]
 have hlt:a.toNat<l.length:=by omega
 simp only[if_pos h0,bs,abP,abo hlt]
 simp[hlt]
theorem FO{c:Bool}{u v:AV}:yj (.v (.bool c)) u v=some (if c=true then u else v):=by cases c<;>rfl
theorem bT(h0: -9223372036854775808<=a)(h1:a<=9223372036854775807):IntKind.i64.wrap a=a:=by
 rw[IntKind.wrap_i64];omega
theorem yU(h0:0<=a)(h1:a<=255):IntKind.u8.wrap a=a:=by
 rw[IntKind.wrap_u8];omega
end
end Go.AE
end
section
namespace Go.AE
open Go.RowKit (Below)
def aB.init(W:World):aB:={base:=W.heap.size,ic:=fun g j=>W.cell? ⟨g,j,none⟩,β:=[],γ:=[],tn:=0,tk:=fun _=>(0,0,0),md:=[],lb:=fun _=>none}
def ae.init:ae:=⟨[],[],0,[]⟩
theorem IM{G:Nat->Option (List AV)}{ok:FuncId->Nat->Code->Bool}(W:World)(hG:∀g cs,G g=some cs->∃cells,ao (aB.init W) cs cells/\∀(j:Nat) (c:Value),cells[j]?=some c->W.cell? ⟨g,j,none⟩=some c):
 Sim (aB.init W) G ok W ae.init W:=by
 refine⟨.refl _ _,abq _,fun g j c h=>h,hG,rfl,fun b b' g h=>?_,fun b g cs h=>?_,rfl,fun b b' g h=>?_,fun l g r h=>?_,rfl,fun t ht=>?_,fun t t' ht=>?_,fun r hr=>?_,rfl⟩
 ·simp[aB.init] at h
 ·simp[aB.init] at h
 ·simp[aB.init] at h
 ·simp[aB.init] at h
 ·simp[alive,ae.init] at ht
 ·simp[alive,ae.init] at ht
 ·simp[aB.init] at hr
def uW(P:Program):Nat->List Field->Nat->Bool
 |off,[],total=>acL off total
 |off,f::fs,total=>acL f.offset off&&uW P (off+P.cellsOf f.type) fs total
def L0(P:Program):Nat->TypeId->Bool
 |0,_=>false
 |n+1,t=>
  match P.underlying t with
  |some .bool|some (.int _)|some .string=>true
  |some (.slice e)=>L0 P n e&&decide (0<P.cellsOf e)
  |some (.struct fs)=>uW P 0 fs.toList (P.cellsOf t)&&fs.toList.all fun f=>L0 P n f.type
  |some (.array m e)=>acL (P.cellsOf t) (m * P.cellsOf e)&&L0 P n e
  |_=>false
inductive Has {H:Type} (P:Program):TypeId->List AV->DataW H->Prop
 |bool {t:TypeId} (hu:P.underlying t=some .bool) (b:Bool):Has P t [.v (.bool b)] (.lit (.bool b))
 |int {t:TypeId} {k:IntKind} (hu:P.underlying t=some (.int k)) (n:Int) (hn:(Lit.int k n).wf=true):Has P t [.v (.int k n)] (.lit (.int k n))
 |str {t:TypeId} (hu:P.underlying t=some .string) (s:ByteArray) (hs:s.size<=maxLen):Has P t [.v (.string s)] (.lit (.string s.data.toList))
 |none {t e:TypeId} (hu:P.underlying t=some (.slice e)):Has P t [.list .nil (P.cellsOf e) []] .nil
 |list {t e:TypeId} (hu:P.underlying t=some (.slice e)) (k:Tok) (es:List (List AV)) (ds sp:List (DataW H)) (hk:k=.held∨(k=.tight/\es=[])) (hl:es.length<=maxLen) (hd:ds.length=es.length)
  (he:∀(i:Nat) (r:List AV) (d:DataW H),es[i]?=some r->ds[i]?=some d->Has P e r d) (hs:∀r∈es,r.length=P.cellsOf e):Has P t [.list k (P.cellsOf e) es] (.slice ds sp)
 |struct {t:TypeId} {fs:Array Field} (hu:P.underlying t=some (.struct fs)) (xs:List AV) (ds:List (DataW H)) (hl:xs.length=P.cellsOf t) (hd:ds.length=fs.size)
  (hf:∀(i:Nat) (f:Field) (d:DataW H),fs[i]?=some f->ds[i]?=some d->Has P f.type ((xs.drop f.offset).take (P.cellsOf f.type)) d):Has P t xs (.agg ds)
 |array {t e:TypeId} {n:Nat} (hu:P.underlying t=some (.array n e)) (xs:List AV) (ds:List (DataW H)) (hl:xs.length=P.cellsOf t) (hd:ds.length=n)
  (he:∀(i:Nat) (d:DataW H),ds[i]?=some d->Has P e ((xs.drop (i * P.cellsOf e)).take (P.cellsOf e)) d):Has P t xs (.agg ds)
section
variable {H:Type} {enc:TypeId × Value->H} {P:Program} {W:World}
theorem uX{a:Addr}{n:Nat}{vs:List Value}(h:W.cells? 0 a n=some vs):vs.length=n/\∀j,j<n->W.cell? (a.add j)=vs[j]?:=by
 unfold World.cells? at h
 rw[if_pos (abG _)] at h
 refine⟨by simpa using mapM_some_length h,fun j hj=>mapM_some_get h j j (by simp[hj])⟩
theorem FP{a:Addr}{v:Value}(h:W.cell? a=some v):a.spot=none:=by
 unfold World.cell? at h
 split at h
 ·cases hs:a.spot with
  |none=>rfl
  |some s=>rw[hs] at h;simp at h
 ·cases h
theorem AD{α:Type}{sz:Nat}:∀{es:List (List α)},(∀r∈es,r.length=sz)->∀(i j:Nat),j<sz->es.flatten[i * sz+j]?=(es[i]?).bind (·[j]?):=by
 intro es
 induction es with
 |nil=>intro _ i j _;simp
 |cons r es ih=>
  intro hr i j hj
  have h1:r.length=sz:=hr r abM
  cases i with
  |zero=>simp[ab5 (by omega:j<r.length)]
  |succ i=>
   rw[acp,acE (by rw[h1,ab4];omega),h1]
   have:(i+1) * sz+j - sz=i * sz+j:=by rw[ab4];omega
   rw[this,ih (fun r hm=>hr r (abH _ hm)) i j hj]
   simp
end
end Go.AE
end
section
namespace Go.AE
open Go.RowKit Go.WideShapes Go.ChangeShapes
def jy{H:Type}(P:Program)(t:TypeId)(x:AV)(d:DataW H):Prop:=
 match P.underlying t with
 |some (.struct _)|some (.array _ _)=>∃cs,x=.agg cs/\Has P t cs d
 |_=>Has P t [x] d
def jF{H:Type}(P:Program):List TypeId->List AV->List (DataW H)->Prop
 | [],[],[]=>True
 |t::ts,x::xs,d::ds=>jy P t x d/\jF P ts xs ds
 |_,_,_=>False
section
variable {H:Type} {enc:TypeId × Value->H} {P:Program} {W:World}
theorem FQ(hl:laidOutB P=true){W':World}{sp:Nat->Bool}:∀{ts:List TypeId} {vs:List Value} {ds:List (DataW H)} {p:List MemPlace},DataW.TrodAll enc P W 0 (fun _=>true) true ts vs ds p->
 (∀t∈ts,P.readableRec t=true/\t<P.types.size)->(∀x∈p,W.sameAt W' x)->(∀x∈p,sp x.block=true)->DataW.TrodAll enc P W' 0 sp true ts vs ds p:=by
 intro ts
 induction ts with
 |nil=>
  intro vs ds p h _ _ _
  obtain⟨rfl,rfl,rfl⟩:=trodAll_nil h
  exact trodAll_mk0
 |cons t ts ih=>
  intro vs ds p h hr hs hsp
  obtain⟨v,vs',d,ds',p1,q1,rfl,rfl,rfl,h1,h2⟩:=trodAll_cons h
  exact trodAll_cons_mk (WideElems.Trod_stays hl (hr t abM).1 (hr t abM).2 h1 (fun x hx=>hs x (aeH _ hx)) (fun x hx=>hsp x (aeH _ hx)))
   (ih h2 (fun t ht=>hr t (abH _ ht)) (fun x hx=>hs x (af0 _ hx)) (fun x hx=>hsp x (af0 _ hx)))
theorem CV{f:Func}{s:ChangeSpec}{apart fresh handsOn again:Bool}{W W':World}{args:Array Value}{v:Value}{ds gs:List (DataW H)}{before pa pv:List MemPlace}
 (hW:DataW.Whole enc P f.params.toList s.vars apart W args.toList ds gs before)
 (hres:∀(b:Nat) (sp:Nat->Bool) (hd:Bool),DataW.TrodAll enc P W' b sp hd f.resultTypes.toList (v.resultList f.resultTypes.size) (s.fn H (ds++gs)).results [])
 (hargs:∀sp:Nat->Bool,(∀p∈before,sp p.block=true)->DataW.TrodAll enc P W' 0 sp true f.params.toList args.toList (s.fn H (ds++gs)).args pa)
 (hvars:∀sp:Nat->Bool,(∀p∈before,sp p.block=true)->DataW.TrodVars enc P W' sp s.vars (s.fn H (ds++gs)).vars pv)
 (hps:before=pa++pv) (hb:Below W.heap.size W W')
 (hok:∀(j:Nat) (t:TypeId) (r:Value),f.resultTypes[j]?=some t->(v.resultList f.resultTypes.size)[j]?=some r->Value.okWide P W' .any 0 t r):
 s.post enc P f apart fresh handsOn again W args v W':=by
 have hlt:∀p∈before,p.block<W.heap.size:=fun p hp=>hW.lt p hp
 have hold:∀p∈before,(fun b=>decide (b<W.heap.size)) p.block=true:=fun p hp=>by simpa using hlt p hp
 refine⟨ds,gs,before,[],pa,pv,hW,hres _ _ _,hargs _ hold,hvars _ hold,World.keptBut_mono (fun p hp=>⟨hp,?_⟩) (hb.frame (·∈before)),fun _=>?_⟩
 ·rw[hps,acX] at hp
  exact Or.inr hp
 ·obtain⟨_,_,_,_,_,hz,hn⟩:=hW
  refine⟨hok,_,_,([]++pa)++pv,⟨[]++pa,pv,trodAll_append (hargs _ (fun _ _=>rfl)) (hres _ _ _),hvars _ (fun _ _=>rfl),rfl,?_,?_⟩,?_⟩
  ·intro b off hp
   have hin:MemPlace.cell b off∈before:=by rw[hps];simpa using hp
   rw[hb.frozen (hlt _ hin)]
   exact hz b off hin
  ·intro ha
   have:=hn ha
   rw[hps] at this
   simpa using this
  ·intro p hp _
   rw[hps]
   simpa using hp
structure Ql(P:Program)(f:FuncId)(fn:Func)(tb:TypeId):Prop where
 func:P.funcs[f]?=some fn
 laid:laidOutB P=true
 tys:∀t∈fn.params.toList,L0 P 9 t=true/\P.readableRec t=true/\t<P.types.size
 res:fn.resultTypes=#[tb]
 bool:P.underlying tb=some .bool
variable {G:Nat->Option (List AV)} {prims:FuncId->Option (List AV->ae->Option (AV × ae))}
end
end Go.AE
end
section
namespace Go.AE
open Go.RowKit (Below)
section
variable {K:aB} {G:Nat->Option (List AV)} {ok:FuncId->Nat->Code->Bool} {w0 w w':World} {h:ae}
theorem Sim.grown(s:Sim K G ok w0 h w)(hb:Below w.heap.size w w'):Sim K G ok w0 h w':=by
 have hk:∀{k:Nat} {o:Obj},w.heap[k]?=some o->w'.heap[k]?=some o:=fun hk=>(hb.block _ (cV hk)).trans hk
 refine⟨s.old.trans (hb.mono s.size),abT s.size hb.size,fun g j c hg=>?_,s.dW,s.js,s.βnd,fun b g cs hb' hc=>?_,s.mA,s.γnd,fun l g r hl hr=>?_,s.tn,fun t ht=>?_,s.oq,fun r hr=>?_,s.all⟩
 ·rw[<-s.ic g j c hg]
  exact World.cell?_of_block (w:=w) (hb.block g (s.fY hg))
 ·obtain⟨h1,h2,ha,cells,e,h3,h4⟩:=s.box b g cs hb' hc
  exact⟨h1,h2,ha,cells,e,hk h3,h4⟩
 ·obtain⟨h1,fn,tmps,d,h2,h3⟩:=s.loop l g r hl hr
  exact⟨h1,fn,tmps,d,hk h2,h3⟩
 ·obtain⟨h1,h2,h3,cells,e,fz,h4,h5,h6⟩:=s.tok t ht
  refine⟨h1,h2,h3,cells,e,fz,hk h4,h5,fun j hj hl=>?_⟩
  rw[<-h6 j hj hl]
  exact World.frozen?_of_block (w:=w) (hb.block _ (cV h4))
 ·exact⟨(s.md r hr).1,hk (s.md r hr).2⟩
end
end Go.AE
end
section
namespace Go.AE
def ae.push(h:ae)(cs:List AV):ae:={h with boxes:=h.boxes++[cs]}
def ae.put(h:ae)(b:Nat)(cs:List AV):ae:={h with boxes:=h.boxes.set b cs}
theorem aw(h:ae)(cs:List AV):h.box cs=(.ptr (.box h.boxes.length) 0,h.push cs):=rfl
theorem az(h:ae)(cs:List AV):(h.push cs).boxes.length=h.boxes.length+1:=by simp[ae.push]
theorem ak(h:ae)(cs:List AV):(h.push cs).boxes[h.boxes.length]?=some cs:=by simp[ae.push]
theorem aj{h:ae}{cs ds:List AV}{b:Nat}(hb:h.boxes[b]?=some ds):(h.push cs).boxes[b]?=some ds:=cC hb
theorem aS{h:ae}{cs:List AV}{b:Nat}(hb:b<h.boxes.length):(h.put b cs).boxes[b]?=some cs:=by simp[ae.put,hb]
theorem av{h:ae}{cs:List AV}{b c:Nat}(hb:c≠b):(h.put b cs).boxes[c]?=h.boxes[c]?:=by simp[ae.put,aci,Ne.symm hb]
theorem dU(h:ae)(b:Nat)(cs:List AV):(h.put b cs).boxes.length=h.boxes.length:=by simp[ae.put]
def aZ(h:ae):Bool:=h.dead.all fun n=>decide (n<h.tn)
structure Ext(h h':ae):Prop where
 box:∀(b:Nat) (cs:List AV),h.boxes[b]?=some cs->h'.boxes[b]?=some cs
 loop:∀(l:Nat) (r:bE),h.loops[l]?=some r->h'.loops[l]?=some r
 tn:h.tn<=h'.tn
 dead:∀n,n<h.tn->n∈h'.dead->n∈h.dead
 ok:aZ h=true->aZ h'=true
theorem Ext.refl(h:ae):Ext h h:=⟨fun _ _ h=>h,fun _ _ h=>h,abq _,fun _ _ h=>h,fun h=>h⟩
theorem Ext.trans{a b c:ae}(h:Ext a b)(k:Ext b c):Ext a c:=
 ⟨fun i cs hb=>k.box i cs (h.box i cs hb),fun l r hl=>k.loop l r (h.loop l r hl),abT h.tn k.tn,fun n hn hd=>h.dead n hn (k.dead n (ab8 hn h.tn) hd),fun ho=>k.ok (h.ok ho)⟩
theorem Ext.push(h:ae)(cs:List AV):Ext h (h.push cs):=⟨fun _ _ hb=>aj hb,fun _ _ h=>h,abq _,fun _ _ h=>h,fun h=>h⟩
theorem Ext.fresh(h:ae)(sz:Nat)(es:List (List AV)):Ext h (h.fresh sz es).2:=⟨fun _ _ hb=>hb,fun _ _ h=>h,aft _,fun _ _ h=>h,fun ho=>by
 unfold aZ at *
 simp only[ae.fresh,abE,decide_eq_true_eq] at *
 exact fun n hn=>decide_eq_true (Nat.lt_succ_of_lt (ho n hn))⟩
theorem Ext.alive{h h':ae}(x:Ext h h'){n:Nat}(ha:alive h n=true):alive h' n=true:=by
 unfold AE.alive at *
 simp only[abr,decide_eq_true_eq,ac0,List.contains_eq_mem,decide_eq_false_iff_not] at *
 exact⟨ab8 ha.1 x.tn,fun hd=>ha.2 (x.dead n ha.1 hd)⟩
theorem Ext.len{h h':ae}(x:Ext h h'):h.boxes.length<=h'.boxes.length:=by
 rcases abL h'.boxes.length h.boxes.length with hlt|hge
 ·have h1:=x.box h'.boxes.length _ (abo hlt)
  have:=(abm.1 h1).1
  omega
 ·exact hge
noncomputable def CW(R:Rec)(g:FuncId)(args:List AV)(h:ae):ae:=
 match R.call g args h with
 |some (_,h')=>h'
 |none=>h
theorem FR{R:Rec}{g:FuncId}{args:List AV}{h h':ae}{r:Res}(hc:R.call g args h=some (r,h')):CW R g args h=h':=by unfold CW;rw[hc]
def Qm(R:Rec)(g:FuncId)(args:List AV)(h:ae)(r:Res):Prop:=∃h',R.call g args h=some (r,h')/\Ext h h'
theorem Qm.ext{R:Rec}{g:FuncId}{args:List AV}{h:ae}{r:Res}(hs:Qm R g args h r):Ext h (CW R g args h):=by
 obtain⟨h',h1,h2⟩:=hs
 rw[FR h1];exact h2
def FT(P:Program)(G:Nat->Option (List AV))(R:Rec)(fn:Func)(r:Res)(Post:ae->Prop):Xt->Env->ae->Prop:=fun o e h=>∃h',yK P G R fn r h' o e h/\Post h'
theorem AF{P:Program}{G:Nat->Option (List AV)}{R:Rec}{fn:Func}{r:Res}{Post:ae->Prop}{e:Env}{h:ae}:FT P G R fn r Post .normal e h=∃h',bD P G R fn e e.defers none h=some (r,h')/\Post h':=rfl
theorem IN{P:Program}{G:Nat->Option (List AV)}{R:Rec}{fn:Func}{r:Res}{Post:ae->Prop}{e:Env}{h:ae}:FT P G R fn r Post .ret e h=∃h',bD P G R fn e e.defers none h=some (r,h')/\Post h':=rfl
theorem CX{P:Program}{G:Nat->Option (List AV)}{R:Rec}{fn:Func}{r:Res}{Post:ae->Prop}{e:Env}{h:ae}{x:AV}:FT P G R fn r Post (.panic x) e h=∃h',bD P G R fn e e.defers (some (x,false)) h=some (r,h')/\Post h':=rfl
theorem dL{P:Program}{G:Nat->Option (List AV)}{prims:FuncId->Option (List AV->ae->Option (AV × ae))}{g:FuncId}{fn:Func}{body:Code}{args:List AV}{r:Res}{h:ae}{Post:ae->Prop}(hp:prims g=none)(hfn:P.funcs[g]?=some fn)(hb:fn.body=some body)
 (hr:Run (whole P G prims) body (Env.start args none) h (FT P G (whole P G prims) fn r Post)):∃h',(whole P G prims).call g args h=some (r,h')/\Post h':=by
 obtain⟨o,e1,h1,h2,h',h3,h4⟩:=hr
 exact⟨h',ar hp hfn hb ⟨o,e1,h1,h2,h3⟩,h4⟩
section
variable {P:Program} {G:Nat->Option (List AV)} {h:ae} {t:TypeId} {b off n:Nat} {cs:List AV}
theorem dc(ha:cZ P t=some false)(hb:h.boxes[b]?=some cs):ai P G h t (.ptr (.box b) off)=(cs.drop off).head?:=by
 unfold ai nb ur
 simp only[ha,hb,abJ]
theorem cP(ha:cZ P t=some true)(hs:bF P t=some n)(hb:h.boxes[b]?=some cs)(hl:off+n<=cs.length):ai P G h t (.ptr (.box b) off)=some (.agg ((cs.drop off).take n)):=by
 unfold ai nb ur
 simp only[ha,hb,hs,abJ]
 rw[if_pos (by simp;omega)]
theorem ez{sz i:Nat}{es:List (List AV)}{row:List AV}(ha:cZ P t=some false)(hb:es[i]?=some row):ai P G h t (.elem sz es i off)=(row.drop off).head?:=by
 unfold ai nb
 simp only[ha,hb,abJ]
theorem jm{sz i:Nat}{es:List (List AV)}{row:List AV}(ha:cZ P t=some true)(hs:bF P t=some n)(hb:es[i]?=some row)(hl:off+n<=row.length):ai P G h t (.elem sz es i off)=some (.agg ((row.drop off).take n)):=by
 unfold ai nb
 simp only[ha,hb,hs,abJ]
 rw[if_pos (by simp;omega)]
theorem al{e:TypeId}{k:Tok}{kk:IntKind}{sz:Nat}{es:List (List AV)}{a:Int}(hu:P.underlying t=some (.slice e))(hs:bF P e=some sz)(h0:0<=a)(h1:a<es.length):ay P t (.list k sz es) (.v (.int kk a))=some (.elem sz es a.toNat 0):=by
 unfold ay
 rw[hu]
 simp only
 rw[if_pos ⟨h0,h1,hs⟩]
theorem mE{e:TypeId}{kk:IntKind}{bb o l c sz:Nat}{a:Int}(hu:P.underlying t=some (.slice e))(hs:bF P e=some sz)(h0:0<=a)(h1:a<l):ay P t (.arr bb o l c) (.v (.int kk a))=some (.ptr (.box bb) (o+a.toNat * sz)):=by
 unfold ay
 rw[hu]
 simp only[hs]
 rw[if_pos ⟨h0,h1⟩]
theorem aW{x:AV}{xs:List AV}(hx:x.aC=some xs)(hs:bF P t=some n)(hb:h.boxes[b]?=some cs)(hn:xs.length=n)(hl:off+n<=cs.length):aA P h t (.ptr (.box b) off) x=some (h.put b (bI cs off xs)):=by
 unfold aA
 simp only[hx,hs,hb]
 rw[if_pos ⟨hn,hl⟩]
 rfl
theorem gg(h:ae)(z cs:List AV):(h.push z).put h.boxes.length cs=h.push cs:=by
 simp[ae.push,ae.put,List.set_append_right]
theorem jc{z xs:List AV}(hl:xs.length=z.length):bI z 0 xs=xs:=by
 simp[bI,hl]
theorem cQ{x:AV}{xs z:List AV}(hx:x.aC=some xs)(hs:bF P t=some n)(hn:xs.length=n)(hz:z.length=n):aA P (h.push z) t (.ptr (.box h.boxes.length) 0) x=some (h.push xs):=by
 rw[aW hx hs (ak h z) hn (by omega),jc (by omega),gg]
end
end Go.AE
end
section
namespace Go.AE
section
variable {P:Program} {G:Nat->Option (List AV)} {R:Rec}
theorem FU(ops:Array Oper):∀(n i:Nat),i+n<=ops.size->∀(e:Env) (h:ae),br P G R ops (agt i n) e h=pK P G R ops ((ops.toList.drop i).take n) e h:=by
 intro n
 induction n with
 |zero=>intro i hi e h;rfl
 |succ n ih=>
  intro i hi e h
  have hlt:i<ops.size:=by omega
  have ho:ops[i]?=some ops[i]:=abV hlt
  rw[agA,ac9 (by simpa using hlt),List.take_succ_cons]
  simp only[br,pK,ho,aga]
  cases bg ops e ops[i] with
  |none=>rfl
  |some b=>
   cases b with
   |false=>exact ih (i+1) (by omega) _ _
   |true=>
    simp only
    cases dC P G R e h ops[i] with
    |none=>rfl
    |some q=>
     obtain⟨r,e1,h1⟩:=q
     cases r with
     |ret x=>exact ih (i+1) (by omega) _ _
     |panic x=>rfl
theorem dM{ops:Array Oper}{m:Nat}(hm:m<=ops.size)(e:Env)(h:ae):br P G R ops (aby m) e h=pK P G R ops (ops.toList.take m) e h:=by
 rw[aeI,FU ops m 0 (by omega)]
 rfl
def mF(ops:Array Oper)(cs:List Nat)(ps:List (Nat × Nat)):Bool:=
 let b:=Region.before ops
 kQ ops b&&(aby ops.size).all fun j=>(aby j).all fun i=>(b.getD j 0).testBit i||ng ops i j||ps.contains (i,j)||(eW ops i j&&(cs.contains i||cs.contains j))
theorem sD{ops:Array Oper}{cs:List Nat}{ps:List (Nat × Nat)}{e:Env}{h:ae}(hd:mF ops cs ps=true)(hc:∀k∈cs,sY P G R ops e h k)(hs:∀p∈ps,cX P G R ops e h p.1 p.2=true):df P G R ops e h=true:=by
 unfold mF at hd
 unfold df
 simp only[abr,abE,abQ,acS] at hd ⊢
 refine⟨hd.1,fun j hj i hi=>?_⟩
 rcases hd.2 j hj i hi with((h1|h1)|h1)|⟨h1,h2⟩
 ·exact .inl (.inl (.inl h1))
 ·exact .inl (.inl (.inr h1))
 ·exact .inl (.inr (hs (i,j) (by simpa using h1)))
 ·exact .inr ⟨h1,h2.imp (fun q=>oz.2 (hc i (by simpa using q))) (fun q=>oz.2 (hc j (by simpa using q)))⟩
theorem o9{ops:Array Oper}{e:Env}{h:ae}{k:Nat}{o:Oper}{c:Call}{x:AV}(ho:ops[k]?=some o)(hop:o.op=.call c)
 (h1:cz P G R ops (ops.toList.take k) e h (fun q er _=>q=.normal/\∀hm,eI P R er hm c=some (.ret x,hm)))
 (h2:cz P G R ops ops.toList e h (fun q _ _=>q=.normal)):sY P G R ops e h k:=by
 have hk:k<ops.size:=(Array.getElem?_eq_some_iff.1 ho).1
 obtain⟨q1,er,hr,e1,rfl,e2⟩:=h1
 obtain⟨q2,en,hn,f1,rfl⟩:=h2
 rw[<-dM (by omega)] at e1
 have hall:br P G R ops (aby ops.size) e h=some (.normal,en,hn):=by
  rw[dM (abq _),<-Array.length_toList,abU];exact f1
 obtain⟨-,tr,-⟩:=trace hall
 refine⟨o,x,er,hr,ho,?_,e1,fun m hm=>⟨_,_,tr m hm,Ct hop (e2 _)⟩⟩
 have hcal:∀b,c.callee≠ .builtin b:=fun b hb=>by
  have:=e2 hr
  unfold eI at this
  rw[hb] at this
  cases this
 rw[hop]
 obtain⟨callee,args,ts⟩:=c
 cases callee with
 |builtin b=>exact absurd rfl (hcal b)
 |value f=>rfl
 |invoke r n=>rfl
theorem dH{ops:Array Oper}{e:Env}{h:ae}{i j:Nat}{o:Oper}{t:TypeId}{a:Operand}(hap:eW ops i j=true)(ho:ops[i]?=some o)(hop:o.op=.load t a)(hg:o.guard=none)
 (hj:(ops[j]?).map (fun o=>cY o.op)=some .U2) {x v:AV} (hv:cB v v=true)
 (h1:cz P G R ops (ops.toList.take i) e h (fun q er hr=>q=.normal/\er.eval a=x/\ai P G hr t x=some v))
 (h2:cz P G R ops (ops.toList.take (j+1)) e h (fun q _ hm=>q=.normal/\ai P G hm t x=some v)):cX P G R ops e h i j=true:=by
 have hi:i<ops.size:=by
  rcases abL i ops.size with hh|hh
  ·exact hh
  ·rw[acQ hh] at ho;cases ho
 have hjs:j<ops.size:=by
  rcases abL j ops.size with hh|hh
  ·exact hh
  ·rw[acQ hh] at hj;cases hj
 have hc:(ops[i]?).map (fun o=>cY o.op)=some .reads:=by rw[ho];simp only[abJ,hop];rfl
 unfold cX
 rw[hap,hc,hj]
 simp only[ac2]
 unfold fX
 rw[ho,dM (by omega),dM (by omega)]
 obtain⟨q1,er,hr,e1,rfl,e2,e3⟩:=h1
 obtain⟨q2,em,hm,f1,rfl,f2⟩:=h2
 rw[e1,f1]
 simp only[bg,hg,hop,e2,e3,f2,hv]
theorem dI{ops:Array Oper}{e:Env}{h:ae}{i j:Nat}{o:Oper}{t:TypeId}{a:Operand}(hap:eW ops i j=true)(ho:ops[j]?=some o)(hop:o.op=.load t a)(hg:o.guard=none)
 (hj:(ops[i]?).map (fun o=>cY o.op)=some .U2) {x v:AV} (hv:cB v v=true)
 (h1:cz P G R ops (ops.toList.take j) e h (fun q er hr=>q=.normal/\er.eval a=x/\ai P G hr t x=some v))
 (h2:cz P G R ops (ops.toList.take i) e h (fun q _ hm=>q=.normal/\ai P G hm t x=some v)):cX P G R ops e h i j=true:=by
 have hi:i<ops.size:=by
  rcases abL i ops.size with hh|hh
  ·exact hh
  ·rw[acQ hh] at hj;cases hj
 have hjs:j<ops.size:=by
  rcases abL j ops.size with hh|hh
  ·exact hh
  ·rw[acQ hh] at ho;cases ho
 have hc:(ops[j]?).map (fun o=>cY o.op)=some .reads:=by rw[ho];simp only[abJ,hop];rfl
 unfold cX
 rw[hap,hc,hj]
 simp only[ac2]
 unfold fX
 rw[ho,dM (by omega),dM (by omega)]
 obtain⟨q1,er,hr,e1,rfl,e2,e3⟩:=h1
 obtain⟨q2,em,hm,f1,rfl,f2⟩:=h2
 rw[e1,f1]
 simp only[bg,hg,hop,e2,e3,f2,hv]
end
section
variable {P:Program} {G:Nat->Option (List AV)} {prims:FuncId->Option (List AV->ae->Option (AV × ae))} {Q:Xt->Env->ae->Prop} {e:Env} {h:ae}
theorem mj{id:Nat}{ops:Array Oper}(cs:List Nat)(ps:List (Nat × Nat))(hd:mF ops cs ps=true)(hc:∀k∈cs,sY P G (whole P G prims) ops e h k)(hs:∀p∈ps,cX P G (whole P G prims) ops e h p.1 p.2=true)
 (hr:cz P G (whole P G prims) ops ops.toList e h (rh Q)):Run (whole P G prims) (.region id ops true) e h Q:=
 oB (sD hd hc hs) hr
end
structure Mut(b n0:Nat)(h h':ae):Prop where
 box:∀(c:Nat) (cs:List AV),c≠b->h.boxes[c]?=some cs->h'.boxes[c]?=some cs
 len:h.boxes.length<=h'.boxes.length
 loop:∀(l:Nat) (r:bE),h.loops[l]?=some r->h'.loops[l]?=some r
 tn:h.tn<=h'.tn
 dead:∀n,n<n0->n∈h'.dead->n∈h.dead
 ok:aZ h=true->aZ h'=true
theorem Mut.refl(b n0:Nat)(h:ae):Mut b n0 h h:=⟨fun _ _ _ h=>h,abq _,fun _ _ h=>h,abq _,fun _ _ h=>h,fun h=>h⟩
theorem Mut.trans{b n0:Nat}{x y z:ae}(h:Mut b n0 x y)(k:Mut b n0 y z):Mut b n0 x z:=
 ⟨fun i cs hi hb=>k.box i cs hi (h.box i cs hi hb),abT h.len k.len,fun l r hl=>k.loop l r (h.loop l r hl),abT h.tn k.tn,fun n hn hd=>h.dead n hn (k.dead n hn hd),fun ho=>k.ok (h.ok ho)⟩
theorem Mut.sF{b n0:Nat}{h h':ae}(x:Ext h h')(hn:n0<=h.tn):Mut b n0 h h':=
 ⟨fun c cs _ hc=>x.box c cs hc,x.len,x.loop,x.tn,fun n h1 h2=>x.dead n (ab8 h1 hn) h2,x.ok⟩
theorem Mut.put(b n0:Nat)(h:ae)(cs:List AV):Mut b n0 h (h.put b cs):=
 ⟨fun c ds hc hb=>by rw[av hc];exact hb,by rw[dU];exact abq _,fun _ _ h=>h,abq _,fun _ _ h=>h,fun h=>h⟩
theorem Ext.mut{b:Nat}{h0 h h':ae}(x:Ext h0 h)(m:Mut b h0.tn h h')(hb:h0.boxes.length<=b):Ext h0 h':=
 ⟨fun c cs hc=>by
  have hlt:=(abm.1 hc).1
  exact m.box c cs (by omega) (x.box c cs hc),fun l r hl=>m.loop l r (x.loop l r hl),abT x.tn m.tn,fun n hn hd=>x.dead n hn (m.dead n hn hd),fun ho=>m.ok (x.ok ho)⟩
def ae.app(h:ae)(k:Tok):ae:=
 match k with
 | .free n=>{h with dead:=n::h.dead,tn:=h.tn+1}
 |_=>{h with tn:=h.tn+1}
theorem aT(h:ae)(k:Tok):(h.app k).boxes=h.boxes:=by cases k<;>rfl
theorem ig(h:ae)(k:Tok):(h.app k).loops=h.loops:=by cases k<;>rfl
theorem uY(h:ae)(k:Tok):(h.app k).tn=h.tn+1:=by cases k<;>rfl
def bG(n0:Nat)(h:ae)(k:Tok):Prop:=k=.nil∨k=.tight∨∃n,k=.free n/\n0<=n/\alive h n=true
theorem Mut.app{b n0:Nat}{h:ae}{k:Tok}(hk:bG n0 h k):Mut b n0 h (h.app k):=by
 refine⟨fun c cs _ hc=>by rw[aT];exact hc,by rw[aT];exact abq _,fun l r hl=>by rw[ig];exact hl,by rw[uY];exact aft _,?_,?_⟩
 ·rcases hk with rfl|rfl|⟨m,rfl,hm,ha⟩
  ·exact fun n _ hn=>hn
  ·exact fun n _ hn=>hn
  ·intro n hn hd
   rcases acd.1 hd with rfl|hd
   ·omega
   ·exact hd
 ·intro ho
  have hlift:∀n∈h.dead,n<h.tn+1:=fun n hn=>by
   have:=abE.1 ho n hn
   simp only[decide_eq_true_eq] at this
   omega
  rcases hk with rfl|rfl|⟨m,rfl,hm,ha⟩
  ·exact abE.2 fun n hn=>decide_eq_true (hlift n hn)
  ·exact abE.2 fun n hn=>decide_eq_true (hlift n hn)
  ·refine abE.2 fun n hn=>decide_eq_true ?_
   rcases acd.1 hn with rfl|hn
   ·unfold alive at ha
    simp only[abr,decide_eq_true_eq] at ha
    show n<h.tn+1
    omega
   ·exact hlift n hn
theorem Ext.app{h0 h:ae}{k:Tok}(x:Ext h0 h)(hk:bG h0.tn h k):Ext h0 (h.app k):=by
 have m:=Mut.app (b:=h.boxes.length) hk
 exact x.mut m x.len
theorem FV{h:ae}{k:Tok}(ho:aZ h=true)(hk:bG 0 h k):alive (h.app k) h.tn=true:=by
 have hno:h.dead.contains h.tn=false:=by
  rw[Bool.eq_false_iff]
  intro hc
  have:=abE.1 ho h.tn (by simpa using hc)
  simp at this
 unfold alive
 rw[uY]
 rcases hk with rfl|rfl|⟨m,rfl,-,ha⟩
 ·simp only[ae.app,hno];simp
 ·simp only[ae.app,hno];simp
 ·unfold alive at ha
  simp only[abr,decide_eq_true_eq] at ha
  have h1:¬(h.tn=m):=by omega
  have h2:¬(h.tn∈h.dead):=by simpa using hno
  simp[ae.app,h1,h2]
theorem bG.mono{n0:Nat}{h:ae}{k:Tok}(hk:bG n0 h k){n1:Nat}(hn:n1<=n0):bG n1 h k:=by
 rcases hk with rfl|rfl|⟨m,rfl,hm,ha⟩
 ·exact .inl rfl
 ·exact .inr (.inl rfl)
 ·exact .inr (.inr ⟨m,rfl,by omega,ha⟩)
theorem bG.ext{n0:Nat}{h h':ae}{k:Tok}(hk:bG n0 h k)(x:Ext h h'):bG n0 h' k:=by
 rcases hk with rfl|rfl|⟨m,rfl,hm,ha⟩
 ·exact .inl rfl
 ·exact .inr (.inl rfl)
 ·exact .inr (.inr ⟨m,rfl,hm,x.alive ha⟩)
theorem bG.next{n0:Nat}{h:ae}{k:Tok}(hk:bG n0 h k)(ho:aZ h=true)(hn:n0<=h.tn):bG n0 (h.app k) (.free h.tn):=
 .inr (.inr ⟨h.tn,rfl,hn,FV ho (hk.mono (abG _))⟩)
end Go.AE
end
section
namespace Go.AE
theorem jF.cons_inv{H:Type}{P:Program}{t:TypeId}{ts:List TypeId}{xs:List AV}{ds:List (DataW H)}(h:jF P (t::ts) xs ds):∃x xs' d ds',xs=x::xs'/\ds=d::ds'/\jy P t x d/\jF P ts xs' ds':=by
 cases xs with
 |nil=>cases ds<;>exact h.elim
 |cons x xs=>
  cases ds with
  |nil=>exact h.elim
  |cons d ds=>exact⟨x,xs,d,ds,rfl,rfl,h.1,h.2⟩
theorem jF.L7{H:Type}{P:Program}{xs:List AV}{ds:List (DataW H)}(h:jF P [] xs ds):xs=[]:=by
 cases xs with
 |nil=>rfl
 |cons x xs=>cases ds<;>exact h.elim
section
variable {P:Program} {t:TypeId} {x y:Operand}
theorem IP{d:TypeDesc}(hu:P.underlying t=some d):bQ P (underlying t)=some d:=by
 unfold underlying
 simp only[fE]
 show(some P).bind _=_
 simp only[acu,hu]
 rfl
theorem AG{v:Value}{ms:Array (String × TypeId)}(hu:P.underlying t=some (.interface ms)):bB P .neq t x (.const v) (.v .nilIface) (.v .nilIface)=some (.v (.bool false)):=by
 have h1:bB P .neq t x (.const v) (.v .nilIface) (.v .nilIface)=(bQ P (do eqGuard .neq t x (.const v) .nilIface .nilIface;binOp .neq t .nilIface .nilIface)).bind eS:=rfl
 have h2:bQ P (eqGuard .neq t x (.const v) .nilIface .nilIface)=some ():=by cases x<;>rfl
 have h3:bQ P (Op.equal t .nilIface .nilIface)=some true:=by
  unfold Op.equal Op.maxDepth Op.equalIn
  rw[fE,IP hu]
  rfl
 have h4:bQ P (binOp .neq t .nilIface .nilIface)=some (.bool false):=by
  show bQ P (do pure (Value.bool (!(<-Op.equal t .nilIface .nilIface))))=_
  rw[fE,h3]
  rfl
 rw[h1,fE,h2,acu,h4]
 rfl
end
end Go.AE
end
section
namespace Go.AE
section
variable {h:ae} {cs:List AV} {b c:Nat} {k:Tok}
theorem wy:(h.push cs).boxes[h.boxes.length]?=some cs:=ak h cs
theorem cD(hc:c=h.boxes.length):(h.push cs).boxes[c]?=some cs:=by subst hc;exact ak h cs
theorem AH(hc:c≠h.boxes.length):(h.push cs).boxes[c]?=h.boxes[c]?:=by
 unfold ae.push
 simp only[List.getElem?_append]
 split
 ·rfl
 ·rename_i h1
  rw[acf (by simp;omega),acf (by omega)]
theorem CY(hb:b<h.boxes.length):(h.put b cs).boxes[b]?=some cs:=aS hb
theorem CZ(hc:c≠b):(h.put b cs).boxes[c]?=h.boxes[c]?:=av hc
theorem L8:(h.app k).boxes[c]?=h.boxes[c]?:=by rw[aT]
theorem Eh:(h.app k).boxes.length=h.boxes.length:=by rw[aT]
end
theorem ij{n0:Nat}{h:ae}{cs:List AV}{k:Tok}:bG n0 (h.push cs) k=bG n0 h k:=rfl
theorem jd{n0 b:Nat}{h:ae}{cs:List AV}{k:Tok}:bG n0 (h.put b cs) k=bG n0 h k:=rfl
theorem Ext.bZ{h h':ae}(x:Ext h h'){b:Nat}(hb:h.boxes.length<=b)(cs:List AV):Ext h (h'.put b cs):=by
 refine⟨fun c ds hc=>?_,x.loop,x.tn,x.dead,x.ok⟩
 have hlt:c<h.boxes.length:=(abm.1 hc).1
 rw[av (by omega)]
 exact x.box c ds hc
section
variable {P:Program} {G:Nat->Option (List AV)} {h:ae} {t:TypeId} {b off n:Nat} {cs:List AV}
theorem L9{z:Value}(hs:bF P t=some 1)(hb:h.boxes[b]?=some cs)(hl:off+1<=cs.length):aA P h t (.ptr (.box b) off) (.v z)=some (h.put b (bI cs off [.v z])):=aW rfl hs hb rfl hl
theorem Ma{k:Tok}{sz:Nat}{es:List (List AV)}(hs:bF P t=some 1)(hb:h.boxes[b]?=some cs)(hl:off+1<=cs.length):aA P h t (.ptr (.box b) off) (.list k sz es)=some (h.put b (bI cs off [.list k sz es])):=aW rfl hs hb rfl hl
theorem FW{l:List UInt8}{k k':IntKind}{lo hi:Int}(hu:P.underlying t=some .string)(h0:0<=lo)(h1:lo<=hi)(h2:hi<=l.length):
 ck P t (.v (.string (bs l))) (some (.v (.int k lo))) (some (.v (.int k' hi))) none=some (.v (.string (bs ((l.take hi.toNat).drop lo.toNat)))):=by
 unfold ck
 simp only[acW,ade,abW,if_false,hu,np]
 have e1:bX l.length (some (AV.v (.int k' hi))) l.length=some hi.toNat:=by
  unfold bX;simp only;rw[if_pos ⟨by omega,h2⟩]
 have e2:bX hi.toNat (some (AV.v (.int k lo))) 0=some lo.toNat:=by
  unfold bX;simp only;rw[if_pos ⟨h0,by omega⟩]
 simp only[e1,e2,qt]
theorem uZ{l:List UInt8}{k:IntKind}{lo:Int}(hu:P.underlying t=some .string)(h0:0<=lo)(h1:lo<=l.length):
 ck P t (.v (.string (bs l))) (some (.v (.int k lo))) none none=some (.v (.string (bs (l.drop lo.toNat)))):=by
 unfold ck
 simp only[acW,ade,abW,if_false,hu,np]
 have e1:bX l.length none l.length=some l.length:=rfl
 have e2:bX l.length (some (AV.v (.int k lo))) 0=some lo.toNat:=by
  unfold bX;simp only;rw[if_pos ⟨h0,h1⟩]
 simp only[e1,e2,qt,abU]
theorem yV{l:List UInt8}{k':IntKind}{hi:Int}(hu:P.underlying t=some .string)(h0:0<=hi)(h2:hi<=l.length):
 ck P t (.v (.string (bs l))) none (some (.v (.int k' hi))) none=some (.v (.string (bs (l.take hi.toNat)))):=by
 unfold ck
 simp only[acW,ade,abW,if_false,hu,np]
 have e1:bX l.length (some (AV.v (.int k' hi))) l.length=some hi.toNat:=by
  unfold bX;simp only;rw[if_pos ⟨h0,h2⟩]
 have e2:bX hi.toNat none 0=some 0:=rfl
 simp only[e1,e2,qt,abZ]
theorem Mb{r:Ref}:qi (.ptr r off)=some (.ptr r off):=rfl
end
end Go.AE
end
section
namespace Go.AE
def Env.dfr(e:Env)(d:FuncId × List AV):Env:={e with defers:=d::e.defers}
def Env.pn(e:Env)(p:Option (AV × Bool)):Env:={e with pan:=p}
section
variable {e:Env} {d:FuncId × List AV} {p:Option (AV × Bool)} {t:Nat}
theorem Mc:(e.dfr d).get t=e.get t:=rfl
theorem C0:(e.dfr d).defers=d::e.defers:=rfl
theorem Md:(e.dfr d).pan=e.pan:=rfl
theorem xd:(e.dfr d).round=e.round:=rfl
theorem Oi:(e.pn p).get t=e.get t:=rfl
theorem FX:(e.pn p).defers=e.defers:=rfl
theorem Oj:(e.pn p).pan=p:=rfl
theorem AI:(e.pn p).round=e.round:=rfl
end
def IQ(P:Program)(G:Nat->Option (List AV))(R:Rec)(ops:Array Oper)(rest:List Oper)(d:Option Tmp)(args:List AV)(e:Env)(h:ae)(Q:Xt->Env->ae->Prop)(x:AV):Prop:=
 match x with
 | .func (.func g) first cap=>cz P G R ops rest ((e.dfr (g,first++args++cap)).put d (.tuple [])) h Q
 |_=>False
def u0(P:Program)(G:Nat->Option (List AV))(R:Rec)(ops:Array Oper)(rest:List Oper)(d:Option Tmp)(e:Env)(h:ae)(Q:Xt->Env->ae->Prop)(p:Option (AV × Bool)):Prop:=
 match p with
 |some (x,false)=>cz P G R ops rest ((e.pn (some (x,true))).put d x) h Q
 |_=>cz P G R ops rest (e.put d (.v .nilIface)) h Q
section
variable {P:Program} {G:Nat->Option (List AV)} {R:Rec} {ops:Array Oper} {rest:List Oper} {e:Env} {h:ae} {Q:Xt->Env->ae->Prop} {d:Option Tmp} {ty:TypeId} {pos:String} {af:Array Edge}
theorem IT{f:Operand}{args:Array Operand}{ts:Array TypeId}(hr:e.round=none):cz P G R ops (⟨d,.defer {callee:=.value f,args,argTypes:=ts},ty,pos,af,none⟩::rest) e h Q=IQ P G R ops rest d (args.toList.map e.eval) e h Q (e.eval f):=by
 rw[CU hr]
 generalize e.eval f=y
 rcases y with _|_|_|_|_|_|_|_|⟨fn,a,b⟩|_|_
 case func=>cases fn<;>rfl
 all_goals rfl
theorem C4{g:FuncId}{first cap args:List AV}:IQ P G R ops rest d args e h Q (.func (.func g) first cap)=cz P G R ops rest ((e.dfr (g,first++args++cap)).put d (.tuple [])) h Q:=rfl
theorem C5{args:Array Operand}{ts:Array TypeId}(hr:e.round=none):cz P G R ops (⟨d,.call {callee:=.builtin .recover,args,argTypes:=ts},ty,pos,af,none⟩::rest) e h Q=u0 P G R ops rest d e h Q e.pan:=by
 rw[yR hr]
 rcases hp:e.pan with _|⟨x,b⟩
 ·rfl
 ·cases b<;>rfl
theorem yW{x:AV}:u0 P G R ops rest d e h Q (some (x,false))=cz P G R ops rest ((e.pn (some (x,true))).put d x) h Q:=rfl
theorem yX:u0 P G R ops rest d e h Q none=cz P G R ops rest (e.put d (.v .nilIface)) h Q:=rfl
theorem oC{fn:Func}{g:FuncId}{args:List AV}{ds:List (FuncId × List AV)}{x:AV}{h':ae}(hc:R.fg g args none h=some (.ret x,none,h')):bD P G R fn e ((g,args)::ds) none h=bD P G R fn e ds none h':=by
 rw[bD,hc]
theorem yY{fn:Func}{g:FuncId}{args:List AV}{ds:List (FuncId × List AV)}{x y z:AV}{h':ae}(hc:R.fg g args (some (y,false)) h=some (.ret x,some (z,true),h')):bD P G R fn e ((g,args)::ds) (some (y,false)) h=bD P G R fn e ds none h':=by
 rw[bD,hc]
end
end Go.AE
end
section
namespace Go.AE
def Me(P:Program)(G:Nat->Option (List AV))(R:Rec)(fn:Func)(Post:Res->ae->Prop):Xt->Env->ae->Prop:=fun o e h=>∃r h',yK P G R fn r h' o e h/\Post r h'
theorem AJ{P:Program}{G:Nat->Option (List AV)}{R:Rec}{fn:Func}{Post:Res->ae->Prop}{e:Env}{h:ae}:Me P G R fn Post .normal e h=∃r h',bD P G R fn e e.defers none h=some (r,h')/\Post r h':=rfl
theorem IU{P:Program}{G:Nat->Option (List AV)}{R:Rec}{fn:Func}{Post:Res->ae->Prop}{e:Env}{h:ae}:Me P G R fn Post .ret e h=∃r h',bD P G R fn e e.defers none h=some (r,h')/\Post r h':=rfl
theorem C6{P:Program}{G:Nat->Option (List AV)}{R:Rec}{fn:Func}{Post:Res->ae->Prop}{e:Env}{h:ae}{x:AV}:Me P G R fn Post (.panic x) e h=∃r h',bD P G R fn e e.defers (some (x,false)) h=some (r,h')/\Post r h':=rfl
theorem aL{P:Program}{G:Nat->Option (List AV)}{prims:FuncId->Option (List AV->ae->Option (AV × ae))}{g:FuncId}{fn:Func}{body:Code}{args:List AV}{h:ae}{Post:Res->ae->Prop}(hp:prims g=none)(hfn:P.funcs[g]?=some fn)(hb:fn.body=some body)
 (hr:Run (whole P G prims) body (Env.start args none) h (Me P G (whole P G prims) fn Post)):∃r h',(whole P G prims).call g args h=some (r,h')/\Post r h':=by
 obtain⟨o,e1,h1,h2,r,h',h3,h4⟩:=hr
 exact⟨r,h',ar hp hfn hb ⟨o,e1,h1,h2,h3⟩,h4⟩
end Go.AE
end
section
namespace Go.AE
section
variable {P:Program} {h:ae} {ts:Array TypeId} {ty:TypeId} {k:IntKind} {a b:Int}
theorem pc:bK P h .max ts ty [.v (.int k a),.v (.int k b)]=some (.v (.int k (if a<b then b else a)),h):=by
 have h1:bK P h .max ts ty [.v (.int k a),.v (.int k b)]=((bQ P (Builtin.max_ ts ty #[.int k a,.int k b])).bind eS).map (·,h):=rfl
 rw[h1]
 have h2:bQ P (Builtin.max_ ts ty #[.int k a,.int k b])=some (.int k (if a<b then b else a)):=by
  simp[Builtin.max_,Builtin.max2]
  split<;>simp_all<;>rfl
 rw[h2]
 split<;>rfl
theorem ri:bK P h .min ts ty [.v (.int k a),.v (.int k b)]=some (.v (.int k (if b<a then b else a)),h):=by
 have h1:bK P h .min ts ty [.v (.int k a),.v (.int k b)]=((bQ P (Builtin.min_ ts ty #[.int k a,.int k b])).bind eS).map (·,h):=rfl
 rw[h1]
 have h2:bQ P (Builtin.min_ ts ty #[.int k a,.int k b])=some (.int k (if b<a then b else a)):=by
  simp[Builtin.min_,Builtin.min2]
  split<;>simp_all<;>rfl
 rw[h2]
 split<;>rfl
theorem Ok{t:TypeId}{x:AV}:bK P h .len #[t] ty [x]=(cH P t x).map (·,h):=rfl
theorem u6{t:TypeId}{x:AV}:bK P h .cap #[t] ty [x]=(wQ P t x).map (·,h):=rfl
theorem append_eq{d:Option Tmp}{s x:AV}:eV P (fun _=>none) d h .append ts ty [s,x]=bP P h ts s x:=rfl
theorem AK{G:Nat->Option (List AV)}{d:Option Tmp}{s x:AV}(ht:uu G d ty=false):eV P G d h .append ts ty [s,x]=bP P h ts s x:=by
 unfold eV
 simp only[ht,abW,if_false]
theorem AL{G:Nat->Option (List AV)}{d:Option Tmp}{s x:AV}(ht:uu G d ty=true):eV P G d h .append ts ty [s,x]=iX P h ts s x:=by
 unfold eV
 simp only[ht,if_true]
theorem copy_eq{s x:AV}:bK P h .copy ts ty [s,x]=oi P h ts s x:=rfl
end
end Go.AE
end
section
namespace Go.AE
section
variable {H:Type} {P:Program} {t e:TypeId} {cs xs:List AV} {x:AV} {d:DataW H}
theorem Has.rk{k:IntKind}(h:Has P t cs d)(hu:P.underlying t=some (.int k)):∃n:Int,cs=[.v (.int k n)]/\k.min<=n/\n<=k.max:=by
 cases h with
 |int hu' n hn=>
  rw[hu] at hu';injection hu' with hu';injection hu' with hu';subst hu'
  exact⟨n,rfl,by simpa [Lit.wf] using hn⟩
 |bool hu'=>rw[hu] at hu';cases hu'
 |str hu'=>rw[hu] at hu';cases hu'
 |none hu'=>rw[hu] at hu';cases hu'
 |list hu'=>rw[hu] at hu';cases hu'
 |struct hu'=>rw[hu] at hu';cases hu'
 |array hu'=>rw[hu] at hu';cases hu'
theorem Has.yZ(h:Has P t cs d)(hu:P.underlying t=some (.int .i64)):∃n:Int,cs=[.v (.int .i64 n)]/\ -9223372036854775808<=n/\n<=9223372036854775807:=by
 obtain⟨n,h1,h2,h3⟩:=h.rk hu
 simp[IntKind.min,IntKind.max,IntKind.signed,IntKind.bits] at h2 h3
 exact⟨n,h1,h2,h3⟩
theorem Has.C7(h:Has P t cs d)(hu:P.underlying t=some (.int .u8)):∃b:UInt8,cs=dp b:=by
 obtain⟨n,h1,h2,h4⟩:=h.rk hu
 simp[IntKind.min,IntKind.max,IntKind.signed,IntKind.bits] at h2 h4
 refine⟨UInt8.ofNat n.toNat,?_⟩
 have h3:((UInt8.ofNat n.toNat).toNat:Int)=n:=by
  have:(UInt8.ofNat n.toNat).toNat=n.toNat:=by simp;omega
  rw[this];omega
 rw[h1,dp,h3]
theorem Has.kj(h:Has P t cs d)(hu:P.underlying t=some (.slice e)):∃(k:Tok) (es:List (List AV)),cs=[.list k (P.cellsOf e) es]/\es.length<=maxLen/\(k=.nil∨k=.held∨(k=.tight/\es=[]))/\(k=.nil->es=[])/\
 ∀r∈es,r.length=P.cellsOf e/\∃d:DataW H,Has P e r d:=by
 cases h with
 |bool hu'=>rw[hu] at hu';cases hu'
 |int hu'=>rw[hu] at hu';cases hu'
 |str hu'=>rw[hu] at hu';cases hu'
 |none hu'=>
  rw[hu] at hu';injection hu' with hu';injection hu' with hu';subst hu'
  exact⟨.nil,[],rfl,by simp,.inl rfl,fun _=>rfl,fun r hr=>by cases hr⟩
 |list hu' k es ds sp hk hl hd he hs=>
  rw[hu] at hu';injection hu' with hu';injection hu' with hu';subst hu'
  refine⟨k,es,rfl,hl,.inr hk,?_,fun r hr=>⟨hs r hr,?_⟩⟩
  ·rintro rfl
   rcases hk with hk|⟨hk,-⟩<;>cases hk
  ·obtain⟨i,hi,rfl⟩:=ac8.1 hr
   exact⟨ds[i],he i _ _ (abo hi) (abo (by omega))⟩
 |struct hu'=>rw[hu] at hu';cases hu'
 |array hu'=>rw[hu] at hu';cases hu'
theorem Has.nq{fs:Array Field}{tys:List (TypeId × Nat)}(h:Has P t xs d)(hu:P.underlying t=some (.struct fs))(hf:(fs.toList.map fun f=>(f.type,f.offset))=tys):
 xs.length=P.cellsOf t/\∀(i:Nat) (u:TypeId) (o:Nat),tys[i]?=some (u,o)->∃d:DataW H,Has P u ((xs.drop o).take (P.cellsOf u)) d:=by
 cases h with
 |bool hu'=>rw[hu] at hu';cases hu'
 |int hu'=>rw[hu] at hu';cases hu'
 |str hu'=>rw[hu] at hu';cases hu'
 |none hu'=>rw[hu] at hu';cases hu'
 |list hu'=>rw[hu] at hu';cases hu'
 |array hu'=>rw[hu] at hu';cases hu'
 |struct hu' xs ds hl hd hff=>
  rw[hu] at hu';injection hu' with hu';injection hu' with hu';subst hu'
  refine⟨hl,fun i u o ho=>?_⟩
  rw[<-hf,abF] at ho
  cases hq:fs.toList[i]? with
  |none=>rw[hq] at ho;cases ho
  |some f=>
   rw[hq] at ho
   simp only[abJ,abA,abC] at ho
   have hi:i<ds.length:=by
    have:=(abm.1 hq).1
    simp at this
    omega
   have:=hff i f ds[i] (by rw[<-Array.getElem?_toList];exact hq) (abo hi)
   rw[ho.1,ho.2] at this
   exact⟨_,this⟩
theorem jy.plain(h:jy P t x d)(hu:∀fs,P.underlying t≠some (.struct fs))(hu2:∀n e,P.underlying t≠some (.array n e)):Has P t [x] d:=by
 unfold jy at h
 split at h
 ·rename_i h1;exact absurd h1 (hu _)
 ·rename_i h1;exact absurd h1 (hu2 _ _)
 ·exact h
theorem jy.yZ(h:jy P t x d)(hu:P.underlying t=some (.int .i64)):∃n:Int,x=.v (.int .i64 n)/\ -9223372036854775808<=n/\n<=9223372036854775807:=by
 obtain⟨l,h1,h2⟩:=(h.plain (fun _ hq=>by rw[hu] at hq;cases hq) (fun _ _ hq=>by rw[hu] at hq;cases hq)).yZ hu
 injection h1 with h1
 exact⟨l,h1,h2⟩
theorem jy.C7(h:jy P t x d)(hu:P.underlying t=some (.int .u8)):∃b:UInt8,x=.v (.int .u8 b.toNat):=by
 obtain⟨l,h1⟩:=(h.plain (fun _ hq=>by rw[hu] at hq;cases hq) (fun _ _ hq=>by rw[hu] at hq;cases hq)).C7 hu
 injection h1 with h1
 exact⟨l,h1⟩
theorem jy.kj(h:jy P t x d)(hu:P.underlying t=some (.slice e)):∃(k:Tok) (es:List (List AV)),x=.list k (P.cellsOf e) es/\es.length<=maxLen/\(k=.nil∨k=.held∨(k=.tight/\es=[]))/\(k=.nil->es=[])/\
 ∀r∈es,r.length=P.cellsOf e/\∃d:DataW H,Has P e r d:=by
 obtain⟨k,es,h1,h2⟩:=(h.plain (fun _ hq=>by rw[hu] at hq;cases hq) (fun _ _ hq=>by rw[hu] at hq;cases hq)).kj hu
 injection h1 with h1
 exact⟨k,es,h1,h2⟩
theorem jy.nq{fs:Array Field}(h:jy P t x d)(hu:P.underlying t=some (.struct fs)):∃xs,x=.agg xs/\Has P t xs d:=by
 unfold jy at h
 rw[hu] at h
 exact h
def oD(P:Program)(t:TypeId)(tys:List (TypeId × Nat)):Bool:=
 match P.underlying t with
 |some (.struct fs)=>decide ((fs.toList.map fun f=>(f.type,f.offset))=tys)
 |_=>false
theorem tu{tys:List (TypeId × Nat)}(h:oD P t tys=true):∃fs:Array Field,P.underlying t=some (.struct fs)/\(fs.toList.map fun f=>(f.type,f.offset))=tys:=by
 unfold oD at h
 split at h
 ·rename_i fs hu;exact⟨fs,hu,by simpa using h⟩
 ·cases h
theorem jy.fields{tys:List (TypeId × Nat)}(h:jy P t x d)(hs:oD P t tys=true):∃xs,x=.agg xs/\xs.length=P.cellsOf t/\∀(i:Nat) (u:TypeId) (o:Nat),tys[i]?=some (u,o)->∃d:DataW H,Has P u ((xs.drop o).take (P.cellsOf u)) d:=by
 obtain⟨fs,hu,hf⟩:=tu hs
 obtain⟨xs,h1,h2⟩:=h.nq hu
 exact⟨xs,h1,h2.nq hu hf⟩
theorem Has.fields{tys:List (TypeId × Nat)}(h:Has P t xs d)(hs:oD P t tys=true):xs.length=P.cellsOf t/\∀(i:Nat) (u:TypeId) (o:Nat),tys[i]?=some (u,o)->∃d:DataW H,Has P u ((xs.drop o).take (P.cellsOf u)) d:=by
 obtain⟨fs,hu,hf⟩:=tu hs
 exact h.nq hu hf
theorem Qg{α:Type}{l:List α}(h:l.length=2):∃a b,l=[a,b]:=by
 match l,h with
 | [a,b],_=>exact⟨a,b,rfl⟩
theorem Ei{α:Type}{f:α->List AV}:∀{es:List (List AV)},(∀r∈es,∃a,r=f a)->∃l:List α,es=l.map f:=by
 intro es
 induction es with
 |nil=>intro _;exact⟨[],rfl⟩
 |cons r es ih=>
  intro h
  obtain⟨a,rfl⟩:=h r abM
  obtain⟨l,rfl⟩:=ih fun r hr=>h r (abH _ hr)
  exact⟨a::l,rfl⟩
end
end Go.AE
end
section
namespace Go.AE
end Go.AE
end
section
namespace Go.AE
section
variable {a b:Nat × Operand} {i k:Nat} {n:Int} {x:ByteArray} {l:List (Nat × Operand)}
theorem Ol:fc #[]=false:=rfl
theorem Om:fc #[a]=false:=by
 obtain⟨i,o⟩:=a
 cases o with
 |const v=>
  cases v with
  |int k n=>cases k<;>rfl
  |_=>rfl
 |_=>rfl
theorem On:fc (afM ((i,.tmp k)::l))=false:=rfl
theorem Oo:fc (afM ((i,.const (.int .i64 n))::l))=false:=rfl
theorem Oq:fc (afM ((i,.const (.string x))::l))=false:=rfl
theorem Qn:fc (afM ((i,.const (.int .u8 n))::b::l))=true:=rfl
end
set_option linter.defProp false in
def goS:=abp @run_seq (abp @CG (abp @Ix (abp @FJ (abp @Iw (abp @LI (abp @Iv (abp @FH (abp @FI (abp @Av (abp @Iu (abp @FG (abp @CE (abp @wq (abp @CF (abp @tq (abp @yH (abp @yJ (abp @FK (abp @CI (abp @Ax (abp @yI (abp @Aw (abp @Ar (abp @yF (abp @Io (abp @Ip (abp @Iq (abp @Ir (abp @Is (abp @yD (abp @yE (abp @FF (abp @Iz (abp @CL (abp @LJ (abp @FL (abp @LK (abp @IB (abp @Ob (abp @IC (abp @wu (abp @LL (abp @ID (abp @AA (abp @IE (abp @LM (abp @CQ (abp @sC (abp @AB (abp @yO (abp @IF (abp @yP (abp @IG (abp @yQ (abp @IH (abp @wx (abp @CR (abp @Oc (abp @Od (abp @FM (abp @LN (abp @Oe (abp @Of (abp @CP (abp @CM (abp @CO (abp @yN (abp @xc (abp @Az (abp @Ik (abp @Il (abp @yy (abp @Fz (abp @Oa (abp @Ap (abp @FA (abp @yz (abp @FB (abp @oA (abp @lv (abp @eval_const (abp @eval_func (abp @eval_global (abp @FC (abp @CA (abp @yA (abp @uQ (abp @wm (abp @yB (abp @uR (abp @FD (abp @Qk (abp @np (abp @Eg (abp @LO (abp @LQ (abp @LR (abp @LS (abp @LU (abp @LV (abp @LW (abp @LX (abp @LY (abp @LZ (abp @II (abp @IJ (abp @IK (abp @Og (abp @Oh (abp @uU (abp @uV (abp @yS (abp @yT (abp @FO (abp @bT (abp @yU (abp @Ay (abp @Iy (abp @CJ (abp @AF (abp @IN (abp @CX (abp @CK (abp @yM (abp @aeJ (abp @adL (abp @abW (abp @decide_true (abp @decide_false (abp @not_true_eq_false (abp @not_false_eq_true (abp @abB (abp @Int.toNat_zero (abp @Nat.succ_ne_zero (abp @pc (abp @ri (abp @Ok (abp @u6 (abp @append_eq (abp @copy_eq (abp @Ol (abp @Om (abp @On (abp @Oo (abp @Oq (@Qn))))))))))))))))))))))))))))))))))))))))))))))))))))))))))))))))))))))))))))))))))))))))))))))))))))))))))))))))))))))))))))))))))))))))))))))))))
set_option linter.defProp false in
def goH:=abp @AJ (abp @IU (abp @C6 (abp @oC (abp @yY (abp @CT (abp @IT (abp @C4 (abp @C5 (abp @yW (abp @yX (abp @Mc (abp @C0 (abp @Md (abp @xd (abp @Oi (abp @FX (abp @Oj (abp @AI (abp @dc (abp @cP (abp @L9 (abp @Ma (abp @FW (abp @uZ (abp @yV (abp @Mb (abp @aw (abp @Nat.zero_add (@adO)))))))))))))))))))))))))))))
end Go.AE
end
section
namespace Go.AE
section
variable {P:Program} {G:Nat->Option (List AV)} {prims:FuncId->Option (List AV->ae->Option (AV × ae))} {Q:Xt->Env->ae->Prop} {e:Env} {h:ae}
def ug(e:Env)(params:Array Tmp)(assign body:Code):bE:={tmps:=e.tmps,params,assign,body,state:=.ready,pending:=none}
def ae.loop(h:ae)(r:bE):ae:={h with loops:=h.loops++[r]}
def ae.done(h:ae)(l:Nat)(r:bE):ae:={h with loops:=h.loops.set l {r with state:=.exhausted}}
theorem tT{f:Operand}{params:Array Tmp}{assign body:Code}{g:FuncId}{first cap:List AV}(hf:e.eval f=.func (.func g) first cap){x:AV}{h':ae}
 (hc:(whole P G prims).call g (first++[.yield h.loops.length]++cap) (h.loop (ug e params assign body))=some (.panic x,h')) (hq:Q (.panic x) e h'):
 Run (whole P G prims) (.rangeFunc f params assign body) e h Q:=by
 unfold Run
 rw[dz]
 unfold b7
 have hc':(whole P G prims).call g (first++[.yield h.loops.length]++cap) {h with loops:=h.loops++[{tmps:=e.tmps,params,assign,body,state:=.ready,pending:=none}]}=some (.panic x,h'):=hc
 simp only[hf,hc']
 exact⟨_,_,_,rfl,hq⟩
theorem wB{f:Operand}{params:Array Tmp}{assign body:Code}{g:FuncId}{first cap:List AV}(hf:e.eval f=.func (.func g) first cap){x:AV}{h':ae}{r:bE}
 (hc:(whole P G prims).call g (first++[.yield h.loops.length]++cap) (h.loop (ug e params assign body))=some (.ret x,h')) (hr:h'.loops[h.loops.length]?=some r) (hb:r.state≠ .busy) (hp:r.pending=none)
 (hq:Q .normal e (h'.done h.loops.length r)):Run (whole P G prims) (.rangeFunc f params assign body) e h Q:=by
 unfold Run
 rw[dz]
 unfold b7
 have hc':(whole P G prims).call g (first++[.yield h.loops.length]++cap) {h with loops:=h.loops++[{tmps:=e.tmps,params,assign,body,state:=.ready,pending:=none}]}=some (.ret x,h'):=hc
 simp only[hf,hc',hr,hp]
 rw[if_neg hb]
 refine⟨_,_,_,rfl,?_⟩
 simpa only[ae.done,hp] using hq
theorem wC{f:Operand}{params:Array Tmp}{assign body:Code}{g:FuncId}{first cap:List AV}(hf:e.eval f=.func (.func g) first cap){x:AV}{h':ae}{r:bE}
 (hc:(whole P G prims).call g (first++[.yield h.loops.length]++cap) (h.loop (ug e params assign body))=some (.ret x,h')) (hr:h'.loops[h.loops.length]?=some r) (hb:r.state≠ .busy) (hp:r.pending=some .ret)
 (hq:Q .ret e (h'.done h.loops.length r)):Run (whole P G prims) (.rangeFunc f params assign body) e h Q:=by
 unfold Run
 rw[dz]
 unfold b7
 have hc':(whole P G prims).call g (first++[.yield h.loops.length]++cap) {h with loops:=h.loops++[{tmps:=e.tmps,params,assign,body,state:=.ready,pending:=none}]}=some (.ret x,h'):=hc
 simp only[hf,hc',hr,hp]
 rw[if_neg hb]
 refine⟨_,_,_,rfl,?_⟩
 simpa only[ae.done,hp] using hq
def dD(l:Nat)(r:bE)(args:List AV):Env:={tmps:=j9 r.params.toList args r.tmps,defers:=[],pan:=none,round:=some l}
def ae.busy(h:ae)(l:Nat)(r:bE):ae:={h with loops:=h.loops.set l {r with state:=.busy}}
def Ot(l:Nat)(x:Res)(h':ae):Xt->Env->ae->Prop
 | .normal,_,h2=>∃r,h2.loops[l]?=some r/\x=.ret (.v (.bool true))/\h'={h2 with loops:=h2.loops.set l {r with state:=.ready,pending:=none}}
 | .ret,_,h2=>∃r,h2.loops[l]?=some r/\x=.ret (.v (.bool false))/\h'={h2 with loops:=h2.loops.set l {r with state:=.done,pending:=some .ret}}
 | .exit id,_,h2=>∃r,h2.loops[l]?=some r/\x=.ret (.v (.bool false))/\h'={h2 with loops:=h2.loops.set l {r with state:=.done,pending:=some (.exit id)}}
 | .panic z,_,h2=>x=.panic z/\h'=h2
theorem jT{l:Nat}{args:List AV}{r:bE}{x:Res}{h':ae}(hr:h.loops[l]?=some r)(hs:r.params.size=args.length)
 (ha:Run (whole P G prims) r.assign (dD l r args) h (fun o e1 h1=>o=.normal/\∃r2,h1.loops[l]?=some r2/\r2.state=.ready/\Run (whole P G prims) r.body e1 (h1.busy l r2) (Ot l x h'))):
 (whole P G prims).round l args h=some (x,h'):=by
 rw[Ao]
 unfold iC
 obtain⟨o,e1,h1,e2,rfl,r2,q1,q2,o2,e3,h3,q3,q4⟩:=ha
 have e2':(whole P G prims).code r.assign {tmps:=j9 r.params.toList args r.tmps,defers:=[],pan:=none,round:=some l} h=some (.normal,e1,h1):=e2
 have q3':(whole P G prims).code r.body e1 {h1 with loops:=h1.loops.set l {r2 with state:=.busy}}=some (o2,e3,h3):=q3
 simp only[hr,hs,if_true,e2',q1,q2]
 rw[show({h1 with loops:=h1.loops.set l {tmps:=r2.tmps,params:=r2.params,assign:=r2.assign,body:=r2.body,state:=LoopState.busy,pending:=r2.pending}}:ae)={h1 with loops:=h1.loops.set l {r2 with state:=.busy}} from rfl,q3']
 cases o2 with
 |normal=>obtain⟨r3,w1,rfl,rfl⟩:=q4;simp only[w1,abJ]
 |ret=>obtain⟨r3,w1,rfl,rfl⟩:=q4;simp only[w1,abJ]
 |exit id=>obtain⟨r3,w1,rfl,rfl⟩:=q4;simp only[w1,abJ]
 |panic z=>obtain⟨rfl,rfl⟩:=q4;rfl
end
end Go.AE
end
section
namespace Go.AE
structure Fr(bn l0 n0:Nat)(h h':ae):Prop where
 box:∀(c:Nat) (cs:List AV),c≠bn->h.boxes[c]?=some cs->h'.boxes[c]?=some cs
 len:h.boxes.length<=h'.boxes.length
 loop:∀(l:Nat) (r:bE),l<l0->h.loops[l]?=some r->h'.loops[l]?=some r
 IV:h.loops.length<=h'.loops.length
 tn:h.tn<=h'.tn
 dead:∀n,n<n0->n∈h'.dead->n∈h.dead
 ok:aZ h=true->aZ h'=true
theorem Fr.refl(bn l0 n0:Nat)(h:ae):Fr bn l0 n0 h h:=⟨fun _ _ _ h=>h,abq _,fun _ _ _ h=>h,abq _,abq _,fun _ _ h=>h,fun h=>h⟩
theorem Fr.trans{bn l0 n0:Nat}{a b c:ae}(h:Fr bn l0 n0 a b)(k:Fr bn l0 n0 b c):Fr bn l0 n0 a c:=
 ⟨fun i cs hi hb=>k.box i cs hi (h.box i cs hi hb),abT h.len k.len,fun l r hl hr=>k.loop l r hl (h.loop l r hl hr),abT h.IV k.IV,abT h.tn k.tn,fun n hn hd=>h.dead n hn (k.dead n hn hd),fun ho=>k.ok (h.ok ho)⟩
theorem Ext.IV{h h':ae}(x:Ext h h'):h.loops.length<=h'.loops.length:=by
 rcases abL h'.loops.length h.loops.length with hlt|hge
 ·have h1:=x.loop h'.loops.length _ (abo hlt)
  have:=(abm.1 h1).1
  omega
 ·exact hge
theorem Fr.sF{bn l0 n0:Nat}{h h':ae}(x:Ext h h')(hn:n0<=h.tn):Fr bn l0 n0 h h':=
 ⟨fun c cs _ hc=>x.box c cs hc,x.len,fun l r _ hl=>x.loop l r hl,x.IV,x.tn,fun n h1 h2=>x.dead n (ab8 h1 hn) h2,x.ok⟩
theorem Fr.push(bn l0 n0:Nat)(h:ae)(cs:List AV):Fr bn l0 n0 h (h.push cs):=
 ⟨fun _ _ _ hb=>aj hb,by rw[az];exact aft _,fun _ _ _ h=>h,abq _,abq _,fun _ _ h=>h,fun h=>h⟩
theorem Fr.put(bn l0 n0:Nat)(h:ae)(cs:List AV):Fr bn l0 n0 h (h.put bn cs):=
 ⟨fun c ds hc hb=>by rw[av hc];exact hb,by rw[dU];exact abq _,fun _ _ _ h=>h,abq _,abq _,fun _ _ h=>h,fun h=>h⟩
def ae.bh(h:ae)(l:Nat)(r:bE):ae:={h with loops:=h.loops.set l r}
theorem Fr.bh{bn l0 n0:Nat}{h:ae}{l:Nat}(hl:l0<=l)(r:bE):Fr bn l0 n0 h (h.bh l r):=
 ⟨fun _ _ _ hb=>hb,abq _,fun m q hm hq=>by rw[<-hq];exact adR (by omega),by simp[ae.bh],abq _,fun _ _ h=>h,fun h=>h⟩
theorem Fr.lD{bn l0 n0:Nat}(h:ae)(r:bE):Fr bn l0 n0 h (h.loop r):=
 ⟨fun _ _ _ hb=>hb,abq _,fun m q hm hq=>cC hq,by simp[ae.loop],abq _,fun _ _ h=>h,fun h=>h⟩
theorem Fr.ext{bn l0 n0:Nat}{h h':ae}(x:Fr bn l0 n0 h h')(hb:h.boxes.length<=bn)(hl:h.loops.length<=l0)(hn:h.tn<=n0):Ext h h':=
 ⟨fun c cs hc=>x.box c cs (by have:=(abm.1 hc).1;omega) hc,fun l r hr=>x.loop l r (by have:=(abm.1 hr).1;omega) hr,x.tn,fun n h1 h2=>x.dead n (ab8 h1 hn) h2,x.ok⟩
theorem rl{h:ae}{l:Nat}{r:bE}(hl:l<h.loops.length):(h.bh l r).loops[l]?=some r:=by simp[ae.bh,hl]
theorem pX{h:ae}{l m:Nat}{r:bE}(hl:m≠l):(h.bh l r).loops[m]?=h.loops[m]?:=by simp[ae.bh,adR (Ne.symm hl)]
theorem kC{h:ae}{r:bE}:(h.loop r).loops[h.loops.length]?=some r:=by simp[ae.loop]
theorem AM{h:ae}{r q:bE}{l:Nat}(hq:h.loops[l]?=some q):(h.loop r).loops[l]?=some q:=cC hq
def St(l:Nat)(h h':ae):Prop:=(∀(b:Nat) (cs:List AV),h.boxes[b]?=some cs->h'.boxes[b]?=some cs)/\∀(m:Nat) (r:bE),m<=l->h.loops[m]?=some r->h'.loops[m]?=some r
theorem St.refl(l:Nat)(h:ae):St l h h:=⟨fun _ _ h=>h,fun _ _ _ h=>h⟩
theorem St.trans{l:Nat}{a b c:ae}(h:St l a b)(k:St l b c):St l a c:=⟨fun i cs hb=>k.1 i cs (h.1 i cs hb),fun m r hm hr=>k.2 m r hm (h.2 m r hm hr)⟩
theorem St.push(l:Nat)(h:ae)(cs:List AV):St l h (h.push cs):=⟨fun _ _ hb=>aj hb,fun _ _ _ h=>h⟩
theorem St.sF{l:Nat}{h h':ae}(x:Ext h h'):St l h h':=⟨x.box,fun m r _ hr=>x.loop m r hr⟩
theorem St.bh{l k:Nat}{h:ae}(hl:l<k)(r:bE):St l h (h.bh k r):=⟨fun _ _ hb=>hb,fun m q hm hq=>by rw[pX (by omega)];exact hq⟩
theorem St.lD(l:Nat)(h:ae)(r:bE):St l h (h.loop r):=⟨fun _ _ hb=>hb,fun m q _ hq=>AM hq⟩
theorem St.bZ{l:Nat}{h h':ae}(x:St l h h'){b:Nat}(hb:h.boxes.length<=b)(cs:List AV):St l h (h'.put b cs):=
 ⟨fun c ds hc=>by
  have hlt:c<h.boxes.length:=(abm.1 hc).1
  rw[av (by omega)]
  exact x.1 c ds hc,x.2⟩
inductive Nx (α:Type) where
 |cont (a:α)|stop (a:α)|panic (v:AV)
theorem Run.gen{R:Rec}{c:Code}{e:Env}{h:ae}{Q:Xt->Env->ae->Prop}(hq:∀e2:Env,(∀t,e2.get t=e.get t)->e2.defers=e.defers->e2.pan=e.pan->e2.round=e.round->Run R c e2 h Q):Run R c e h Q:=hq e (fun _=>rfl) rfl rfl rfl
section
variable {P:Program} {G:Nat->Option (List AV)} {prims:FuncId->Option (List AV->ae->Option (AV × ae))} {Q:Xt->Env->ae->Prop} {e:Env} {h:ae}
theorem kD{f:Operand}{params:Array Tmp}{assign body:Code}{g:FuncId}{first cap:List AV}(hf:e.eval f=.func (.func g) first cap)
 (H:∀rec:bE,rec.tmps=e.tmps->rec.params=params->rec.assign=assign->rec.body=body->rec.state=.ready->rec.pending=none->∃r h',(whole P G prims).call g (first++[.yield h.loops.length]++cap) (h.loop rec)=some (r,h')/\
  match r with
  | .panic x=>Q (.panic x) e h'
  | .ret _=>∃rc,h'.loops[h.loops.length]?=some rc/\rc.state≠ .busy/\((rc.pending=none/\Q .normal e (h'.bh h.loops.length {rc with state:=.exhausted}))∨(rc.pending=some .ret/\Q .ret e (h'.bh h.loops.length {rc with state:=.exhausted})))):
 Run (whole P G prims) (.rangeFunc f params assign body) e h Q:=by
 obtain⟨r,h',hc,hm⟩:=H (ug e params assign body) rfl rfl rfl rfl rfl rfl
 cases r with
 |panic x=>exact tT hf hc hm
 |ret x=>
  obtain⟨rc,h1,h2,h3|h3⟩:=hm
  ·exact wB hf hc h1 h2 h3.1 h3.2
  ·exact wC hf hc h1 h2 h3.1 h3.2
theorem rm{l p t:Nat}{r:bE}{x:AV}(hp:r.params=#[p])(ht:r.tmps=e.tmps):(dD l r [x]).get t=if p=t then x else e.get t:=by
 unfold dD
 rw[hp,ht]
 exact mB e.tmps p t x
theorem St.mono{l l':Nat}(hl:l<=l'){h h':ae}(x:St l' h h'):St l h h':=⟨x.1,fun m r hm hr=>x.2 m r (by omega) hr⟩
end
end Go.AE
end
section
namespace Go.AE
section
variable {P:Program} {G:Nat->Option (List AV)} {R:Rec}
end
section
variable {P:Program} {G:Nat->Option (List AV)} {prims:FuncId->Option (List AV->ae->Option (AV × ae))} {Q:Xt->Env->ae->Prop} {e:Env} {h:ae}
end
end Go.AE
end
section
namespace Go.AE
section
variable {P:Program} {G:Nat->Option (List AV)} {R:Rec} {ops:Array Oper} {k:Nat}
end
section
variable {P:Program} {G:Nat->Option (List AV)} {prims:FuncId->Option (List AV->ae->Option (AV × ae))} {Q:Xt->Env->ae->Prop} {e:Env} {h:ae}
def dy(ops:Array Oper)(k:Nat)(ps:List (Nat × Nat)):Bool:=ps.all fun p=>eW (cut ops k) p.1 p.2&&(decide (p.1<k)&&decide (p.2<k))
end
end Go.AE
end
section
namespace Go.AE
mutual
def ml(n:Nat):AV->Bool
 | .list _ _ es=>IW n es
 | .arr b _ _ _=>decide (b<n)
 | .agg cs=>nY n cs
 | .tuple cs=>nY n cs
 | .ptr (.box b) _=>decide (b<n)
 | .elem _ es _ _=>IW n es
 | .func _ a b=>nY n a&&nY n b
 | .iface _ x=>ml n x
 |_=>true
def nY(n:Nat):List AV->Bool
 | []=>true
 |x::r=>ml n x&&nY n r
def IW(n:Nat):List (List AV)->Bool
 | []=>true
 |r::rs=>nY n r&&IW n rs
end
theorem AN(n:Nat):∀(a b:List AV),nY n (a++b)=(nY n a&&nY n b)
 | [],b=>by simp[nY]
 |x::a,b=>by rw[ab3,nY,nY,AN n a b,agH]
theorem mG(n:Nat):∀es:List (List AV),nY n es.flatten=IW n es
 | []=>rfl
 |r::es=>by rw[acp,AN,IW,mG n es]
def aB.low(K:aB)(n:Nat):aB:={K with β:=K.β.take n}
section
variable {K:aB}
theorem Mf{b g:Nat}(h:K.β[b]?=some g):b<K.β.length:=(abm.1 h).1
mutual
theorem aI.low:∀{x:AV} {c:Value},aI K x c->ml K.β.length x=true
 |_,_,.bad _=>rfl
 |_,_,.v _ _=>rfl
 |_,_,.nil _=>rfl
 |_,_,.eK _ _=>rfl
 |_,_,.list _ _ es _ _ _ _ _ _ _ hv _ _ _=>by rw[ml,<-mG];exact ao.low hv
 |_,_,.arr _ _ _ _ _ _ _ hb _ _ _ _=>by rw[ml];exact decide_eq_true (Mf hb)
 |_,_,.agg _ _ hv=>by rw[ml];exact ao.low hv
 |_,_,.tuple _ _ hv=>by rw[ml];exact ao.low hv
 |_,_,.box _ _ _ hb=>by rw[ml];exact decide_eq_true (Mf hb)
 |_,_,.dW _ _=>rfl
 |_,_,.elem _ es _ _ _ _ _ _ _ hv _ _ _ _=>by rw[ml,<-mG];exact ao.low hv
 |_,_,.func _ _ _ _ _ h1 h2=>by rw[ml,ao.low h1,ao.low h2];rfl
 |_,_,.yield _ _ _=>rfl
 |_,_,.iface _ _ _ hx=>by rw[ml];exact aI.low hx
theorem ao.low:∀{xs:List AV} {cs:List Value},ao K xs cs->nY K.β.length xs=true
 |_,_,.nil=>rfl
 |_,_,.cons _ _ _ _ hx hs=>by rw[nY,aI.low hx,ao.low hs];rfl
end
theorem Nq{n b g:Nat}(hb:K.β[b]?=some g)(hn:b<n):(K.low n).β[b]?=some g:=by
 show(K.β.take n)[b]?=some g
 rw[acj,if_pos hn,hb]
theorem pT.low{n:Nat}{k:Tok}{g off sz m cap:Nat}(h:pT K k g off sz m cap):pT (K.low n) k g off sz m cap:=h
mutual
theorem aI.cut{n:Nat}:∀{x:AV} {c:Value},aI K x c->ml n x=true->aI (K.low n) x c
 |_,_,.bad c,_=>.bad c
 |_,_,.v x hx,_=>.v x hx
 |_,_,.nil sz,_=>.nil sz
 |_,_,.eK sz a,_=>.eK sz a
 |_,_,.list k sz es g off m cap cells hn hr hv hc ht ha,h=>.list k sz es g off m cap cells hn hr (ao.cut hv (by rw[mG];rw[ml] at h;exact h)) hc ht.low ha
 |_,_,.arr b g off len cap off' cap' hb hl hc ho hr,h=>.arr b g off len cap off' cap' (Nq hb (by rw[ml] at h;exact of_decide_eq_true h)) hl hc ho hr
 |_,_,.agg cs vs hv,h=>.agg cs vs (ao.cut hv (by rw[ml] at h;exact h))
 |_,_,.tuple cs vs hv,h=>.tuple cs vs (ao.cut hv (by rw[ml] at h;exact h))
 |_,_,.box b g off hb,h=>.box b g off (Nq hb (by rw[ml] at h;exact of_decide_eq_true h))
 |_,_,.dW g off,_=>.dW g off
 |_,_,.elem sz es i off g o p cells hr hv hc hi hp ha,h=>.elem sz es i off g o p cells hr (ao.cut hv (by rw[mG];rw[ml] at h;exact h)) hc hi hp ha
 |_,_,.func fn first cap fs cs h1 h2,h=>.func fn first cap fs cs (ao.cut h1 (by rw[ml,abr] at h;exact h.1)) (ao.cut h2 (by rw[ml,abr] at h;exact h.2))
 |_,_,.yield l g hl,_=>.yield l g hl
 |_,_,.iface t x c hx,h=>.iface t x c (aI.cut hx (by rw[ml] at h;exact h))
theorem ao.cut{n:Nat}:∀{xs:List AV} {cs:List Value},ao K xs cs->nY n xs=true->ao (K.low n) xs cs
 |_,_,.nil,_=>.nil
 |_,_,.cons x c xs cs hx hs,h=>.cons x c xs cs (aI.cut hx (by rw[nY,abr] at h;exact h.1)) (ao.cut hs (by rw[nY,abr] at h;exact h.2))
end
end
section
variable {P:Program} {G:Nat->Option (List AV)} {w0 w w':World} {K K':aB} {h h':ae} {ok:FuncId->Nat->Code->Bool}
end
end Go.AE
end
section
namespace Go.AE
section
universe u
set_option linter.defProp false in
def goT:=abp @abJ.{0,0} (abp @aeO.{0,0} (abp @acu.{0,0} (abp @abK.{0,0} (abp @ac6.{0,0} (abp @List.getD_cons_zero.{0} (abp @List.getD_cons_succ.{0} (abp @abP.{0} (abp @abN.{0} @ace.{0}))))))))
set_option linter.defProp false in
def goU:=abp @List.append_nil.{0} @List.nil_append.{0}
set_option linter.defProp false in
def Qo:=abp @az (abp @dU @Eh)
set_option linter.defProp false in
def SA:=abp @ab0.{0} (abp @List.length_nil.{0} (abp @abx.{0} (abp @az (abp @dU @Eh))))
set_option linter.defProp false in
def SB:=abp @wy (abp @cD (abp @AH (abp @CY (abp @CZ @L8))))
set_option linter.defProp false in
def SC:=abp @ij @jd
set_option linter.defProp false in
def SD:=abp @Ap (abp @xd @AI)
end
set_option linter.defProp false in
def G_d:=@FE
set_option linter.defProp false in
def G_n:=@CC
set_option linter.defProp false in
def B_d:=@CB
set_option linter.defProp false in
def B_n:=@As
set_option linter.defProp false in
def G_m:=@Au
set_option linter.defProp false in
def B_m:=@yG
set_option linter.defProp false in
def G_b:=@CD
set_option linter.defProp false in
def B_b:=@At
theorem dZ{p:Prop}(h:p:=by first|assumption|(exact Nat.le_refl _)|omega|(simp only[SA]<;>omega)|(simp(disch:=(first|assumption|omega|(exact(az _ _).symm)|(simp only[Qo];omega)|(refine Nat.le_antisymm ?_ ?_<;>simp only[Qo]<;>omega)|fail)) only[SB]<;>first|assumption|rfl)|(simp only[SC];assumption)|(exact oA _ _)|(simp only[SD];first|assumption|exact oA _ _)):p:=h
theorem dX{a b p:Prop}(x:a)(y:b)(f:a->b->p:=by first|exact G_d|exact G_n|exact B_d|exact B_n|exact G_m|exact B_m|exact G_b|exact B_b):p:=f x y
end Go.AE
end
section
namespace Go.AE
section
variable {P:Program} {t0 t1 t elem:TypeId} {i:TypeInfo} {h:ae} {k k':Tok} {sz:Nat} {es new:List (List AV)}
theorem xe(h0:P.underlying t0=some (.slice elem))(h1:P.underlying t1=some (.slice elem))(hi:P.info? elem=some i)(hsz:0<i.size)(hz:(i.zero.map fun z=>z.cells.size)=some i.size)(hnew:new≠[])
 (hb:(es.length+new.length) * i.bytes<=140737488355328) (hl:es.length+new.length<=9223372036854775807) (hs:sz=i.size∨es=[]) (hk:k=.nil∨k=.tight) {x:AV} (hx:eH h i.size x=some new):
 iX P h #[t0,t1] (.list k sz es) x=some (.arr h.boxes.length 0 (es.length+new.length) (es.length+new.length),h.push (es++new).flatten):=by
 unfold iX
 simp only[abP,abN,ace,acu,h0,h1,hi,hx]
 rw[if_pos ⟨hsz,hz⟩,if_pos hs,if_neg hnew,if_pos ⟨hb,hl⟩]
 rcases hk with rfl|rfl<;>rfl
theorem xg{b len:Nat}{cs:List AV}(h0:P.underlying t0=some (.slice elem))(h1:P.underlying t1=some (.slice elem))(hi:P.info? elem=some i)(hsz:0<i.size)(hz:(i.zero.map fun z=>z.cells.size)=some i.size)(hnew:new≠[])
 (hb:(len+new.length) * i.bytes<=140737488355328) (hl:len+new.length<=9223372036854775807) (hbox:h.boxes[b]?=some cs) (h2:0<len) (h3:len * i.size=cs.length) {x:AV} (hx:eH h i.size x=some new):
 iX P h #[t0,t1] (.arr b 0 len len) x=some (.arr h.boxes.length 0 (len+new.length) (len+new.length),(h.put b []).push (cs++new.flatten)):=by
 have hn:0<new.length:=by cases new with|nil=>exact absurd rfl hnew|cons _ _=>simp
 unfold iX
 simp only[abP,abN,ace,acu,h0,h1,hi,hx,hbox]
 rw[if_pos ⟨hsz,hz⟩,if_neg (by omega),if_pos ⟨trivial,h2,trivial,h3,hb,hl⟩]
 rfl
theorem Uy:eH h sz (.list k sz es)=some es:=by
 unfold eH rowsOf
 simp
theorem rn{b off len cap n:Nat}{m:Int}{kk:IntKind}(h0:P.underlying t=some (.slice elem))(hs:bF P elem=some n)(hn:n≠0)(h1:0<=m)(h2:m<=cap)(h3:0<cap):ck P t (.arr b off len cap) none (some (.v (.int kk m))) none=some (.arr b off m.toNat cap):=by
 have e1:bX cap none cap=some cap:=rfl
 have e2:bX cap (some (.v (.int kk m))) len=some m.toNat:=by
  show(if 0<=m/\m<=(cap:Int) then some m.toNat else none)=_
  rw[if_pos ⟨h1,h2⟩]
 have e3:bX m.toNat none 0=some 0:=rfl
 unfold ck
 simp only[h0,hs,e1,e2,e3,acW,ade,abW,false_and,if_false,hn,Nat.sub_zero,aeS,adO,ite_self]
end
end Go.AE
end
section
namespace Go.AE
def b9(sz:Nat)(h:ae)(x:AV)(rows:List (List AV)):Prop:=
 (∀r∈rows,r.length=sz)/\
 ((∃k s,x=.list k s rows/\(rows≠[]->s=sz))∨
  (∃b off cap cs,x=.arr b off rows.length cap/\rows.length<=cap/\h.boxes[b]?=some cs/\(cs.drop off).take (rows.length * sz)=rows.flatten/\off+rows.length * sz<=cs.length))
section
variable {P:Program} {G:Nat->Option (List AV)} {h h':ae} {t e:TypeId} {sz:Nat} {x:AV} {rows:List (List AV)}
theorem b9.list{k:Tok}{s:Nat}(hr:∀r∈rows,r.length=sz)(hs:rows≠[]->s=sz):b9 sz h (.list k s rows) rows:=⟨hr,.inl ⟨k,s,rfl,hs⟩⟩
theorem b9.box{b n:Nat}(hr:∀r∈rows,r.length=sz)(hn:n=rows.length)(hb:h.boxes[b]?=some rows.flatten):b9 sz h (.arr b 0 n n) rows:=by
 subst hn
 refine⟨hr,.inr ⟨b,0,rows.length,rows.flatten,rfl,abq _,hb,?_,?_⟩⟩
 ·rw[abZ,<-a8 hr,abU]
 ·rw[a8 hr];omega
theorem b9.mono(s:b9 sz h x rows)(m:∀(b:Nat) (cs:List AV),h.boxes[b]?=some cs->h'.boxes[b]?=some cs):b9 sz h' x rows:=by
 obtain⟨hr,s⟩:=s
 refine⟨hr,?_⟩
 rcases s with s|⟨b,off,cap,cs,h1,h2,h3,h4⟩
 ·exact .inl s
 ·exact .inr ⟨b,off,cap,cs,h1,h2,m _ _ h3,h4⟩
theorem b9.ext(s:b9 sz h x rows)(m:Ext h h'):b9 sz h' x rows:=s.mono m.box
theorem b9.len(s:b9 sz h x rows)(hu:P.underlying t=some (.slice e)):cH P t x=some (.v (.int .i64 rows.length)):=by
 rcases s.2 with⟨k,s,rfl,-⟩|⟨b,off,cap,cs,rfl,-⟩
 ·exact uV hu
 ·exact yS hu
theorem b9.index(s:b9 sz h x rows)(hp:0<sz)(hu:P.underlying t=some (.slice e))(hs:bF P e=some sz){i:Nat}{row:List AV}(hi:rows[i]?=some row):
 ∃p,(∀kk,ay P t x (.v (.int kk (i:Int)))=some p)/\(cZ P e=some false->ai P G h e p=row.head?)/\(cZ P e=some true->ai P G h e p=some (.agg row)):=by
 have hlt:=(abm.1 hi).1
 have hrl:=s.1 row (List.mem_of_getElem? hi)
 rcases s.2 with⟨k,s',rfl,hk⟩|⟨b,off,cap,cs,rfl,h2,h3,h4,h5⟩
 ·have:s'=sz:=hk (by rintro rfl;simp at hlt)
  subst this
  refine⟨.elem s' rows i 0,fun kk=>?_,fun ha=>?_,fun ha=>?_⟩
  ·rw[al hu hs (by omega) (by omega),abB]
  ·rw[ez ha hi,abZ]
  ·rw[jm ha hs hi (by omega),abZ,<-hrl,abU]
 ·have hrow:(cs.drop (off+i * sz)).take sz=row:=by
   have:=ot s.1 hi
   rw[<-h4,aez,afq,adb] at this
   rw[<-this]
   congr 1
   have:(i+1) * sz<=rows.length * sz:=ab6 _ hlt
   rw[ab4] at this
   omega
  have hfit:off+i * sz+sz<=cs.length:=by
   have:(i+1) * sz<=rows.length * sz:=ab6 _ hlt
   rw[ab4] at this
   omega
  refine⟨.ptr (.box b) (off+i * sz),fun kk=>?_,fun ha=>?_,fun ha=>?_⟩
  ·rw[mE hu hs (by omega) (by omega),abB]
  ·rw[dc ha h3,<-hrow]
   obtain⟨n,rfl⟩:∃n,sz=n+1:=⟨sz - 1,by omega⟩
   cases cs.drop (off+i * (n+1)) with
   |nil=>rfl
   |cons a l=>rfl
  ·rw[cP ha hs h3 hfit,hrow]
theorem b9.slice(s:b9 sz h x rows)(hp:0<sz)(hu:P.underlying t=some (.slice e))(hs:bF P e=some sz){lo hi:Option AV}{l m:Nat}
 (hhi:(hi=none/\m=rows.length)∨∃kk,hi=some (.v (.int kk (m:Int)))/\m<=rows.length) (hlo:(lo=none/\l=0)∨∃kk,lo=some (.v (.int kk (l:Int)))) (hlm:l<=m):
 ∃y,ck P t x lo hi none=some y/\b9 sz h y ((rows.take m).drop l):=by
 have hm:m<=rows.length:=by rcases hhi with⟨-,q⟩|⟨_,-,q⟩<;>omega
 have bound:∀top,rows.length<=top->bX top hi rows.length=some m:=fun top htop=>by
  rcases hhi with⟨rfl,rfl⟩|⟨kk,rfl,q⟩
  ·rfl
  ·show(if 0<=(m:Int)/\(m:Int)<=(top:Int) then some (m:Int).toNat else none)=_
   rw[if_pos ⟨by omega,by omega⟩,abB]
 have bound0:bX m lo 0=some l:=by
  rcases hlo with⟨rfl,rfl⟩|⟨kk,rfl⟩
  ·rfl
  ·show(if 0<=(l:Int)/\(l:Int)<=(m:Int) then some (l:Int).toNat else none)=_
   rw[if_pos ⟨by omega,by omega⟩,abB]
 have hr2:∀r∈(rows.take m).drop l,r.length=sz:=fun r hr=>s.1 r (acq (List.mem_of_mem_drop hr))
 rcases s.2 with⟨k,s',rfl,hk⟩|⟨b,off,cap,cs,rfl,h2,h3,h4,h5⟩
 ·have hb1:bX rows.length none rows.length=some rows.length:=rfl
  have hok:sz=s'∨rows=[]:=by
   by_cases q:rows=[]
   ·exact .inr q
   ·exact .inl (hk q).symm
  refine⟨.list (gO k (decide (m=rows.length)) false (m - l)) s' ((rows.take m).drop l),?_,hr2,.inl ⟨_,_,rfl,fun q=>hk (by rintro rfl;simp at q)⟩⟩
  unfold ck
  simp only[hu,hs,hb1,bound rows.length (abq _),bound0,acW,ade,abW,if_false,if_pos hok,Option.isNone_none,Bool.and_true]
 ·have hb1:bX cap none cap=some cap:=rfl
  have hlen:((rows.take m).drop l).length=m - l:=by rw[abS,abI];omega
  refine⟨.arr b (if cap=l then off else off+l * sz) (m - l) (cap - l),?_,hr2,.inr ⟨b,_,cap - l,cs,by rw[hlen],by omega,h3,?_,?_⟩⟩
  ·unfold ck
   simp only[hu,hs,hb1,bound cap h2,bound0,acW,ade,abW,if_false,false_and]
   rw[if_neg (by omega)]
  ·rw[hlen]
   by_cases q:cap=l
   ·have:m - l=0:=by omega
    rw[if_pos q,this,aeS,List.take_zero]
    have:(rows.take m).drop l=[]:=by
     apply List.eq_nil_of_length_eq_zero;rw[hlen];omega
    rw[this];rfl
   ·rw[if_neg q,qM (fun r hr=>s.1 r (acq hr)),ni s.1,<-h4,afq,<-adb]
    have e1:min (m * sz) (rows.length * sz)=m * sz:=adD (ab6 _ hm)
    rw[e1,aez,<-Nat.sub_mul]
  ·rw[hlen]
   have e1:m * sz<=rows.length * sz:=ab6 _ hm
   have e2:(m - l) * sz+l * sz=m * sz:=by rw[<-ab4,Nat.sub_add_cancel hlm]
   split<;>omega
theorem b9.got(s:b9 sz h x rows):rowsOf h sz x=some rows:=by
 rcases s.2 with⟨k,s',rfl,hk⟩|⟨b,off,cap,cs,rfl,h2,h3,h4,h5⟩
 ·unfold rowsOf
  by_cases q:rows=[]
  ·simp[q]
  ·simp[hk q]
 ·unfold rowsOf
  simp only[h3,if_pos h5,abA]
  apply aef
  ·simp
  ·intro i h1 h6
   rw[acA,List.getElem_range]
   have:=ot s.1 (abo h6)
   rw[<-h4,aez,afq,adb] at this
   rw[<-this]
   congr 1
   have:(i+1) * sz<=rows.length * sz:=ab6 _ h6
   rw[ab4] at this
   omega
theorem b9.news(s:b9 sz h x rows):eH h sz x=some rows:=by
 have:=s.got
 rcases s.2 with⟨k,s',rfl,-⟩|⟨b,off,cap,cs,rfl,-⟩<;>exact this
end
end Go.AE
end
section
namespace Go.AE
section
variable {P:Program} {G:Nat->Option (List AV)} {t:TypeId} {x y:Operand} {k k':IntKind} {a b:Int}
theorem fQ:bB P .and t x y (.v (.int k a)) (.v (.int k b))=some (.v (.int k (k.wrap (BitVec.ofInt k.bits a&&&BitVec.ofInt k.bits b).toNat))):=du (v:=.int k (k.wrap (BitVec.ofInt k.bits a&&&BitVec.ofInt k.bits b).toNat)) (by simp[binOp,Op.intBits];rfl)
theorem C8:bB P .or t x y (.v (.int k a)) (.v (.int k b))=some (.v (.int k (k.wrap (BitVec.ofInt k.bits a|||BitVec.ofInt k.bits b).toNat))):=du (v:=.int k (k.wrap (BitVec.ofInt k.bits a|||BitVec.ofInt k.bits b).toNat)) (by simp[binOp,Op.intBits];rfl)
theorem Ej:bB P .xor t x y (.v (.int k a)) (.v (.int k b))=some (.v (.int k (k.wrap (BitVec.ofInt k.bits a^^^BitVec.ofInt k.bits b).toNat))):=du (v:=.int k (k.wrap (BitVec.ofInt k.bits a^^^BitVec.ofInt k.bits b).toNat)) (by simp[binOp,Op.intBits];rfl)
theorem y0(h:0<=b):bB P .shl t x y (.v (.int k a)) (.v (.int k' b))=some (.v (.int k (k.wrap (a * 2^min b.toNat k.bits)))):=by
 have hn:¬b<0:=by omega
 show(bQ P (do eqGuard .shl t x y (.int k a) (.int k' b);binOp .shl t (.int k a) (.int k' b))).bind eS=_
 rw[fE]
 have hg:bQ P (eqGuard .shl t x y (.int k a) (.int k' b))=some ():=rfl
 rw[hg]
 simp[binOp,Op.shift,hn]
 rfl
theorem nr(h:0<=b):bB P .shr t x y (.v (.int k a)) (.v (.int k' b))=some (.v (.int k (a.fdiv (2^min b.toNat k.bits)))):=by
 have hn:¬b<0:=by omega
 show(bQ P (do eqGuard .shr t x y (.int k a) (.int k' b);binOp .shr t (.int k a) (.int k' b))).bind eS=_
 rw[fE]
 have hg:bQ P (eqGuard .shr t x y (.int k a) (.int k' b))=some ():=rfl
 rw[hg]
 simp[binOp,Op.shift,hn]
 rfl
end
def w32(v:BitVec 32):AV:=.v (.int .u32 (v.toNat:Int))
section
variable {P:Program} {t:TypeId} {x y:Operand} {k':IntKind} {u v:BitVec 32}
theorem wrap32(n:Int):IntKind.u32.wrap n=n%4294967296:=by
 unfold IntKind.wrap
 simp[IntKind.signed,IntKind.bits]
theorem ofInt32(v:BitVec 32):BitVec.ofInt 32 (v.toNat:Int)=v:=by
 apply BitVec.eq_of_toNat_eq
 rw[BitVec.toNat_ofInt]
 have:=v.isLt
 simp
 omega
theorem qu(v:BitVec 32):IntKind.u32.wrap (v.toNat:Int)=(v.toNat:Int):=by
 rw[wrap32]
 have:=v.isLt
 omega
theorem AO:bB P .and t x y (w32 u) (w32 v)=some (w32 (u&&&v)):=by
 unfold w32
 rw[fQ,show IntKind.u32.bits=32 from rfl,ofInt32,ofInt32,qu]
theorem pM:bB P .or t x y (w32 u) (w32 v)=some (w32 (u|||v)):=by
 unfold w32
 rw[C8,show IntKind.u32.bits=32 from rfl,ofInt32,ofInt32,qu]
theorem jP:bB P .xor t x y (w32 u) (w32 v)=some (w32 (u^^^v)):=by
 unfold w32
 rw[Ej,show IntKind.u32.bits=32 from rfl,ofInt32,ofInt32,qu]
theorem jQ:bB P .add t x y (w32 u) (w32 v)=some (w32 (u+v)):=by
 unfold w32
 rw[Eg,wrap32,BitVec.toNat_add]
 congr 3
theorem nQ{n:Nat}(hn:n<32):bB P .shr t x y (w32 u) (.v (.int k' (n:Int)))=some (w32 (u>>>n)):=by
 unfold w32
 rw[nr (by omega),abB,show IntKind.u32.bits=32 from rfl,adD (by omega),BitVec.toNat_ushiftRight,Nat.shiftRight_eq_div_pow]
 congr 3
 rw[Int.fdiv_eq_ediv_of_nonneg _ (by
  have:(0:Int)<2^n:=Int.pow_pos (by decide)
  omega)]
 simp
theorem oE{n:Nat}(hn:n<32):bB P .shl t x y (w32 u) (.v (.int k' (n:Int)))=some (w32 (u<<<n)):=by
 unfold w32
 rw[y0 (by omega),abB,show IntKind.u32.bits=32 from rfl,adD (by omega),wrap32,BitVec.toNat_shiftLeft,Nat.shiftLeft_eq]
 congr 3
end
end Go.AE
end
section
namespace Go.AE
section
variable {P:Program} {h:ae} {t0 t1 elem:TypeId} {kn k:IntKind} {i:TypeInfo} {zero:List AV} {sz n:Nat}
theorem rp(h0:P.underlying t0=some (.slice elem))(h1:P.underlying t1=some (.int kn))(hi:P.info? elem=some i)(hz:(ej P elem).bind AV.aC=some zero)(hn:0<n)(hb:n * i.bytes<=140737488355328)(hm:n<=9223372036854775807)(hs:0<i.size)(hl:zero.length=i.size):
 bP P h #[t0,t1] (.list .nil sz []) (.v (.int k (n:Nat)))=some (.arr h.boxes.length 0 n n,h.push (abt n zero).flatten):=by
 unfold bP ua
 have hb2:((n:Nat):Int) * i.bytes<=140737488355328:=by
  have:((n * i.bytes:Nat):Int)<=140737488355328:=Int.ofNat_le.2 hb
  rwa [acY] at this
 simp only[abP,abN,ace,acu,h0,h1,hi,hz]
 rw[if_pos ⟨rfl,by omega,hb2,by omega,hs,hl⟩,abB]
 rfl
theorem u7{b off len cap:Nat}{cs:List AV}{new:List (List AV)}{x:AV}(h0:P.underlying t0=some (.slice elem))(h1:P.underlying t1=some (.slice elem))(hi:P.info? elem=some i)(hs:0<i.size)(hz:(i.zero.map fun z=>z.cells.size)=some i.size)
 (hx:eH h i.size x=some new) (hb:h.boxes[b]?=some cs) (h2:len+new.length<=cap) (h3:off+cap * i.size<=cs.length):
 bP P h #[t0,t1] (.arr b off len cap) x=some (.arr b off (len+new.length) cap,h.put b (bI cs (off+len * i.size) new.flatten)):=by
 unfold bP
 simp only[abP,abN,ace,acu,h0,h1,hi,hx,hb]
 rw[if_pos ⟨hs,hz⟩,if_pos ⟨h2,h3⟩]
 rfl
end
end Go.AE
end
section
namespace Go.AE
def oF(t:Nat):Tok->Bool
 | .free i=>decide (i<t)
 |_=>true
mutual
def aV(n l t:Nat):AV->Bool
 | .list k _ es=>oF t k&&gH n l t es
 | .arr b _ _ _=>decide (b<n)
 | .agg cs=>bA n l t cs
 | .tuple cs=>bA n l t cs
 | .ptr (.box b) _=>decide (b<n)
 | .elem _ es _ _=>gH n l t es
 | .func _ a b=>bA n l t a&&bA n l t b
 | .yield i=>decide (i<l)
 | .iface _ x=>aV n l t x
 |_=>true
def bA(n l t:Nat):List AV->Bool
 | []=>true
 |x::r=>aV n l t x&&bA n l t r
def gH(n l t:Nat):List (List AV)->Bool
 | []=>true
 |r::rs=>bA n l t r&&gH n l t rs
end
theorem AP(n l t:Nat):∀(a b:List AV),bA n l t (a++b)=(bA n l t a&&bA n l t b)
 | [],b=>by simp[bA]
 |x::a,b=>by rw[ab3,bA,bA,AP n l t a b,agH]
theorem eL(n l t:Nat):∀es:List (List AV),bA n l t es.flatten=gH n l t es
 | []=>rfl
 |r::es=>by rw[acp,AP,gH,eL n l t es]
def di:Tok->Tok
 | .free _=>.held
 |k=>k
mutual
def au:AV->AV
 | .list k sz es=>.list (di k) sz (eF es)
 | .tuple cs=>.tuple (bM cs)
 | .agg cs=>.agg (bM cs)
 | .iface t x=>.iface t (au x)
 |x=>x
def bM:List AV->List AV
 | []=>[]
 |x::r=>au x::bM r
def eF:List (List AV)->List (List AV)
 | []=>[]
 |r::rs=>bM r::eF rs
end
theorem xh:∀a b:List AV,bM (a++b)=bM a++bM b
 | [],b=>rfl
 |x::a,b=>by rw[ab3,bM,xh a b,bM,ab3]
theorem je:∀es:List (List AV),(eF es).flatten=bM es.flatten
 | []=>rfl
 |r::es=>by rw[eF,acp,acp,xh,je es]
theorem xj:∀a:List AV,(bM a).length=a.length
 | []=>rfl
 |x::a=>by rw[bM,ab0,xj a,ab0]
theorem mH:∀a:List (List AV),(eF a).length=a.length
 | []=>rfl
 |x::a=>by rw[eF,ab0,mH a,ab0]
theorem nt{sz:Nat}:∀{es:List (List AV)},(∀r∈es,r.length=sz)->∀r∈eF es,r.length=sz
 | [],_,r,h=>by cases h
 |a::es,h,r,hr=>by
  rw[eF] at hr
  rcases acd.1 hr with rfl|hr
  ·rw[xj];exact h a abM
  ·exact nt (fun r hr=>h r (abH _ hr)) r hr
theorem FY(x:AV):(au x).bu=x.bu:=by cases x<;>rfl
theorem oG:∀a:List AV,(bM a).all AV.bu=a.all AV.bu
 | []=>rfl
 |x::a=>by rw[bM,aen,FY,oG a,aen]
section
variable {K:aB}
theorem SE{b g:Nat}(h:K.γ[b]?=some g):b<K.γ.length:=(abm.1 h).1
mutual
theorem aI.fit:∀{x:AV} {c:Value},aI K x c->aV K.β.length K.γ.length K.tn x=true
 |_,_,.bad _=>rfl
 |_,_,.v _ _=>rfl
 |_,_,.nil _=>rfl
 |_,_,.eK _ _=>rfl
 |_,_,.list k _ es _ _ _ _ _ _ _ hv _ ht _=>by
  rw[aV,abr,<-eL]
  refine⟨?_,ao.fit hv⟩
  cases k with
  |free i=>exact decide_eq_true ht.2.1
  |_=>rfl
 |_,_,.arr _ _ _ _ _ _ _ hb _ _ _ _=>by rw[aV];exact decide_eq_true (Mf hb)
 |_,_,.agg _ _ hv=>by rw[aV];exact ao.fit hv
 |_,_,.tuple _ _ hv=>by rw[aV];exact ao.fit hv
 |_,_,.box _ _ _ hb=>by rw[aV];exact decide_eq_true (Mf hb)
 |_,_,.dW _ _=>rfl
 |_,_,.elem _ es _ _ _ _ _ _ _ hv _ _ _ _=>by rw[aV,<-eL];exact ao.fit hv
 |_,_,.func _ _ _ _ _ h1 h2=>by rw[aV,ao.fit h1,ao.fit h2];rfl
 |_,_,.yield _ _ hl=>by rw[aV];exact decide_eq_true (SE hl)
 |_,_,.iface _ _ _ hx=>by rw[aV];exact aI.fit hx
theorem ao.fit:∀{xs:List AV} {cs:List Value},ao K xs cs->bA K.β.length K.γ.length K.tn xs=true
 |_,_,.nil=>rfl
 |_,_,.cons _ _ _ _ hx hs=>by rw[bA,aI.fit hx,ao.fit hs];rfl
end
mutual
theorem aI.pY{K2:aB}{n l t:Nat}(hβ:∀b g:Nat,b<n->K.β[b]?=some g->K2.β[b]?=some g)(hγ:∀b g:Nat,b<l->K.γ[b]?=some g->K2.γ[b]?=some g)(hic:∀g j c,K.ic g j=some c->K2.ic g j=some c)(htk:K2.tk=K.tk)(htn:K2.tn=t)(hlb:∀b,b<n->K2.lb b=K.lb b):
 ∀{x:AV} {c:Value},aI K x c->aV n l t x=true->aI K2 x c
 |_,_,.bad c,_=>.bad c
 |_,_,.v x hx,_=>.v x hx
 |_,_,.nil sz,_=>.nil sz
 |_,_,.eK sz a,_=>.eK sz a
 |_,_,.list k sz es g off m cap cells hn hr hv hc ht ha,h=>by
  rw[aV,abr] at h
  refine .list k sz es g off m cap cells hn hr (ao.pY hβ hγ hic htk htn hlb hv (by rw[eL];exact h.2)) (fun j c hj=>hic _ _ _ (hc j c hj)) ⟨ht.1,?_⟩ ha
  have h1:=h.1
  have h2:=ht.2
  cases k with
  |free i=>
   simp only at h2 ⊢
   rw[htk,htn]
   exact⟨of_decide_eq_true h1,h2.2⟩
  |_=>exact h2
 |_,_,.arr b g off len cap off' cap' hb hl hc ho hr,h=>by
  rw[aV] at h
  have hlt:=of_decide_eq_true h
  exact .arr b g off len cap off' cap' (hβ _ _ hlt hb) hl hc ho (by rw[hlb b hlt];exact hr)
 |_,_,.agg cs vs hv,h=>.agg cs vs (ao.pY hβ hγ hic htk htn hlb hv (by rw[aV] at h;exact h))
 |_,_,.tuple cs vs hv,h=>.tuple cs vs (ao.pY hβ hγ hic htk htn hlb hv (by rw[aV] at h;exact h))
 |_,_,.box b g off hb,h=>.box b g off (hβ _ _ (by rw[aV] at h;exact of_decide_eq_true h) hb)
 |_,_,.dW g off,_=>.dW g off
 |_,_,.elem sz es i off g o p cells hr hv hc hi hp ha,h=>.elem sz es i off g o p cells hr (ao.pY hβ hγ hic htk htn hlb hv (by rw[eL];rw[aV] at h;exact h)) (fun j c hj=>hic _ _ _ (hc j c hj)) hi hp ha
 |_,_,.func fn first cap fs cs h1 h2,h=>.func fn first cap fs cs (ao.pY hβ hγ hic htk htn hlb h1 (by rw[aV,abr] at h;exact h.1)) (ao.pY hβ hγ hic htk htn hlb h2 (by rw[aV,abr] at h;exact h.2))
 |_,_,.yield i g hl,h=>.yield i g (hγ _ _ (by rw[aV] at h;exact of_decide_eq_true h) hl)
 |_,_,.iface t x c hx,h=>.iface t x c (aI.pY hβ hγ hic htk htn hlb hx (by rw[aV] at h;exact h))
theorem ao.pY{K2:aB}{n l t:Nat}(hβ:∀b g:Nat,b<n->K.β[b]?=some g->K2.β[b]?=some g)(hγ:∀b g:Nat,b<l->K.γ[b]?=some g->K2.γ[b]?=some g)(hic:∀g j c,K.ic g j=some c->K2.ic g j=some c)(htk:K2.tk=K.tk)(htn:K2.tn=t)(hlb:∀b,b<n->K2.lb b=K.lb b):
 ∀{xs:List AV} {cs:List Value},ao K xs cs->bA n l t xs=true->ao K2 xs cs
 |_,_,.nil,_=>.nil
 |_,_,.cons x c xs cs hx hs,h=>.cons x c xs cs (aI.pY hβ hγ hic htk htn hlb hx (by rw[bA,abr] at h;exact h.1)) (ao.pY hβ hγ hic htk htn hlb hs (by rw[bA,abr] at h;exact h.2))
end
mutual
theorem aI.hold:∀{x:AV} {c:Value},aI K x c->aI K (au x) c
 |_,_,.bad c=>.bad c
 |_,_,.v x hx=>.v x hx
 |_,_,.nil sz=>.nil sz
 |_,_,.eK sz a=>.eK sz a
 |_,_,.list k sz es g off m cap cells hn hr hv hc ht ha=>by
  have hv':ao K (eF es).flatten cells:=by rw[je];exact ao.hold hv
  have ha':(eF es).flatten.all AV.bu=true:=by rw[je,oG];exact ha
  have hn':m=(eF es).length:=by rw[mH];exact hn
  cases k with
  |free i=>exact .list .held sz _ g off m cap cells hn' (nt hr) hv' hc ⟨ht.1,trivial⟩ ha'
  |_=>exact .list _ sz _ g off m cap cells hn' (nt hr) hv' hc ht ha'
 |_,_,.arr b g off len cap off' cap' hb hl hc ho hr=>.arr b g off len cap off' cap' hb hl hc ho hr
 |_,_,.agg cs vs hv=>.agg _ vs (ao.hold hv)
 |_,_,.tuple cs vs hv=>.tuple _ vs (ao.hold hv)
 |_,_,.box b g off hb=>.box b g off hb
 |_,_,.dW g off=>.dW g off
 |_,_,.elem sz es i off g o p cells hr hv hc hi hp ha=>.elem sz es i off g o p cells hr hv hc hi hp ha
 |_,_,.func fn first cap fs cs h1 h2=>.func fn first cap fs cs h1 h2
 |_,_,.yield l g hl=>.yield l g hl
 |_,_,.iface t x c hx=>.iface t _ c (aI.hold hx)
theorem ao.hold:∀{xs:List AV} {cs:List Value},ao K xs cs->ao K (bM xs) cs
 |_,_,.nil=>.nil
 |_,_,.cons x c xs cs hx hs=>.cons _ c _ cs (aI.hold hx) (ao.hold hs)
end
end
section
variable {P:Program} {G:Nat->Option (List AV)} {w0 w w':World} {K K':aB} {h h':ae} {ok:FuncId->Nat->Code->Bool}
end
end Go.AE
end
section
namespace Go.AE
section
variable {P:Program} {G:Nat->Option (List AV)} {w0:World} {prims:FuncId->Option (List AV->ae->Option (AV × ae))}
theorem il{L:List FuncId}(h:(L.all fun g=>match P.funcs[g]? with|some fn=>fn.body.isSome|none=>false)=true):∀g∈L,∃fn,P.funcs[g]?=some fn/\fn.body.isSome=true:=by
 intro g hg
 have:=abE.1 h g hg
 split at this
 ·rename_i fn hfn;exact⟨fn,hfn,this⟩
 ·cases this
variable {L:List FuncId} {R:Rec} {g:FuncId} {args:List AV} {h h2:ae} {x y:AV}
end
end Go.AE
end
section
namespace Go.NT
def dO:List Nat->Nat
 | []=>0
 |x::l=>x+dO l
def gh:List Int->Int
 | []=>1
 |x::l=>x * gh l
theorem xk{l m:List Nat}(h:l.Perm m):dO l=dO m:=by
 induction h with
 |nil=>rfl
 |cons x _ ih=>simp only[dO,ih]
 |swap x y l=>simp only[dO];omega
 |trans _ _ h1 h2=>exact h1.trans h2
theorem C9{l m:List Int}(h:l.Perm m):gh l=gh m:=by
 induction h with
 |nil=>rfl
 |cons x _ ih=>simp only[gh,ih]
 |swap x y l=>simp only[gh];rw[adC]
 |trans _ _ h1 h2=>exact h1.trans h2
theorem AQ(l m:List Nat):dO (l++m)=dO l+dO m:=by
 induction l with
 |nil=>simp[dO]
 |cons x l ih=>simp only[ab3,dO,ih];omega
def rng(h:Nat):List Nat:=agt 1 h
theorem iI{k h:Nat}:k∈rng h↔1<=k/\k<=h:=by
 unfold rng
 rw[List.mem_range']
 constructor
 ·rintro⟨i,hi,rfl⟩;omega
 ·rintro⟨h1,h2⟩;exact⟨k - 1,by omega,by omega⟩
theorem AR(h:Nat):rng (h+1)=rng h++[h+1]:=by
 unfold rng
 rw[List.range'_1_concat,agP 1 h]
theorem y4(h:Nat):(rng h).length=h:=by simp[rng]
theorem FZ(h:Nat):(rng h).Nodup:=List.nodup_range' 1
theorem Mg:∀{l m:List Nat},l.Nodup->(∀x∈l,x∈m)->m.length<=l.length->l.Perm m:=by
 intro l
 induction l with
 |nil=>
  intro m _ _ hlen
  have:m=[]:=by cases m with|nil=>rfl|cons _ _=>simp at hlen
  subst this;exact .nil
 |cons x l ih=>
  intro m hl hs hlen
  have hx:=hs x abM
  have hp:=List.perm_cons_erase hx
  rw[aet] at hl
  refine List.Perm.trans (.cons x (ih hl.2 (fun y hy=>?_) ?_)) hp.symm
  ·have hne:y≠x:=by rintro rfl;exact hl.1 hy
   exact(List.mem_erase_of_ne hne).2 (hs y (abH _ hy))
  ·rw[List.length_erase_of_mem hx]
   simp at hlen;omega
theorem F1{f:Nat->Nat}:∀{l:List Nat},l.Nodup->(∀x∈l,∀y∈l,f x=f y->x=y)->(l.map f).Nodup:=by
 intro l
 induction l with
 |nil=>intro _ _;exact List.nodup_nil
 |cons x l ih=>
  intro h hf
  rw[aet] at h
  rw[abK,aet]
  refine⟨fun hm=>?_,ih h.2 fun a ha b hb=>hf a (abH _ ha) b (abH _ hb)⟩
  obtain⟨y,hy,he⟩:=aco.1 hm
  have:=hf y (abH _ hy) x abM he
  subst this
  exact h.1 hy
def fl(a n k:Nat):Nat:=if n<2 * (a * k%n) then 1 else 0
def ab(a n k:Nat):Nat:=if n<2 * (a * k%n) then n - a * k%n else a * k%n
def mu(a n:Nat):Nat:=dO ((rng (n/2)).map (fl a n))
section
variable {a b n h:Nat}
theorem IX(hc:acR a n){k:Nat}(h0:0<k)(h1:k<n):a * k%n≠0:=fun q=>by
 have:n∣k:=(afb hc).dvd_of_dvd_mul_left (adH q)
 have:=aeo h0 this
 omega
theorem AS(hn:n=2 * h+1)(hc:acR a n){k:Nat}(hk:1<=k/\k<=h):1<=ab a n k/\ab a n k<=h:=by
 have h1:=IX hc (k:=k) (by omega) (by omega)
 have h2:=acK (a * k) (show 0<n by omega)
 unfold ab
 split<;>omega
theorem Ou(hn:n=2 * h+1)(hc:acR a n){k l:Nat}(hk:1<=k/\k<=h)(hl:1<=l/\l<=h)(he:ab a n k=ab a n l):k=l:=by
 have hk1:=acK (a * k) (show 0<n by omega)
 have hl1:=acK (a * l) (show 0<n by omega)
 have key:∀{x y:Nat},x<=y->y<n->a * x%n=a * y%n->x=y:=by
  intro x y hxy hy q
  have hd:n∣a * y - a * x:=adH (Nat.sub_mod_eq_zero_of_mod_eq q.symm)
  rw[<-Nat.mul_sub] at hd
  have:=(afb hc).dvd_of_dvd_mul_left hd
  rcases adM (y - x) with q|q
  ·omega
  ·have:=aeo q this;omega
 have key2:a * k%n+a * l%n≠n:=fun q=>by
  have hd:n∣a * (k+l):=by
   rw[agu]
   apply adH
   rw[afw,q,Nat.mod_self]
  have:=(afb hc).dvd_of_dvd_mul_left hd
  have:=aeo (by omega) this
  omega
 have same:a * k%n=a * l%n->k=l:=fun q=>by
  rcases Nat.le_total k l with p|p
  ·exact key p (by omega) q
  ·exact(key p (by omega) q.symm).symm
 unfold ab at he
 split at he<;>split at he
 ·exact same (by omega)
 ·exact absurd (by omega) key2
 ·exact absurd (by omega) key2
 ·exact same he
theorem y5(hn:n=2 * h+1)(hc:acR a n):((rng h).map (ab a n)).Perm (rng h):=by
 refine Mg (F1 (FZ h) fun x hx y hy he=>Ou hn hc (iI.1 hx) (iI.1 hy) he) (fun x hx=>?_) (by simp)
 obtain⟨y,hy,rfl⟩:=aco.1 hx
 exact iI.2 (AS hn hc (iI.1 hy))
theorem Ek{f g q:Nat->Nat}:∀{l:List Nat},(∀k∈l,f k%2=(g k+q k)%2)->dO (l.map f)%2=(dO (l.map g)+dO (l.map q))%2:=by
 intro l
 induction l with
 |nil=>intro _;rfl
 |cons x l ih=>
  intro hf
  have h1:=hf x abM
  have h2:=ih fun k hk=>hf k (abH _ hk)
  simp only[abK,dO]
  omega
theorem Ov(hn:n=2 * h+1)(ha:acR a n)(hb:acR b n){k:Nat}(hk:1<=k/\k<=h):fl (a * b) n k%2=(fl b n k+fl a n (ab b n k))%2:=by
 have hbr:=AS hn hb hk
 have hx0:=IX ha (k:=ab b n k) (by omega) (by omega)
 have hxl:=acK (a * ab b n k) (show 0<n by omega)
 have hrl:=acK (b * k) (show 0<n by omega)
 have e1:a * b * k%n=a * (b * k%n)%n:=by rw[ae8,agE]
 unfold fl
 rw[e1]
 by_cases hr:n<2 * (b * k%n)
 ·have hab:ab b n k=n - b * k%n:=by unfold ab;rw[if_pos hr]
  rw[if_pos hr]
  have hyl:=acK (a * (b * k%n)) (show 0<n by omega)
  have hs:(a * (b * k%n)%n+a * ab b n k%n)%n=0:=by
   rw[<-afw,<-agu,hab,show b * k%n+(n - b * k%n)=n by omega,Nat.mul_mod_left]
  have hsum:a * (b * k%n)%n+a * ab b n k%n=n:=by
   have hd:=adH hs
   obtain⟨c,hc⟩:=hd
   rcases c with _|_|c
   ·omega
   ·omega
   ·exfalso
    have:n * 2<=n * (c+1+1):=afp n (by omega)
    omega
  split<;>split<;>omega
 ·have hab:ab b n k=b * k%n:=by unfold ab;rw[if_neg hr]
  rw[if_neg hr,hab]
  simp
theorem Ow(hn:n=2 * h+1)(ha:acR a n)(hb:acR b n):mu (a * b) n%2=(mu a n+mu b n)%2:=by
 have hh:n/2=h:=by omega
 unfold mu
 rw[hh,Ek (g:=fl b n) (q:=fun k=>fl a n (ab b n k)) fun k hk=>Ov hn ha hb (iI.1 hk)]
 have e:(rng h).map (fun k=>fl a n (ab b n k))=((rng h).map (ab b n)).map (fl a n):=by rw[ad5];rfl
 rw[e,xk ((y5 hn hb).map (fl a n))]
 omega
theorem IY(c:Nat):∀m:Nat,dO ((rng m).map fun k=>if c<k then 1 else 0)=m - c:=by
 intro m
 induction m with
 |zero=>simp[rng,dO]
 |succ m ih=>
  rw[AR,acv,AQ,ih]
  simp only[abK,ac6,dO]
  split<;>omega
theorem Ox(c:Nat):∀m:Nat,dO ((rng m).map fun k=>if k<=c then 1 else 0)=min c m:=by
 intro m
 induction m with
 |zero=>simp[rng,dO]
 |succ m ih=>
  rw[AR,acv,AQ,ih]
  simp only[abK,ac6,dO]
  split<;>omega
theorem rq{f g:Nat->Nat}:∀{l:List Nat},(∀k∈l,f k=g k)->dO (l.map f)=dO (l.map g):=by
 intro l
 induction l with
 |nil=>intro _;rfl
 |cons x l ih=>
  intro hf
  simp only[abK,dO]
  rw[hf x abM,ih fun k hk=>hf k (abH _ hk)]
theorem Oy(hn:n=2 * h+1):mu 2 n=h - h/2:=by
 have hh:n/2=h:=by omega
 unfold mu
 rw[hh,<-IY (h/2) h]
 refine rq fun k hk=>?_
 have:=iI.1 hk
 unfold fl
 rw[acn (by omega)]
 split<;>split<;>omega
theorem Oz(hn:n=2 * h+1):mu 1 n=0:=by
 have hh:n/2=h:=by omega
 unfold mu
 rw[hh]
 have:(rng h).map (fl 1 n)=(rng h).map fun k=>if h<k then 1 else 0:=by
  apply adZ
  intro k hk
  have:=iI.1 hk
  unfold fl
  rw[aeb,acn (by omega)]
  split<;>split<;>omega
 rw[this,IY];omega
theorem OA:mu (a%n) n=mu a n:=by
 unfold mu
 refine rq fun k _=>?_
 unfold fl
 rw[afh]
theorem AT(hn:n=2 * h+1)(hc:acR a n)(ha:a%2=1):mu a n%2=dO ((rng h).map fun k=>a * k/n)%2:=by
 have hh:n/2=h:=by omega
 have step:∀k∈rng h,fl a n k%2=((a * k/n)+(ab a n k+k))%2:=by
  intro k _
  have hd:=afi (a * k) n
  have hr:=acK (a * k) (show 0<n by omega)
  have p1:a * k%2=k%2:=by rw[adk,ha];simp
  have p2:n * (a * k/n)%2=(a * k/n)%2:=by rw[adk,show n%2=1 by omega];simp
  generalize n * (a * k/n)=u at *
  generalize a * k/n=v at *
  unfold fl ab
  generalize a * k%n=r at *
  split<;>omega
 unfold mu
 rw[hh,Ek step]
 have e:dO ((rng h).map fun k=>ab a n k+k)=dO ((rng h).map (ab a n))+dO ((rng h).map fun k=>k):=by
  generalize rng h=l
  induction l with
  |nil=>rfl
  |cons x l ih=>simp only[abK,dO];rw[ih];omega
 rw[e,xk (y5 hn hc),List.map_id']
 omega
end
theorem OB(f:Nat->Nat->Nat):∀(l m:List Nat),dO (l.map fun k=>dO (m.map fun j=>f k j))=dO (m.map fun j=>dO (l.map fun k=>f k j)):=by
 intro l m
 induction l with
 |nil=>
  simp only[ac6,dO]
  induction m with
  |nil=>rfl
  |cons x m ih=>simp only[abK,dO];rw[<-ih]
 |cons x l ih=>
  simp only[abK,dO]
  rw[ih]
  clear ih
  induction m with
  |nil=>rfl
  |cons y m ih=>simp only[abK,dO];rw[<-ih];omega
theorem tv{m n g h k:Nat}(hn:n=2 * h+1)(hm:m=2 * g+1)(hk:k<=h):m * k/n=dO ((rng g).map fun l=>if n * l<=m * k then 1 else 0):=by
 have hle:m * k/n<=g:=by
  have:m * k/n<g+1:=by
   rw[Nat.div_lt_iff_lt_mul (by omega)]
   have h1:m * k<=m * h:=afp m hk
   have h2:(g+1) * n=m * h+(g+1+h):=by
    subst hn hm
    simp only[ab4,agu,acM,aeb]
    have:g * (2 * h)=2 * g * h:=by rw[afN 2 g,ae8]
    omega
   omega
  omega
 have:(rng g).map (fun l=>if n * l<=m * k then 1 else 0)=(rng g).map fun l=>if l<=m * k/n then 1 else 0:=by
  apply adZ
  intro l _
  have:(n * l<=m * k)↔l<=m * k/n:=by rw[Nat.le_div_iff_mul_le (by omega),afN]
  simp only[this]
 rw[this,Ox];omega
theorem Mh{m n g h:Nat}(hn:n=2 * h+1)(hm:m=2 * g+1)(hc:acR m n):
 dO ((rng h).map fun k=>m * k/n)+dO ((rng g).map fun l=>n * l/m)=h * g:=by
 have e1:dO ((rng h).map fun k=>m * k/n)=dO ((rng h).map fun k=>dO ((rng g).map fun l=>if n * l<=m * k then 1 else 0)):=
  rq fun k hk=>tv hn hm (iI.1 hk).2
 have e2:dO ((rng g).map fun l=>n * l/m)=dO ((rng g).map fun l=>dO ((rng h).map fun k=>if m * k<=n * l then 1 else 0)):=
  rq fun l hl=>tv hm hn (iI.1 hl).2
 rw[e1,e2,OB (fun l k=>if m * k<=n * l then 1 else 0)]
 have one:∀k∈rng h,∀l∈rng g,(if n * l<=m * k then 1 else 0)+(if m * k<=n * l then 1 else 0)=1:=by
  intro k hk l hl
  have hk:=iI.1 hk
  have hne:m * k≠n * l:=fun q=>by
   have hd:n∣m * k:=⟨l,q⟩
   have:=(afb hc).dvd_of_dvd_mul_left hd
   have:=aeo (by omega) this
   omega
  split<;>split<;>omega
 have inner:∀(k:Nat) (ls:List Nat),k∈rng h->(∀l∈ls,l∈rng g)->dO (ls.map fun l=>if n * l<=m * k then 1 else 0)+dO (ls.map fun l=>if m * k<=n * l then 1 else 0)=ls.length:=by
  intro k ls hk
  induction ls with
  |nil=>intro _;rfl
  |cons x ls ih=>
   intro hs
   have h1:=one k hk x (hs x abM)
   have h2:=ih fun l hl=>hs l (abH _ hl)
   simp only[abK,dO,ab0]
   omega
 have outer:∀(ks:List Nat),(∀k∈ks,k∈rng h)->dO (ks.map fun k=>dO ((rng g).map fun l=>if n * l<=m * k then 1 else 0))+dO (ks.map fun k=>dO ((rng g).map fun l=>if m * k<=n * l then 1 else 0))=ks.length * g:=by
  intro ks
  induction ks with
  |nil=>intro _;simp[dO]
  |cons x ks ih=>
   intro hs
   have h1:=inner x (rng g) (hs x abM) (fun _ h=>h)
   rw[y4] at h1
   have h2:=ih fun l hl=>hs l (abH _ hl)
   simp only[abK,dO,ab0,ab4,aeb]
   omega
 have:=outer (rng h) (fun _ h=>h)
 rw[y4] at this
 exact this
theorem AU{m n g h:Nat}(hn:n=2 * h+1)(hm:m=2 * g+1)(hc:acR m n):(mu m n+mu n m)%2=h * g%2:=by
 have e1:=AT hn hc (by omega)
 have e2:=AT hm hc.symm (by omega)
 have:=Mh hn hm hc
 rw[afw,e1,e2,<-afw,this]
end Go.NT
end
section
namespace Go.NT
theorem vd:∀c:Nat,(1:Int)^c=1:=by
 intro c
 induction c with
 |zero=>rfl
 |succ c ih=>rw[adS,ih];rfl
def isP(p:Nat):Prop:=2<=p/\∀d,d∣p->d=1∨d=p
theorem isP.coprime{p k:Nat}(hp:isP p)(h0:0<k)(h1:k<p):Nat.Coprime k p:=by
 have hd:Nat.gcd k p∣p:=Nat.gcd_dvd_right k p
 rcases hp.2 _ hd with q|q
 ·exact q
 ·have:=aeo h0 (Nat.gcd_dvd_left k p)
  omega
theorem Da(a:Int):∀l:List Nat,gh (l.map fun(k:Nat)=>a * (k:Int))=a^l.length * gh (l.map fun(k:Nat)=>(k:Int)):=by
 intro l
 induction l with
 |nil=>simp[gh]
 |cons x l ih=>
  simp only[abK,gh,ih,ab0,adS]
  rw[adz,adz,adC (x:Int),<-adz a,ad6 a,adz]
theorem F2(f:Nat->Nat)(g:Nat->Int):∀l:List Nat,gh (l.map fun k=>(-1)^f k * g k)=(-1)^dO (l.map f) * gh (l.map g):=by
 intro l
 induction l with
 |nil=>simp[gh,dO]
 |cons x l ih=>
  simp only[abK,gh,dO,ih,agv]
  rw[adz,adz,adC (g x)]
theorem F3{p:Int}{f g:Nat->Int}:∀{l:List Nat},(∀k∈l,p∣f k - g k)->p∣gh (l.map f) - gh (l.map g):=by
 intro l
 induction l with
 |nil=>intro _;simp[gh]
 |cons x l ih=>
  intro h
  have h1:=h x abM
  have h2:=ih fun k hk=>h k (abH _ hk)
  simp only[abK,gh]
  generalize gh (l.map f)=F at *
  generalize gh (l.map g)=G at *
  have e:f x * F - g x * G=(f x - g x) * F+g x * (F - G):=by rw[afX,aec];omega
  rw[e]
  exact ad3 (Int.dvd_mul_of_dvd_left h1) (adv h2)
theorem cancel{p:Nat}(hp:isP p):∀(l:List Nat) (x:Int),(∀k∈l,0<k/\k<p)->(p:Int)∣x * gh (l.map fun(k:Nat)=>(k:Int))->(p:Int)∣x:=by
 intro l
 induction l with
 |nil=>intro x _ h;simpa [gh] using h
 |cons k l ih=>
  intro x hk h
  obtain⟨h0,h1⟩:=hk k abM
  refine ih x (fun j hj=>hk j (abH _ hj)) ?_
  simp only[abK,gh] at h
  rw[adC] at h
  generalize x * gh (l.map fun(k:Nat)=>(k:Int))=y at *
  have hn:=af1.2 h
  rw[Int.natAbs_mul,afA,afA] at hn
  have:=(hp.coprime h0 h1).symm.dvd_of_dvd_mul_left hn
  exact af1.1 (by rw[afA];exact this)
theorem Nr{p h a:Nat}(hp:isP p)(hn:p=2 * h+1)(hc:Nat.Coprime a p):(p:Int)∣(a:Int)^h - (-1)^mu a p:=by
 have hh:p/2=h:=by omega
 have step:∀k∈rng h,(p:Int)∣(a:Int) * (k:Int) - (-1)^fl a p k * (ab a p k:Int):=by
  intro k _
  have hd:=afi (a * k) p
  have hr:=acK (a * k) (show 0<p by omega)
  have hd2:(a:Int) * (k:Int)=(p:Int) * ((a * k/p:Nat):Int)+((a * k%p:Nat):Int):=by
   rw[<-acY,<-acY,<-agF,hd]
  unfold fl ab
  by_cases q:p<2 * (a * k%p)
  ·rw[if_pos q,if_pos q,hd2]
   have e:((p - a * k%p:Nat):Int)=(p:Int) - ((a * k%p:Nat):Int):=by omega
   rw[e]
   refine⟨((a * k/p:Nat):Int)+1,?_⟩
   rw[afx];simp only[ae3,Int.pow_one];omega
  ·rw[if_neg q,if_neg q,hd2]
   refine⟨((a * k/p:Nat):Int),?_⟩
   simp only[Int.pow_zero,ae4];omega
 have h1:=F3 step
 rw[Da,F2,y4] at h1
 have e1:(rng h).map (fun k=>(ab a p k:Int))=((rng h).map (ab a p)).map fun(k:Nat)=>(k:Int):=by rw[ad5];rfl
 rw[e1,C9 ((y5 hn hc).map fun(k:Nat)=>(k:Int)),<-afX] at h1
 have:=cancel hp (rng h) _ (fun k hk=>by have:=iI.1 hk;omega) h1
 unfold mu
 rw[hh]
 exact this
theorem Qp{p h a:Nat}(hp:isP p)(hn:p=2 * h+1)(h0:0<a)(h1:a<p):(a^h%p=1)↔mu a p%2=0:=by
 have hg:=Nr hp hn (hp.coprime h0 h1)
 have hp2:=hp.1
 have hpow:((a^h:Nat):Int)=(a:Int)^h:=by simp
 rw[<-hpow] at hg
 constructor
 ·intro q
  rcases ac4 (mu a p) with r|r
  ·exact r
  ·exfalso
   have:((-1:Int))^mu a p= -1:=by
    obtain⟨c,hc⟩:∃c,mu a p=2 * c+1:=⟨mu a p/2,by omega⟩
    rw[hc,adS,ae5];simp[vd]
   rw[this] at hg
   have hd:p∣a^h+1:=by
    have e:((a^h:Nat):Int) - -1=((a^h+1:Nat):Int):=by omega
    rw[e] at hg
    exact aeZ.1 hg
   have:=Nat.mod_eq_zero_of_dvd hd
   rw[afw,q] at this
   have h3:1%p=1:=acn (by omega)
   rw[h3] at this
   have:p∣2:=adH this
   have:=aeo (by omega) this
   omega
 ·intro r
  have:((-1:Int))^mu a p=1:=by
   obtain⟨c,hc⟩:∃c,mu a p=2 * c:=⟨mu a p/2,by omega⟩
   rw[hc,ae5];simp[vd]
  rw[this] at hg
  have hpos:0<a^h:=afY h0
  have hd:p∣a^h - 1:=by
   have e:((a^h:Nat):Int) - 1=((a^h - 1:Nat):Int):=by omega
   rw[e] at hg
   exact aeZ.1 hg
  obtain⟨c,hc⟩:=hd
  have:a^h=p * c+1:=by omega
  rw[this,afU,acn (by omega)]
theorem F4{x n:Nat}(ho:n%2=1)(hc:acR (2 * x) n):mu (2 * x) n%2=(mu x n+(if n%8=3∨n%8=5 then 1 else 0))%2:=by
 have hn:n=2 * (n/2)+1:=by omega
 have h2:acR 2 n:=Nat.Coprime.coprime_mul_right hc
 have hx:acR x n:=Nat.Coprime.coprime_mul_left hc
 rw[Ow hn h2 hx,Oy hn]
 split<;>omega
theorem IZ{x n:Nat}(ho:n%2=1)(hx:x%2=1)(hc:acR x n):mu x n%2=(mu (n%x) x+(if x%4=3/\n%4=3 then 1 else 0))%2:=by
 have hn:n=2 * (n/2)+1:=by omega
 have hm:x=2 * (x/2)+1:=by omega
 have h:=AU hn hm hc
 rw[OA]
 have e:(n/2) * (x/2)%2=(if x%4=3/\n%4=3 then 1 else 0):=by
  rw[adk]
  rcases ac4 (n/2) with p|p<;>rcases ac4 (x/2) with q|q<;>rw[p,q]<;>split<;>omega
 rw[e] at h
 split at h<;>split<;>omega
theorem y6{x n:Nat}(hc:acR x n):acR (n%x) x:=by
 unfold acR at *
 rw[<-Nat.gcd_rec,hc]
def xl(p:Nat):Nat->Nat->Bool
 |0,lo=>Nat.blt 0 (p%lo)
 |k+1,lo=>xl p k lo&&xl p k (lo+2^k)
theorem Db{p:Nat}:∀{k lo:Nat},xl p k lo=true->∀d,lo<=d->d<lo+2^k->p%d≠0:=by
 intro k
 induction k with
 |zero=>
  intro lo h d h1 h2
  have:d=lo:=by simp at h2;omega
  subst this
  unfold xl at h
  have:1<=p%d:=by simpa [Nat.blt] using h
  omega
 |succ k ih=>
  intro lo h d h1 h2
  unfold xl at h
  rw[abr] at h
  rw[aeg] at h2
  rcases abL d (lo+2^k) with q|q
  ·exact ih h.1 d h1 q
  ·exact ih h.2 d q (by omega)
theorem I0{p k:Nat}(h2:2<=p)(h:xl p k 2=true)(hk:p<(2^k+2) * (2^k+2)):isP p:=by
 refine⟨h2,fun d hd=>?_⟩
 obtain⟨e,he⟩:=hd
 have hd0:d≠0:=by rintro rfl;simp at he;omega
 have he0:e≠0:=by rintro rfl;simp at he;omega
 by_cases hd1:d=1
 ·exact .inl hd1
 by_cases he1:e=1
 ·right;rw[he,he1,acM]
 exfalso
 have key:∀{x y:Nat},p=x * y->2<=x->x<2+2^k->False:=by
  intro x y hxy hx hlt
  exact Db h x hx hlt (by rw[hxy,Nat.mul_mod_right])
 rcases abL d (2+2^k) with q|q
 ·exact key he (by omega) q
 ·rcases abL e (2+2^k) with r|r
  ·exact key (by rw[he,afN]) (by omega) r
  ·have:=Nat.mul_le_mul q r
   rw[<-he] at this
   rw[agP (2^k) 2] at hk
   omega
def P:Nat:=2147483579
def Q:Nat:=1073741789
theorem El:isP P:=I0 (k:=16) (by decide) (by decide+kernel) (by decide)
theorem Mi:isP Q:=I0 (k:=15) (by decide) (by decide+kernel) (by decide)
end Go.NT
end
section
namespace Go.NT
def pg:Nat->Nat->Nat->Nat->Nat->Nat
 |0,_,_,_,c=>c
 |k+1,m,a,n,c=>if n=0 then c else pg k m (a * a%m) (n/2) (if n%2=1 then c * a%m else c)
theorem nu{m:Nat}(hm:0<m):∀{k a n c:Nat},n<2^k->c<m->pg k m a n c=c * a^n%m:=by
 intro k
 induction k with
 |zero=>
  intro a n c hn hc
  have:n=0:=by simp at hn;exact hn
  subst this
  simp[pg,acn hc]
 |succ k ih=>
  intro a n c hn hc
  unfold pg
  by_cases h0:n=0
  ·subst h0;simp[acn hc]
  ·rw[if_neg h0]
   have hn2:n/2<2^k:=by rw[aeg] at hn;omega
   have hsq:∀e,(a * a%m)^e%m=a^(2 * e)%m:=fun e=>by
    rw[<-ae6,aeK,Nat.pow_two]
   split
   ·rename_i ho
    rw[ih hn2 (acK _ hm),adk,hsq,Nat.mod_mod,<-adk,ae8,<-Nat.pow_succ',show(2 * (n/2)).succ=n by omega]
   ·rename_i ho
    rw[ih hn2 hc,adk,hsq,<-adk,show 2 * (n/2)=n by omega]
def y7(a n:Nat):Nat:=pg 31 P a n 1
theorem y8{a n:Nat}(hn:n<2^31):y7 a n=a^n%P:=by
 unfold y7
 rw[nu (by decide) hn (by decide),aeb]
def elem(x:Nat):Bool:=decide (1<=x)&&decide (x<P)&&acL (y7 x Q) 1
theorem elem_iff{x:Nat}:elem x=true↔1<=x/\x<P/\x^Q%P=1:=by
 unfold elem
 rw[y8 (by decide)]
 simp only[abr,decide_eq_true_eq]
 exact⟨fun h=>⟨h.1.1,h.1.2,Nat.eq_of_beq_eq_true h.2⟩,fun h=>⟨⟨h.1,h.2.1⟩,by rw[h.2.2];rfl⟩⟩
theorem Mj{x:Nat}(h0:1<=x)(h1:x<P):elem x=decide (mu x P%2=0):=by
 have:=Qp El (h:=Q) (a:=x) (by decide) (by omega) h1
 rw[aes,elem_iff,decide_eq_true_eq,<-this]
 exact⟨fun h=>h.2.2,fun h=>⟨h0,h1,h⟩⟩
theorem mI:elem 1=true:=by rw[elem_iff];exact⟨by decide,by decide,by rw[agx];rfl⟩
theorem oH{x y:Nat}(hx:elem x=true)(hy:elem y=true):elem (x * y%P)=true:=by
 rw[elem_iff] at *
 obtain⟨x1,x2,x3⟩:=hx
 obtain⟨y1,y2,y3⟩:=hy
 have hp:(x * y%P)^Q%P=1:=by
  rw[<-ae6,Nat.mul_pow,adk,x3,y3];rfl
 refine⟨?_,acK _ (by decide),hp⟩
 rcases adM (x * y%P) with q|q
 ·rw[q] at hp
  have:(0:Nat)^Q=0:=Nat.zero_pow (by decide)
  rw[this] at hp;cases hp
 ·exact q
theorem I4{x:Nat}(hx:elem x=true)(n:Nat):elem (x^n%P)=true:=by
 induction n with
 |zero=>exact mI
 |succ n ih=>
  have:=oH ih hx
  rwa [afh,<-aeg] at this
theorem I5{x:Nat}(hx:elem x=true)(n:Nat):x^(n%Q)%P=x^n%P:=by
 obtain⟨-,-,h⟩:=elem_iff.1 hx
 have e:n=Q * (n/Q)+n%Q:=(afi n Q).symm
 rw[show x^n=x^(Q * (n/Q)+n%Q) by rw[<-e],agW,aeK,adk,ae6 (x^Q),h,agx]
 simp
end Go.NT
end
section
namespace Go.NT
def Qi:Int:=1073741789
def fmod(n:Int):Int:=n%Qi
def cN(a b:Int):Int:=(fmod a+fmod b)%Qi
def cq(a b:Int):Int:=fmod a * fmod b%Qi
def eZ(n:Int):Int:=((pg 31 Q (fmod n).toNat (Q - 2) 1:Nat):Int)
def okF(x:Int):Prop:=0<=x/\x<Qi
theorem Dc:(0:Int)<Qi:=by decide
theorem qw:Qi=(Q:Int):=rfl
theorem mJ(n:Int):okF (fmod n):=⟨adT _ (by decide),adw _ Dc⟩
theorem ph{x:Int}(h:okF x):fmod x=x:=Int.emod_eq_of_lt h.1 h.2
theorem jU(a b:Int):cN a b=(a+b)%Qi:=by unfold cN fmod;rw[<-agQ]
theorem fR(a b:Int):cq a b=a * b%Qi:=by unfold cq fmod;rw[<-aeh]
theorem oI(a b:Int):okF (cN a b):=⟨adT _ (by decide),adw _ Dc⟩
theorem ru(a b:Int):okF (cq a b):=⟨adT _ (by decide),adw _ Dc⟩
theorem iJ:okF 0:=by unfold okF;decide
theorem xm{x:Int}(h:okF x):cN x 0=x:=by rw[jU,Int.add_zero,<-fmod];exact ph h
theorem F5(n:Int):cq n 0=0:=by rw[fR,afj];rfl
theorem F7(n:Int):cq 0 n=0:=by rw[fR,afk];rfl
def nw(n x y:Int):Int:=cN x (-(cq n y))
theorem uh(n x y:Int):nw n x y=(x - n * y)%Qi:=by
 unfold nw
 rw[jU,fR,<-Int.sub_eq_add_neg,agR,Int.emod_emod_of_dvd _ (Int.dvd_refl _),<-agR]
theorem I6(n x y:Int):okF (nw n x y):=oI _ _
theorem jG{n x:Int}(h:okF x):nw n x 0=x:=by
 unfold nw;rw[F5,agS];exact xm h
theorem ve{x y:Int}(h:okF x):nw 0 x y=x:=by
 unfold nw;rw[F7,agS];exact xm h
theorem Dd(n y:Int):nw (-n) 0 y=cq y n:=by
 rw[uh,fR,agX,Int.sub_neg,Int.zero_add,ad6]
theorem OC{p h a:Nat}(hp:isP p)(hn:p=2 * h+1)(h0:0<a)(h1:a<p):a^(p - 1)%p=1:=by
 have hg:=Nr hp hn (hp.coprime h0 h1)
 have hp2:=hp.1
 have h2:(p:Int)∣(a:Int)^(2 * h) - 1:=by
  obtain⟨c,hc⟩:=hg
  have e:((-1:Int)^mu a p) * ((-1:Int)^mu a p)=1:=by
   rw[<-agv,show mu a p+mu a p=2 * mu a p by omega,ae5]
   simp[vd]
  have e2:(a:Int)^(2 * h)=(a:Int)^h * (a:Int)^h:=by rw[<-agv,show 2 * h=h+h by omega]
  refine⟨c * ((a:Int)^h+(-1)^mu a p),?_⟩
  rw[<-adz,<-hc,afX,afx,afx,e2,ad6 ((-1)^mu a p) ((a:Int)^h),e]
  omega
 rw[show p - 1=2 * h by omega]
 have hpos:0<a^(2 * h):=afY h0
 have hpow:((a^(2 * h):Nat):Int)=(a:Int)^(2 * h):=by simp
 rw[<-hpow] at h2
 have hd:p∣a^(2 * h) - 1:=by
  have e:((a^(2 * h):Nat):Int) - 1=((a^(2 * h) - 1:Nat):Int):=by omega
  rw[e] at h2
  exact aeZ.1 h2
 obtain⟨c,hc⟩:=hd
 have:a^(2 * h)=p * c+1:=by omega
 rw[this,afU,acn (by omega)]
theorem AW(n:Int):okF (eZ n):=by
 unfold eZ okF
 rw[nu (by decide) (by decide) (by decide)]
 exact⟨by omega,by rw[qw];exact agT.2 (acK _ (by decide))⟩
theorem sG{x:Int}(h:okF x)(h0:x≠0):cq x (eZ x)=1:=by
 obtain⟨n,rfl⟩:∃n:Nat,x=n:=⟨x.toNat,by have:=h.1;omega⟩
 have hn:n<Q:=by have:=h.2;rw[qw] at this;exact agT.1 this
 have hf:=OC (h:=536870894) Mi (by decide) (show 0<n by omega) hn
 unfold eZ
 rw[ph h,abB,nu (by decide) (by decide) (by decide),aeb,fR,qw,<-acY,<-afP,agE,afN,<-aeg,
  show(Q - 2).succ=Q - 1 by decide,hf]
 rfl
def at0(l:List Int)(i:Nat):Int:=l.getD i 0
def fH(n:Int)(a b:List Int):List Int:=aeA (nw n) a b
def lE(c:Nat)(a own:List Int):List Int:=if at0 a c=0 then a else a.take c++fH (at0 a c) (a.drop c) (own.drop c)
def da(c:Nat)(a:List Int)(n:Int):List Int:=a.take c++(a.drop c).map (cq · n)
def scaleB(a:List Int)(n:Int):List Int:=fH (-n) (abt a.length 0) a
def lF(t:List (List Int))(r c:Nat):Option Nat:=(aby t.length).find? fun k=>decide (r<=k)&& !(decide (at0 (t.getD k []) c=0))
def pZ(st:List (List Int) × List Nat)(c:Nat):List (List Int) × List Nat:=
 match lF st.1 st.2.length c with
 |none=>st
 |some k=>
  let own:=da c (st.1.getD k []) (eZ (at0 (st.1.getD k []) c))
  let t1:=(st.1.set k (st.1.getD st.2.length [])).set st.2.length own
  (t1.mapIdx fun i a=>if i=st.2.length then own else lE c a own,st.2++[c])
def nR(st:List (List Int) × List Nat)(c:Nat):List (List Int) × List Nat:=
 match lF st.1 st.2.length c with
 |none=>st
 |some k=>
  let own:=scaleB (st.1.getD k []) (eZ (at0 (st.1.getD k []) c))
  let t1:=st.1.set k (st.1.getD st.2.length [])
  ((t1.map fun a=>fH (at0 a c) a own).set st.2.length own,st.2++[c])
def pj(t:List (List Int))(many:Nat):List (List Int) × List Nat:=(aby many).foldl pZ (t,[])
def cJ(t:List (List Int))(many:Nat):List (List Int) × List Nat:=(aby many).foldl nR (t,[])
structure rv(w c:Nat)(st:List (List Int) × List Nat):Prop where
 len:∀a∈st.1,a.length=w
 ok:∀a∈st.1,∀x∈a,okF x
 zero:∀i a,st.2.length<=i->st.1[i]?=some a->∀j,j<c->at0 a j=0
theorem bN{l:List Int}{i:Nat}(h:i<l.length):at0 l i=l[i]:=by
 unfold at0
 rw[abw,abo h];rfl
theorem gU{l:List Int}(h:∀x∈l,okF x)(i:Nat):okF (at0 l i):=by
 unfold at0
 rw[abw]
 rcases abL i l.length with q|q
 ·rw[abo q];exact h _ (ab1 q)
 ·rw[acf q];exact iJ
theorem jV{a b:List Int}(hl:a.length=b.length)(h:∀i,i<a.length->at0 a i=at0 b i):a=b:=by
 apply aef hl
 intro i h1 h2
 rw[<-bN h1,<-bN h2]
 exact h i h1
theorem iK{n:Int}{a b:List Int}(hl:a.length=b.length){i:Nat}(hi:i<a.length):at0 (fH n a b) i=nw n (at0 a i) (at0 b i):=by
 unfold fH
 have h1:i<(aeA (nw n) a b).length:=by rw[agd];omega
 rw[bN h1,afl,bN hi,bN (by omega)]
theorem jz{n:Int}{a b:List Int}(hl:a.length=b.length):(fH n a b).length=a.length:=by
 unfold fH;rw[agd];omega
theorem kJ{a x:List Int}{c:Nat}(hc:c<=a.length)(i:Nat):at0 (a.take c++x) i=if i<c then at0 a i else at0 x (i - c):=by
 unfold at0
 simp only[abw]
 split
 ·rename_i h
  rw[ab5 (by rw[abI];omega),acj,if_pos h]
 ·rename_i h
  rw[acE (by rw[abI];omega),abI,adD hc]
theorem ry(a:List Int)(c i:Nat):at0 (a.drop c) i=at0 a (c+i):=by
 unfold at0
 simp only[abw,List.getElem?_drop]
theorem De{c:Nat}{a own:List Int}(hl:a.length=own.length)(hc:c<a.length)(ha:∀x∈a,okF x)(hz:∀j,j<c->at0 own j=0):lE c a own=fH (at0 a c) a own:=by
 unfold lE
 split
 ·rename_i h
  rw[h]
  refine(jV (jz hl) fun i hi=>?_).symm
  rw[jz hl] at hi
  rw[iK hl hi,ve (gU ha i)]
 ·have hd:(a.drop c).length=(own.drop c).length:=by simp[hl]
  refine jV ?_ fun i hi=>?_
  ·rw[abx,jz hd,jz hl,abI,abS];omega
  ·have hi2:i<a.length:=by
    rw[abx,jz hd,abI,abS] at hi;omega
   rw[kJ (by omega),iK hl hi2]
   split
   ·rename_i q
    rw[hz i q,jG (gU ha i)]
   ·rename_i q
    rw[iK hd (by rw[abS];omega),ry,ry,show c+(i - c)=i by omega]
theorem nx{c:Nat}{a:List Int}{n:Int}(hc:c<=a.length)(hz:∀j,j<c->at0 a j=0):da c a n=scaleB a n:=by
 unfold da scaleB
 have hr:(abt a.length (0:Int)).length=a.length:=by simp
 refine jV ?_ fun i hi=>?_
 ·rw[jz hr,abx,abu,abI,abS,hr];omega
 ·have hi2:i<a.length:=by
   rw[abx,abu,abI,abS] at hi;omega
  have h0:at0 (abt a.length (0:Int)) i=0:=by rw[bN (by simpa using hi2)];simp
  rw[kJ hc,iK hr (by rw[hr];exact hi2),h0,Dd]
  split
  ·rename_i q
   rw[hz i q,fR,afk];rfl
  ·rename_i q
   have hm:i - c<((a.drop c).map (cq · n)).length:=by rw[abu,abS];omega
   rw[bN hm,acA,ae1,<-bN (show c+(i - c)<a.length by omega),show c+(i - c)=i by omega]
end Go.NT
end
section
namespace Go.NT
theorem jf{t:List (List Int)}{r c k:Nat}(h:lF t r c=some k):k<t.length/\r<=k/\at0 (t.getD k []) c≠0:=by
 unfold lF at h
 have h1:=List.find?_some h
 have h2:=List.mem_of_find?_eq_some h
 rw[abQ] at h2
 simp only[abr,decide_eq_true_eq,ac0,decide_eq_false_iff_not] at h1
 exact⟨h2,h1⟩
theorem vg{t:List (List Int)}{r c:Nat}(h:lF t r c=none){k:Nat}(hk:k<t.length)(hr:r<=k):at0 (t.getD k []) c=0:=by
 unfold lF at h
 rw[List.find?_eq_none] at h
 have:=h k (abQ.2 hk)
 simp only[abr,decide_eq_true_eq,ac0,decide_eq_false_iff_not,not_and,ae2] at this
 exact this hr
theorem cU{t:List (List Int)}{k:Nat}(hk:k<t.length):t.getD k []=t[k]:=by
 rw[abw,abo hk];rfl
section
variable {w c:Nat} {st:List (List Int) × List Nat}
structure Own(w c:Nat)(own:List Int):Prop where
 len:own.length=w
 ok:∀x∈own,okF x
 zero:∀j,j<c->at0 own j=0
 one:at0 own c=1
theorem y9{a:List Int}(hl:a.length=w)(hc:c<w)(ha:∀x∈a,okF x)(hz:∀j,j<c->at0 a j=0)(h0:at0 a c≠0):Own w c (da c a (eZ (at0 a c))):=by
 refine⟨?_,?_,?_,?_⟩
 ·unfold da;rw[abx,abu,abI,abS];omega
 ·intro x hx
  unfold da at hx
  rcases acX.1 hx with q|q
  ·exact ha x (acq q)
  ·obtain⟨y,-,rfl⟩:=aco.1 q
   exact ru _ _
 ·intro j hj
  unfold da
  rw[kJ (by omega),if_pos hj]
  exact hz j hj
 ·unfold da
  rw[kJ (by omega),if_neg (by omega)]
  have hm:c - c<((a.drop c).map (cq · (eZ (at0 a c)))).length:=by rw[abu,abS];omega
  rw[bN hm,acA,ae1]
  have e:a[c+(c - c)]'(by omega)=at0 a c:=by rw[bN (by omega)];congr 1;omega
  rw[e]
  exact sG (gU ha c) h0
theorem xn(R:rv w c st)(hc:c<w):pZ st c=nR st c:=by
 unfold pZ nR
 cases hf:lF st.1 st.2.length c with
 |none=>rfl
 |some k=>
  obtain⟨k1,k2,k3⟩:=jf hf
  rw[cU k1] at k3
  have hk:=R.len _ (ab1 k1)
  have hko:=R.ok _ (ab1 k1)
  have hkz:=R.zero k _ k2 (abo k1)
  simp only[cU k1]
  have O:=y9 hk hc hko hkz k3
  rw[<-nx (by omega) hkz]
  generalize da c st.1[k] (eZ (at0 st.1[k] c))=own at *
  congr 1
  apply aef
  ·simp
  ·intro i h1 h2
   rw[List.getElem_mapIdx]
   by_cases hi:i=st.2.length
   ·rw[if_pos hi]
    subst hi
    rw[aeB]
   ·rw[if_neg hi,aeL (fun q=>hi q.symm),aeL (fun q=>hi q.symm),acA]
    have hlt:i<st.1.length:=by simpa using h1
    have hm:(st.1.set k (st.1.getD st.2.length []))[i]'(by simpa using hlt)∈st.1:=by
     rw[adi]
     split
     ·rw[cU (by omega)];exact ab1 _
     ·exact ab1 _
    exact De ((R.len _ hm).trans O.len.symm) (by rw[R.len _ hm];exact hc) (R.ok _ hm) O.zero
theorem qx(R:rv w c st)(hc:c<w):rv w (c+1) (nR st c):=by
 unfold nR
 cases hf:lF st.1 st.2.length c with
 |none=>
  refine⟨R.len,R.ok,fun i a hi ha j hj=>?_⟩
  rcases abL j c with q|q
  ·exact R.zero i a hi ha j q
  ·have:j=c:=by omega
   subst this
   have hlt:=(abm.1 ha).1
   have:=vg hf hlt hi
   rw[cU hlt] at this
   rw[<-(abm.1 ha).2];exact this
 |some k=>
  obtain⟨k1,k2,k3⟩:=jf hf
  rw[cU k1] at k3
  have hk:=R.len _ (ab1 k1)
  have hko:=R.ok _ (ab1 k1)
  have hkz:=R.zero k _ k2 (abo k1)
  simp only[cU k1]
  have O:=y9 hk hc hko hkz k3
  rw[<-nx (by omega) hkz]
  generalize da c st.1[k] (eZ (at0 st.1[k] c))=own at *
  have hrl:st.2.length<st.1.length:=by omega
  have hmem:∀a∈st.1.set k (st.1.getD st.2.length []),a∈st.1:=fun a ha=>by
   rcases ach ha with q|q
   ·exact q
   ·rw[q,cU hrl];exact ab1 _
  refine⟨fun a ha=>?_,fun a ha=>?_,fun i a hi ha j hj=>?_⟩
  ·rcases ach ha with q|q
   ·obtain⟨b,hb,rfl⟩:=aco.1 q
    have:=R.len _ (hmem b hb)
    rw[jz (this.trans O.len.symm)];exact this
   ·rw[q];exact O.len
  ·rcases ach ha with q|q
   ·obtain⟨b,hb,rfl⟩:=aco.1 q
    intro x hx
    unfold fH at hx
    obtain⟨i,h1,rfl⟩:=ac8.1 hx
    rw[afl];exact I6 _ _ _
   ·rw[q];exact O.ok
  ·simp only[abx,aeC] at hi
   have hne:st.2.length≠i:=by omega
   rw[adR hne,abF] at ha
   have hlt:i<st.1.length:=by
    rcases abL i st.1.length with q|q
    ·exact q
    ·rw[acf (by simpa using q)] at ha;cases ha
   rw[abo (by simpa using hlt),abJ,abA] at ha
   have hb:∃b,(st.1.set k (st.1.getD st.2.length []))[i]'(by simpa using hlt)=b/\b.length=w/\(∀x∈b,okF x)/\∀j,j<c->at0 b j=0:=by
    refine⟨_,rfl,R.len _ (hmem _ (ab1 _)),R.ok _ (hmem _ (ab1 _)),fun j hj=>?_⟩
    rw[adi]
    split
    ·rw[cU hrl]
     exact R.zero st.2.length _ (abq _) (abo hrl) j hj
    ·exact R.zero i _ (by omega) (abo hlt) j hj
   obtain⟨b,e,b1,b2,b3⟩:=hb
   rw[e] at ha
   subst ha
   rw[iK (b1.trans O.len.symm) (by omega)]
   rcases abL j c with q|q
   ·rw[b3 j q,O.zero j q,jG iJ]
   ·have:j=c:=by omega
    subst this
    rw[O.one,uh,ae3,afQ];rfl
end
theorem AX{t:List (List Int)}{w many:Nat}(hl:∀a∈t,a.length=w)(ho:∀a∈t,∀x∈a,okF x)(hm:many<=w):pj t many=cJ t many:=by
 unfold pj cJ
 have key:∀n,n<=w->(aby n).foldl pZ (t,[])=(aby n).foldl nR (t,[])/\rv w n ((aby n).foldl nR (t,[])):=by
  intro n
  induction n with
  |zero=>intro _;exact⟨rfl,hl,ho,fun _ _ _ _ j hj=>by omega⟩
  |succ n ih=>
   intro hn
   obtain⟨h1,h2⟩:=ih (by omega)
   rw[acx,acs,acs,h1]
   simp only[ado,afr]
   exact⟨xn h2 (by omega),qx h2 (by omega)⟩
 exact(key many hm).1
end Go.NT
end
section
namespace Go.NT
def bW:List Int->Int
 | []=>0
 |x::l=>x+bW l
theorem I7(l m:List Int):bW (l++m)=bW l+bW m:=by
 induction l with
 |nil=>simp[bW]
 |cons x l ih=>simp only[ab3,bW,ih];omega
def dot(y row:List Int):Int:=bW ((aby y.length).map fun i=>at0 y i * at0 row i)
def res(y row:List Int):Int:=dot y row - at0 row y.length
def Sat(y row:List Int):Prop:=Qi∣res y row
theorem Mk{f g q:Nat->Int}{n:Int}:∀{l:List Nat},(∀i∈l,Qi∣f i - (g i - n * q i))->Qi∣bW (l.map f) - (bW (l.map g) - n * bW (l.map q)):=by
 intro l
 induction l with
 |nil=>intro _;simp[bW]
 |cons x l ih=>
  intro h
  have h1:=h x abM
  have h2:=ih fun i hi=>h i (abH _ hi)
  simp only[abK,bW,afx]
  have e:f x+bW (l.map f) - (g x+bW (l.map g) - (n * q x+n * bW (l.map q)))=(f x - (g x - n * q x))+(bW (l.map f) - (bW (l.map g) - n * bW (l.map q))):=by omega
  rw[e]
  exact ad3 h1 h2
theorem AY(n x y:Int):Qi∣nw n x y - (x - n * y):=by
 rw[uh]
 have:=af2 (x - n * y) Qi
 refine⟨-((x - n * y)/Qi),?_⟩
 rw[Int.mul_neg];omega
theorem AZ{n:Int}{y a b:List Int}(hl:a.length=b.length)(hy:y.length<a.length):Qi∣res y (fH n a b) - (res y a - n * res y b):=by
 have h1:Qi∣dot y (fH n a b) - (dot y a - n * dot y b):=by
  unfold dot
  refine Mk fun i hi=>?_
  have hi:=abQ.1 hi
  rw[iK hl (by omega)]
  obtain⟨c,hc⟩:=AY n (at0 a i) (at0 b i)
  refine⟨at0 y i * c,?_⟩
  have:at0 y i * nw n (at0 a i) (at0 b i) - (at0 y i * at0 a i - n * (at0 y i * at0 b i))=at0 y i * (nw n (at0 a i) (at0 b i) - (at0 a i - n * at0 b i)):=by
   rw[aec,aec,adC n]
  rw[this,hc,adC]
 have h2:Qi∣at0 (fH n a b) y.length - (at0 a y.length - n * at0 b y.length):=by
  rw[iK hl hy];exact AY _ _ _
 unfold res
 have e:dot y (fH n a b) - at0 (fH n a b) y.length - (dot y a - at0 a y.length - n * (dot y b - at0 b y.length))=(dot y (fH n a b) - (dot y a - n * dot y b)) - (at0 (fH n a b) y.length - (at0 a y.length - n * at0 b y.length)):=by
  rw[aec];omega
 rw[e]
 exact agy h1 h2
theorem I8{n:Int}{y a b:List Int}(hl:a.length=b.length)(hy:y.length<a.length)(h1:Sat y (fH n a b))(h2:Sat y b):Sat y a:=by
 unfold Sat at *
 have h3:=AZ (n:=n) hl hy
 have e:res y a=res y (fH n a b) - (res y (fH n a b) - (res y a - n * res y b))+n * res y b:=by omega
 rw[e]
 exact ad3 (agy h1 h3) (adv h2)
theorem I9(y:List Int)(n:Nat):res y (abt n 0)=0:=by
 have hz:∀i,at0 (abt n (0:Int)) i=0:=fun i=>by
  unfold at0
  rw[abw,ael]
  split<;>rfl
 unfold res dot
 simp only[hz,afj]
 generalize aby y.length=l
 induction l with
 |nil=>rfl
 |cons x l ih=>simp only[abK,bW];omega
theorem F8{y a:List Int}{x:Int}(hy:y.length<a.length)(hx:okF x)(h0:x≠0)(h:Sat y (scaleB a (eZ x))):Sat y a:=by
 unfold Sat scaleB at *
 have h1:=AZ (n:= -(eZ x)) (y:=y) (a:=abt a.length (0:Int)) (b:=a) (by simp) (by simpa using hy)
 rw[I9] at h1
 have h2:Qi∣eZ x * res y a:=by
  have e:eZ x * res y a=res y (fH (-(eZ x)) (abt a.length 0) a) - (res y (fH (-(eZ x)) (abt a.length 0) a) - (0 - -(eZ x) * res y a)):=by
   rw[agX];omega
  rw[e]
  exact agy h h1
 have h3:Qi∣x * eZ x - 1:=by
  have:=sG hx h0
  rw[fR] at this
  have h4:=af2 (x * eZ x) Qi
  rw[this] at h4
  exact⟨x * eZ x/Qi,by omega⟩
 obtain⟨c,hc⟩:=h2
 obtain⟨d,hd⟩:=h3
 refine⟨x * c - d * res y a,?_⟩
 have e1:x * (eZ x * res y a)=x * (Qi * c):=by rw[hc]
 have e2:(x * eZ x - 1) * res y a=Qi * d * res y a:=by rw[hd]
 rw[<-adz] at e1
 rw[afX,ae4,e1] at e2
 rw[aec,<-adz Qi d,adC Qi x]
 omega
section
variable {w c:Nat} {st:List (List Int) × List Nat}
theorem Ja{y:List Int}(R:rv w c st)(hc:c<w)(hy:y.length<w)(h:∀a∈(nR st c).1,Sat y a):∀a∈st.1,Sat y a:=by
 unfold nR at h
 cases hf:lF st.1 st.2.length c with
 |none=>rw[hf] at h;exact h
 |some k=>
  rw[hf] at h
  obtain⟨k1,k2,k3⟩:=jf hf
  rw[cU k1] at k3
  simp only[cU k1] at h
  have hk:=R.len _ (ab1 k1)
  have hko:=R.ok _ (ab1 k1)
  have hkz:=R.zero k _ k2 (abo k1)
  have O:=y9 hk hc hko hkz k3
  have hrl:st.2.length<st.1.length:=by omega
  have hsc:=nx (n:=eZ (at0 st.1[k] c)) (show c<=st.1[k].length by omega) hkz
  rw[cU hrl] at h
  have ho:Sat y (scaleB st.1[k] (eZ (at0 st.1[k] c))):=h _ (ac8.2 ⟨st.2.length,by simpa using hrl,by rw[aeB]⟩)
  have hother:∀i (hi:i<st.1.length),i≠st.2.length->Sat y ((st.1.set k st.1[st.2.length])[i]'(by simpa using hi)):=fun i hi hne=>by
   have hm:=h ((((st.1.set k st.1[st.2.length]).map fun a=>fH (at0 a c) a (scaleB st.1[k] (eZ (at0 st.1[k] c)))).set st.2.length (scaleB st.1[k] (eZ (at0 st.1[k] c))))[i]'(by simpa using hi)) (ab1 _)
   rw[aeL (fun q=>hne q.symm),acA] at hm
   have hml:((st.1.set k st.1[st.2.length])[i]'(by simpa using hi)).length=w:=by
    rw[adi]
    split
    ·exact R.len _ (ab1 _)
    ·exact R.len _ (ab1 _)
   refine I8 ?_ (by rw[hml];exact hy) hm ho
   rw[hml,<-hsc,O.len]
  intro a ha
  obtain⟨i,hi,rfl⟩:=ac8.1 ha
  by_cases e1:i=k
  ·subst e1
   exact F8 (by omega) (gU hko c) k3 ho
  ·by_cases e2:i=st.2.length
   ·subst e2
    have:=hother k k1 (fun q=>e1 q.symm)
    rw[aeB] at this
    exact this
   ·have:=hother i hi e2
    rw[aeL (fun q=>e1 q.symm)] at this
    exact this
end
end Go.NT
end
section
namespace Go.NT
structure Em(c:Nat)(st:List (List Int) × List Nat):Prop where
 lt:∀k p:Nat,st.2[k]?=some p->p<c
 inc:∀j k p q:Nat,j<k->st.2[j]?=some p->st.2[k]?=some q->p<q
 val:∀k p:Nat,st.2[k]?=some p->∀(i:Nat) (a:List Int),st.1[i]?=some a->at0 a p=if i=k then 1 else 0
 len:st.2.length<=st.1.length
section
variable {w c:Nat} {st:List (List Int) × List Nat}
theorem Jb(R:rv w c st)(V:Em c st)(hc:c<w):Em (c+1) (nR st c):=by
 unfold nR
 cases hf:lF st.1 st.2.length c with
 |none=>exact⟨fun k p h=>by have:=V.lt k p h;omega,V.inc,V.val,V.len⟩
 |some k=>
  obtain⟨k1,k2,k3⟩:=jf hf
  rw[cU k1] at k3
  have hk:=R.len _ (ab1 k1)
  have hko:=R.ok _ (ab1 k1)
  have hkz:=R.zero k _ k2 (abo k1)
  simp only[cU k1]
  have O:=y9 hk hc hko hkz k3
  have hrl:st.2.length<st.1.length:=by omega
  rw[<-nx (by omega) hkz,cU hrl]
  generalize da c st.1[k] (eZ (at0 st.1[k] c))=own at *
  refine⟨fun j p h=>?_,fun j l p q hjl hp hq=>?_,fun j p hp i a ha=>?_,?_⟩
  ·rcases eO h with h|⟨-,rfl⟩
   ·have:=V.lt j p h;omega
   ·omega
  ·rcases eO hq with hq|⟨rfl,rfl⟩
   ·rcases eO hp with hp|⟨rfl,-⟩
    ·exact V.inc j l p q hjl hp hq
    ·have:=(abm.1 hq).1;omega
   ·rcases eO hp with hp|⟨rfl,-⟩
    ·exact V.lt j p hp
    ·omega
  ·-- the row at i
   have hil:i<st.1.length:=by
    have:=(abm.1 ha).1
    simpa using this
   by_cases hi:i=st.2.length
   ·subst hi
    rw[abo (by simpa using hrl),aeB,abA] at ha
    subst ha
    rcases eO hp with hp|⟨rfl,rfl⟩
    ·have h1:=V.lt j p hp
     have h2:=(abm.1 hp).1
     rw[O.zero p h1,if_neg (by omega)]
    ·rw[O.one,if_pos rfl]
   ·rw[adR (fun q=>hi q.symm),abF,abo (by simpa using hil),abJ,abA] at ha
    have hb:∃b,(st.1.set k st.1[st.2.length])[i]'(by simpa using hil)=b/\b.length=w/\(∀x∈b,okF x)/\∀j p,st.2[j]?=some p->at0 b p=if i=j then 1 else 0:=by
     refine⟨_,rfl,?_,?_,fun j p hp=>?_⟩
     ·rw[adi];split<;>exact R.len _ (ab1 _)
     ·rw[adi];split<;>exact R.ok _ (ab1 _)
     ·rw[adi]
      have hjl:=(abm.1 hp).1
      split
      ·rename_i e
       rw[V.val j p hp st.2.length _ (abo hrl),if_neg (by omega),if_neg (by omega)]
      ·exact V.val j p hp i _ (abo hil)
    obtain⟨b,e,b1,b2,b3⟩:=hb
    rw[e] at ha
    subst ha
    have hpw:p<w:=by
     rcases eO hp with h|⟨-,rfl⟩
     ·have:=V.lt j p h;omega
     ·exact hc
    rw[iK (b1.trans O.len.symm) (by omega)]
    rcases eO hp with hp|⟨rfl,rfl⟩
    ·rw[O.zero p (V.lt j p hp),jG (gU b2 p)]
     exact b3 j p hp
    ·rw[O.one,uh,ae3,afQ,if_neg hi];rfl
  ·simp only[abx,aeC,List.length_set,abu];omega
where
 eO {l:List Nat} {x i y:Nat} (h:(l++[x])[i]?=some y):l[i]?=some y∨(i=l.length/\y=x):=by
  rcases Nat.lt_trichotomy i l.length with hlt|heq|hgt
  ·rw[ab5 hlt] at h;exact .inl h
  ·subst heq;simp at h;exact .inr ⟨rfl,h.symm⟩
  ·rw[acf (by simp;omega)] at h;cases h
end
theorem pk{t:List (List Int)}{w many:Nat}(hl:∀a∈t,a.length=w)(ho:∀a∈t,∀x∈a,okF x)(hm:many<=w):rv w many (cJ t many)/\Em many (cJ t many):=by
 unfold cJ
 induction many with
 |zero=>exact⟨⟨hl,ho,fun _ _ _ _ j hj=>by omega⟩,⟨fun k p h=>by simp at h,fun j k p q _ h=>by simp at h,fun k p h=>by simp at h,abG _⟩⟩
 |succ n ih=>
  obtain⟨h1,h2⟩:=ih (by omega)
  rw[acx,acs]
  simp only[ado,afr]
  exact⟨qx h1 (by omega),Jb h1 h2 (by omega)⟩
theorem Df{t:List (List Int)}{w many:Nat}{y:List Int}(hl:∀a∈t,a.length=w)(ho:∀a∈t,∀x∈a,okF x)(hm:many<=w)(hy:y.length<w)(h:∀a∈(cJ t many).1,Sat y a):∀a∈t,Sat y a:=by
 induction many with
 |zero=>exact h
 |succ n ih=>
  refine ih (by omega) ?_
  have h1:=(pk hl ho (show n<=w by omega)).1
  have e:cJ t (n+1)=nR (cJ t n) n:=by
   unfold cJ
   rw[acx,acs];rfl
  rw[e] at h
  exact Ja h1 (by omega) hy h
def gF(st:List (List Int) × List Nat)(n:Nat):List Int:=st.2.zipIdx.foldl (fun y p=>y.set p.1 (at0 (st.1.getD p.2 []) n)) (abt n 0)
theorem ui{l:List Int}{i j:Nat}{x:Int}(hi:i<l.length):at0 (l.set i x) j=if j=i then x else at0 l j:=by
 unfold at0
 simp only[abw,aci]
 by_cases h:i=j
 ·subst h;simp[hi]
 ·rw[if_neg h,if_neg (fun q=>h q.symm)]
theorem oJ(f:Nat × Nat->Int):∀(l:List (Nat × Nat)) (y:List Int),(l.foldl (fun y p=>y.set p.1 (f p)) y).length=y.length:=by
 intro l
 induction l with
 |nil=>intro y;rfl
 |cons p l ih=>intro y;rw[ado,ih];simp
theorem ny(f:Nat × Nat->Int){i:Nat}:∀(l:List (Nat × Nat)) (y:List Int),(∀p∈l,p.1≠i)->at0 (l.foldl (fun y p=>y.set p.1 (f p)) y) i=at0 y i:=by
 intro l
 induction l with
 |nil=>intro y _;rfl
 |cons p l ih=>
  intro y h
  rw[ado,ih _ fun q hq=>h q (abH _ hq)]
  have:=h p abM
  unfold at0
  simp only[abw]
  rw[adR this]
theorem po(st:List (List Int) × List Nat)(n:Nat):(gF st n).length=n:=by
 unfold gF
 rw[oJ (fun p=>at0 (st.1.getD p.2 []) n)];simp
theorem Dg{st:List (List Int) × List Nat}{n i:Nat}(h:i∉st.2):at0 (gF st n) i=0:=by
 unfold gF
 rw[ny (fun p=>at0 (st.1.getD p.2 []) n) _ _ fun p hp q=>?_]
 ·unfold at0
  rw[abw,ael]
  split<;>rfl
 ·have:=List.fst_mem_of_mem_zipIdx hp
  rw[q] at this
  exact h this
theorem Dh{c:Nat}{st:List (List Int) × List Nat}{n k p:Nat}(V:Em c st)(hn:c<=n)(h:st.2[k]?=some p):at0 (gF st n) p=at0 (st.1.getD k []) n:=by
 unfold gF
 obtain⟨hk,hp⟩:=abm.1 h
 have hz:st.2.zipIdx=(st.2.zipIdx.take k)++(p,k)::(st.2.zipIdx.drop (k+1)):=by
  have hk2:k<st.2.zipIdx.length:=by simpa using hk
  have:=(List.take_append_drop k st.2.zipIdx).symm
  rw[ac9 hk2] at this
  rw[age,hp] at this
  simpa using this
 rw[hz,acs,ado,ny (fun p=>at0 (st.1.getD p.2 []) n) _ _ fun q hq e=>?_]
 ·rw[ui,if_pos rfl]
  rw[oJ (fun p=>at0 (st.1.getD p.2 []) n)]
  have:=V.lt k p h
  simp;omega
 ·obtain⟨i,hi,rfl⟩:=ac8.1 hq
  rw[ae1,age] at e
  simp only at e
  have hil:k+1+i<st.2.length:=by simp at hi;omega
  have:=V.inc k (k+1+i) p _ (by omega) h (abo hil)
  omega
theorem vh{f:Nat->Int}{p:Nat}:∀n,p<n->(∀i,i<n->i≠p->f i=0)->bW ((List.range n).map f)=f p:=by
 intro n
 induction n with
 |zero=>intro h;omega
 |succ n ih=>
  intro hp h
  rw[acx,acv,I7]
  simp only[abK,ac6,bW]
  rcases abL p n with q|q
  ·rw[ih q fun i hi=>h i (by omega),h n (by omega) (by omega)];omega
  ·have:p=n:=by omega
   subst this
   have hz:bW ((aby p).map f)=0:=by
    have:∀l:List Nat,(∀i∈l,f i=0)->bW (l.map f)=0:=by
     intro l
     induction l with
     |nil=>intro _;rfl
     |cons x l ih2=>intro hl;simp only[abK,bW];rw[hl x abM,ih2 fun i hi=>hl i (abH _ hi)];rfl
    exact this _ fun i hi=>h i (by have:=abQ.1 hi;omega) (by have:=abQ.1 hi;omega)
   rw[hz];omega
theorem F9{t:List (List Int)}{n:Nat}(hl:∀a∈t,a.length=n+1)(ho:∀a∈t,∀x∈a,okF x)(hlast:∀i a,(cJ t n).2.length<=i->(cJ t n).1[i]?=some a->at0 a n=0):
 ∀a∈t,Sat (gF (cJ t n) n) a:=by
 obtain⟨R,V⟩:=pk hl ho (show n<=n+1 by omega)
 refine Df hl ho (show n<=n+1 by omega) (by rw[po];omega) fun a ha=>?_
 obtain⟨k,hk,rfl⟩:=ac8.1 ha
 have hka:=abo hk
 unfold Sat res dot
 rw[po]
 rcases abL k (cJ t n).2.length with q|q
 ·have hp:=abo q
  have hlt:=V.lt k _ hp
  rw[vh (p:=(cJ t n).2[k]) n hlt,Dh V (abq _) hp,V.val k _ hp k _ hka,if_pos rfl,cU hk,ae3,afQ]
  ·exact agm _
  ·intro i hi hne
   by_cases hm:i∈(cJ t n).2
   ·obtain⟨j,hj,rfl⟩:=ac8.1 hm
    rw[V.val j _ (abo hj) k _ hka,if_neg (fun e=>hne (by subst e;rfl)),afj]
   ·rw[Dg hm,afk]
 ·rw[hlast k _ q hka]
  have hz:∀l:List Nat,(∀i∈l,i<n)->bW (l.map fun i=>at0 (gF (cJ t n) n) i * at0 (cJ t n).1[k] i)=0:=by
   intro l
   induction l with
   |nil=>intro _;rfl
   |cons x l ih=>
    intro h
    simp only[abK,bW]
    rw[R.zero k _ q hka x (h x abM),afj,ih fun i hi=>h i (abH _ hi)];rfl
  rw[hz _ fun i hi=>abQ.1 hi]
  exact agm _
end Go.NT
end
section
namespace Go.NT
abbrev U32:=BitVec 32
def ror(x:U32)(n:Nat):U32:=(x>>>n)|||(x<<<(32 - n))
def xo:List Nat:=[
 0x428a2f98,0x71374491,0xb5c0fbcf,0xe9b5dba5,0x3956c25b,0x59f111f1,0x923f82a4,0xab1c5ed5,
 0xd807aa98,0x12835b01,0x243185be,0x550c7dc3,0x72be5d74,0x80deb1fe,0x9bdc06a7,0xc19bf174,
 0xe49b69c1,0xefbe4786,0x0fc19dc6,0x240ca1cc,0x2de92c6f,0x4a7484aa,0x5cb0a9dc,0x76f988da,
 0x983e5152,0xa831c66d,0xb00327c8,0xbf597fc7,0xc6e00bf3,0xd5a79147,0x06ca6351,0x14292967,
 0x27b70a85,0x2e1b2138,0x4d2c6dfc,0x53380d13,0x650a7354,0x766a0abb,0x81c2c92e,0x92722c85,
 0xa2bfe8a1,0xa81a664b,0xc24b8b70,0xc76c51a3,0xd192e819,0xd6990624,0xf40e3585,0x106aa070,
 0x19a4c116,0x1e376c08,0x2748774c,0x34b0bcb5,0x391c0cb3,0x4ed8aa4a,0x5b9cca4f,0x682e6ff3,
 0x748f82ee,0x78a5636f,0x84c87814,0x8cc70208,0x90befffa,0xa4506ceb,0xbef9a3f7,0xc67178f2]
def kAt(t:Nat):U32:=BitVec.ofNat 32 (xo.getD t 0)
def start:List U32:=[0x6a09e667#32,0xbb67ae85#32,0x3c6ef372#32,0xa54ff53a#32,0x510e527f#32,0x9b05688c#32,0x1f83d9ab#32,0x5be0cd19#32]
def bAt(b:List UInt8)(i:Nat):UInt8:=b.getD i 0
def wAt(w:List U32)(i:Nat):U32:=w.getD i 0#32
def rz(b:List UInt8)(i:Nat):U32:=BitVec.ofNat 32 (((bAt b i).toNat * 256+(bAt b (i+1)).toNat) * 256 * 256+(bAt b (i+2)).toNat * 256+(bAt b (i+3)).toNat)
def En(w:List U32)(t:Nat):U32:=
 wAt w (t - 16)+(ror (wAt w (t - 15)) 7^^^ror (wAt w (t - 15)) 18^^^(wAt w (t - 15))>>>3)+wAt w (t - 7)+(ror (wAt w (t - 2)) 17^^^ror (wAt w (t - 2)) 19^^^(wAt w (t - 2))>>>10)
def eP(b:List UInt8):Nat->List U32
 |0=>[]
 |n+1=>eP b n++[if n<16 then rz b (4 * n) else En (eP b n) n]
def zd(w:List U32)(v:List U32)(t:Nat):List U32:=
 let e:=wAt v 4
 let a:=wAt v 0
 let p:=wAt v 7+(ror e 6^^^ror e 11^^^ror e 25)+((e&&&wAt v 5)^^^(~~~e&&&wAt v 6))+kAt t+wAt w t
 let q:=(ror a 2^^^ror a 13^^^ror a 22)+((a&&&wAt v 1)^^^(a&&&wAt v 2)^^^(wAt v 1&&&wAt v 2))
 [p+q,a,wAt v 1,wAt v 2,wAt v 3+p,e,wAt v 5,wAt v 6]
def qy(s:List U32)(b:List UInt8):List U32:=
 let w:=eP b 64
 let v:=(aby 64).foldl (zd w) s
 aeA (·+·) s v
def Di(n:Nat):Nat:=(119 - n%64)%64
def Ga(n:Nat):List UInt8:=(aby 8).map fun i=>UInt8.ofNat (n * 8/2^(8 * (7 - i)))
def Ml(b:List UInt8):List UInt8:=b++0x80::abt (Di b.length) 0++Ga b.length
def de:Nat->List U32->List UInt8->List U32
 |0,s,_=>s
 |n+1,s,b=>de n (qy s (b.take 64)) (b.drop 64)
def nZ(s:List U32):List UInt8:=s.flatMap fun x=>[UInt8.ofNat (x.toNat/16777216),UInt8.ofNat (x.toNat/65536),UInt8.ofNat (x.toNat/256),UInt8.ofNat x.toNat]
def jA(b:List UInt8):List UInt8:=nZ (de ((Ml b).length/64) start (Ml b))
def dV(tag b:List UInt8):List UInt8:=jA (jA tag++b)
theorem Qq(e f g:U32):g^^^(e&&&(f^^^g))=(e&&&f)^^^(~~~e&&&g):=by
 apply BitVec.eq_of_getLsbD_eq
 intro i hi
 simp only[BitVec.getLsbD_xor,BitVec.getLsbD_and,BitVec.getLsbD_not,hi,decide_true,ac2]
 cases e.getLsbD i<;>cases f.getLsbD i<;>cases g.getLsbD i<;>rfl
theorem OD(a b c:U32):(a&&&b)|||(c&&&(a|||b))=(a&&&b)^^^(a&&&c)^^^(b&&&c):=by
 apply BitVec.eq_of_getLsbD_eq
 intro i hi
 simp only[BitVec.getLsbD_xor,BitVec.getLsbD_and,BitVec.getLsbD_or]
 cases a.getLsbD i<;>cases b.getLsbD i<;>cases c.getLsbD i<;>rfl
end Go.NT
end
section
namespace Go.NT
inductive Vl where
 |int (n:Int)
 |text (s:List UInt8)
 |list (l:List Vl)
def jH:Nat->Nat->List UInt8
 |0,u=>[UInt8.ofNat u]
 |k+1,u=>if u<128 then [UInt8.ofNat u] else UInt8.ofNat (u%128+128)::jH k (u/128)
def oK(n:Int):Nat:=if 0<=n then 2 * n.toNat else 2 * (-(n+1)).toNat+1
mutual
def fB:Vl->List UInt8
 | .int n=>1::jH 9 (oK n)
 | .text s=>2::(jH 9 s.length++s)
 | .list l=>3::(jH 9 l.length++jB l)
def jB:List Vl->List UInt8
 | []=>[]
 |v::l=>fB v++jB l
end
mutual
def eD:Vl->Nat
 | .list l=>dN l+1
 |_=>0
def dN:List Vl->Nat
 | []=>0
 |v::l=>max (eD v) (dN l)
end
theorem A0(l m:List Vl):jB (l++m)=jB l++jB m:=by
 induction l with
 |nil=>simp[jB]
 |cons v l ih=>simp only[ab3,jB,ih,List.append_assoc]
theorem Gb{k u:Nat}(h:128<=u):jH (k+1) u=UInt8.ofNat (u%128+128)::jH k (u/128):=by
 rw[jH,if_neg (by omega)]
theorem Gc{k u:Nat}(h:u<128):jH k u=[UInt8.ofNat u]:=by
 cases k with
 |zero=>rfl
 |succ k=>rw[jH,if_pos h]
end Go.NT
end
section
namespace Go.NT
def inQ(n:Int):Bool:=decide (0<=n)&&decide (n<Qi)
def bC(rows:List (List Int))(owners:List Int):Int:=
 if decide (64<rows.length)||rows.any (fun r=>decide (64<r.length)) then 2
 else if rows.length≠owners.length then 230
 else if (aby rows.length).all fun i=> !(rows.getD i []).isEmpty&&decide ((rows.getD i []).length=(rows.getD 0 []).length)&&(decide (0<=at0 owners i)&&decide (at0 owners i<=63))&&(rows.getD i []).all inQ then 0
 else 230
def aK(rows:List (List Int)):Nat:=if rows.length=0 then 1 else (rows.getD 0 []).length
def ct(n:Nat):List Int:=1::abt (n - 1) 0
def cS:Int->List Int->Bool
 |_,[]=>true
 |last,n::l=>decide (last<n)&&decide (n<=63)&&cS n l
def gV(owners who:List Int):List Nat:=(aby owners.length).filter fun i=>who.contains (at0 owners i)
def cO(rows:List (List Int))(target:List Int):List (List Int):=(aby target.length).map fun k=>rows.map (fun r=>at0 r k)++[at0 target k]
def gi(rows:List (List Int))(target:List Int):Option (List Int):=
 let st:=cJ (cO rows target) rows.length
 if (st.1.drop st.2.length).all (fun a=>decide (at0 a rows.length=0)) then some (gF st rows.length) else none
def fS(n:Nat)(at_:List Nat)(l:List Int):List Int:=at_.zipIdx.foldl (fun y p=>y.set p.1 (at0 l p.2)) (abt n 0)
def bJ(rows:List (List Int))(owners who:List Int):List Int × Bool × Int:=
 if bC rows owners≠0 then ([],false,bC rows owners)
 else if !cS (-1) who then ([],false,1)
 else match gi ((gV owners who).map fun i=>rows.getD i []) (ct (aK rows)) with
  |none=>([],false,0)
  |some l=>(fS rows.length (gV owners who) l,true,0)
structure Pr where
 ag:Int
 no:Int
 d:Int
 e:Int
def aX(x:Int):Bool:=decide (1<=x)&&elem x.toNat
def Pr.val(p:Pr):Vl:=.list [.int p.ag,.int p.no,.int p.d,.int p.e]
def sH(l:List Pr):Vl:=.list (l.map Pr.val)
def mK(b:List UInt8):Nat:=((b.take 8).foldl (fun n c=>n * 256+c.toNat) 0%9223372036854775808)%Q
def mL(tag:List UInt8)(v:Vl):Nat:=mK (dV tag (fB v))
def Eo:List UInt8:=[98,105,110,100]
def vi:List UInt8:=[115,105,103,110]
def dP(c0:Int)(text:List UInt8)(l:List Pr)(ag:Int):Nat:=mL Eo (.list [.int c0,.text text,sH l,.int ag])
def gX(c0:Int)(text:List UInt8)(l:List Pr)(p:Pr):Nat:=p.d.toNat * y7 p.e.toNat (dP c0 text l p.ag)%P
def dA(c0:Int)(text:List UInt8)(l:List Pr):Nat:=l.foldl (fun x p=>x * gX c0 text l p%P) 1
def tw(point key:Int)(text:List UInt8):Nat:=mL vi (.list [.int point,.int key,.text text])
def dy:Int->List Pr->Bool
 |_,[]=>true
 |last,x::l=>decide (last<x.ag)&&decide (x.ag<64)&&decide (0<=x.no)&&decide (x.no<4096)&&aX x.d&&aX x.e&&dy x.ag l
def cd(rows:List (List Int))(owners:List Int)(epoch:Int)(aa:List Int)(text:List UInt8)(l:List Pr):Int:=
 if bC rows owners≠0 then bC rows owners
 else if !(decide (0<=epoch)&&decide (epoch<=64)&&decide (aa.length=aK rows)&&aa.all aX) then 380
 else if 65536<text.length then 2
 else if 64<l.length then 420
 else if !dy (-1) l then 420
 else match bJ rows owners (l.map Pr.ag) with
  |(_,ok,e)=>if e≠0∨ok=false∨l.length=0 then 420 else 0
end Go.NT
end
section
namespace Go.NT
def aY(x:Nat)(n:Int):Nat:=y7 x (fmod n).toNat
theorem Ep(n:Int):(fmod n).toNat<Q:=by
 have:=mJ n
 obtain⟨h1,h2⟩:=this
 rw[qw] at h2
 omega
theorem jW(x:Nat)(n:Int):aY x n=x^(fmod n).toNat%P:=y8 (Nat.lt_trans (Ep n) (by decide))
theorem A1{x:Nat}(hx:elem x=true)(n:Nat):aY x (n:Int)=x^n%P:=by
 have e:(fmod (n:Int)).toNat=n%Q:=by
  unfold fmod
  rw[qw,<-afP,abB]
 rw[jW,e,I5 hx]
theorem Gd(x:Nat)(n:Int):aY x (fmod n)=aY x n:=by
 unfold aY
 rw[ph (mJ n)]
theorem iq{x:Nat}(hx:elem x=true)(n:Int):elem (aY x n)=true:=by
 rw[jW];exact I4 hx _
theorem mM{x:Nat}{a b:Int}(h:a%Qi=b%Qi):aY x a=aY x b:=by
 unfold aY fmod;rw[h]
theorem mN(n:Int):((fmod n).toNat:Int)=fmod n:=by
 have:=(mJ n).1
 omega
theorem mO{x:Nat}(hx:elem x=true)(a b:Int):aY x (a+b)=aY x a * aY x b%P:=by
 have h:(a+b)%Qi=(((fmod a).toNat+(fmod b).toNat:Nat):Int)%Qi:=by
  rw[agF,mN,mN,agQ]
  rfl
 rw[mM h,A1 hx,agW,adk,<-jW,<-jW]
theorem oL{x:Nat}(hx:elem x=true)(a b:Int):aY x (a * b)=aY (aY x a) b:=by
 have h:(a * b)%Qi=(((fmod a).toNat * (fmod b).toNat:Nat):Int)%Qi:=by
  rw[acY,mN,mN,aeh]
  rfl
 rw[mM h,A1 hx,aeK,jW (aY x a) b,jW x a,<-ae6]
theorem xq(x:Nat):aY x 0=1:=by rw[jW];rfl
theorem Jc{x:Nat}(hx:elem x=true):aY x 1=x:=by
 rw[jW]
 show x^1%P=x
 rw[Nat.pow_one,acn (elem_iff.1 hx).2.1]
theorem Jd{x:Nat}(hx:elem x=true)(a:Int):aY x a * aY x (-a)%P=1:=by
 rw[<-mO hx,Int.add_right_neg,xq]
end Go.NT
end
section
namespace Go.Proofs.YtnfciiiohoafaaaGreatDoor
open Go.AE Go.RowKit
def Dj:List AV:=NT.start.map w32
def oM:List AV:=NT.xo.map fun(n:Nat)=>AV.v (.int .u32 (n:Int))
def Gt:Nat->Option (List AV):=fun g=>if g=0 then some Dj else if g=1 then some oM else if g=1022017∨g=1022035∨g=1023037∨g=1023048∨g=1023063∨g=1023125∨g=1094104 then some [] else none
def prims:FuncId->Option (List AV->ae->Option (AV × ae)):=fun _=>none
noncomputable abbrev W:=whole Tryz.prog Gt prims
structure ah(p:Prop):Prop where
 out:p
def im(n:Int):AV:=.v (.int .i64 n)
def nC(n:Int):List AV:=[im n]
def ints(l:List Int):List (List AV):=l.map nC
theorem aU(l:List Int):(ints l).length=l.length:=by simp[ints]
theorem A2(l:List Int)(i:Nat):(ints l)[i]?=(l[i]?).map nC:=by simp[ints]
def i64(n:Int):Prop:= -9223372036854775808<=n/\n<=9223372036854775807
theorem ag3:cZ Tryz.prog 3=some false:=by kernel_rfl
theorem sz3:bF Tryz.prog 3=some 1:=by kernel_rfl
theorem Er{h:ae}{l:List Int}{i:Nat}{x:Int}(hx:l[i]?=some x):ai Tryz.prog Gt h 3 (.elem 1 (ints l) i 0)=some (im x):=by
 have hr:(ints l)[i]?=some (nC x):=by rw[A2,hx];rfl
 rw[ez ag3 hr];rfl
theorem Ge{h:ae}{d:Nat}{ts:Array TypeId}{ty:Nat}{s x:AV}(hne:1000 * ty+d≠22017/\1000 * ty+d≠22035/\1000 * ty+d≠23037/\1000 * ty+d≠23048/\1000 * ty+d≠23063/\1000 * ty+d≠23125/\1000 * ty+d≠94104):eV Tryz.prog Gt (some d) h .append ts ty [s,x]=bP Tryz.prog h ts s x:=by
 refine AK ?_
 unfold uu Gt
 rw[if_neg (by omega),if_neg (by omega),if_neg (by simp only[aee];omega)]
 rfl
theorem wD{h:ae}{d:Nat}{ts:Array TypeId}{ty:Nat}{s x:AV}(hy:1000 * ty+d=22017∨1000 * ty+d=22035∨1000 * ty+d=23037∨1000 * ty+d=23048∨1000 * ty+d=23063∨1000 * ty+d=23125∨1000 * ty+d=94104):eV Tryz.prog Gt (some d) h .append ts ty [s,x]=iX Tryz.prog h ts s x:=by
 refine AL ?_
 unfold uu Gt
 rw[if_neg (by omega),if_neg (by omega),if_pos (by simp only[aee];omega)]
 rfl
theorem gBQ{α:Type}[BEq α][ReflBEq α](a:α):(a==a)=true:=beq_self_eq_true a
theorem kZq{p:Prop}(h:p:=by kernel_rfl):p:=h
set_option linter.defProp false in
def gW:=abp goS (abp goT (abp goH (abp goU (abp @Ge (abp @wD (abp @mz.eq_1 (abp @dJ.eq_1 (abp @dJ.eq_2 (abp @dJ.eq_3 (abp @aO.eq_1 (abp @aO.eq_2 (abp @aO.eq_3 (abp @aO.eq_4 (abp @aO.eq_5 (abp @aO.eq_6 (abp @aO.eq_7 (abp @aO.eq_8 (abp @aO.eq_9 (abp @aO.eq_10 (abp @aO.eq_11 (abp @aO.eq_12 (abp @aO.eq_13 (abp @aO.eq_14 (abp @aO.eq_15 (abp @aO.eq_16 (abp @aO.eq_17 (abp @aO.eq_18 (abp @aO.eq_19 (abp @aO.eq_20 (abp @aO.eq_21 (abp @aO.eq_22 @aO.eq_23)))))))))))))))))))))))))))))))
theorem gS{p:Prop}(h:p:=by simp only[gW,reduceIte,Nat.reduceEqDiff,gBQ]):p:=h
theorem gR{p:Prop}(h:p:=by simp only[gW,reduceIte,Nat.reduceEqDiff,gBQ]<;>rfl):p:=h
theorem gA{p:Prop}(h:p:=by simp only[gW,reduceIte,Nat.reduceEqDiff,gBQ]<;>assumption):p:=h
theorem gx0{p q:Prop}(x:q)(f:q->p:=by intro h;(repeat' (first|simp(maxSteps:=9999999) (disch:=first|exact dZ|fail) only[gW,reduceIte,Nat.reduceEqDiff,gBQ, *,-h]|refine dX ?_ ?_<;>(intro _;try omega)));exact h;fail_if_success refine ?_):p:=f x
theorem gx1{a0:Prop}{p q:Prop}(abi:a0)(x:q)(f:a0->q->p:=by intro abi h;(repeat' (first|simp(maxSteps:=9999999) (disch:=first|exact dZ|fail) only[gW,reduceIte,Nat.reduceEqDiff,gBQ, *,-h]|refine dX ?_ ?_<;>(intro _;try omega)));exact h;fail_if_success refine ?_):p:=f abi x
theorem gz1{a0:Prop}{p:Prop}(abi:a0)(f:a0->p:=by intro abi;(repeat' (first|simp(maxSteps:=9999999) (disch:=first|exact dZ|fail) only[gW,reduceIte,Nat.reduceEqDiff,gBQ, *]|refine dX ?_ ?_<;>(intro _;try omega)));fail_if_success refine ?_):p:=f abi
theorem gx2{a0 a1:Prop}{p q:Prop}(abi:a0)(y1:a1)(x:q)(f:a0->a1->q->p:=by intro abi y1 h;(repeat' (first|simp(maxSteps:=9999999) (disch:=first|exact dZ|fail) only[gW,reduceIte,Nat.reduceEqDiff,gBQ, *,-h]|refine dX ?_ ?_<;>(intro _;try omega)));exact h;fail_if_success refine ?_):p:=f abi y1 x
theorem gz2{a0 a1:Prop}{p:Prop}(abi:a0)(y1:a1)(f:a0->a1->p:=by intro abi y1;(repeat' (first|simp(maxSteps:=9999999) (disch:=first|exact dZ|fail) only[gW,reduceIte,Nat.reduceEqDiff,gBQ, *]|refine dX ?_ ?_<;>(intro _;try omega)));fail_if_success refine ?_):p:=f abi y1
theorem gx3{a0 a1 a2:Prop}{p q:Prop}(abi:a0)(y1:a1)(y2:a2)(x:q)(f:a0->a1->a2->q->p:=by intro abi y1 y2 h;(repeat' (first|simp(maxSteps:=9999999) (disch:=first|exact dZ|fail) only[gW,reduceIte,Nat.reduceEqDiff,gBQ, *,-h]|refine dX ?_ ?_<;>(intro _;try omega)));exact h;fail_if_success refine ?_):p:=f abi y1 y2 x
theorem gz3{a0 a1 a2:Prop}{p:Prop}(abi:a0)(y1:a1)(y2:a2)(f:a0->a1->a2->p:=by intro abi y1 y2;(repeat' (first|simp(maxSteps:=9999999) (disch:=first|exact dZ|fail) only[gW,reduceIte,Nat.reduceEqDiff,gBQ, *]|refine dX ?_ ?_<;>(intro _;try omega)));fail_if_success refine ?_):p:=f abi y1 y2
theorem gx4{a0 a1 a2 a3:Prop}{p q:Prop}(abi:a0)(y1:a1)(y2:a2)(y3:a3)(x:q)(f:a0->a1->a2->a3->q->p:=by intro abi y1 y2 y3 h;(repeat' (first|simp(maxSteps:=9999999) (disch:=first|exact dZ|fail) only[gW,reduceIte,Nat.reduceEqDiff,gBQ, *,-h]|refine dX ?_ ?_<;>(intro _;try omega)));exact h;fail_if_success refine ?_):p:=f abi y1 y2 y3 x
theorem gz4{a0 a1 a2 a3:Prop}{p:Prop}(abi:a0)(y1:a1)(y2:a2)(y3:a3)(f:a0->a1->a2->a3->p:=by intro abi y1 y2 y3;(repeat' (first|simp(maxSteps:=9999999) (disch:=first|exact dZ|fail) only[gW,reduceIte,Nat.reduceEqDiff,gBQ, *]|refine dX ?_ ?_<;>(intro _;try omega)));fail_if_success refine ?_):p:=f abi y1 y2 y3
theorem gx5{a0 a1 a2 a3 a4:Prop}{p q:Prop}(abi:a0)(y1:a1)(y2:a2)(y3:a3)(abj:a4)(x:q)(f:a0->a1->a2->a3->a4->q->p:=by intro abi y1 y2 y3 abj h;(repeat' (first|simp(maxSteps:=9999999) (disch:=first|exact dZ|fail) only[gW,reduceIte,Nat.reduceEqDiff,gBQ, *,-h]|refine dX ?_ ?_<;>(intro _;try omega)));exact h;fail_if_success refine ?_):p:=f abi y1 y2 y3 abj x
theorem gz5{a0 a1 a2 a3 a4:Prop}{p:Prop}(abi:a0)(y1:a1)(y2:a2)(y3:a3)(abj:a4)(f:a0->a1->a2->a3->a4->p:=by intro abi y1 y2 y3 abj;(repeat' (first|simp(maxSteps:=9999999) (disch:=first|exact dZ|fail) only[gW,reduceIte,Nat.reduceEqDiff,gBQ, *]|refine dX ?_ ?_<;>(intro _;try omega)));fail_if_success refine ?_):p:=f abi y1 y2 y3 abj
theorem gx6{a0 a1 a2 a3 a4 a5:Prop}{p q:Prop}(abi:a0)(y1:a1)(y2:a2)(y3:a3)(abj:a4)(abk:a5)(x:q)(f:a0->a1->a2->a3->a4->a5->q->p:=by intro abi y1 y2 y3 abj abk h;(repeat' (first|simp(maxSteps:=9999999) (disch:=first|exact dZ|fail) only[gW,reduceIte,Nat.reduceEqDiff,gBQ, *,-h]|refine dX ?_ ?_<;>(intro _;try omega)));exact h;fail_if_success refine ?_):p:=f abi y1 y2 y3 abj abk x
theorem gz6{a0 a1 a2 a3 a4 a5:Prop}{p:Prop}(abi:a0)(y1:a1)(y2:a2)(y3:a3)(abj:a4)(abk:a5)(f:a0->a1->a2->a3->a4->a5->p:=by intro abi y1 y2 y3 abj abk;(repeat' (first|simp(maxSteps:=9999999) (disch:=first|exact dZ|fail) only[gW,reduceIte,Nat.reduceEqDiff,gBQ, *]|refine dX ?_ ?_<;>(intro _;try omega)));fail_if_success refine ?_):p:=f abi y1 y2 y3 abj abk
theorem Zg{a0:Prop}{p q:Prop}(abi:a0)(x:q)(f:a0->q->p:=by intro abi h;(repeat' (first|simp(maxSteps:=9999999) (disch:=first|exact dZ|fail) only[gW,reduceIte,Nat.reduceEqDiff,gBQ, *,-h]|(refine dX ?_ ?_<;>(intro _;try omega))|refine aP kZq ?_));exact h;fail_if_success refine ?_):p:=f abi x
theorem YX{a0:Prop}{p:Prop}(abi:a0)(f:a0->p:=by intro abi;(repeat' (first|simp(maxSteps:=9999999) (disch:=first|exact dZ|fail) only[gW,reduceIte,Nat.reduceEqDiff,gBQ, *]|(refine dX ?_ ?_<;>(intro _;try omega))|refine aP kZq ?_));fail_if_success refine ?_):p:=f abi
theorem ZM{a0 a1:Prop}{p q:Prop}(abi:a0)(y1:a1)(x:q)(f:a0->a1->q->p:=by intro abi y1 h;(repeat' (first|simp(maxSteps:=9999999) (disch:=first|exact dZ|fail) only[gW,reduceIte,Nat.reduceEqDiff,gBQ, *,-h]|(refine dX ?_ ?_<;>(intro _;try omega))|refine aP kZq ?_));exact h;fail_if_success refine ?_):p:=f abi y1 x
theorem ZN{a0 a1:Prop}{p:Prop}(abi:a0)(y1:a1)(f:a0->a1->p:=by intro abi y1;(repeat' (first|simp(maxSteps:=9999999) (disch:=first|exact dZ|fail) only[gW,reduceIte,Nat.reduceEqDiff,gBQ, *]|(refine dX ?_ ?_<;>(intro _;try omega))|refine aP kZq ?_));fail_if_success refine ?_):p:=f abi y1
theorem Y6{a0 a1 a2:Prop}{p:Prop}(abi:a0)(y1:a1)(y2:a2)(f:a0->a1->a2->p:=by intro abi y1 y2;(repeat' (first|simp(maxSteps:=9999999) (disch:=first|exact dZ|fail) only[gW,reduceIte,Nat.reduceEqDiff,gBQ, *]|(refine dX ?_ ?_<;>(intro _;try omega))|refine aP kZq ?_));fail_if_success refine ?_):p:=f abi y1 y2
end Go.Proofs.YtnfciiiohoafaaaGreatDoor
end
