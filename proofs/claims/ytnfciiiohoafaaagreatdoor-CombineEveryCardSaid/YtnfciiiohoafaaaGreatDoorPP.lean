/-
  The engine, part 52: a user's rule for a region whose last store may change places with another one.
-/
import Derived.Test.YtnfciiiohoafaaaGreatDoorPO
import Derived.Test.YtnfciiiohoafaaaGreatDoorPN
import Derived.Test.YtnfciiiohoafaaaGreatDoorPI
set_option maxHeartbeats 64000000
set_option maxRecDepth 100000
set_option linter.unusedSimpArgs false
set_option linter.unusedVariables false
set_option linter.constructorNameAsVariable false
section
namespace Go.Proofs.YtnfciiiohoafaaaGreatDoor
open Go.AE Go.NT
theorem MY:Tryz.f75.results.toList=[.tmp 2]:=kZq
def aq(p:Pr):List AV:=[.v (.int .i64 p.ag),.v (.int .i64 p.no),.v (.int .i64 p.d),.v (.int .i64 p.e)]
theorem zK:(ej Tryz.prog 85).bind AV.aC=some (aq ⟨0,0,0,0⟩):=kZq
theorem BN:bF Tryz.prog 85=some 4:=kZq
theorem RU:cZ Tryz.prog 85=some true:=kZq
theorem Tg(a b c d:Int):fj Tryz.prog 85 [(0,.v (.int .i64 a)),(1,.v (.int .i64 b)),(2,.v (.int .i64 c)),(3,.v (.int .i64 d))]=some (.agg (aq ⟨a,b,c,d⟩)):=kZq
theorem oV{H:ae}(p:Pr):aA Tryz.prog (H.push (aq ⟨0,0,0,0⟩)) 85 (.ptr (.box H.boxes.length) 0) (.agg (aq p))=some (H.push (aq p)):=cQ rfl BN rfl rfl
theorem oW{H:ae}{b:Nat}{p:Pr}(hb:H.boxes[b]?=some (aq p)):ai Tryz.prog Gt H 85 (.ptr (.box b) 0)=some (.agg (aq p)):=by
 rw[cP RU BN hb (Nat.le_refl 4)];rfl
def jN(rows:List (List Int))(owners:List Int):Bool:=decide (rows.length<=16)&&decide (bC rows owners=0)&&decide (aK rows<=16)
theorem M3(h:ae)(x y:AV)(rows:List (List Int))(owners:List Int)(hx:RL x rows)(hy:IL y owners):
 ∃r h',W5.call 75 [.agg [x,y]] h=some (r,h')/\r= .ret (.v (.bool (jN rows owners))):=by
 have bx:=ff hx hy
 have c1:=fun(q:rows.length<=16)=>MU x y rows owners hx hy (by omega)
 have c2:=tM x y rows owners hx hy
 have b0:=ak h [x,y]
 have l0:=ma b0
 have l1:=tY b0
 have ln:=hx.cH
 have kv:ah (jN rows owners=(decide (rows.length<=16)&&decide (bC rows owners=0)&&decide (aK rows<=16))):=⟨rfl⟩
 clear hx hy b0
 generalize jN rows owners=res at *
 unfold im at *
 refine aL rfl Tryz.func75 rfl ?_
 by_cases h1:rows.length<=16
 rotate_left 1
 ·have d1:decide ((rows.length:Int)<=16)=false:=decide_eq_false (by omega)
  have kr:ah (res=false):=⟨by rw[kv.out,decide_eq_false h1];rfl⟩
  clear h1 c1
  repeat' (first|simp(maxSteps:=999999) (disch:=first|exact dZ|fail) only[gW,reduceIte,Nat.reduceEqDiff,beq_self_eq_true,MY,aw,bH, *] | (refine dX ?_ ?_<;>(intro _;try omega)))
  exact⟨_,_,rfl,by rw[kr.out]⟩
 have d1:decide ((rows.length:Int)<=16)=true:=decide_eq_true (by omega)
 have c1:=c1 h1
 by_cases h2:bC rows owners=0
 rotate_left 1
 ·have d2:decide (bC rows owners=0)=false:=decide_eq_false h2
  have kr:ah (res=false):=⟨by rw[kv.out,d2];simp⟩
  clear h1
  generalize bC rows owners=q at *
  repeat' (first|simp(maxSteps:=999999) (disch:=first|exact dZ|fail) only[gW,reduceIte,Nat.reduceEqDiff,beq_self_eq_true,MY,aw,bH, *] | (refine dX ?_ ?_<;>(intro _;try omega)))
  exact⟨_,_,rfl,by rw[kr.out]⟩
 rw[h2] at c1
 by_cases h3:aK rows<=16
 ·have d3:decide (((aK rows:Nat):Int)<=16)=true:=decide_eq_true (by omega)
  have kr:ah (res=true):=⟨by rw[kv.out,decide_eq_true h1,decide_eq_true h2,decide_eq_true h3];rfl⟩
  clear h1 h2 h3
  repeat' (first|simp(maxSteps:=999999) (disch:=first|exact dZ|fail) only[gW,reduceIte,Nat.reduceEqDiff,beq_self_eq_true,MY,aw,bH, *] | (refine dX ?_ ?_<;>(intro _;try omega)))
  exact⟨_,_,rfl,by rw[kr.out]⟩
 ·have d3:decide (((aK rows:Nat):Int)<=16)=false:=decide_eq_false (by omega)
  have kr:ah (res=false):=⟨by rw[kv.out,decide_eq_false h3];simp⟩
  clear h1 h2 h3
  repeat' (first|simp(maxSteps:=999999) (disch:=first|exact dZ|fail) only[gW,reduceIte,Nat.reduceEqDiff,beq_self_eq_true,MY,aw,bH, *] | (refine dX ?_ ?_<;>(intro _;try omega)))
  exact⟨_,_,rfl,by rw[kr.out]⟩
def vO(n:Int):List AV:=[.v (.int .u32 n)]
def UL(x:AV)(l:List Int):Prop:=(∃k s,x= .list k s (l.map vO)/\(l≠[]->s=1))/\∀n∈l,0<=n/\n<4294967296
def mc(owners who:List Int)(p:Int × Int):List (Int × Int):=(who.filter fun n=>decide (n=at0 owners p.1.toNat)).map fun _=>p
def ofF(owners who:List Int)(l:List (Int × Int)):List (Int × Int):=l.flatMap (mc owners who)
theorem KL{owners who:List Int}{l:List (Int × Int)}{i:Nat}{p:Int × Int}(h:l[i]?=some p):ofF owners who (l.take (i+1))=ofF owners who (l.take i)++mc owners who p:=by
 unfold ofF
 rw[a9 h,List.flatMap_append];simp
theorem yc(owners who:List Int)(p:Int × Int):(mc owners who p).length<=who.length:=by
 unfold mc
 rw[List.length_map];exact List.length_filter_le _ _
theorem zM(owners who:List Int):∀l:List (Int × Int),(ofF owners who l).length<=l.length * who.length
 | []=>by simp[ofF]
 |p::l=>by
  have h1:=yc owners who p
  have h2:=zM owners who l
  unfold ofF at *
  rw[List.flatMap_cons,List.length_append,List.length_cons,Nat.add_mul];omega
theorem NR{H:ae}{l:List (Int × Int)}{i s:Nat}{p:Int × Int}(h:l[i]?=some p):ai Tryz.prog Gt H 3 (.elem s (bL l) i 0)=some (.v (.int .i64 p.1)):=by
 rw[ez ag3 (row:=eu p) (by unfold bL;rw[List.getElem?_map,h];rfl)];rfl
theorem RV{H:ae}{l:List (Int × Int)}{i s:Nat}{p:Int × Int}(h:l[i]?=some p):ai Tryz.prog Gt H 3 (.elem s (bL l) i 1)=some (.v (.int .i64 p.2)):=by
 rw[ez ag3 (row:=eu p) (by unfold bL;rw[List.getElem?_map,h];rfl)];rfl
theorem Th:cZ Tryz.prog 81=some true:=kZq
theorem M4:bF Tryz.prog 81=some 2:=kZq
theorem PI{H:ae}{l:List (Int × Int)}{i s:Nat}{p:Int × Int}(h:l[i]?=some p):ai Tryz.prog Gt H 81 (.elem s (bL l) i 0)=some (.agg [.v (.int .i64 p.1),.v (.int .i64 p.2)]):=by
 rw[jm Th M4 (row:=eu p) (by unfold bL;rw[List.getElem?_map,h];rfl) (Nat.le_refl 2)];rfl
theorem wM{sz i:Nat}{es:List (List AV)}:aJ Tryz.prog 81 (.elem sz es i 0) 0=some (.elem sz es i 0):=kZq
theorem RW{sz i:Nat}{es:List (List AV)}:aJ Tryz.prog 81 (.elem sz es i 0) 1=some (.elem sz es i 1):=kZq
theorem nK(l:List (Int × Int)):(bL l).length=l.length:=List.length_map _
theorem BP(l:List (Int × Int))(p:Int × Int):bL l++[eu p]=bL (l++[p]):=by unfold bL;simp
theorem EV:Tryz.f124.results.toList=[.tmp 4]:=kZq
theorem KM:Tryz.f113.results.toList=[.tmp 4]:=kZq
theorem PJ:Tryz.f71.results.toList=[.tmp 4]:=kZq
def eR(l:List Pr):List (List AV):=l.map aq
theorem mX(l:List Pr):(eR l).length=l.length:=List.length_map _
def PL(x:AV)(l:List Pr):Prop:=∃k s,x= .list k s (eR l)/\(l≠[]->s=4)
theorem KN{H:ae}{l:List Pr}{i s:Nat}{p:Pr}(h:l[i]?=some p):ai Tryz.prog Gt H 85 (.elem s (eR l) i 0)=some (.agg (aq p)):=by
 rw[jm RU BN (row:=aq p) (by unfold eR;rw[List.getElem?_map,h];rfl) (Nat.le_refl 4)];rfl
theorem PL.cH{x:AV}{l:List Pr}(h:PL x l):cH Tryz.prog 29 x=some (.v (.int .i64 (l.length:Nat))):=by
 obtain⟨k,s,rfl,-⟩:=h
 have u29:=Tryz.underlying29
 unfold Go.AE.cH
 rw[u29]
 simp only[mX]
theorem KO(g:FuncId)(cap:List AV)(p:Pr->Bool)(h:ae)(x:AV)(l:List Pr)(hx:PL x l)(hl:l.length<=1000000)
 (hp:∀q∈l,∀H,Ext h H->∃H',W5.call g (.agg (aq q)::cap) H=some (.ret (.v (.bool (p q))),H')/\Ext H H'):
 ∃r h',W5.call 124 [x,.func (.func g) [] cap] h=some (r,h')/\Ext h h'/\((l.find? p=none/\r= .ret (im (-1)))∨∃(i:Nat) (q:Pr),r= .ret (im (i:Nat))/\l[i]?=some q/\l.find? p=some q):=by
 obtain⟨k,s,rfl,hs⟩:=hx
 have kp:=ah.mk (And.intro hp hs)
 clear hp hs
 have u29:=Tryz.underlying29
 have z85:=BN
 have hil:=mX l
 unfold im
 refine aL rfl Tryz.func124 rfl ?_
 repeat' (first|simp(maxSteps:=999999) (disch:=first|exact dZ|fail) only[gW,reduceIte,Nat.reduceEqDiff,beq_self_eq_true,EV, *] | (refine dX ?_ ?_<;>(intro _;try omega)))
 refine aD (fun m e H=>∃i:Nat,i<=l.length/\m=l.length - i/\ah ((l.take i).find? p=none)/\ah (Ext h H)/\e.get 0= .list k s (eR l)/\e.get 1= .func (.func g) [] cap/\e.get 7= .v (.int .i64 (l.length:Nat))/\e.get 8= .v (.int .i64 (i:Nat))/\e.defers=[]) ?_ l.length _ _ ?_
 rotate_left 1
 ·refine⟨0,Nat.zero_le _,rfl,⟨rfl⟩,⟨.refl _⟩,?_,?_,?_,?_,?_⟩<;>exact gR
 rintro m e H ⟨i,hi,rfl,ka,kX,g0,g1,g7,g8,hd⟩
 by_cases hlt:i<l.length
 ·have hs1:s=4:=kp.out.2 (by intro q;rw[q] at hlt;simp at hlt)
  subst hs1
  obtain⟨q,hq⟩:∃q,l[i]?=some q:=⟨_,List.getElem?_eq_getElem hlt⟩
  have ld:=KN (H:=H) (s:=4) hq
  obtain⟨H',hc,hX⟩:=kp.out.1 q (List.mem_of_getElem? hq) H kX.out
  have kX2:=ah.mk (kX.out.trans hX)
  have hltI:(i:Int)<(l.length:Int):=by omega
  have kq:=ah.mk hq
  have kt:=ah.mk (a9 hq)
  clear hX hq
  cases hpv:p q with
  |true=>
   rw[hpv] at hc
   have hfd:l.find? p=some q:=by
    have e:l=l.take i++q::l.drop (i+1):=by
     rw[<-List.getElem_of_getElem? kq.out|>.2]
     simp
    rw[e,List.find?_append,ka.out,List.find?_cons_of_pos hpv];rfl
   have kf:=ah.mk hfd
   clear hfd hpv
   repeat' (first|simp(maxSteps:=999999) (disch:=first|exact dZ|fail) only[gW,reduceIte,Nat.reduceEqDiff,beq_self_eq_true,EV,al,List.cons_append, *] | (refine dX ?_ ?_<;>(intro _;try omega)))
   exact⟨_,_,rfl,kX2.out,.inr ⟨i,q,rfl,kq.out,kf.out⟩⟩
  |false=>
   rw[hpv] at hc
   have kt2:ah ((l.take (i+1)).find? p=none):=⟨by rw[kt.out,List.find?_append,ka.out];simp[hpv]⟩
   clear hpv
   repeat' (first|simp(maxSteps:=999999) (disch:=first|exact dZ|fail) only[gW,reduceIte,Nat.reduceEqDiff,beq_self_eq_true,EV,al,List.cons_append, *] | (refine dX ?_ ?_<;>(intro _;try omega)))
   exact⟨l.length - (i+1),by omega,i+1,by omega,rfl,kt2,by first|exact kX2|trivial,by simp⟩
 ·have:i=l.length:=by omega
  subst this
  have:=ka.out
  rw[List.take_length] at this
  have kan:=ah.mk this
  clear this
  repeat' (first|simp(maxSteps:=999999) (disch:=first|exact dZ|fail) only[gW,reduceIte,Nat.reduceEqDiff,beq_self_eq_true,EV, *] | (refine dX ?_ ?_<;>(intro _;try omega)))
  exact⟨_,_,rfl,kX.out,.inl ⟨kan.out,rfl⟩⟩
theorem vP{a b:Nat}(ha:elem a=true)(hb:elem b=true):pO ((a:Nat):Int) ((b:Nat):Int)=((a * b%P:Nat):Int):=by
 rw[rR (gq ha) (gq hb),Int.toNat_natCast,Int.toNat_natCast]
theorem BQ{α:Type}{f:α->Nat}:∀{l:List α} (_:∀p∈l,elem (f p)=true) {k:Nat} (_:elem k=true),elem (l.foldl (fun x p=>x * f p%P) k)=true
 | [],_,_,hk=>hk
 |a::l,h,k,hk=>BQ (l:=l) (fun p hp=>h p (List.mem_cons_of_mem _ hp)) (oH hk (h a List.mem_cons_self))
theorem DW(g:FuncId)(first cap:List AV)(f:Pr->Nat)(h:ae)(x:AV)(l:List Pr)(hx:PL x l)(hl:l.length<=1000000)(he:∀q∈l,elem (f q)=true)
 (hp:∀q∈l,∀H,Ext h H->∃H',W5.call g (first++[.agg (aq q)]++cap) H=some (.ret (im (f q:Nat)),H')/\Ext H H'):
 ∃r h',W5.call 113 [x,.func (.func g) first cap] h=some (r,h')/\Ext h h'/\r= .ret (im ((l.foldl (fun x q=>x * f q%P) 1:Nat):Int)):=by
 obtain⟨k,s,rfl,hs⟩:=hx
 have kp:=ah.mk (And.intro hp (And.intro hs he))
 clear hp hs he
 have u29:=Tryz.underlying29
 have z85:=BN
 have zc:=zK
 have hil:=mX l
 unfold im
 refine aL rfl Tryz.func113 rfl ?_
 repeat' (first|simp(maxSteps:=999999) (disch:=first|exact dZ|fail) only[gW,reduceIte,Nat.reduceEqDiff,beq_self_eq_true,KM, *] | (refine dX ?_ ?_<;>(intro _;try omega)))
 refine aD (fun m e H=>∃i:Nat,i<=l.length/\m=l.length - i/\ah (Ext h H)/\e.get 1= .func (.func g) first cap/\e.get 5= .v (.int .i64 (((l.take i).foldl (fun x q=>x * f q%P) 1:Nat):Int))/\e.get 8= .list k s (eR l)/\e.get 9= .v (.int .i64 (l.length:Nat))/\e.get 10= .v (.int .i64 (i:Nat))/\e.defers=[]) ?_ l.length _ _ ?_
 rotate_left 1
 ·refine⟨0,Nat.zero_le _,rfl,⟨.refl _⟩,?_,?_,?_,?_,?_,?_⟩<;>exact gR
 rintro m e H ⟨i,hi,rfl,kX,g1,g5,g8,g9,g10,hd⟩
 by_cases hlt:i<l.length
 ·have hs1:s=4:=kp.out.2.1 (by intro q;rw[q] at hlt;simp at hlt)
  subst hs1
  obtain⟨q,hq⟩:∃q,l[i]?=some q:=⟨_,List.getElem?_eq_getElem hlt⟩
  have hm:=List.mem_of_getElem? hq
  have ld:=KN (H:=H) (s:=4) hq
  have st:=oV (H:=H) q
  have l2:=oW (ak H (aq q))
  obtain⟨H',hc,hX⟩:=kp.out.1 q hm (H.push (aq q)) (kX.out.trans (.push _ _))
  have kX2:=ah.mk ((kX.out.trans (.push H (aq q))).trans hX)
  have hltI:(i:Int)<(l.length:Int):=by omega
  have eacc:elem ((l.take i).foldl (fun x q=>x * f q%P) 1)=true:=BQ (fun p hp=>kp.out.2.2 p (List.mem_of_mem_take hp)) mI
  have c2:=xV (((l.take i).foldl (fun x q=>x * f q%P) 1:Nat):Int) ((f q:Nat):Int)
  have e2:mP (((l.take i).foldl (fun x q=>x * f q%P) 1:Nat):Int) ((f q:Nat):Int)=0:=by unfold mP;rw[if_pos ⟨gq eacc,gq (kp.out.2.2 q hm)⟩]
  have e3:(l.take i).foldl (fun x q=>x * f q%P) 1 * f q%P=(l.take (i+1)).foldl (fun x q=>x * f q%P) 1:=by rw[a9 hq,List.foldl_append];rfl
  rw[vP eacc (kp.out.2.2 q hm),e2,e3] at c2
  clear hX hq e2 e3 eacc hm
  generalize (l.take i).foldl (fun x q=>x * f q%P) 1=acc at *
  generalize hA2:(l.take (i+1)).foldl (fun x q=>x * f q%P) 1=BR at *
  have kA:=ah.mk hA2
  clear hA2
  generalize f q=fq at *
  unfold im at *
  repeat' (first|simp(maxSteps:=999999) (disch:=first|exact dZ|fail) only[gW,reduceIte,Nat.reduceEqDiff,beq_self_eq_true,KM,al,List.cons_append, *] | (refine dX ?_ ?_<;>(intro _;try omega)))
  exact⟨l.length - (i+1),by omega,i+1,by omega,rfl,by first|exact kX2|trivial,by simp[kA.out]⟩
 ·have:i=l.length:=by omega
  subst this
  rw[List.take_length] at g5
  repeat' (first|simp(maxSteps:=999999) (disch:=first|exact dZ|fail) only[gW,reduceIte,Nat.reduceEqDiff,beq_self_eq_true,KM, *] | (refine dX ?_ ?_<;>(intro _;try omega)))
  exact⟨_,_,rfl,kX.out,rfl⟩
theorem Ht(g:FuncId)(first cap:List AV)(f:Int->Nat)(h:ae)(x:AV)(l:List Int)(hx:IL x l)(hl:l.length<=1000000)(he:∀q∈l,elem (f q)=true)
 (hp:∀q∈l,∀H,Ext h H->∃H',W5.call g (first++[im q]++cap) H=some (.ret (im (f q:Nat)),H')/\Ext H H'):
 ∃r h',W5.call 71 [x,.func (.func g) first cap] h=some (r,h')/\Ext h h'/\r= .ret (im ((l.foldl (fun x q=>x * f q%P) 1:Nat):Int)):=by
 obtain⟨k,s,rfl,hs⟩:=hx
 have kp:=ah.mk (And.intro hp (And.intro hs he))
 clear hp hs he
 have u23:=Tryz.underlying23
 have z3:=sz3
 have hil:=aU l
 unfold im
 refine aL rfl Tryz.func71 rfl ?_
 repeat' (first|simp(maxSteps:=999999) (disch:=first|exact dZ|fail) only[gW,reduceIte,Nat.reduceEqDiff,beq_self_eq_true,PJ, *] | (refine dX ?_ ?_<;>(intro _;try omega)))
 refine aD (fun m e H=>∃i:Nat,i<=l.length/\m=l.length - i/\ah (Ext h H)/\e.get 1= .func (.func g) first cap/\e.get 5= .v (.int .i64 (((l.take i).foldl (fun x q=>x * f q%P) 1:Nat):Int))/\e.get 8= .list k s (ints l)/\e.get 9= .v (.int .i64 (l.length:Nat))/\e.get 10= .v (.int .i64 (i:Nat))/\e.defers=[]) ?_ l.length _ _ ?_
 rotate_left 1
 ·refine⟨0,Nat.zero_le _,rfl,⟨.refl _⟩,?_,?_,?_,?_,?_,?_⟩<;>exact gR
 rintro m e H ⟨i,hi,rfl,kX,g1,g5,g8,g9,g10,hd⟩
 by_cases hlt:i<l.length
 ·have hs1:s=1:=kp.out.2.1 (by intro q;rw[q] at hlt;simp at hlt)
  subst hs1
  have hq:l[i]?=some (at0 l i):=by rw[List.getElem?_eq_getElem hlt,bN hlt]
  have hm:=List.mem_of_getElem? hq
  have ld:=ldi (H:=H) (s:=1) hlt
  generalize at0 l i=q at *
  obtain⟨H',hc,hX⟩:=kp.out.1 q hm H kX.out
  unfold im at hc
  have kX2:=ah.mk (kX.out.trans hX)
  have hltI:(i:Int)<(l.length:Int):=by omega
  have eacc:elem ((l.take i).foldl (fun x q=>x * f q%P) 1)=true:=BQ (fun p hp=>kp.out.2.2 p (List.mem_of_mem_take hp)) mI
  have c2:=xV (((l.take i).foldl (fun x q=>x * f q%P) 1:Nat):Int) ((f q:Nat):Int)
  have e2:mP (((l.take i).foldl (fun x q=>x * f q%P) 1:Nat):Int) ((f q:Nat):Int)=0:=by unfold mP;rw[if_pos ⟨gq eacc,gq (kp.out.2.2 q hm)⟩]
  have e3:(l.take i).foldl (fun x q=>x * f q%P) 1 * f q%P=(l.take (i+1)).foldl (fun x q=>x * f q%P) 1:=by rw[a9 hq,List.foldl_append];rfl
  rw[vP eacc (kp.out.2.2 q hm),e2,e3] at c2
  clear hX hq e2 e3 eacc hm
  generalize (l.take i).foldl (fun x q=>x * f q%P) 1=acc at *
  generalize hA2:(l.take (i+1)).foldl (fun x q=>x * f q%P) 1=BR at *
  have kA:=ah.mk hA2
  clear hA2
  generalize f q=fq at *
  unfold im at *
  repeat' (first|simp(maxSteps:=999999) (disch:=first|exact dZ|fail) only[gW,reduceIte,Nat.reduceEqDiff,beq_self_eq_true,PJ,al,List.cons_append, *] | (refine dX ?_ ?_<;>(intro _;try omega)))
  exact⟨l.length - (i+1),by omega,i+1,by omega,rfl,by first|exact kX2|trivial,by simp[kA.out]⟩
 ·have:i=l.length:=by omega
  subst this
  rw[List.take_length] at g5
  repeat' (first|simp(maxSteps:=999999) (disch:=first|exact dZ|fail) only[gW,reduceIte,Nat.reduceEqDiff,beq_self_eq_true,PJ, *] | (refine dX ?_ ?_<;>(intro _;try omega)))
  exact⟨_,_,rfl,kX.out,rfl⟩
theorem tO:Tryz.f111.results.toList=[.tmp 2]:=kZq
theorem RY:Tryz.f161.results.toList=[.tmp 2]:=kZq
theorem RZ:Tryz.f49.results.toList=[.tmp 4]:=kZq
theorem M5:Tryz.f70.results.toList=[.tmp 4]:=kZq
theorem oX{b:Nat}:aJ Tryz.prog 27 (.ptr (.box b) 0) 0=some (.ptr (.box b) 0):=kZq
theorem dS{b:Nat}:aJ Tryz.prog 27 (.ptr (.box b) 0) 1=some (.ptr (.box b) 1):=kZq
theorem fF{b:Nat}:aJ Tryz.prog 27 (.ptr (.box b) 0) 2=some (.ptr (.box b) 3):=kZq
theorem me{b:Nat}:aJ Tryz.prog 25 (.ptr (.box b) 1) 0=some (.ptr (.box b) 1):=kZq
theorem M6{b:Nat}:aJ Tryz.prog 25 (.ptr (.box b) 1) 1=some (.ptr (.box b) 2):=kZq
theorem qH:(∀b,aJ Tryz.prog 98 (.ptr (.box b) 0) 0=some (.ptr (.box b) 0))/\(∀b,aJ Tryz.prog 98 (.ptr (.box b) 0) 1=some (.ptr (.box b) 4))/\(∀b,aJ Tryz.prog 98 (.ptr (.box b) 0) 2=some (.ptr (.box b) 5))/\(∀b,aJ Tryz.prog 98 (.ptr (.box b) 0) 3=some (.ptr (.box b) 6))/\
 (∀b,aJ Tryz.prog 98 (.ptr (.box b) 0) 4=some (.ptr (.box b) 7))/\(∀b,aJ Tryz.prog 98 (.ptr (.box b) 0) 5=some (.ptr (.box b) 11))/\∀b,aJ Tryz.prog 98 (.ptr (.box b) 0) 6=some (.ptr (.box b) 12):=
 ⟨fun _=>kZq,fun _=>kZq,fun _=>kZq,fun _=>kZq,fun _=>kZq,fun _=>kZq,fun _=>kZq⟩
theorem EW{b:Nat}:aJ Tryz.prog 96 (.ptr (.box b) 7) 3=some (.ptr (.box b) 10):=kZq
theorem jj:(∀b,aJ Tryz.prog 85 (.ptr (.box b) 0) 0=some (.ptr (.box b) 0))/\(∀b,aJ Tryz.prog 85 (.ptr (.box b) 0) 1=some (.ptr (.box b) 1))/\(∀b,aJ Tryz.prog 85 (.ptr (.box b) 0) 2=some (.ptr (.box b) 2))/\∀b,aJ Tryz.prog 85 (.ptr (.box b) 0) 3=some (.ptr (.box b) 3):=
 ⟨fun _=>kZq,fun _=>kZq,fun _=>kZq,fun _=>kZq⟩
theorem aQ{H:ae}{t:TypeId}{b j:Nat}{cs:List AV}{x:AV}(ha:cZ Tryz.prog t=some false)(hb:H.boxes[b]?=some cs)(hj:cs[j]?=some x):ai Tryz.prog Gt H t (.ptr (.box b) j)=some x:=by
 rw[dc ha hb,List.head?_drop,hj]
theorem Tj:cZ Tryz.prog 28=some false:=kZq
theorem KP:cZ Tryz.prog 29=some false:=kZq
theorem wN:cZ Tryz.prog 90=some false:=kZq
def cI(ep:Int)(X Y C:AV):List AV:=[.v (.int .i64 ep),X,Y,C]
def dQ(ep:Int)(X Y C T L Wt All:AV)(pt ch:Int):List AV:=[.v (.int .i64 ep),X,Y,C,T,L,Wt,.v (.int .i64 3),.v (.int .i64 0),sv [],All,.v (.int .i64 pt),.v (.int .i64 ch)]
def pS(rows:List (List Int))(ep:Int)(aa:List Int):Bool:=decide (0<=ep)&&decide (ep<=64)&&decide (aa.length=aK rows)&&aa.all aX
theorem KQ(n:Int)(h:ae):W5.call 161 [im n] h=some (.ret (.v (.bool (!aX n))),h):=by
 have c:=vN n
 unfold im at *
 refine ar rfl Tryz.func161 rfl ?_
 repeat' (first|simp(maxSteps:=999999) (disch:=first|exact dZ|fail) only[gW,reduceIte,Nat.reduceEqDiff,beq_self_eq_true,RY, *] | (refine dX ?_ ?_<;>(intro _;try omega)))
theorem hY{ep:Int}{X Y C:AV}{rows:List (List Int)}{owners aa:List Int}(hx:RL X rows)(hy:IL Y owners)(hc:IL C aa):(AV.agg (cI ep X Y C)).aC=some (cI ep X Y C):=by
 obtain⟨k,s,xs,rfl,-⟩:=hx.form
 obtain⟨ky,sy,rfl,-⟩:=hy
 obtain⟨kc,sc,rfl,-⟩:=hc
 rfl
theorem KR(h:ae)(ep:Int)(X Y C:AV)(rows:List (List Int))(owners aa:List Int)(hx:RL X rows)(hy:IL Y owners)(hc:IL C aa)(hl:aa.length<=1000000):
 ∃r h',W5.call 111 [.agg (cI ep X Y C)] h=some (r,h')/\h'=h.push (cI ep X Y C)/\r= .ret (.v (.bool (pS rows ep aa))):=by
 have bx:=hY (ep:=ep) hx hy hc
 have b0:=ak h (cI ep X Y C)
 have l0:ai Tryz.prog Gt (h.push (cI ep X Y C)) 3 (.ptr (.box h.boxes.length) 0)=some (.v (.int .i64 ep)):=aQ ag3 b0 rfl
 have l1:ai Tryz.prog Gt (h.push (cI ep X Y C)) 22 (.ptr (.box h.boxes.length) 1)=some X:=aQ Pk b0 rfl
 have l3:ai Tryz.prog Gt (h.push (cI ep X Y C)) 23 (.ptr (.box h.boxes.length) 3)=some C:=aQ mo b0 rfl
 have ln:=hx.cH
 have lc:=hc.cH
 have cc:=pD (pr:=sQ) rfl rfl 161 [] (fun n=> !aX n) (h.push (cI ep X Y C)) C aa hc hl (fun n _=>KQ n _)
 rw[EP] at cc
 have kv:ah (pS rows ep aa=(decide (0<=ep)&&decide (ep<=64)&&decide (aa.length=aK rows)&&aa.all aX)):=⟨rfl⟩
 generalize pS rows ep aa=res at *
 obtain⟨k,s,xs,rfl,hs,hxl,hxr⟩:=hx
 have kk:=ah.mk (And.intro hs hxr)
 have u23:=Tryz.underlying23
 have u22:=Tryz.underlying22
 have z23:=jC
 have hil:(xs.map fun a=>[a]).length=rows.length:=by rw[List.length_map];exact hxl
 clear hs hxr hc hy b0
 have kcols:ah (rows.length=0->aK rows=1):=⟨fun q=>by unfold aK;rw[if_pos q]⟩
 have kcols2:ah (∀r0,rows[0]?=some r0->aK rows=r0.length):=⟨fun r0 q=>by
  unfold aK
  rw[if_neg (by have:=(List.getElem?_eq_some_iff.1 q).1;omega),List.getD_eq_getElem?_getD,q];rfl⟩
 refine aL rfl Tryz.func111 rfl ?_
 have fin:∀n:Nat,aK rows=n->ah (res=(decide (0<=ep)&&decide (ep<=64)&&decide (aa.length=n)&&aa.all aX)):=fun n q=>⟨by rw[kv.out,q]⟩
 have kfin:=ah.mk fin
 clear fin
 rcases Nat.eq_zero_or_pos rows.length with h0|h0
 ·have hq:¬((0:Int)<(rows.length:Int)):=by omega
  have kf:=kfin.out _ (kcols.out h0)
  clear h0
  clear kcols kcols2 kfin kv
  by_cases h1:0<=ep
  rotate_left 1
  ·have d1:decide (0<=ep)=false:=decide_eq_false h1
   have kr:ah (res=false):=⟨by rw[kf.out,d1];rfl⟩
   clear h1 cc
   repeat' (first|simp(maxSteps:=999999) (disch:=first|exact dZ|fail) only[gW,reduceIte,Nat.reduceEqDiff,beq_self_eq_true,tO,aw,oX,dS,fF,me,al, *] | (refine dX ?_ ?_<;>(intro _;try omega)))
   exact⟨_,_,rfl,rfl,by rw[kr.out]⟩
  have d1:decide (0<=ep)=true:=decide_eq_true h1
  by_cases h2:ep<=64
  rotate_left 1
  ·have d2:decide (ep<=64)=false:=decide_eq_false h2
   have kr:ah (res=false):=⟨by rw[kf.out,d2];simp⟩
   clear h1 h2 cc
   repeat' (first|simp(maxSteps:=999999) (disch:=first|exact dZ|fail) only[gW,reduceIte,Nat.reduceEqDiff,beq_self_eq_true,tO,aw,oX,dS,fF,me,al, *] | (refine dX ?_ ?_<;>(intro _;try omega)))
   exact⟨_,_,rfl,rfl,by rw[kr.out]⟩
  have d2:decide (ep<=64)=true:=decide_eq_true h2
  by_cases h3:aa.length=1
  rotate_left 1
  ·have d3:decide ((aa.length:Int)=1)=false:=decide_eq_false (by omega)
   have kr:ah (res=false):=⟨by rw[kf.out,decide_eq_false h3];simp⟩
   clear h1 h2 h3 cc
   repeat' (first|simp(maxSteps:=999999) (disch:=first|exact dZ|fail) only[gW,reduceIte,Nat.reduceEqDiff,beq_self_eq_true,tO,aw,oX,dS,fF,me,al, *] | (refine dX ?_ ?_<;>(intro _;try omega)))
   exact⟨_,_,rfl,rfl,by rw[kr.out]⟩
  have d3:decide ((aa.length:Int)=1)=true:=decide_eq_true (by omega)
  have kr:ah (res=aa.all aX):=⟨by rw[kf.out,d1,d2,decide_eq_true h3];rfl⟩
  have hnn:(!!aa.all aX)=aa.all aX:=by simp
  clear h1 h2 h3
  repeat' (first|simp(maxSteps:=999999) (disch:=first|exact dZ|fail) only[gW,reduceIte,Nat.reduceEqDiff,beq_self_eq_true,tO,aw,oX,dS,fF,me,al, *] | (refine dX ?_ ?_<;>(intro _;try omega)))
  exact⟨_,_,rfl,rfl,by rw[kr.out]⟩
 ·have hq:((0:Int)<(rows.length:Int)):=by omega
  have hs1:s=1:=kk.out.1 (by intro q;rw[q] at h0;simp at h0)
  subst hs1
  obtain⟨a0,hav0⟩:∃a,xs[0]?=some a:=⟨_,List.getElem?_eq_getElem (by omega)⟩
  obtain⟨r0,hv0⟩:∃r,rows[0]?=some r:=⟨_,List.getElem?_eq_getElem (by omega)⟩
  have ld0:=ldr (H:=h.push (cI ep (.list k 1 (xs.map fun a=>[a])) Y C)) (s:=1) hav0
  obtain⟨ka0,sa0,rfl,hsa0⟩:=kk.out.2 0 a0 r0 hav0 hv0
  have kf:=kfin.out _ (kcols2.out r0 hv0)
  have hrl:=aU r0
  have z0:(0:Int).toNat=0:=rfl
  generalize r0.length=N at *
  clear hav0 hv0 hsa0 h0
  clear kcols kcols2 kfin kv
  by_cases h1:0<=ep
  rotate_left 1
  ·have d1:decide (0<=ep)=false:=decide_eq_false h1
   have kr:ah (res=false):=⟨by rw[kf.out,d1];rfl⟩
   clear h1 cc
   repeat' (first|simp(maxSteps:=999999) (disch:=first|exact dZ|fail) only[gW,reduceIte,Nat.reduceEqDiff,beq_self_eq_true,tO,aw,oX,dS,fF,me,al, *] | (refine dX ?_ ?_<;>(intro _;try omega)))
   exact⟨_,_,rfl,rfl,by rw[kr.out]⟩
  have d1:decide (0<=ep)=true:=decide_eq_true h1
  by_cases h2:ep<=64
  rotate_left 1
  ·have d2:decide (ep<=64)=false:=decide_eq_false h2
   have kr:ah (res=false):=⟨by rw[kf.out,d2];simp⟩
   clear h1 h2 cc
   repeat' (first|simp(maxSteps:=999999) (disch:=first|exact dZ|fail) only[gW,reduceIte,Nat.reduceEqDiff,beq_self_eq_true,tO,aw,oX,dS,fF,me,al, *] | (refine dX ?_ ?_<;>(intro _;try omega)))
   exact⟨_,_,rfl,rfl,by rw[kr.out]⟩
  have d2:decide (ep<=64)=true:=decide_eq_true h2
  by_cases h3:aa.length=N
  rotate_left 1
  ·have d3:decide ((aa.length:Int)=(N:Int))=false:=decide_eq_false (by omega)
   have kr:ah (res=false):=⟨by rw[kf.out,decide_eq_false h3];simp⟩
   clear h1 h2 h3 cc
   repeat' (first|simp(maxSteps:=999999) (disch:=first|exact dZ|fail) only[gW,reduceIte,Nat.reduceEqDiff,beq_self_eq_true,tO,aw,oX,dS,fF,me,al, *] | (refine dX ?_ ?_<;>(intro _;try omega)))
   exact⟨_,_,rfl,rfl,by rw[kr.out]⟩
  have d3:decide ((aa.length:Int)=(N:Int))=true:=decide_eq_true (by omega)
  have kr:ah (res=aa.all aX):=⟨by rw[kf.out,d1,d2,decide_eq_true h3];rfl⟩
  have hnn:(!!aa.all aX)=aa.all aX:=by simp
  clear h1 h2 h3
  repeat' (first|simp(maxSteps:=999999) (disch:=first|exact dZ|fail) only[gW,reduceIte,Nat.reduceEqDiff,beq_self_eq_true,tO,aw,oX,dS,fF,me,al, *] | (refine dX ?_ ?_<;>(intro _;try omega)))
  exact⟨_,_,rfl,rfl,by rw[kr.out]⟩
structure lQ(H:ae)(c:Nat)(ep:Int)(X Y C T L Wt:AV)(pt ch:Int)(aa:List Int)(text:List UInt8)(l:List Pr):Prop where
 dF:∃(b:Nat) (rows:List (List AV)),H.boxes[c]?=some (dQ ep X Y C T L Wt (.arr b 0 rows.length rows.length) pt ch)/\H.boxes[b]?=some rows.flatten/\oP (l.map Pr.val) rows
 com:IL C aa
 pos:0<aa.length
 c0:0<=at0 aa 0/\at0 aa 0<=4611686018427387903
 txt:∃kt st,T= .list kt st (u8s text)/\(text≠[]->st=1)
 tl:text.length<=65536
 ll:l.length<=64
theorem lQ.mono{H H':ae}{c:Nat}{ep:Int}{X Y C T L Wt:AV}{pt ch:Int}{aa:List Int}{text:List UInt8}{l:List Pr}(w:lQ H c ep X Y C T L Wt pt ch aa text l)(x:Ext H H'):lQ H' c ep X Y C T L Wt pt ch aa text l:=by
 obtain⟨b,rows,h1,h2,h3⟩:=w.dF
 exact⟨⟨b,rows,x.box _ _ h1,x.box _ _ h2,h3⟩,w.com,w.pos,w.c0,w.txt,w.tl,w.ll⟩
theorem Hu(l:List Pr):dN (l.map Pr.val)<=1:=by
 induction l with
 |nil=>simp[dN]
 |cons p l ih=>
  rw[List.map_cons,dN]
  have:eD p.val=1:=by simp[Pr.val,eD,dN]
  omega
theorem M7(p:Pr):(fB p.val).length<=100:=by
 have h0:=et 9 (0+1+1+1+1)
 have h1:=et 9 (oK p.ag)
 have h2:=et 9 (oK p.no)
 have h3:=et 9 (oK p.d)
 have h4:=et 9 (oK p.e)
 simp only[Pr.val,fB,jB,List.length_cons,List.length_append,List.length_nil] at *
 omega
theorem BS:∀l:List Pr,(jB (l.map Pr.val)).length<=l.length * 100
 | []=>by simp[jB]
 |p::l=>by
  have h1:=M7 p
  have h2:=BS l
  rw[List.map_cons,jB,List.length_append,List.length_cons,Nat.add_mul];omega
theorem KS(c0:Int)(text:List UInt8)(l:List Pr)(k:Int):(fB (.list [.int c0,.text text,sH l,.int k])).length<=100+text.length+l.length * 100:=by
 have h0:=et 9 (0+1+1+1+1)
 have h1:=et 9 (oK c0)
 have h2:=et 9 text.length
 have h3:=et 9 (oK k)
 have h4:=et 9 (l.map Pr.val).length
 have h5:=BS l
 simp only[sH,fB,jB,List.length_cons,List.length_append,List.length_nil] at *
 omega
theorem bp4(t u v w:TypeId)(x y z q:AV):aN Tryz.prog 180 4 [(0,.iface t x),(1,.iface u y),(2,.iface v z),(3,.iface w q)]=some (.list .tight 1 [[.iface t x],[.iface u y],[.iface v z],[.iface w q]]):=kZq
theorem DX(H:ae)(c:Nat)(ep:Int)(X Y C T L Wt:AV)(pt ch:Int)(aa:List Int)(text:List UInt8)(l:List Pr)(w:lQ H c ep X Y C T L Wt pt ch aa text l)(q:Pr)(hk:0<=q.ag/\q.ag<=4611686018427387903):
 ∃r H',W5.call 49 [.ptr (.box c) 0,.agg (aq q)] H=some (r,H')/\H'=H.push (aq q)/\r= .ret (im ((dP (at0 aa 0) text l q.ag:Nat):Int)):=by
 have w2:=w.mono (.push H (aq q))
 obtain⟨b,rows,h1,h2,h3⟩:=w2.dF
 obtain⟨kc,sc,rfl,hsc⟩:=w.com
 obtain⟨kt,st,rfl,hst⟩:=w.txt
 have hpos:=w.pos
 have hsc1:sc=1:=hsc (by intro e;rw[e] at hpos;simp at hpos)
 subst hsc1
 have hll:rows.length<=64:=by have:=h3.1;rw[List.length_map] at this;have:=w.ll;omega
 have bl:=KS (at0 aa 0) text l q.ag
 have hd:=Hu l
 have hh:=xZ (H.push (aq q)) Eo .tight 1 [.iface 3 (.v (.int .i64 (at0 aa 0))),.iface 28 (.list kt st (u8s text)),.iface 96 (.agg (im 3::im 0::sv []::[.arr b 0 rows.length rows.length])),.iface 3 (.v (.int .i64 q.ag))] [.int (at0 aa 0),.text text,sH l,.int q.ag]
  (.cons (.int _ w.c0) (.cons (.text kt st text hst (by have:=w.tl;omega)) (.cons (.list h2 h3 (by omega)) (.cons (.int _ hk) .nil)))) (fun _=>rfl) (by simp) (by decide) (by simp[sH,eD,dN];omega) (by have:=w.tl;have:=w.ll;omega)
 have hbe:mL Eo (.list [.int (at0 aa 0),.text text,sH l,.int q.ag])=dP (at0 aa 0) text l q.ag:=rfl
 rw[hbe] at hh
 rw[show Eo=[98,105,110,100] from rfl] at hh
 generalize dP (at0 aa 0) text l q.ag=bn at *
 have b0:=ak H (aq q)
 have l0:ai Tryz.prog Gt (H.push (aq q)) 3 (.ptr (.box H.boxes.length) 0)=some (.v (.int .i64 q.ag)):=aQ ag3 b0 rfl
 have l1:ai Tryz.prog Gt (H.push (aq q)) 23 (.ptr (.box c) 3)=some (.list kc 1 (ints aa)):=aQ mo h1 rfl
 have l2:ai Tryz.prog Gt (H.push (aq q)) 28 (.ptr (.box c) 4)=some (.list kt st (u8s text)):=aQ Tj h1 rfl
 have l3:ai Tryz.prog Gt (H.push (aq q)) 96 (.ptr (.box c) 7)=some (.agg [im 3,im 0,sv [],.arr b 0 rows.length rows.length]):=by
  rw[cP O5 tX h1 (Nat.le_of_ble_eq_true rfl)];rfl
 have l4:=ldi (H:=H.push (aq q)) (l:=aa) (i:=0) (s:=1) hpos
 have bc:(AV.agg (aq q)).aC=some (aq q):=rfl
 have hil:=aU aa
 have u23:=Tryz.underlying23
 have z3:=sz3
 have hposI:(0:Int)<(aa.length:Int):=by omega
 have z0:(0:Int).toNat=0:=rfl
 simp only[List.map_cons,List.map_nil] at hh
 clear w w2 h1 h2 h3 hsc hst hbe bl hd b0 hpos
 generalize at0 aa 0=c0 at *
 unfold im at *
 refine aL rfl Tryz.func49 rfl ?_
 repeat' (first|simp(maxSteps:=999999) (disch:=first|exact dZ|fail) only[gW,reduceIte,Nat.reduceEqDiff,beq_self_eq_true,RZ,aw, *] | (refine dX ?_ ?_<;>(intro _;try omega)))
 refine bf gM kZq ?_
 repeat' (first|simp(maxSteps:=999999) (disch:=first|exact dZ|fail) only[gW,reduceIte,Nat.reduceEqDiff,beq_self_eq_true,RZ,qH,fF,jj,al,if3,PD,Td,bp4, *] | (refine dX ?_ ?_<;>(intro _;try omega)))
 exact⟨_,_,rfl,rfl,rfl⟩
theorem KT(c0:Int)(text:List UInt8)(l:List Pr)(k:Int):okF ((dP c0 text l k:Nat):Int):=Bl _ _
theorem EX(H:ae)(c:Nat)(ep:Int)(X Y C T L Wt:AV)(pt ch:Int)(aa:List Int)(text:List UInt8)(l:List Pr)(w:lQ H c ep X Y C T L Wt pt ch aa text l)(q:Pr)(hk:0<=q.ag/\q.ag<=4611686018427387903)(hd:aX q.d=true)(he:aX q.e=true):
 ∃r H',W5.call 70 [.ptr (.box c) 0,.agg (aq q)] H=some (r,H')/\Ext H H'/\r= .ret (im ((gX (at0 aa 0) text l q:Nat):Int)):=by
 obtain⟨_,H2,c1,rfl,rfl⟩:=DX (H.push (aq q)) c ep X Y C T L Wt pt ch aa text l (w.mono (.push _ _)) q hk
 have hb:=KT (at0 aa 0) text l q.ag
 have c2:=mV q.e ((dP (at0 aa 0) text l q.ag:Nat):Int)
 have c3:=xV q.d (iL q.e ((dP (at0 aa 0) text l q.ag:Nat):Int))
 have hN:pO q.d (iL q.e ((dP (at0 aa 0) text l q.ag:Nat):Int))=((gX (at0 aa 0) text l q:Nat):Int):=by
  rw[rR hd (hJ he _),iS he]
  unfold gX
  rw[Int.toNat_natCast]
  unfold dP
  rw[sM]
 rw[hN] at c3
 generalize gX (at0 aa 0) text l q=nn at *
 generalize ((dP (at0 aa 0) text l q.ag:Nat):Int)=bn at *
 generalize iL q.e bn=pw at *
 have b0:=ak H (aq q)
 have b1:((H.push (aq q)).push (aq q)).boxes[H.boxes.length]?=some (aq q):=aj b0
 have l0:ai Tryz.prog Gt (H.push (aq q)) 3 (.ptr (.box H.boxes.length) 2)=some (.v (.int .i64 q.d)):=aQ ag3 b0 rfl
 have l1:ai Tryz.prog Gt (H.push (aq q)) 3 (.ptr (.box H.boxes.length) 3)=some (.v (.int .i64 q.e)):=aQ ag3 b0 rfl
 have l2:=oW b0
 have l0b:ai Tryz.prog Gt ((H.push (aq q)).push (aq q)) 3 (.ptr (.box H.boxes.length) 2)=some (.v (.int .i64 q.d)):=aQ ag3 b1 rfl
 have l1b:ai Tryz.prog Gt ((H.push (aq q)).push (aq q)) 3 (.ptr (.box H.boxes.length) 3)=some (.v (.int .i64 q.e)):=aQ ag3 b1 rfl
 have bc:(AV.agg (aq q)).aC=some (aq q):=rfl
 clear w hb hN b0 b1
 unfold im at *
 refine aL rfl Tryz.func70 rfl ?_
 repeat' (first|simp(maxSteps:=999999) (disch:=first|exact dZ|fail) only[gW,reduceIte,Nat.reduceEqDiff,beq_self_eq_true,M5,aw, *] | (refine dX ?_ ?_<;>(intro _;try omega)))
 refine bU [(1,6),(3,6)] gM kZq (fun p hp=>?_) ?_
 ·simp only[List.mem_cons,List.not_mem_nil,or_false] at hp
  rcases hp with rfl|rfl
  ·refine dH (x:= .ptr (.box H.boxes.length) 2) (v:= .v (.int .i64 q.d)) kZq rfl rfl rfl kZq (by simp[cB,gB]) ?_ ?_<;>(simp only[List.take_succ_cons,List.take_zero];repeat' (first|simp(maxSteps:=999999) (disch:=first|exact dZ|fail) only[gW,reduceIte,Nat.reduceEqDiff,beq_self_eq_true,M5,jj,and_self, *] | (refine dX ?_ ?_<;>(intro _;try omega))))
  ·refine dH (x:= .ptr (.box H.boxes.length) 3) (v:= .v (.int .i64 q.e)) kZq rfl rfl rfl kZq (by simp[cB,gB]) ?_ ?_<;>(simp only[List.take_succ_cons,List.take_zero];repeat' (first|simp(maxSteps:=999999) (disch:=first|exact dZ|fail) only[gW,reduceIte,Nat.reduceEqDiff,beq_self_eq_true,M5,jj,and_self, *] | (refine dX ?_ ?_<;>(intro _;try omega))))
 repeat' (first|simp(maxSteps:=999999) (disch:=first|exact dZ|fail) only[gW,reduceIte,Nat.reduceEqDiff,beq_self_eq_true,M5,jj, *] | (refine dX ?_ ?_<;>(intro _;try omega)))
 exact⟨_,_,rfl,(Ext.push _ _).trans (Ext.push _ _),rfl⟩
end Go.Proofs.YtnfciiiohoafaaaGreatDoor
end
section
set_option linter.constructorNameAsVariable false
namespace Go.Proofs.YtnfciiiohoafaaaGreatDoor
open Go.AE Go.NT
theorem mY:Tryz.f48.results.toList=[.tmp 6,.tmp 7]:=kZq
def LAt(H:ae)(c base:Nat)(cur:AV)(vs:List Vl):Prop:=(vs=[]/\cur= .list .nil 0 [])∨(vs≠[]/\∃(b:Nat) (rows:List (List AV)),cur= .arr b 0 rows.length rows.length/\H.boxes[b]?=some rows.flatten/\oP vs rows/\b≠c/\base<=b)
theorem LAt.cH{H:ae}{c base:Nat}{cur:AV}{vs:List Vl}(q:LAt H c base cur vs):cH Tryz.prog 94 cur=some (.v (.int .i64 (vs.length:Nat))):=by
 have u94:=Tryz.underlying94
 unfold Go.AE.cH
 rw[u94]
 rcases q with⟨rfl,rfl⟩|⟨-,b,rows,rfl,-,h3,-⟩
 ·rfl
 ·simp only[h3.1]
theorem LAt.bu{H:ae}{c base:Nat}{cur:AV}{vs:List Vl}(q:LAt H c base cur vs):cur.bu=true:=by
 rcases q with⟨rfl,rfl⟩|⟨-,b,rows,rfl,-⟩<;>rfl
def rT:List AV:=cE 0 0 [] .nil 0 []
theorem oP.four{vs:List Vl}{rows:List (List AV)}(h:oP vs rows):∀r∈rows,r.length=4:=fun r hr=>by
 obtain⟨i,hi⟩:=List.getElem?_of_mem hr
 have hil:=(List.getElem?_eq_some_iff.1 hi).1
 exact(h.2 i _ r (List.getElem?_eq_getElem (by rw[<-h.1];exact hil)) hi).len
theorem oP.snoc{vs:List Vl}{rows:List (List AV)}(h:oP vs rows){v:Vl}{r:List AV}(hv:eo v r):oP (vs++[v]) (rows++[r]):=by
 refine⟨by simp[h.1],fun i w x hw hx=>?_⟩
 rcases Nat.lt_or_ge i rows.length with hlt|hge
 ·rw[List.getElem?_append_left hlt] at hx
  rw[List.getElem?_append_left (by rw[<-h.1];exact hlt)] at hw
  exact h.2 i w x hw hx
 ·have:=(List.getElem?_eq_some_iff.1 hx).1
  rw[List.length_append] at this
  have he:i=rows.length:=by simp at this;omega
  subst he
  rw[List.getElem?_concat_length] at hx
  rw[h.1,List.getElem?_concat_length] at hw
  injection hx with hx;injection hw with hw
  subst hx;subst hw
  exact hv
theorem LAt.more{h0 H:ae}{c base:Nat}{cur:AV}{vs:List Vl}(q:LAt H c base cur vs)(hx:Ext h0 H)(hb0:h0.boxes.length<=base)(hc:c<H.boxes.length)(hbl:base<=H.boxes.length)(hl:vs.length<1000000){v:Vl}{r:List AV}(hv:eo v r):
 ∃H2,iX Tryz.prog H #[94,94] cur (.list .tight 4 [rT])=some (.arr H.boxes.length 0 (vs.length+1) (vs.length+1),H2)/\H2.boxes.length=H.boxes.length+1/\H2.tn=H.tn/\H2.dead=H.dead/\Ext h0 H2/\
  ay Tryz.prog 94 (.arr H.boxes.length 0 (vs.length+1) (vs.length+1)) (.v (.int .i64 (vs.length:Nat)))=some (.ptr (.box H.boxes.length) (vs.length * 4))/\
  (∀(a:Nat) (cs:List AV),H.boxes[a]?=some cs->(a<base∨a=c)->H2.boxes[a]?=some cs)/\
  ∃cs,aA Tryz.prog H2 96 (.ptr (.box H.boxes.length) (vs.length * 4)) (.agg r)=some (H2.put H.boxes.length cs)/\
  ∀H3,H3.boxes[H.boxes.length]?=some cs->LAt H3 c base (.arr H.boxes.length 0 (vs.length+1) (vs.length+1)) (vs++[v]):=by
 obtain⟨i,q1,q2,q3,q4⟩:=RO
 have hbb:=Nat.mul_le_mul (show vs.length+1<=1000000 by omega) q3
 have u94:=Tryz.underlying94
 have hr4:=hv.len
 have hix:ay Tryz.prog 94 (.arr H.boxes.length 0 (vs.length+1) (vs.length+1)) (.v (.int .i64 (vs.length:Nat)))=some (.ptr (.box H.boxes.length) (vs.length * 4)):=by
  unfold ay
  simp only[u94,tX]
  rw[if_pos ⟨by omega,by omega⟩]
  simp
 rcases q with⟨rfl,rfl⟩|⟨hne,b,rows,rfl,h1,h2,h3,h4⟩
 ·have:=xe (h:=H) (k:= .nil) (sz:=0) (es:=[]) (new:=[rT]) (x:= .list .tight 4 [rT]) Tryz.underlying94 Tryz.underlying94 q1 (by omega) (by rw[q2];exact q4) (by simp) (by simp;omega) (by simp) (.inr rfl) (.inl rfl) (by rw[q2];rfl)
  refine⟨_,this,az _ _,rfl,rfl,hx.trans (.push _ _),hix,fun a cs ha _=>aj ha,r,?_,fun H3 h3=> .inr ⟨by simp,H.boxes.length,[r],rfl,by rw[h3];simp,oP.snoc (vs:=[]) (rows:=[]) ⟨rfl,fun i v r q=>by simp at q⟩ hv,by omega,hbl⟩⟩
  have hg:(H.push ([]++[rT]).flatten).boxes[H.boxes.length]?=some rT:=ak _ _
  exact(aW (off:=0) (cs:=rT) (xs:=r) hv.cells tX hg hr4 (Nat.le_refl 4)).trans (by rw[jc (by rw[hr4];rfl)])
 ·have hf:=a8 h2.four
  have hlr:=h2.1
  have hpos:0<rows.length:=by rw[hlr];exact List.length_pos_iff.2 hne
  rw[<-hlr] at hbb
  have:=xg (h:=H) (b:=b) (len:=rows.length) (cs:=rows.flatten) (new:=[rT]) (x:= .list .tight 4 [rT]) Tryz.underlying94 Tryz.underlying94 q1 (by omega) (by rw[q2];exact q4) (by simp) (by simp;omega) (by simp;omega) h1 hpos (by rw[q2,hf]) (by rw[q2];rfl)
  have hlt:=(List.getElem?_eq_some_iff.1 h1).1
  rw[show rows.length+[rT].length=vs.length+1 by simp[hlr]] at this
  refine⟨_,this,by rw[az,dU],rfl,rfl,(hx.bZ (by omega) _).trans (.push _ _),hix,fun a cs ha hor=>aj ((av ?_).trans ha),(rows++[r]).flatten,?_,fun H3 h5=> .inr ⟨by simp,H.boxes.length,rows++[r],by simp[hlr],h5,h2.snoc hv,by omega,hbl⟩⟩
  ·rcases hor with z|z
   ·omega
   ·rintro rfl;exact h3 z
  ·have hg:((H.put b []).push (rows.flatten++[rT].flatten)).boxes[H.boxes.length]?=some (rows.flatten++[rT].flatten):=cD (by rw[dU])
   refine(aW (off:=vs.length * 4) (xs:=r) hv.cells tX hg hr4 ?_).trans ?_
   ·rw[List.length_append,hf,hlr];exact Nat.le_refl _
   ·have hsp:bI (rows.flatten++[rT].flatten) (vs.length * 4) r=(rows++[r]).flatten:=by
     unfold bI
     rw[hr4,<-hlr,<-hf,List.take_left' rfl,List.drop_of_length_le (by rw[List.length_append];exact Nat.le_refl _),List.append_nil]
     simp
    rw[hsp]
theorem PK:∃h',W4.call 112 [.list .nil 0 []] ⟨[],[],0,[]⟩=some (.ret (.agg (cE 3 0 [] .nil 0 [])),h'):=by
 obtain⟨r,h',c,-,t,sz,rows,rfl,-,-,hn⟩:=zH ⟨[],[],0,[]⟩ ok0 .nil 0 [] [] .nil (fun q=>absurd rfl q) (by simp) (fun a ha=>by cases ha)
 obtain⟨rfl,rfl,rfl⟩:=hn rfl
 rw[List.map_nil] at c
 exact⟨h',c⟩
theorem KU:∀h,W5.call 112 [.list .nil 0 []] h=some (.ret (.agg (cE 3 0 [] .nil 0 [])),h):=by
 obtain⟨h',c⟩:=PK
 exact dm (L:=L5) (args':=[.list .nil 0 []]) (by decide) (by rw[bM,bM,au,di,eF];intro n q;cases q) (by decide) c (by rfl) (by decide)
end Go.Proofs.YtnfciiiohoafaaaGreatDoor
end
section
namespace Go.AE
section
variable {P:Program} {G:Nat->Option (List AV)} {prims:FuncId->Option (List AV->ae->Option (AV × ae))} {Q:Xt->Env->ae->Prop} {e:Env} {h:ae} {L:List FuncId} {R:Rec}
theorem Hv{ops:Array Oper}{i n bi bn x1 x2:Nat}{o1 o2:Oper}{t1 t2:TypeId}{a1 a2 v1 v2:Operand}(hn:ops.size - 1=n)(ho1:ops[i]?=some o1)(hop1:o1.op= .store t1 a1 v1)(ho2:ops[n]?=some o2)(hop2:o2.op= .store t2 a2 v2)
 (h1:cz P G R ops (ops.toList.take i) e h (fun q ei _=>q= .normal/\ei.eval a1= .ptr (.box bi) x1))
 (h2:cz P G R ops (ops.toList.take n) e h (fun q en _=>q= .normal/\en.eval a2= .ptr (.box bn) x2)) (hne:bi≠bn):iA P G R ops e h i=true:=by
 subst hn
 have hi:i<ops.size:=(Array.getElem?_eq_some_iff.1 ho1).1
 obtain⟨q1,ei,hi1,e1,rfl,e2⟩:=h1
 obtain⟨q2,en,hn1,f1,rfl,f2⟩:=h2
 rw[<-dM (Nat.le_of_lt hi)] at e1
 rw[<-dM (by omega)] at f1
 unfold iA
 have p1:gP ops i ei=some bi:=by unfold gP;rw[ho1];simp only[hop1,e2]
 have p2:gP ops (ops.size - 1) en=some bn:=by unfold gP;rw[ho2];simp only[hop2,f2]
 simp only[e1,f1,p1,p2]
 cases hq:Nat.beq bi bn with
 |false=>rfl
 |true=>exact absurd (Nat.eq_of_beq_eq_true hq) hne
theorem wO{id:Nat}{ops:Array Oper}(i:Nat)(hL:jo prims L)(hi:Nat.blt i ops.size=true)(hok:rY ops i=true)(hd:mF (dE ops i (ops.size - 1)) (zu P (dE ops i (ops.size - 1)) L) []=true)
 (hat:iA P G (whole P G prims) ops e h i=true) (hr:cz P G (whole P G prims) ops ops.toList e h (rh Q)):Run (whole P G prims) (.region id ops true) e h Q:=by
 have hi:i<ops.size:=by simpa [Nat.blt_eq] using hi
 have hr':=hr
 obtain⟨o,en,hn,h1,h2⟩:=hr'
 cases o with
 |normal=>
  have hall:br P G (whole P G prims) (dE ops i (ops.size - 1)) (List.range (dE ops i (ops.size - 1)).size) e h=some (.normal,en,hn):=by
   rw[dK,gf,dM (Nat.le_refl _),<-Array.length_toList,List.take_length];exact h1
  exact run_draw_stores (stores_of hi hok hat (sD hd (fun k hk=>tE hL hall (List.mem_filter.1 hk).2) (fun p hp=>nomatch hp))) hr
 |_=>exact h2.elim
theorem Hw{Post:Bool->ae->Prop}{H:ae}{l:Nat}{rec:bE}{args:List AV}(hr:H.loops[l]?=some rec)(hs:rec.params.size=args.length)(hst:rec.state= .ready)(hp:rec.pending=none)
 (ha:Run (whole P G prims) rec.assign (dD l rec args) H (fun o e1 h1=>o= .normal/\h1=H/\Run (whole P G prims) rec.body e1 (H.busy l rec) (fun o _ h2=>h2.loops[l]?=some {rec with state:= .busy}/\
  ((o= .normal/\Post true (h2.bh l rec))∨(o= .ret/\Post false (h2.bh l {rec with state:= .done,pending:=some .ret})))))):
 ∃b H',(whole P G prims).round l args H=some (.ret (.v (.bool b)),H')/\Post b H':=by
 obtain⟨o,e1,h1,q1,rfl,rfl,o2,e2,h2,q2,q3,q4⟩:=ha
 have hrec:{rec with state:=LoopState.ready,pending:=none}=rec:=by
  cases rec;cases hst;cases hp;rfl
 rcases q4 with⟨rfl,q4⟩|⟨rfl,q4⟩
 ·refine⟨true,_,jT hr hs ⟨_,e1,h1,q1,rfl,rec,hr,hst,.normal,e2,h2,q2,{rec with state:= .busy},q3,rfl,rfl⟩,?_⟩
  show Post true (h2.bh l {rec with state:=LoopState.ready,pending:=none})
  rw[hrec];exact q4
 ·exact⟨false,_,jT hr hs ⟨_,e1,h1,q1,rfl,rec,hr,hst,.ret,e2,h2,q2,{rec with state:= .busy},q3,rfl,rfl⟩,q4⟩
end
end Go.AE
end
section
namespace Go.Proofs.YtnfciiiohoafaaaGreatDoor
open Go.AE Go.NT
theorem Tk(ep:Int)(k1 k2 k3 k4 k5:Tok)(s1 s2 s3 s4 s5:Nat)(e1 e2 e3 e4 e5:List (List AV)):
 fj Tryz.prog 98 [(0,.agg (cI ep (.list k1 s1 e1) (.list k2 s2 e2) (.list k3 s3 e3))),(1,.list k4 s4 e4),(2,.list k5 s5 e5),(4,.agg (cE 3 0 [] .nil 0 []))]=some (.agg (dQ ep (.list k1 s1 e1) (.list k2 s2 e2) (.list k3 s3 e3) (.list k4 s4 e4) (.list k5 s5 e5) (.list .nil 0 []) (.list .nil 0 []) 0 0)):=kZq
def BL(x:AV)(b:List UInt8):Prop:=∃k s,x= .list k s (u8s b)/\(b≠[]->s=1)
theorem M8(b:List UInt8):(u8s b).length=b.length:=List.length_map _
theorem BL.cH{x:AV}{b:List UInt8}(h:BL x b):cH Tryz.prog 28 x=some (.v (.int .i64 (b.length:Nat))):=by
 obtain⟨k,s,rfl,-⟩:=h
 have u28:=Tryz.underlying28
 unfold Go.AE.cH
 rw[u28]
 simp only[M8]
theorem PL.ix{x:AV}{l:List Pr}(h:PL x l){i:Nat}(hi:i<l.length):ay Tryz.prog 29 x (.v (.int .i64 (i:Nat)))=some (.elem 4 (eR l) i 0):=by
 obtain⟨k,s,rfl,hs⟩:=h
 have hs1:s=4:=hs (by intro q;rw[q] at hi;simp at hi)
 subst hs1
 have:=al (k:=k) (kk:= .i64) (es:=eR l) (a:=((i:Nat):Int)) Tryz.underlying29 BN (by omega) (by rw[mX];omega)
 rw[this,Int.toNat_natCast]
theorem IL.ix{x:AV}{l:List Int}(h:IL x l){i:Nat}(hi:i<l.length):ay Tryz.prog 23 x (.v (.int .i64 (i:Nat)))=some (.elem 1 (ints l) i 0):=by
 obtain⟨k,s,rfl,hs⟩:=h
 have hs1:s=1:=hs (by intro q;rw[q] at hi;simp at hi)
 subst hs1
 have:=al (k:=k) (kk:= .i64) (es:=ints l) (a:=((i:Nat):Int)) Tryz.underlying23 sz3 (by omega) (by rw[aU];omega)
 rw[this,Int.toNat_natCast]
structure BI(h H:ae)(ep:Int)(X Y C T L:AV)(kb c:Nat)(cur:AV)(vs:List Vl)(t:Tok):Prop where
 ext:Ext h H
 ok:aZ H=true
 can:bG h.tn H t
 key:H.boxes[kb]?=some (cI ep X Y C)
 work:H.boxes[c]?=some (dQ ep X Y C T L (.list .nil 0 []) cur 0 0)
 la:LAt H c (c+1) cur vs
 lo:h.boxes.length<=kb
 lt:kb<c
theorem BI.push{h H:ae}{ep:Int}{X Y C T L:AV}{kb c:Nat}{cur:AV}{vs:List Vl}{t:Tok}(b:BI h H ep X Y C T L kb c cur vs t)(cs:List AV):BI h (H.push cs) ep X Y C T L kb c cur vs t:=by
 refine⟨b.ext.trans (.push _ _),b.ok,by rw[ij];exact b.can,aj b.key,aj b.work,?_,b.lo,b.lt⟩
 rcases b.la with q|⟨q,x,rows,q1,q2,q3⟩
 ·exact .inl q
 ·exact .inr ⟨q,x,rows,q1,aj q2,q3⟩
theorem BI.app{h H:ae}{ep:Int}{X Y C T L:AV}{kb c:Nat}{cur:AV}{vs:List Vl}{t:Tok}(b:BI h H ep X Y C T L kb c cur vs t):BI h (H.app t) ep X Y C T L kb c cur vs (.free H.tn):=by
 have gr:=Grown.one b.can b.ok b.ext.tn
 refine⟨gr.ext b.ext (Nat.le_refl _),gr.ok,gr.can,by rw[aT];exact b.key,by rw[aT];exact b.work,?_,b.lo,b.lt⟩
 rcases b.la with q|⟨q,x,rows,q1,q2,q3⟩
 ·exact .inl q
 ·exact .inr ⟨q,x,rows,q1,by rw[aT];exact q2,q3⟩
theorem BI.clt{h H:ae}{ep:Int}{X Y C T L:AV}{kb c:Nat}{cur:AV}{vs:List Vl}{t:Tok}(b:BI h H ep X Y C T L kb c cur vs t):c<H.boxes.length:=(List.getElem?_eq_some_iff.1 b.work).1
theorem R0{H:ae}{c:Nat}{ep:Int}{X Y C T L Wt cur x:AV}{pt ch:Int}(hb:H.boxes[c]?=some (dQ ep X Y C T L Wt cur pt ch))(hx:x.aC=some [x]):aA Tryz.prog H 94 (.ptr (.box c) 10) x=some (H.put c (dQ ep X Y C T L Wt x pt ch)):=
 aW (off:=10) (cs:=dQ ep X Y C T L Wt cur pt ch) (xs:=[x]) hx kZq hb rfl (Nat.le_of_ble_eq_true rfl)
theorem R1{H:ae}{c:Nat}{ep:Int}{X Y C T L Wt cur x:AV}{pt ch:Int}(hb:H.boxes[c]?=some (dQ ep X Y C T L Wt cur pt ch))(hx:x.aC=some [x]):aA Tryz.prog H 23 (.ptr (.box c) 6) x=some (H.put c (dQ ep X Y C T L x cur pt ch)):=
 aW (off:=6) (cs:=dQ ep X Y C T L Wt cur pt ch) (xs:=[x]) hx jC hb rfl (Nat.le_of_ble_eq_true rfl)
theorem Tl{H:ae}{c:Nat}{ep:Int}{X Y C T L Wt cur:AV}{pt ch n:Int}(hb:H.boxes[c]?=some (dQ ep X Y C T L Wt cur pt ch)):aA Tryz.prog H 3 (.ptr (.box c) 11) (.v (.int .i64 n))=some (H.put c (dQ ep X Y C T L Wt cur n ch)):=
 aW (off:=11) (cs:=dQ ep X Y C T L Wt cur pt ch) (xs:=[.v (.int .i64 n)]) rfl sz3 hb rfl (Nat.le_of_ble_eq_true rfl)
theorem Tm{H:ae}{c:Nat}{ep:Int}{X Y C T L Wt cur:AV}{pt ch n:Int}(hb:H.boxes[c]?=some (dQ ep X Y C T L Wt cur pt ch)):aA Tryz.prog H 3 (.ptr (.box c) 12) (.v (.int .i64 n))=some (H.put c (dQ ep X Y C T L Wt cur pt n)):=
 aW (off:=12) (cs:=dQ ep X Y C T L Wt cur pt ch) (xs:=[.v (.int .i64 n)]) rfl sz3 hb rfl (Nat.le_of_ble_eq_true rfl)
theorem blz:aN Tryz.prog 94 1 [(0,.agg [kK (Value.int .i64 0),kK (Value.int .i64 0),kK (Value.string (bs [])),kK (Value.slice none 0 0)])]=some (.list .tight 4 [rT]):=kZq
theorem BI.next{h H:ae}{ep:Int}{X Y C T L:AV}{kb c:Nat}{cur:AV}{vs:List Vl}{t:Tok}(b:BI h H ep X Y C T L kb c cur vs t)(hl:vs.length<1000000){v:Vl}{r:List AV}(hv:eo v r):
 ∃H2 cs,iX Tryz.prog H #[94,94] cur (.list .tight 4 [rT])=some (.arr H.boxes.length 0 (vs.length+1) (vs.length+1),H2)/\
  ay Tryz.prog 94 (.arr H.boxes.length 0 (vs.length+1) (vs.length+1)) (.v (.int .i64 (vs.length:Nat)))=some (.ptr (.box H.boxes.length) (vs.length * 4))/\
  aA Tryz.prog H2 96 (.ptr (.box H.boxes.length) (vs.length * 4)) (.agg r)=some (H2.put H.boxes.length cs)/\
  aA Tryz.prog (H2.put H.boxes.length cs) 94 (.ptr (.box c) 10) (.arr H.boxes.length 0 (vs.length+1) (vs.length+1))=some ((H2.put H.boxes.length cs).put c (dQ ep X Y C T L (.list .nil 0 []) (.arr H.boxes.length 0 (vs.length+1) (vs.length+1)) 0 0))/\
  BI h ((H2.put H.boxes.length cs).put c (dQ ep X Y C T L (.list .nil 0 []) (.arr H.boxes.length 0 (vs.length+1) (vs.length+1)) 0 0)) ep X Y C T L kb c (.arr H.boxes.length 0 (vs.length+1) (vs.length+1)) (vs++[v]) t:=by
 have hc:=b.clt
 have hlo:=b.lo
 have hlt:=b.lt
 obtain⟨H2,q1,q2,q3,q4,q5,q6,q7,cs,q8,q9⟩:=b.la.more b.ext (by omega) hc (by omega) hl hv
 have hw:(H2.put H.boxes.length cs).boxes[c]?=some (dQ ep X Y C T L (.list .nil 0 []) cur 0 0):=by rw[av (by omega)];exact q7 c _ b.work (.inr rfl)
 have hk:((H2.put H.boxes.length cs).put c (dQ ep X Y C T L (.list .nil 0 []) (.arr H.boxes.length 0 (vs.length+1) (vs.length+1)) 0 0)).boxes[kb]?=some (cI ep X Y C):=by
  rw[av (by omega),av (by omega)];exact q7 kb _ b.key (.inl (by omega))
 refine⟨H2,cs,q1,q6,q8,R0 hw rfl,(q5.bZ (by have:=b.ext.len;omega) _).bZ (by omega) _,?_,?_,hk,aS (by rw[dU];omega),?_,hlo,hlt⟩
 ·have:=b.ok
  unfold aZ at *
  show H2.dead.all (fun n=>decide (n<H2.tn))=true
  rw[q3,q4];exact this
 ·have:=b.can
  rw[jd,jd]
  rcases this with z|z|⟨m,z,z2,z3⟩
  ·exact .inl z
  ·exact .inr (.inl z)
  ·refine .inr (.inr ⟨m,z,z2,?_⟩)
   unfold alive at *
   rw[q3,q4];exact z3
 ·refine q9 _ ?_
  rw[av (by omega)]
  exact aS (by rw[q2];omega)
theorem zN(p:Pr)(h:∀x∈[p.ag,p.no,p.d,p.e],0<=x/\x<=4611686018427387903):∃r,eo p.val r/\∀H,W5.call 112 [.list .tight 1 [[.iface 3 (.v (.int .i64 p.ag))],[.iface 3 (.v (.int .i64 p.no))],[.iface 3 (.v (.int .i64 p.d))],[.iface 3 (.v (.int .i64 p.e))]]] H=some (.ret (.agg r),H):=by
 have:=Hn .tight 1 [.iface 3 (.v (.int .i64 p.ag)),.iface 3 (.v (.int .i64 p.no)),.iface 3 (.v (.int .i64 p.d)),.iface 3 (.v (.int .i64 p.e))] [.int p.ag,.int p.no,.int p.d,.int p.e]
  (.cons (.int _ (h _ (by simp))) (.cons (.int _ (h _ (by simp))) (.cons (.int _ (h _ (by simp))) (.cons (.int _ (h _ (by simp))) .nil)))) (fun _=>rfl) (by simp)
 simp only[List.map_cons,List.map_nil] at this
 exact this
end Go.Proofs.YtnfciiiohoafaaaGreatDoor
end
