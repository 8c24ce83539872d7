/-
  Part of the proof: PL.
-/
import Derived.Test.YtnfciiiohoafaaaGreatDoorPK
import Derived.Test.YtnfciiiohoafaaaGreatDoorPJ
set_option maxHeartbeats 64000000
set_option maxRecDepth 100000
set_option linter.unusedSimpArgs false
set_option linter.unusedVariables false
set_option linter.constructorNameAsVariable false
section
namespace Go.Proofs.YtnfciiiohoafaaaGreatDoor
open Go.AE Go.NT
structure GM(S:List Nat)(n0:Nat)(h h':ae)(t:Tok):Prop where
 mu:fi S n0 h h'
 can:bG n0 h' t
 ok:aZ h'=true
section
variable {S S':List Nat} {n0:Nat} {h h' h2:ae} {t k:Tok}
theorem ME(m:∀n,fi S n h h')(c:bG n0 h t):bG n0 h' t:=by
 rcases c with q|q|⟨i,q,q1,q2⟩
 ·exact .inl q
 ·exact .inr (.inl q)
 ·refine .inr (.inr ⟨i,q,q1,?_⟩)
  have hlt:=gG q2
  unfold alive at *
  simp only[Bool.and_eq_true,Bool.not_eq_true',List.contains_eq_mem,decide_eq_false_iff_not,decide_eq_true_eq] at *
  exact⟨Nat.lt_of_lt_of_le hlt (m 0).tn,fun hd=>q2.2 ((m (i+1)).dead i (Nat.lt_succ_self _) hd)⟩
theorem GM.then(g:GM S n0 h h' t)(m:∀n,fi S n h' h2):GM S n0 h h2 t:=⟨g.mu.trans (m n0),ME m g.can,(m 0).ok g.ok⟩
theorem GM.app(g:GM S n0 h h' t)(hn:n0<=h.tn):GM S n0 h (h'.app t) (.free h'.tn):=by
 have G:=Grown.one (n0:=n0) g.can g.ok (Nat.le_trans hn g.mu.tn)
 exact⟨g.mu.trans G.O0,G.can,G.ok⟩
theorem GM.refl(hk:bG n0 h t)(ho:aZ h=true):GM S n0 h h t:=⟨.refl,hk,ho⟩
end
theorem nT:Tryz.f180.results.toList=[.tmp 4]:=kZq
theorem Tab.swap{H:ae}{tb w i j bi bj:Nat}{B:List Nat}{t:List (List Int)}{a b:List Int}(T:Tab H tb B t w)(hi:B[i]?=some bi)(hj:B[j]?=some bj)(ha:t[i]?=some a)(hb:t[j]?=some b):
 Tab (H.put tb (((B.set i bj).set j bi).map fun b=>AV.arr b 0 w w)) tb ((B.set i bj).set j bi) ((t.set i b).set j a) w:=by
 have hil:=(List.getElem?_eq_some_iff.1 hi).1
 have hjl:=(List.getElem?_eq_some_iff.1 hj).1
 have hlt:=(List.getElem?_eq_some_iff.1 T.hdr).1
 have hperm:((B.set i bj).set j bi).Perm B:=by
  have q:=List.set_set_perm hil hjl
  rwa [show B[j]=bj from(List.getElem?_eq_some_iff.1 hj).2,show B[i]=bi from(List.getElem?_eq_some_iff.1 hi).2] at q
 have hmem:∀x,x∈(B.set i bj).set j bi->x∈B:=fun x hx=>hperm.mem_iff.1 hx
 refine⟨aS hlt,by simp[T.len],(hperm.nodup_iff).2 T.nd,fun k b' r hk hr=>?_,fun r hr=>?_,fun hx=>T.out (hmem _ hx)⟩
 ·have hne:b'≠tb:=fun e=>T.out (hmem _ (by rw[<-e];exact List.mem_of_getElem? hk))
  rw[av hne]
  rw[List.getElem?_set] at hk hr
  rw[List.length_set] at hk hr
  by_cases e1:j=k
  ·subst e1
   rw[if_pos rfl,if_pos hjl] at hk
   rw[if_pos rfl,if_pos (by rw[<-T.len];exact hjl)] at hr
   injection hk with hk;injection hr with hr
   subst hk;subst hr
   exact T.row i _ _ hi ha
  ·rw[if_neg e1] at hk hr
   rw[List.getElem?_set] at hk hr
   by_cases e2:i=k
   ·subst e2
    rw[if_pos rfl,if_pos hil] at hk
    rw[if_pos rfl,if_pos (by rw[<-T.len];exact hil)] at hr
    injection hk with hk;injection hr with hr
    subst hk;subst hr
    exact T.row j _ _ hj hb
   ·rw[if_neg e2] at hk hr
    exact T.row k _ _ hk hr
 ·rcases List.mem_or_eq_of_mem_set hr with q|q
  ·rcases List.mem_or_eq_of_mem_set q with q|q
   ·exact T.wid r q
   ·rw[q];exact T.wid _ (List.mem_of_getElem? hb)
  ·rw[q];exact T.wid _ (List.mem_of_getElem? ha)
theorem pQ(x:Int):aN Tryz.prog 23 1 [(0,.v (.int .i64 x))]=some (.list .tight 1 [[.v (.int .i64 x)]]):=kZq
theorem wI{H:ae}{k:Tok}{n0 sz:Nat}{es:List Int}{x:Int}(hl:es.length<1099511627776)(hs:sz=1∨(es=[]/\k= .nil))(hk:bG n0 H k):
 bP Tryz.prog H #[23,23] (.list k sz (ints es)) (.list .tight 1 [[.v (.int .i64 x)]])=some (.list (.free H.tn) 1 (ints (es++[x])),H.app k):=by
 obtain⟨i,q1,q2,q3,q4⟩:=in3
 have hb:=Nat.mul_le_mul (show es.length+1<=1099511627776 by omega) q3
 have:=lI (t0:=23) (t1:=23) (n0:=n0) (i:=i) (sz:=sz) (es:=ints es) (new:=ints [x]) (x:= .list .tight 1 (ints [x])) Tryz.underlying23 (.inl ⟨_,Tryz.underlying23⟩) q1 (by omega) (by rw[q2];exact q4) (by rw[q2];rfl) (by simp[ints])
  (by simp only[ints,List.length_map,List.length_cons,List.length_nil,Nat.zero_add];omega) (by simp only[ints,List.length_map,List.length_cons,List.length_nil];omega) (hs.imp (fun q=>q.trans q2.symm) fun q=>⟨by rw[q.1];rfl,q.2⟩) hk
 rw[q2] at this
 unfold ints at *
 rw[List.map_append]
 exact this
theorem NH{H:ae}{b k x w:Nat}{B:List Nat}(hb:H.boxes[b]?=some (B.map fun b=>AV.arr b 0 w w))(hk:k<B.length):aA Tryz.prog H 23 (.ptr (.box b) k) (.arr x 0 w w)=some (H.put b ((B.set k x).map fun b=>AV.arr b 0 w w)):=by
 rw[aW (xs:=[AV.arr x 0 w w]) rfl jC hb rfl (by rw[List.length_map];exact hk)]
 congr 2
 unfold bI
 rw[List.map_set,List.set_eq_take_append_cons_drop,if_pos (by rw[List.length_map];exact hk)]
 simp
theorem GY{n:Int}{a b:List Int}:∀x∈fH n a b,okF x:=by
 intro x hx
 unfold fH at hx
 obtain⟨i,hi,rfl⟩:=List.getElem_of_mem hx
 rw[List.getElem_zipWith]
 exact mJ _
theorem DI{c:Nat}{a own:List Int}(h:∀x∈a,okF x):∀x∈lE c a own,okF x:=by
 intro x hx
 unfold lE at hx
 split at hx
 ·exact h x hx
 ·rcases List.mem_append.1 hx with q|q
  ·exact h x (List.mem_of_mem_take q)
  ·exact GY x q
theorem DJ{c:Nat}{a:List Int}{n:Int}(h:∀x∈a,okF x):∀x∈da c a n,okF x:=by
 intro x hx
 unfold da at hx
 rcases List.mem_append.1 hx with q|q
 ·exact h x (List.mem_of_mem_take q)
 ·obtain⟨y,-,rfl⟩:=List.mem_map.1 q
  exact ru _ _
theorem J6{c r j:Nat}{own:List Int}{t:List (List Int)}(h:∀a∈t,∀x∈a,okF x):∀a∈pP c own r j t,∀x∈a,okF x:=by
 intro a ha
 obtain⟨i,hi⟩:=List.getElem?_of_mem ha
 rw[gJ] at hi
 cases q:t[i]? with
 |none=>rw[q] at hi;cases hi
 |some y=>
  rw[q,Option.map_some] at hi
  injection hi with hi
  have hy:=h y (List.mem_of_getElem? q)
  rw[<-hi]
  split
  ·exact DI hy
  ·exact hy
theorem vH{c:Nat}{a:List Int}{n:Int}(hc:c<=a.length):(da c a n).length=a.length:=by
 unfold da;rw[List.length_append,List.length_map,List.length_take,List.length_drop];omega
def pvI(pv:List Nat):List Int:=pv.map fun(p:Nat)=>(p:Int)
def qF(t:List (List Int))(c:Nat):List (List Int) × List Nat:=(List.range c).foldl pZ (t,[])
theorem xI(t:List (List Int))(c:Nat):qF t (c+1)=pZ (qF t c) c:=by
 unfold qF
 rw[List.range_succ,List.foldl_append]
 rfl
theorem ED{t:List (List Int)}{w:Nat}(hl:∀a∈t,a.length=w)(ho:∀a∈t,∀x∈a,okF x):∀c,c<=w->rv w c (qF t c)/\(qF t c).1.length=t.length/\(qF t c).2.length<=t.length:=by
 intro c
 induction c with
 |zero=>exact fun _=>⟨⟨hl,ho,fun _ _ _ _ j hj=>by omega⟩,rfl,Nat.zero_le _⟩
 |succ c ih=>
  intro hc
  obtain⟨i1,i2,i3⟩:=ih (by omega)
  rw[xI]
  refine⟨by rw[xn i1 (by omega)];exact qx i1 (by omega),?_⟩
  unfold pZ
  cases hf:lF (qF t c).1 (qF t c).2.length c with
  |none=>exact⟨i2,i3⟩
  |some k=>
   obtain⟨k1,k2,k3⟩:=jf hf
   refine⟨by simp[i2],?_⟩
   simp only[List.length_append,List.length_cons,List.length_nil]
   omega
theorem zA(pv:List Nat):(ints (pvI pv)).length=pv.length:=by unfold ints pvI;simp
theorem Br(t:List (List Int))(many:Nat):pj t many=qF t many:=rfl
theorem GZ(h:ae)(tb:Nat)(B:List Nat)(t:List (List Int))(w many:Nat)(T:Tab h tb B t w)(hm:many<=w)(hw:w<=1000000)(hn:t.length<=1000000)(hok:∀r∈t,∀x∈r,okF x)(ho:aZ h=true):
 ∃r h',W2.call 180 [.arr tb 0 t.length t.length,im (many:Nat)] h=some (r,h')/\∃(k:Tok) (s:Nat) (B':List Nat),r= .ret (.list k s (ints (pvI (pj t many).2)))/\(s=1∨(pvI (pj t many).2=[]/\k= .nil))/\Tab h' tb B' (pj t many).1 w/\B'.Perm B/\GM (tb::B) h.tn h h' k:=by
 have kT:=ah.mk T
 have kok:=ah.mk hok
 have kBl:ah (∀b∈B,b<h.boxes.length):=⟨fun b hb=>by
  obtain⟨i,hi⟩:=List.getElem?_of_mem hb
  have hil:=(List.getElem?_eq_some_iff.1 hi).1
  exact(List.getElem?_eq_some_iff.1 (T.row i b _ hi (List.getElem?_eq_getElem (by rw[<-T.len];exact hil)))).1⟩
 have z3:=zc3
 have bx1:∀b n m:Nat,(AV.arr b 0 n m).aC=some [.arr b 0 n m]:=fun _ _ _=>rfl
 have bx2:∀n:Int,(AV.v (.int .i64 n)).aC=some [.v (.int .i64 n)]:=fun _=>rfl
 have g0:GM (tb::B) h.tn h (h.push [.arr tb 0 t.length t.length]) .nil:=⟨fi.refl.push _,.inl rfl,ho⟩
 have T0:Tab (h.push [.arr tb 0 t.length t.length]) tb B t w:=T.mono fun _ _ q=>aj q
 have p0:(h.push [.arr tb 0 t.length t.length]).boxes[h.boxes.length]?=some [.arr tb 0 t.length t.length]:=ak _ _
 have r0:rv w 0 (qF t 0):=⟨T.wid,hok,fun _ _ _ _ _ q=>absurd q (Nat.not_lt_zero _)⟩
 have kk:=ah.mk (And.intro g0 (And.intro T0 (And.intro p0 r0)))
 clear g0 T0 p0 r0 T hok ho
 unfold im at *
 refine aL rfl Tryz.func180 rfl ?_
 repeat' (first|simp(maxSteps:=999999) (disch:=first|exact dZ|fail) only[gW,reduceIte,Nat.reduceEqDiff,beq_self_eq_true,nT,aw, *] | (refine dX ?_ ?_<;>(intro _;try omega)))
 refine Run.gen fun e0 he0 hd0 hp0 hr0=>?_
 have q2:e0.get 2= .ptr (.box h.boxes.length) 0:=by rw[he0];exact gS
 have q4:e0.get 4= .list .nil 0 (ints (pvI [])):=by rw[he0];exact gR
 have q13:e0.get 13= .v (.int .i64 (many:Nat)):=by rw[he0];exact gS
 have q14:e0.get 14= .v (.int .i64 (0:Nat)):=by rw[he0];exact gR
 have qd:e0.defers=[]:=by rw[hd0];exact gS
 clear he0 hd0 hp0 hr0
 refine aD (fun m e H=>∃(c:Nat) (B':List Nat) (k:Tok) (s:Nat),c<=many/\m=many - c/\Tab H tb B' (qF t c).1 w/\B'.Perm B/\H.boxes[h.boxes.length]?=some [.arr tb 0 t.length t.length]/\e.get 2= .ptr (.box h.boxes.length) 0/\e.get 4= .list k s (ints (pvI (qF t c).2))/\(s=1∨(pvI (qF t c).2=[]/\k= .nil))/\e.get 13= .v (.int .i64 (many:Nat))/\e.get 14= .v (.int .i64 (c:Nat))/\e.defers=[]/\GM (tb::B) h.tn h H k) ?_ many _ _ ?_
 rotate_left 1
 ·exact⟨0,B,.nil,0,Nat.zero_le _,rfl,kk.out.2.1,.refl _,kk.out.2.2.1,q2,q4,.inr ⟨rfl,rfl⟩,q13,q14,qd,kk.out.1⟩
 clear kk q2 q4 q13 q14 qd
 rintro m e H ⟨c,B',tk,s,hc,rfl,T',hP,hb2,g2,g4,hs,g13,g14,hd,hG⟩
 have kT':=ah.mk T'
 have kP:=ah.mk hP
 have ks:=ah.mk hs
 have kG:=ah.mk hG
 obtain⟨R,i2,i3⟩:=ED kT.out.wid kok.out c (by omega)
 have kR:=ah.mk R
 clear T' hP hG R
 by_cases hlt:c<many
 rotate_left 1
 ·have:c=many:=by omega
  subst this
  clear hb2 i2 i3 hs
  repeat' (first|simp(maxSteps:=999999) (disch:=first|exact dZ|fail) only[gW,reduceIte,Nat.reduceEqDiff,beq_self_eq_true,nT, *] | (refine dX ?_ ?_<;>(intro _;try omega)))
  refine⟨_,_,rfl,tk,s,B',?_⟩
  rw[Br]
  exact⟨rfl,ks.out,kT'.out,kP.out,kG.out⟩
 have rS:=xI t c
 generalize hst:qF t c=st at *
 obtain⟨t',pv⟩:=st
 dsimp only at *
 have hrl:=zA pv
 have u23:=Tryz.underlying23
 have u203:=Tryz.underlying203
 have s0:∀n,aA Tryz.prog (H.push [.v (.int .i64 0)]) 3 (.ptr (.box H.boxes.length) 0) (.v (.int .i64 n))=some (H.push [.v (.int .i64 n)]):=fun n=>cQ rfl sz3 rfl rfl
 have l0:∀n,ai Tryz.prog Gt (H.push [.v (.int .i64 n)]) 3 (.ptr (.box H.boxes.length) 0)=some (.v (.int .i64 n)):=fun n=>ld3 (ak _ _)
 repeat' (first|simp(maxSteps:=999999) (disch:=first|exact dZ|fail) only[gW,reduceIte,Nat.reduceEqDiff,beq_self_eq_true,nT,aw, *] | (refine dX ?_ ?_<;>(intro _;try omega)))
 refine Run.gen fun e0 he0 hd0 hp0 hr0=>?_
 have f2:e0.get 2= .ptr (.box h.boxes.length) 0:=by rw[he0];simp only[gW,reduceIte,Nat.reduceEqDiff,beq_self_eq_true,g2]
 have f4:e0.get 4= .list tk s (ints (pvI pv)):=by rw[he0];simp only[gW,reduceIte,Nat.reduceEqDiff,beq_self_eq_true,g4]
 have f5:e0.get 5= .v (.int .i64 (c:Nat)):=by rw[he0];simp only[gW,reduceIte,Nat.reduceEqDiff,beq_self_eq_true,g14]
 have f6:e0.get 6= .ptr (.box H.boxes.length) 0:=by rw[he0];exact gS
 have f7:e0.get 7= .v (.int .i64 (pv.length:Nat)):=by rw[he0];exact gS
 have f13:e0.get 13= .v (.int .i64 (many:Nat)):=by rw[he0];simp only[gW,reduceIte,Nat.reduceEqDiff,beq_self_eq_true,g13]
 have f14:e0.get 14= .v (.int .i64 (c:Nat)):=by rw[he0];simp only[gW,reduceIte,Nat.reduceEqDiff,beq_self_eq_true,g14]
 have fd:e0.defers=[]:=by rw[hd0];simp only[gW,reduceIte,Nat.reduceEqDiff,beq_self_eq_true];exact hd
 clear he0 hd0 hp0 hr0 g2 g4 g13 g14 hd
 have T2:Tab (H.push [.v (.int .i64 (pv.length:Nat))]) tb B' t' w:=kT'.out.mono fun _ _ q=>aj q
 have G2:GM (tb::B) h.tn h (H.push [.v (.int .i64 (pv.length:Nat))]) tk:=kG.out.then fun _=>fi.refl.push _
 have b2:(H.push [.v (.int .i64 (pv.length:Nat))]).boxes[h.boxes.length]?=some [.arr tb 0 t.length t.length]:=aj hb2
 have b3:(H.push [.v (.int .i64 (pv.length:Nat))]).boxes[H.boxes.length]?=some [.v (.int .i64 (pv.length:Nat))]:=ak _ _
 have hHl:(H.push [.v (.int .i64 (pv.length:Nat))]).boxes.length=H.boxes.length+1:=az _ _
 have hhl:h.boxes.length<H.boxes.length:=(List.getElem?_eq_some_iff.1 hb2).1
 generalize H.push [.v (.int .i64 (pv.length:Nat))]=H2 at *
 clear kT' kG s0 l0 hb2
 have kT2:=ah.mk T2
 have kG2:=ah.mk G2
 have kl:=ah.mk hHl
 have l2:=qa b2
 have l3:=ld3 b3
 have kb2:=ah.mk b2
 have kb3:=ah.mk b3
 clear T2 G2 hHl b2 b3
 generalize hHn:H.boxes.length=hl at *
 clear hHn
 refine aD (fun m e H3=>∃j:Nat,pv.length<=j/\j<=t.length/\m=t.length - j/\ah (∀k,pv.length<=k->k<j->at0 (t'.getD k []) c=0)/\e.get 2= .ptr (.box h.boxes.length) 0/\e.get 4= .list tk s (ints (pvI pv))/\e.get 5= .v (.int .i64 (c:Nat))/\e.get 6= .ptr (.box hl) 0/\e.get 7= .v (.int .i64 (j:Nat))/\e.get 13= .v (.int .i64 (many:Nat))/\e.get 14= .v (.int .i64 (c:Nat))/\e.defers=[]/\H3=H2) ?_ (t.length - pv.length) _ _ ?_
 rotate_left 1
 ·exact⟨pv.length,Nat.le_refl _,i3,rfl,⟨fun k h1 h2=>absurd h1 (by omega)⟩,f2,f4,f5,f6,f7,f13,f14,fd,rfl⟩
 clear f2 f4 f5 f6 f7 f13 f14 fd
 rintro m e3 H2 ⟨j,hj1,hj2,rfl,kz,g2,g4,g5,g6,g7,g13,g14,hd,rfl⟩
 by_cases hjl:j<t.length
 rotate_left 1
 ·have hje:j=t.length:=by omega
  subst hje
  have hfs:=xD (t:=t') (c:=c) hj1 (by omega) kz.out (fun q=>absurd q (by omega))
  rw[if_pos (by omega)] at hfs
  have hst:qF t (c+1)=(t',pv):=by rw[rS];unfold pZ;simp only[hfs]
  have khst:=ah.mk hst
  clear hfs hst rS
  repeat' (first|simp(maxSteps:=999999) (disch:=first|exact dZ|fail) only[gW,reduceIte,Nat.reduceEqDiff,beq_self_eq_true,nT, *] | (refine dX ?_ ?_<;>(intro _;try omega)))
  refine⟨many - (c+1),by omega,c+1,B',tk,s,by omega,rfl,?_⟩
  rw[khst.out]
  exact⟨kT2.out,kP.out,kb2.out,trivial,rfl,ks.out,trivial,by simp,trivial,kG2.out⟩
 obtain⟨b,hb⟩:∃b,t'[j]?=some b:=⟨_,List.getElem?_eq_getElem (by omega)⟩
 obtain⟨bj,hbj⟩:∃b,B'[j]?=some b:=⟨_,List.getElem?_eq_getElem (by rw[kT2.out.len];omega)⟩
 have wb:=kT2.out.wid b (List.mem_of_getElem? hb)
 have hrow:=kT2.out.row j bj b hbj hb
 have ixj:=xH (b:=tb) (len:=t.length) (cap:=t.length) (k:= .i64) hjl
 have ixc:=vE (b:=bj) (len:=w) (cap:=w) (k:= .i64) (show c<w by omega)
 have hdj:(B'.map fun b=>AV.arr b 0 w w)[j]?=some (.arr bj 0 w w):=by rw[List.getElem?_map,hbj];rfl
 have m1:=oQ kT2.out.hdr hdj
 have m2:=ldc hrow (gv (k:=c) (by omega))
 have gDj:t'.getD j []=b:=by rw[List.getD_eq_getElem?_getD,hb];rfl
 have khr:=ah.mk hrow
 clear hrow
 by_cases hzero:at0 b c=0
 ·have hz2:∀k,pv.length<=k->k<j+1->at0 (t'.getD k []) c=0:=by
   intro k h1 h2
   rcases Nat.lt_or_ge k j with q|q
   ·exact kz.out k h1 q
   ·rw[show k=j by omega,gDj];exact hzero
  have kz2:=ah.mk hz2
  rw[hzero] at m2
  clear hz2 kz gDj hzero hdj rS
  unfold im at *
  repeat' (first|simp(maxSteps:=999999) (disch:=first|exact dZ|fail) only[gW,reduceIte,Nat.reduceEqDiff,beq_self_eq_true,nT, *] | (refine dX ?_ ?_<;>(intro _;try omega)))
  exact⟨t.length - (j+1),by omega,j+1,by omega,by omega,rfl,kz2,trivial,trivial,trivial,trivial,by simp,trivial,trivial,trivial,trivial⟩
 have hfs:=xD (t:=t') (c:=c) hj1 (by omega) kz.out (fun _=>by rw[gDj];exact hzero)
 rw[if_neg (by omega)] at hfs
 obtain⟨o,ho⟩:∃b,t'[pv.length]?=some b:=⟨_,List.getElem?_eq_getElem (by omega)⟩
 obtain⟨bo,hbo⟩:∃b,B'[pv.length]?=some b:=⟨_,List.getElem?_eq_getElem (by rw[kT2.out.len];omega)⟩
 have hgo:=JA hfs hb ho
 rw[<-rS] at hgo
 have kgo:=ah.mk hgo
 have kne:=ah.mk hzero
 have okb:=kR.out.ok b (List.mem_of_getElem? hb)
 have nz:=nI (gU okb c)
 have ixr:=xH (b:=tb) (len:=t.length) (cap:=t.length) (k:= .i64) (show pv.length<t.length by omega)
 have hdo:(B'.map fun b=>AV.arr b 0 w w)[pv.length]?=some (.arr bo 0 w w):=by rw[List.getElem?_map,hbo];rfl
 have m3:=oQ kT2.out.hdr hdo
 have T3:=Tab.swap kT2.out hbo hbj ho hb
 have nb1:bj<h.boxes.length:=kBl.out bj (kP.out.mem_iff.1 (List.mem_of_getElem? hbj))
 have nb2:tb≠bj:=fun e=>kT2.out.out (by rw[e];exact List.mem_of_getElem? hbj)
 have htbl:=(List.getElem?_eq_some_iff.1 kT.out.hdr).1
 have hne1:h.boxes.length≠tb:=by omega
 have hne2:hl≠tb:=by omega
 have s1:=NH (w:=w) (x:=bj) (k:=pv.length) kT2.out.hdr (by rw[kT2.out.len];omega)
 have hd2:(H2.put tb ((B'.set pv.length bj).map fun b=>AV.arr b 0 w w)).boxes[tb]?=some ((B'.set pv.length bj).map fun b=>AV.arr b 0 w w):=aS (List.getElem?_eq_some_iff.1 kT2.out.hdr).1
 have s2:=NH (w:=w) (x:=bo) (k:=j) hd2 (by rw[List.length_set,kT2.out.len];omega)
 rw[uj] at s2
 have l2b:ai Tryz.prog Gt (H2.put tb ((B'.set pv.length bj).map fun b=>AV.arr b 0 w w)) 203 (.ptr (.box h.boxes.length) 0)=some (.arr tb 0 t.length t.length):=qa ((av hne1).trans kb2.out)
 have G3:GM (tb::B) h.tn h (H2.put tb (((B'.set pv.length bj).set j bo).map fun b=>AV.arr b 0 w w)) tk:=kG2.out.then fun _=> .put (List.mem_cons_self) _
 have b2:(H2.put tb (((B'.set pv.length bj).set j bo).map fun b=>AV.arr b 0 w w)).boxes[h.boxes.length]?=some [.arr tb 0 t.length t.length]:=(av hne1).trans kb2.out
 have b3:(H2.put tb (((B'.set pv.length bj).set j bo).map fun b=>AV.arr b 0 w w)).boxes[hl]?=some [.v (.int .i64 (pv.length:Nat))]:=(av hne2).trans kb3.out
 have hH3l:(H2.put tb (((B'.set pv.length bj).set j bo).map fun b=>AV.arr b 0 w w)).boxes.length=H2.boxes.length:=dU _ _ _
 have hP3:((B'.set pv.length bj).set j bo).Perm B:=by
  have q:=List.set_set_perm (List.getElem?_eq_some_iff.1 hbo).1 (List.getElem?_eq_some_iff.1 hbj).1
  rw[show B'[j]'(List.getElem?_eq_some_iff.1 hbj).1=bj from(List.getElem?_eq_some_iff.1 hbj).2,show B'[pv.length]'(List.getElem?_eq_some_iff.1 hbo).1=bo from(List.getElem?_eq_some_iff.1 hbo).2] at q
  exact q.trans kP.out
 have hB3:((B'.set pv.length bj).set j bo)[pv.length]?=some bj:=by
  rw[List.getElem?_set]
  by_cases q:j=pv.length
  ·rw[if_pos q,if_pos (by rw[List.length_set,kT2.out.len];omega)]
   rw[q,hbo] at hbj
   exact hbj
  ·rw[if_neg q,List.getElem?_set_self (List.getElem?_eq_some_iff.1 hbo).1]
 have ht3:((t'.set pv.length b).set j o)[pv.length]?=some b:=by
  rw[List.getElem?_set]
  by_cases q:j=pv.length
  ·rw[if_pos q,if_pos (by rw[List.length_set];omega)]
   rw[q,ho] at hb
   exact hb
  ·rw[if_neg q,List.getElem?_set_self (by omega)]
 have ht3l:((t'.set pv.length b).set j o).length=t.length:=by rw[List.length_set,List.length_set];exact i2
 have hok3:∀a∈(t'.set pv.length b).set j o,∀x∈a,okF x:=by
  intro a ha
  rcases List.mem_or_eq_of_mem_set ha with q|q
  ·rcases List.mem_or_eq_of_mem_set q with q|q
   ·exact kR.out.ok a q
   ·rw[q];exact okb
  ·rw[q];exact kR.out.ok o (List.mem_of_getElem? ho)
 have kok3:=ah.mk (And.intro hok3 (And.intro okb ht3l))
 clear hok3 ht3l
 generalize (t'.set pv.length b).set j o=t3 at *
 generalize (B'.set pv.length bj).set j bo=B3 at *
 obtain⟨H3,hH3⟩:∃H3,H2.put tb (B3.map fun b=>AV.arr b 0 w w)=H3:=⟨_,rfl⟩
 rw[hH3] at s2 T3 G3 b2 b3 hH3l
 have kP3:=ah.mk hP3
 clear hH3 hd2 hP3 hgo hfs kz gDj hb ho rS hst
 have l23:=qa b2
 have l33:=ld3 b3
 have hd3:(B3.map fun b=>AV.arr b 0 w w)[pv.length]?=some (.arr bj 0 w w):=by rw[List.getElem?_map,hB3];rfl
 have m13:=oQ T3.hdr hd3
 have hrow3:=T3.row pv.length bj b hB3 ht3
 have m23:=ldc hrow3 (gv (k:=c) (by omega))
 have hfz:fmod (at0 b c)=at0 b c:=ph (gU okb c)
 have ci:=fun h=>JX (at0 b c) h
 rw[hfz] at ci
 simp only[if_neg hzero] at ci
 have kokz:ah (0<=eZ (at0 b c)/\eZ (at0 b c)<=9223372036854775807):=⟨nI (AW _)⟩
 have hH3b:tb<H3.boxes.length:=(List.getElem?_eq_some_iff.1 T3.hdr).1
 have hbjl:bj<H3.boxes.length:=(List.getElem?_eq_some_iff.1 hrow3).1
 have hh3:h.boxes.length<H3.boxes.length:=(List.getElem?_eq_some_iff.1 b2).1
 have hhl3:hl<H3.boxes.length:=(List.getElem?_eq_some_iff.1 b3).1
 generalize hz:at0 b c=z at *
 have kfz:ah (okF (eZ z)):=⟨AW _⟩
 generalize hf:eZ z=fz at *
 have s5:aA Tryz.prog (H3.push [.v (.int .i64 0)]) 3 (.ptr (.box H3.boxes.length) 0) (.v (.int .i64 fz))=some (H3.push [.v (.int .i64 fz)]):=cQ rfl sz3 rfl rfl
 have T4:Tab (H3.push [.v (.int .i64 fz)]) tb B3 t3 w:=T3.mono fun _ _ q=>aj q
 have G4:GM (tb::B) h.tn h (H3.push [.v (.int .i64 fz)]) tk:=G3.then fun _=>fi.refl.push _
 have b24:(H3.push [.v (.int .i64 fz)]).boxes[h.boxes.length]?=some [.arr tb 0 t.length t.length]:=aj b2
 have b34:(H3.push [.v (.int .i64 fz)]).boxes[hl]?=some [.v (.int .i64 (pv.length:Nat))]:=aj b3
 have b44:(H3.push [.v (.int .i64 fz)]).boxes[H3.boxes.length]?=some [.v (.int .i64 fz)]:=ak _ _
 have hH4l:(H3.push [.v (.int .i64 fz)]).boxes.length=H3.boxes.length+1:=az _ _
 have kH3:=ah.mk hH3l
 obtain⟨H4,hH4⟩:∃H4,H3.push [.v (.int .i64 fz)]=H4:=⟨_,rfl⟩
 rw[hH4] at s5 T4 G4 b24 b34 b44 hH4l
 have l24:=qa b24
 have l34:=ld3 b34
 have m14:=oQ T4.hdr hd3
 have af:=Bq bj w c H4
 have kT4:=ah.mk T4
 have kG4:=ah.mk G4
 have kb4:=ah.mk (And.intro b24 (And.intro b34 (And.intro b44 (And.intro hH4l (And.intro hB3 ht3)))))
 unfold im at af m2 m23 ci
 clear hH4 T4 G4 b24 b34 b44 hH4l T3 G3 b2 b3 hH3l hrow3 hd3 hB3 ht3 hfz hdj hdo hbo hbj
 repeat' (first|simp(maxSteps:=999999) (disch:=first|exact dZ|fail) only[gW,reduceIte,Nat.reduceEqDiff,beq_self_eq_true,nT, *] | (refine dX ?_ ?_<;>(intro _;try omega)))
 refine bU [(2,13)] tH kZq (fun p hp=>?_) ?_
 ·simp only[List.mem_singleton] at hp
  subst hp
  refine dH (x:= .ptr (.box h.boxes.length) 0) (v:= .arr tb 0 t.length t.length) kZq rfl rfl rfl kZq (by simp[cB,gB]) ?_ ?_<;>(simp only[List.take_succ_cons,List.take_zero];repeat' (first|simp(maxSteps:=999999) (disch:=first|exact dZ|fail) only[gW,reduceIte,Nat.reduceEqDiff,beq_self_eq_true,nT,and_self, *] | (refine dX ?_ ?_<;>(intro _;try omega))))
 repeat' (first|simp(maxSteps:=999999) (disch:=first|exact dZ|fail) only[gW,reduceIte,Nat.reduceEqDiff,beq_self_eq_true,nT, *] | (refine dX ?_ ?_<;>(intro _;try omega)))
 refine Run.gen fun e4 he4 hd4 hp4 hr4=>?_
 have f2:e4.get 2= .ptr (.box h.boxes.length) 0:=by rw[he4];simp only[gW,reduceIte,Nat.reduceEqDiff,beq_self_eq_true];exact g2
 have f4:e4.get 4= .list tk s (ints (pvI pv)):=by rw[he4];simp only[gW,reduceIte,Nat.reduceEqDiff,beq_self_eq_true];exact g4
 have f5:e4.get 5= .v (.int .i64 (c:Nat)):=by rw[he4];simp only[gW,reduceIte,Nat.reduceEqDiff,beq_self_eq_true];exact g5
 have f6:e4.get 6= .ptr (.box hl) 0:=by rw[he4];simp only[gW,reduceIte,Nat.reduceEqDiff,beq_self_eq_true];exact g6
 have f8:e4.get 8= .ptr (.box H3.boxes.length) 0:=by rw[he4];exact gS
 have f13:e4.get 13= .v (.int .i64 (many:Nat)):=by rw[he4];simp only[gW,reduceIte,Nat.reduceEqDiff,beq_self_eq_true];exact g13
 have f14:e4.get 14= .v (.int .i64 (c:Nat)):=by rw[he4];simp only[gW,reduceIte,Nat.reduceEqDiff,beq_self_eq_true];exact g14
 have f70:e4.get 70= .func (.func 219) [] [.ptr (.box (H4.boxes.length+1)) 0,.ptr (.box H4.boxes.length) 0]:=by rw[he4];exact gS
 have fd:e4.defers=[]:=by rw[hd4];simp only[gW,reduceIte,Nat.reduceEqDiff,beq_self_eq_true];exact hd
 clear he4 hd4 hp4 hr4 g2 g4 g5 g6 g7 g13 g14 hd
 refine kD (by rw[lv];exact f70) fun rec w1 w2 w3 w4 w5 w6=>?_
 obtain⟨b24,b34,b44,hH4l,hB3,ht3⟩:=kb4.out
 have T5:Tab ((H4.push [.arr bj 0 w w]).push [.v (.int .i64 (c:Nat))]) tb B3 t3 w:=kT4.out.mono fun _ _ q=>aj (aj q)
 have G5:GM (tb::B) h.tn h ((H4.push [.arr bj 0 w w]).push [.v (.int .i64 (c:Nat))]) tk:=kG4.out.then fun _=>(fi.refl.push _).push _
 have b25:((H4.push [.arr bj 0 w w]).push [.v (.int .i64 (c:Nat))]).boxes[h.boxes.length]?=some [.arr tb 0 t.length t.length]:=aj (aj b24)
 have b35:((H4.push [.arr bj 0 w w]).push [.v (.int .i64 (c:Nat))]).boxes[hl]?=some [.v (.int .i64 (pv.length:Nat))]:=aj (aj b34)
 have b45:((H4.push [.arr bj 0 w w]).push [.v (.int .i64 (c:Nat))]).boxes[H3.boxes.length]?=some [.v (.int .i64 fz)]:=aj (aj b44)
 have b55:((H4.push [.arr bj 0 w w]).push [.v (.int .i64 (c:Nat))]).boxes[H4.boxes.length]?=some [.arr bj 0 w w]:=aj (ak _ _)
 have b65:((H4.push [.arr bj 0 w w]).push [.v (.int .i64 (c:Nat))]).boxes[H4.boxes.length+1]?=some [.v (.int .i64 (c:Nat))]:=cD (by rw[az])
 have hH5l:((H4.push [.arr bj 0 w w]).push [.v (.int .i64 (c:Nat))]).boxes.length=H4.boxes.length+2:=by rw[az,az]
 generalize (H4.push [.arr bj 0 w w]).push [.v (.int .i64 (c:Nat))]=H5 at *
 clear l2 l3 l23 l33 m1 m2 m3 m13 m23 ci s1 s2 l2b s5 l24 l34 m14 af kb4 kT4 kG4 kb2 kb3 kT2 kG2 khr
 have hrow:=T5.row pv.length bj b hB3 ht3
 have hbl:=(List.getElem?_eq_some_iff.1 hrow).1
 have hlr:(H5.loop rec).loops[H5.loops.length]?=some rec:=@kC H5 rec
 have I1:∀(k:Nat) (H:ae),H=(H5.loop rec).put bj ((mS (fun i=>cq (at0 b i) fz) b c k).map im)->H.boxes[H4.boxes.length+1]?=some [im (c:Nat)]/\H.boxes[H4.boxes.length]?=some [.arr bj 0 w w]/\(k<w->∃cs,H.boxes[bj]?=some cs/\cs[k]?=some (im (at0 b k))):=by
  rintro k H rfl
  refine⟨?_,?_,fun hk=>⟨_,aS hbl,?_⟩⟩
  ·rw[av (by omega)];exact b65
  ·rw[av (by omega)];exact b55
  ·have:=gv (r:=mS (fun i=>cq (at0 b i) fz) b c k) (k:=k) (by rw[gm];omega)
   rw[rO (by omega),if_neg (by omega)] at this
   exact this
 have I2:∀(k:Nat) (H:ae),c<=k->k<w->H=(H5.loop rec).put bj ((mS (fun i=>cq (at0 b i) fz) b c k).map im)->∃H',W2.round H5.loops.length [im (k:Nat),im (at0 b k)] H=some (.ret (.v (.bool true)),H')/\H'=(H5.loop rec).put bj ((mS (fun i=>cq (at0 b i) fz) b c (k+1)).map im):=by
  rintro k H hk1 hk2 rfl
  refine pC (Post:=fun H=>H=(H5.loop rec).put bj ((mS (fun i=>cq (at0 b i) fz) b c (k+1)).map im)) hlr (by rw[w2];rfl) w5 w6 ?_
  have kq:=GA (f:=fun i=>cq (at0 b i) fz) hk1 (show k<b.length by omega)
  have r1:∀t,(dD H5.loops.length rec [im (k:Nat),im (at0 b k)]).get t=if 72=t then im (at0 b k) else if 71=t then im (k:Nat) else e4.get t:=fun t=>jn w2 w1
  have d1:(dD H5.loops.length rec [im (k:Nat),im (at0 b k)]).defers=[]:=rfl
  obtain⟨K,hK⟩:∃K,((H5.loop rec).put bj ((mS (fun i=>cq (at0 b i) fz) b c k).map im)).busy H5.loops.length rec=K:=⟨_,rfl⟩
  rw[hK]
  have c1:K.boxes[bj]?=some ((mS (fun i=>cq (at0 b i) fz) b c k).map im):=by rw[<-hK];exact aS hbl
  have c2:K.boxes[h.boxes.length]?=some [.arr tb 0 t.length t.length]:=by rw[<-hK];exact(av (by omega)).trans b25
  have c3:K.boxes[hl]?=some [.v (.int .i64 (pv.length:Nat))]:=by rw[<-hK];exact(av (by omega)).trans b35
  have c4:K.boxes[H3.boxes.length]?=some [im fz]:=by rw[<-hK];exact(av (by omega)).trans b45
  have c5:K.boxes[tb]?=some (B3.map fun b=>AV.arr b 0 w w):=by rw[<-hK];exact(av nb2).trans T5.hdr
  have hd3:(B3.map fun b=>AV.arr b 0 w w)[pv.length]?=some (.arr bj 0 w w):=by rw[List.getElem?_map,hB3];rfl
  have m2:=qa c2
  have m3:=ld3 c3
  have m4:=ld3 c4
  have m5:=oQ c5 hd3
  have ixk:=vE (b:=bj) (len:=w) (cap:=w) (k:= .i64) hk2
  have sk:=J3 (r:=mS (fun i=>cq (at0 b i) fz) b c k) (k:=k) (x:=cq (at0 b k) fz) c1 (by rw[gm];omega)
  rw[kq] at sk
  have ok1:=nI (gU okb k)
  have f1:=fun h=>Pa (at0 b k) fz h
  clear hrow b25 b35 b45 b55 b65 T5 G5 c1 c2 c3 c4 c5 kq hd3 I1 okb f70 ixj ixc
  generalize cq (at0 b k) fz=z1 at *
  generalize at0 b k=z2 at *
  unfold im at *
  rw[w3,w4]
  repeat' (first|simp(maxSteps:=999999) (disch:=first|exact dZ|fail) only[gW,reduceIte,Nat.reduceEqDiff,beq_self_eq_true, *] | (refine dX ?_ ?_<;>(intro _;try omega)))
  refine⟨trivial,trivial,?_⟩
  refine Run.gen fun e2 he2 hd2 hp2 hro2=>?_
  have q2:e2.get 2= .ptr (.box h.boxes.length) 0:=by rw[he2];simp only[gW,reduceIte,Nat.reduceEqDiff,beq_self_eq_true,r1];exact f2
  have q6:e2.get 6= .ptr (.box hl) 0:=by rw[he2];simp only[gW,reduceIte,Nat.reduceEqDiff,beq_self_eq_true,r1];exact f6
  have q8:e2.get 8= .ptr (.box H3.boxes.length) 0:=by rw[he2];simp only[gW,reduceIte,Nat.reduceEqDiff,beq_self_eq_true,r1];exact f8
  have q10:e2.get 10= .v (.int .i64 k):=by rw[he2];simp only[gW,reduceIte,Nat.reduceEqDiff,beq_self_eq_true,r1]
  have q11:e2.get 11= .v (.int .i64 z2):=by rw[he2];simp only[gW,reduceIte,Nat.reduceEqDiff,beq_self_eq_true,r1]
  clear he2 hd2 hp2 hro2 r1 d1
  repeat' (first|simp(maxSteps:=999999) (disch:=first|exact dZ|fail) only[gW,reduceIte,Nat.reduceEqDiff,beq_self_eq_true, *] | (refine dX ?_ ?_<;>(intro _;try omega)) |refine bf tH kZq ?_)
  rw[<-hK]
  simp only[ae.put,ae.busy,ae.loop,List.set_set]
  exact⟨trivial,trivial,trivial⟩
 obtain⟨h',c1,c2⟩:=vG H5.loops.length (H4.boxes.length+1) H4.boxes.length bj w c b (fun k H=>H=(H5.loop rec).put bj ((mS (fun i=>cq (at0 b i) fz) b c k).map im)) I1 I2 (by omega) hw ((H5.loop rec).put bj ((mS (fun i=>cq (at0 b i) fz) b c c).map im)) rfl
 have e3:H5.loop rec=(H5.loop rec).put bj ((mS (fun i=>cq (at0 b i) fz) b c c).map im):=by
  rw[Gz];exact(ec (h:=H5.loop rec) hrow).symm
 rw[<-e3] at c1
 have e4':mS (fun i=>cq (at0 b i) fz) b c w=da c b fz:=by rw[<-wb];exact DC (by omega)
 rw[e4'] at c2
 subst c2
 clear e3 I1 I2 e4'
 refine⟨_,_,c1,rec,hlr,by rw[w5];decide,.inl ⟨w6,?_⟩⟩
 clear c1
 have hLh:h.loops.length<=H5.loops.length:=by
  have:=G5.mu.loop
  rcases Nat.lt_or_ge H5.loops.length h.loops.length with q|q
  ·have:=(List.getElem?_eq_some_iff.1 (this _ _ (List.getElem?_eq_getElem q))).1
   omega
  ·exact q
 have okt:=kok3.out
 have hbB:bj∈B:=kP3.out.mem_iff.1 (List.mem_of_getElem? hB3)
 have T6:Tab (((H5.loop rec).put bj ((da c b fz).map im)).bh H5.loops.length {rec with state:= .exhausted}) tb B3 (t3.set pv.length (da c b fz)) w:=by
  have q:=Tab.set (H:=H5.loop rec) (T5.mono fun _ _ q=>q) hB3 (r:=da c b fz) (by rw[vH (by omega)];exact wb)
  exact q.mono fun _ _ q=>q
 have G6:GM (tb::B) h.tn h (((H5.loop rec).put bj ((da c b fz).map im)).bh H5.loops.length {rec with state:= .exhausted}) tk:=⟨((G5.mu.lD rec).trans (.put (List.mem_cons_of_mem _ hbB) _)).bh hLh _,G5.can,G5.ok⟩
 have b26:(((H5.loop rec).put bj ((da c b fz).map im)).bh H5.loops.length {rec with state:= .exhausted}).boxes[h.boxes.length]?=some [.arr tb 0 t.length t.length]:=(av (by omega)).trans b25
 have b36:(((H5.loop rec).put bj ((da c b fz).map im)).bh H5.loops.length {rec with state:= .exhausted}).boxes[hl]?=some [.v (.int .i64 (pv.length:Nat))]:=(av (by omega)).trans b35
 have hq0:(t3.set pv.length (da c b fz))[pv.length]?=some (da c b fz):=List.getElem?_set_self (List.getElem?_eq_some_iff.1 ht3).1
 have ok4:∀a∈t3.set pv.length (da c b fz),∀x∈a,okF x:=by
  intro a ha
  rcases List.mem_or_eq_of_mem_set ha with q|q
  ·exact okt.1 a q
  ·rw[q];exact DJ okb
 have hl4:(t3.set pv.length (da c b fz)).length=t.length:=by rw[List.length_set];exact okt.2.2
 have hgo:=kgo.out
 rw[i2] at hgo
 have T7:Tab (((H5.loop rec).put bj ((da c b fz).map im)).bh H5.loops.length {rec with state:= .exhausted}) tb B3 (pP c (da c b fz) pv.length 0 (t3.set pv.length (da c b fz))) w:=by rw[GB];exact T6
 have hso:(da c b fz).length=w:=by rw[vH (by omega)];exact wb
 generalize (((H5.loop rec).put bj ((da c b fz).map im)).bh H5.loops.length {rec with state:= .exhausted})=H6 at *
 clear T6 hlr hrow b25 b35 b45 b55 b65 T5 G5 hH5l hbl w1 w2 w3 w4 w5 w6 hLh hB3 ht3 okt f70 f8 hH4l ixj ixr ixc
 have l26:=qa b26
 have l36:=ld3 b36
 generalize da c b fz=own at *
 generalize t3.set pv.length own=t4 at *
 have k7:=ah.mk (And.intro T7 (And.intro G6 (And.intro b26 b36)))
 have kok4:=ah.mk (And.intro ok4 (And.intro hq0 (And.intro hl4 hgo)))
 clear T7 G6 b26 b36 ok4 hq0 hgo okb kok3 hl4
 repeat' (first|simp(maxSteps:=999999) (disch:=first|exact dZ|fail) only[gW,reduceIte,Nat.reduceEqDiff,beq_self_eq_true,nT, *] | (refine dX ?_ ?_<;>(intro _;try omega)))
 refine Run.gen fun e5 he5 hd5 hp5 hr5=>?_
 have r2:e5.get 2= .ptr (.box h.boxes.length) 0:=by rw[he5];simp only[gW,reduceIte,Nat.reduceEqDiff,beq_self_eq_true];exact f2
 have r4:e5.get 4= .list tk s (ints (pvI pv)):=by rw[he5];simp only[gW,reduceIte,Nat.reduceEqDiff,beq_self_eq_true];exact f4
 have r5:e5.get 5= .v (.int .i64 (c:Nat)):=by rw[he5];simp only[gW,reduceIte,Nat.reduceEqDiff,beq_self_eq_true];exact f5
 have r6:e5.get 6= .ptr (.box hl) 0:=by rw[he5];simp only[gW,reduceIte,Nat.reduceEqDiff,beq_self_eq_true];exact f6
 have r13:e5.get 13= .v (.int .i64 (many:Nat)):=by rw[he5];simp only[gW,reduceIte,Nat.reduceEqDiff,beq_self_eq_true];exact f13
 have r14:e5.get 14= .v (.int .i64 (c:Nat)):=by rw[he5];simp only[gW,reduceIte,Nat.reduceEqDiff,beq_self_eq_true];exact f14
 have r83:e5.get 83= .v (.int .i64 (t.length:Nat)):=by rw[he5];exact gS
 have r84:e5.get 84= .v (.int .i64 (0:Nat)):=by rw[he5];exact gR
 have rd:e5.defers=[]:=by rw[hd5];simp only[gW,reduceIte,Nat.reduceEqDiff,beq_self_eq_true];exact fd
 clear he5 hd5 hp5 hr5 f2 f4 f5 f6 f13 f14 fd l26 l36
 refine aD (fun m e H=>∃i:Nat,i<=t.length/\m=t.length - i/\ah (Tab H tb B3 (pP c own pv.length i t4) w)/\ah (GM (tb::B) h.tn h H tk)/\ah (H.boxes[h.boxes.length]?=some [.arr tb 0 t.length t.length])/\ah (H.boxes[hl]?=some [.v (.int .i64 (pv.length:Nat))])/\e.get 2= .ptr (.box h.boxes.length) 0/\e.get 4= .list tk s (ints (pvI pv))/\e.get 5= .v (.int .i64 (c:Nat))/\e.get 6= .ptr (.box hl) 0/\e.get 13= .v (.int .i64 (many:Nat))/\e.get 14= .v (.int .i64 (c:Nat))/\e.get 83= .v (.int .i64 (t.length:Nat))/\e.get 84= .v (.int .i64 (i:Nat))/\e.defers=[]) ?_ t.length _ _ ?_
 rotate_left 1
 ·exact⟨0,Nat.zero_le _,rfl,⟨k7.out.1⟩,⟨k7.out.2.1⟩,⟨k7.out.2.2.1⟩,⟨k7.out.2.2.2⟩,r2,r4,r5,r6,r13,r14,r83,r84,rd⟩
 clear r2 r4 r5 r6 r13 r14 r83 r84 rd k7
 rintro m e6 K ⟨i,hi,rfl,kT7,kG7,kb7,kc7,g2,g4,g5,g6,g13,g14,g83,g84,hd⟩
 have l27:=qa kb7.out
 have l37:=ld3 kc7.out
 by_cases hit:i<t.length
 rotate_left 1
 ·have hie:i=t.length:=by omega
  subst hie
  have bl:=pQ (c:Int)
  have ap:=wI (x:=(c:Int)) (show(pvI pv).length<1099511627776 by unfold pvI;rw[List.length_map];omega) hs kG7.out.can
  repeat' (first|simp(maxSteps:=999999) (disch:=first|exact dZ|fail) only[gW,reduceIte,Nat.reduceEqDiff,beq_self_eq_true,nT, *] | (refine dX ?_ ?_<;>(intro _;try omega)))
  refine⟨many - (c+1),by omega,c+1,B3,.free K.tn,1,by omega,rfl,?_⟩
  rw[kok4.out.2.2.2]
  have hl4:=kok4.out.2.2.1
  rw[<-hl4] at kT7
  have ee:pvI (pv++[c])=pvI pv++[(c:Int)]:=by unfold pvI;simp
  dsimp only
  rw[ee]
  exact⟨by rw[<-hl4];exact kT7.out.mono fun _ _ q=>by rw[aT];exact q,kP3.out,by rw[aT];exact kb7.out,trivial,rfl,.inl rfl,trivial,by simp,trivial,kG7.out.app (Nat.le_refl _)⟩
 have hB3l:B3.length=t.length:=by rw[kT7.out.len,Bk];exact kok4.out.2.2.1
 by_cases hip:i=pv.length
 ·subst hip
  have T8:=kT7.out
  rw[<-GC] at T8
  have kT8:=ah.mk T8
  clear T8
  repeat' (first|simp(maxSteps:=999999) (disch:=first|exact dZ|fail) only[gW,reduceIte,Nat.reduceEqDiff,beq_self_eq_true,nT, *] | (refine dX ?_ ?_<;>(intro _;try omega)))
  exact⟨t.length - (pv.length+1),by omega,pv.length+1,by omega,rfl,kT8,trivial,trivial,trivial,trivial,trivial,trivial,trivial,trivial,trivial,trivial,by simp,trivial⟩
 ·obtain⟨a,ha⟩:∃a,t4[i]?=some a:=⟨_,List.getElem?_eq_getElem (by rw[kok4.out.2.2.1];exact hit)⟩
  obtain⟨K2,c1,c2,c3⟩:=J4 K tb B3 (pP c own pv.length i t4) w i pv.length c a own kT7.out (GD.trans ha) (Jz.trans kok4.out.2.1) hip (by omega) hw (J6 kok4.out.1)
  rw[GF ha hip] at c2
  rw[hB3l] at c1
  have cM:∀n0,fi (tb::B) n0 K K2:=fun n0=>(c3 n0).mono fun b hb=>List.mem_cons_of_mem _ (kP3.out.mem_iff.1 hb)
  have hbB:∀b∈B3,b<h.boxes.length:=fun b hb=>kBl.out b (kP3.out.mem_iff.1 hb)
  have kb8:=ah.mk ((c3 0).box _ _ (fun q=>absurd (hbB _ q) (by omega)) kb7.out)
  have kc8:=ah.mk ((c3 0).box _ _ (fun q=>absurd (hbB _ q) (by omega)) kc7.out)
  have kG8:=ah.mk (kG7.out.then cM)
  have kT8:=ah.mk c2
  have hipI:¬((i:Int)=(pv.length:Int)):=by omega
  clear c2 c3 cM hbB ha hB3l kT7 kG7 kb7 kc7
  unfold im at c1
  repeat' (first|simp(maxSteps:=999999) (disch:=first|exact dZ|fail) only[gW,reduceIte,Nat.reduceEqDiff,beq_self_eq_true,nT, *] | (refine dX ?_ ?_<;>(intro _;try omega)))
  exact⟨t.length - (i+1),by omega,i+1,by omega,rfl,kT8,trivial,trivial,trivial,trivial,trivial,trivial,trivial,trivial,trivial,trivial,by simp,trivial⟩
def IL(x:AV)(l:List Int):Prop:=∃k s,x= .list k s (ints l)/\(l≠[]->s=1)
def RL(x:AV)(rows:List (List Int)):Prop:=∃(k:Tok) (s:Nat) (xs:List AV),x= .list k s (xs.map fun a=>[a])/\(rows≠[]->s=1)/\xs.length=rows.length/\∀(i:Nat) (a:AV) (r:List Int),xs[i]?=some a->rows[i]?=some r->IL a r
theorem Pd{l:List Int}{i:Nat}(h:i<l.length):(ints l)[i]?=some [.v (.int .i64 (at0 l i))]:=by
 unfold ints nC
 rw[List.getElem?_map,List.getElem?_eq_getElem h,bN h];rfl
theorem ldi{H:ae}{l:List Int}{i s:Nat}(h:i<l.length):ai Tryz.prog Gt H 3 (.elem s (ints l) i 0)=some (.v (.int .i64 (at0 l i))):=by
 rw[ez ag3 (Pd h)];rfl
theorem ldr{H:ae}{xs:List AV}{i s:Nat}{x:AV}(h:xs[i]?=some x):ai Tryz.prog Gt H 23 (.elem s (xs.map fun a=>[a]) i 0)=some x:=by
 rw[ez mo (row:=[x]) (by rw[List.getElem?_map,h];rfl)];rfl
theorem xJ:Tryz.f179.results.toList=[.tmp 4]:=kZq
theorem Rl:Tryz.f199.results.toList=[]:=kZq
def wJ(w:Nat)(B:List Nat):List AV:=B.map fun b=>AV.arr b 0 w w
def J7(H:ae)(B:List Nat)(tb base:Nat)(cur:AV)(l:List Int):Prop:=(l=[]/\cur= .list .nil 0 [])∨(l≠[]/\∃b,cur= .arr b 0 l.length l.length/\H.boxes[b]?=some (l.map im)/\b∉B/\b≠tb/\base<=b)
theorem Pe{h0 H:ae}{B:List Nat}{tb:Nat}{cur:AV}{l:List Int}(hc:J7 H B tb h0.boxes.length cur l)(hx:Ext h0 H)(hb:h0.boxes.length<=tb)(x:Int)(hl:l.length<1000000)(hB:∀b∈B,b<H.boxes.length)(htb:tb<H.boxes.length):
 ∃H2,iX Tryz.prog H #[23,23] cur (.list .tight 1 [[.v (.int .i64 x)]])=some (.arr H.boxes.length 0 (l.length+1) (l.length+1),H2)/\J7 H2 B tb h0.boxes.length (.arr H.boxes.length 0 (l.length+1) (l.length+1)) (l++[x])/\Ext h0 H2/\H2.loops=H.loops/\H2.boxes.length=H.boxes.length+1/\∀c cs,(c∈B∨c=tb)->H.boxes[c]?=some cs->H2.boxes[c]?=some cs:=by
 obtain⟨i,q1,q2,q3,q4⟩:=in3
 have hbb:=Nat.mul_le_mul (show l.length+1<=1000000 by omega) q3
 have hlen:=hx.len
 rcases hc with⟨rfl,rfl⟩|⟨hne,b,rfl,h1,h2,h3,h4⟩
 ·have:=xe (h:=H) (k:= .nil) (sz:=0) (es:=[]) (new:=[[.v (.int .i64 x)]]) (x:= .list .tight 1 [[.v (.int .i64 x)]]) Tryz.underlying23 Tryz.underlying23 q1 (by omega) (by rw[q2];exact q4) (by simp) (by simp;omega) (by simp) (.inr rfl) (.inl rfl) (by rw[q2];rfl)
  refine⟨_,this,.inr ⟨by simp,H.boxes.length,rfl,ak _ _,fun q=>absurd (hB _ q) (Nat.lt_irrefl _),by omega,hlen⟩,hx.trans (.push _ _),rfl,az _ _,fun c cs _ q=>aj q⟩
 ·have hlt:=(List.getElem?_eq_some_iff.1 h1).1
  have hpos:0<l.length:=List.length_pos_iff.2 hne
  have:=xg (h:=H) (b:=b) (len:=l.length) (cs:=l.map im) (new:=[[.v (.int .i64 x)]]) (x:= .list .tight 1 [[.v (.int .i64 x)]]) Tryz.underlying23 Tryz.underlying23 q1 (by omega) (by rw[q2];exact q4) (by simp) (by simp;omega) (by simp;omega) h1 hpos (by rw[q2,List.length_map];omega) (by rw[q2];rfl)
  refine⟨_,this,.inr ⟨by simp,H.boxes.length,by simp,?_,fun q=>absurd (hB _ q) (Nat.lt_irrefl _),by omega,hlen⟩,(hx.bZ h4 _).trans (.push _ _),rfl,by rw[az,dU],fun c cs hc q=>aj ((av ?_).trans q)⟩
  ·rw[List.map_append]
   exact cD (by rw[dU])
  ·rcases hc with hc|hc
   ·rintro rfl;exact h2 hc
   ·rintro rfl;exact h3 hc
structure zB(H:ae)(tb base w m:Nat)(B:List Nat)(t:List (List Int))(cur:AV)(l:List Int):Prop where
 hdr:H.boxes[tb]?=some (wJ w B++cur::List.replicate (m - B.length - 1) (.list .nil 0 []))
 lt:B.length<m
 len:B.length=t.length
 nd:B.Nodup
 row:∀(i b:Nat) (r:List Int),B[i]?=some b->t[i]?=some r->H.boxes[b]?=some (r.map im)
 wid:∀r∈t,r.length=w
 out:tb∉B
 low:∀b∈B,base<=b
 cur:J7 H B tb base cur l
theorem EE{P:Program}{h:ae}{t elem:TypeId}{i:TypeInfo}{zero:List AV}{n:Nat}{k k':IntKind}(hu:P.underlying t=some (.slice elem))(hi:P.info? elem=some i)(hz:(ej P elem).bind AV.aC=some zero)(h1:zero.length=i.size)(h2:0<i.size)(h3:i.bytes * n<=281474976710656)(h4:n<9223372036854775808):
 eU P h t (.v (.int k (n:Nat))) (.v (.int k' (n:Nat)))=some (.arr h.boxes.length 0 n n,h.push (List.replicate n zero).flatten):=by
 unfold eU
 have h5:(i.bytes:Int) * (n:Nat)<=281474976710656:=by
  rw[<-Int.natCast_mul];omega
 simp only[hu,hi,hz]
 rw[if_pos ⟨by omega,Int.le_refl _,by omega,h5,h2,h1⟩]
 simp[ae.push]
theorem Rm:∃i,Tryz.prog.info? 23=some i/\i.size=1/\i.bytes<=24/\(i.zero.map fun z=>z.cells.size)=some 1:=by
 have h:(match Tryz.prog.info? 23 with|some i=>Nat.beq i.size 1&&Nat.ble i.bytes 24&&decide ((i.zero.map fun z=>z.cells.size)=some 1) |none=>false)=true:=kZq
 cases hi:Tryz.prog.info? 23 with
 |none=>rw[hi] at h;cases h
 |some i=>
  rw[hi] at h
  simp only[Bool.and_eq_true,decide_eq_true_eq] at h
  exact⟨i,rfl,Nat.eq_of_beq_eq_true h.1.1,Nat.le_of_ble_eq_true h.1.2,h.2⟩
theorem Rn(h:ae)(n:Nat)(hn:n<=1000000)(k k':IntKind):eU Tryz.prog h 203 (.v (.int k (n:Nat))) (.v (.int k' (n:Nat)))=some (.arr h.boxes.length 0 n n,h.push (List.replicate n (.list .nil 0 []))):=by
 obtain⟨i,q1,q2,q3,q4⟩:=Rm
 have hb:=Nat.mul_le_mul q3 hn
 have:=EE (h:=h) (n:=n) (k:=k) (k':=k') (zero:=[.list .nil 0 []]) Tryz.underlying203 q1 kZq (by rw[q2];rfl) (by omega) (by omega) (by omega)
 rw[this]
 simp
theorem Pf(h:ae)(n:Nat)(hn:n<=1000000)(k k':IntKind):eU Tryz.prog h 23 (.v (.int k (n:Nat))) (.v (.int k' (n:Nat)))=some (.arr h.boxes.length 0 n n,h.push (List.replicate n (im 0))):=by
 obtain⟨i,q1,q2,q3,q4⟩:=in3
 have hb:=Nat.mul_le_mul q3 hn
 have:=EE (h:=h) (n:=n) (k:=k) (k':=k') (zero:=[im 0]) Tryz.underlying23 q1 zc3 (by rw[q2];rfl) (by omega) (by omega) (by omega)
 rw[this]
 simp
structure Mid(H:ae)(tb base w m:Nat)(B:List Nat)(t:List (List Int)):Prop where
 hdr:H.boxes[tb]?=some (wJ w B++List.replicate (m - B.length) (.list .nil 0 []))
 len:B.length=t.length
 nd:B.Nodup
 row:∀(i b:Nat) (r:List Int),B[i]?=some b->t[i]?=some r->H.boxes[b]?=some (r.map im)
 wid:∀r∈t,r.length=w
 out:tb∉B
 low:∀b∈B,base<=b
theorem Mid.half{H:ae}{tb base w m:Nat}{B:List Nat}{t:List (List Int)}(M:Mid H tb base w m B t)(hm:B.length<m):zB H tb base w m B t (.list .nil 0 []) []:=by
 refine⟨?_,hm,M.len,M.nd,M.row,M.wid,M.out,M.low,.inl ⟨rfl,rfl⟩⟩
 rw[M.hdr,show m - B.length=m - B.length - 1+1 by omega,List.replicate_succ]
 rfl
theorem Mid.tab{H:ae}{tb base w m:Nat}{B:List Nat}{t:List (List Int)}(M:Mid H tb base w m B t)(hm:B.length=m):Tab H tb B t w:=by
 refine⟨?_,M.len,M.nd,M.row,M.wid,M.out⟩
 rw[M.hdr,hm,Nat.sub_self,List.replicate_zero,List.append_nil]
 rfl
theorem oR(w:Nat)(B:List Nat):(wJ w B).length=B.length:=by unfold wJ;simp
theorem J8(w:Nat)(B:List Nat)(c:AV)(r:List AV):(wJ w B++c::r)[B.length]?=some c:=by
 rw[List.getElem?_append_right (by rw[oR];exact Nat.le_refl _),oR,Nat.sub_self];rfl
theorem J9(w:Nat)(B:List Nat)(c d:AV)(r:List AV):(wJ w B++c::r).set B.length d=wJ w B++d::r:=by
 rw[List.set_append_right _ _ (by rw[oR];exact Nat.le_refl _),oR,Nat.sub_self];rfl
theorem Ro{H:ae}{b k x n:Nat}{cs:List AV}(hb:H.boxes[b]?=some cs)(hk:k<cs.length):aA Tryz.prog H 23 (.ptr (.box b) k) (.arr x 0 n n)=some (H.put b (cs.set k (.arr x 0 n n))):=by
 rw[aW (xs:=[AV.arr x 0 n n]) rfl jC hb rfl hk]
 congr 2
 unfold bI
 rw[List.set_eq_take_append_cons_drop,if_pos hk]
 simp
theorem zB.lts{H:ae}{tb base w m:Nat}{B:List Nat}{t:List (List Int)}{cur:AV}{l:List Int}(F:zB H tb base w m B t cur l):∀b∈B,b<H.boxes.length:=by
 intro b hb
 obtain⟨i,hi⟩:=List.getElem?_of_mem hb
 have hil:=(List.getElem?_eq_some_iff.1 hi).1
 exact(List.getElem?_eq_some_iff.1 (F.row i b _ hi (List.getElem?_eq_getElem (by rw[<-F.len];exact hil)))).1
theorem zB.more{h0 H:ae}{tb w m:Nat}{B:List Nat}{t:List (List Int)}{cur:AV}{l:List Int}(F:zB H tb h0.boxes.length w m B t cur l)(hx:Ext h0 H)(hb:h0.boxes.length<=tb)(x:Int)(hl:l.length<1000000):
 ∃H2 H3 cur',iX Tryz.prog H #[23,23] cur (.list .tight 1 [[.v (.int .i64 x)]])=some (cur',H2)/\aA Tryz.prog H2 23 (.ptr (.box tb) B.length) cur'=some H3/\zB H3 tb h0.boxes.length w m B t cur' (l++[x])/\Ext h0 H3/\H3.loops=H.loops:=by
 have htb:=(List.getElem?_eq_some_iff.1 F.hdr).1
 obtain⟨H2,c1,c2,c3,c4,c5,c6⟩:=Pe F.cur hx hb x hl F.lts htb
 have hd:=c6 tb _ (.inr rfl) F.hdr
 have s1:=Ro (x:=H.boxes.length) (n:=l.length+1) (k:=B.length) hd (by simp[oR])
 rw[J9] at s1
 refine⟨H2,_,_,c1,s1,⟨aS (List.getElem?_eq_some_iff.1 hd).1,F.lt,F.len,F.nd,fun i b r hi hr=>?_,F.wid,F.out,F.low,?_⟩,c3.bZ hb _,c4⟩
 ·have hbm:=List.mem_of_getElem? hi
  rw[av (fun e=>F.out (by rw[<-e];exact hbm))]
  exact c6 b _ (.inl hbm) (F.row i b r hi hr)
 ·rcases c2 with⟨q,-⟩|⟨q,b,q1,q2,q3,q4,q5⟩
  ·simp at q
  ·exact .inr ⟨q,b,q1,by rw[av q4];exact q2,q3,q4,q5⟩
theorem zB.mid{H:ae}{tb base w m:Nat}{B:List Nat}{t:List (List Int)}{cur:AV}{l:List Int}(F:zB H tb base w m B t cur l)(hl:l.length=w)(hw:0<w):∃b,Mid H tb base w m (B++[b]) (t++[l]):=by
 rcases F.cur with⟨rfl,-⟩|⟨q,b,q1,q2,q3,q4,q5⟩
 ·simp at hl;omega
 ·refine⟨b,?_,by simp[F.len],?_,fun i c r hi hr=>?_,fun r hr=>?_,?_,fun c hc=>?_⟩
  ·rw[F.hdr,q1,hl]
   unfold wJ
   rw[List.map_append,List.length_append,List.append_assoc]
   rfl
  ·rw[List.nodup_append]
   refine⟨F.nd,by simp,fun x hx y hy=>?_⟩
   rw[List.mem_singleton] at hy
   subst hy
   rintro rfl
   exact q3 hx
  ·rcases Nat.lt_or_ge i B.length with hlt|hge
   ·rw[List.getElem?_append_left hlt] at hi
    rw[List.getElem?_append_left (by rw[<-F.len];exact hlt)] at hr
    exact F.row i c r hi hr
   ·have:=(List.getElem?_eq_some_iff.1 hi).1
    rw[List.length_append] at this
    have hiB:i=B.length:=by simp at this;omega
    subst hiB
    rw[List.getElem?_concat_length] at hi
    rw[F.len,List.getElem?_concat_length] at hr
    injection hi with hi;injection hr with hr
    subst hi;subst hr
    exact q2
  ·rcases List.mem_append.1 hr with z|z
   ·exact F.wid r z
   ·rw[List.mem_singleton] at z;rw[z];exact hl
  ·intro z
   rcases List.mem_append.1 z with z|z
   ·exact F.out z
   ·rw[List.mem_singleton] at z;exact q4 z.symm
  ·rcases List.mem_append.1 hc with z|z
   ·exact F.low c z
   ·rw[List.mem_singleton] at z;rw[z];exact q5
theorem G7(h:ae)(x y:AV)(rows:List (List Int))(target:List Int)(hx:RL x rows)(hy:IL y target)(hr:rows.length<=1000)(ht:target.length<=1000)(hw:∀r∈rows,r.length=target.length):
 ∃r h',W2.call 179 [x,y] h=some (r,h')/\∃tb B,r= .ret (.arr tb 0 target.length target.length)/\Tab h' tb B (cO rows target) (rows.length+1)/\Ext h h'/\h.boxes.length<=tb/\∀b∈B,h.boxes.length<=b:=by
 obtain⟨kx0,sx,xs,rfl,hsx,hxl,hxr⟩:=hx
 obtain⟨ky,sy,rfl,hsy⟩:=hy
 have kx:=ah.mk (And.intro hsx (And.intro hxr (And.intro hsy hw)))
 clear hsx hxr hsy hw
 have mk:=Rn h target.length (by omega) .i64 .i64
 have u23:=Tryz.underlying23
 have u22:=Tryz.underlying22
 have u203:=Tryz.underlying203
 have z23:=jC
 have z3:=sz3
 have hil:=aU target
 have hxl2:(xs.map fun a=>[a]).length=rows.length:=by rw[List.length_map];exact hxl
 refine aL rfl Tryz.func179 rfl ?_
 repeat' (first|simp(maxSteps:=999999) (disch:=first|exact dZ|fail) only[gW,reduceIte,Nat.reduceEqDiff,beq_self_eq_true,xJ, *] | (refine dX ?_ ?_<;>(intro _;try omega)))
 refine Run.gen fun e0 he0 hd0 hp0 hr0=>?_
 have f0:e0.get 0= .list kx0 sx (xs.map fun a=>[a]):=by rw[he0];exact gS
 have f5:e0.get 5= .arr h.boxes.length 0 target.length target.length:=by rw[he0];exact gS
 have f13:e0.get 13= .list ky sy (ints target):=by rw[he0];exact gS
 have f14:e0.get 14= .v (.int .i64 (target.length:Nat)):=by rw[he0];exact gS
 have f15:e0.get 15= .v (.int .i64 (0:Nat)):=by rw[he0];exact gR
 have fd:e0.defers=[]:=by rw[hd0];exact gS
 clear he0 hd0 hp0 hr0 mk
 have tl:=vt rows target
 have M0:Mid (h.push (List.replicate target.length (.list .nil 0 []))) h.boxes.length h.boxes.length (rows.length+1) target.length [] ((cO rows target).take 0):=by
  refine⟨by rw[ak];simp[wJ],rfl,.nil,fun i b r hi=>by simp at hi,fun r hr=>by simp at hr,by simp,fun b hb=>by simp at hb⟩
 refine aD (fun m e H=>∃(k:Nat) (B:List Nat),k<=target.length/\m=target.length - k/\B.length=k/\ah (Mid H h.boxes.length h.boxes.length (rows.length+1) target.length B ((cO rows target).take k))/\ah (Ext h H)/\e.get 0= .list kx0 sx (xs.map fun a=>[a])/\e.get 5= .arr h.boxes.length 0 target.length target.length/\e.get 13= .list ky sy (ints target)/\e.get 14= .v (.int .i64 (target.length:Nat))/\e.get 15= .v (.int .i64 (k:Nat))/\e.defers=[]) ?_ target.length _ _ ?_
 rotate_left 1
 ·exact⟨0,[],Nat.zero_le _,rfl,rfl,⟨M0⟩,⟨.push _ _⟩,f0,f5,f13,f14,f15,fd⟩
 clear M0 f0 f5 f13 f14 f15 fd
 rintro m e H ⟨k,B,hk,rfl,hBk,kM,kX,g0,g5,g13,g14,g15,hd⟩
 by_cases hkm:k<target.length
 rotate_left 1
 ·have:k=target.length:=by omega
  subst this
  have T:=kM.out.tab hBk
  rw[List.take_of_length_le (by omega)] at T
  have kT:=ah.mk T
  clear T
  repeat' (first|simp(maxSteps:=999999) (disch:=first|exact dZ|fail) only[gW,reduceIte,Nat.reduceEqDiff,beq_self_eq_true,xJ, *] | (refine dX ?_ ?_<;>(intro _;try omega)))
  exact⟨_,_,rfl,_,B,rfl,kT.out,kX.out,Nat.le_refl _,kM.out.low⟩
 have hs1:sy=1:=kx.out.2.2.1 (by intro q;rw[q] at hkm;simp at hkm)
 subst hs1
 have l0:=ldi (H:=H) (s:=1) hkm
 have F0:=kM.out.half (by omega)
 have kF0:=ah.mk F0
 have hkI:(k:Int)<(target.length:Int):=by omega
 clear F0
 repeat' (first|simp(maxSteps:=999999) (disch:=first|exact dZ|fail) only[gW,reduceIte,Nat.reduceEqDiff,beq_self_eq_true,xJ,al, *] | (refine dX ?_ ?_<;>(intro _;try omega)))
 refine Run.gen fun e0 he0 hd0 hp0 hr0=>?_
 have f0:e0.get 0= .list kx0 sx (xs.map fun a=>[a]):=by rw[he0];simp only[gW,reduceIte,Nat.reduceEqDiff,beq_self_eq_true];exact g0
 have f5:e0.get 5= .arr h.boxes.length 0 target.length target.length:=by rw[he0];simp only[gW,reduceIte,Nat.reduceEqDiff,beq_self_eq_true];exact g5
 have f6:e0.get 6= .v (.int .i64 (k:Nat)):=by rw[he0];exact gS
 have f7:e0.get 7= .v (.int .i64 (at0 target k)):=by rw[he0];exact gS
 have f13:e0.get 13= .list ky 1 (ints target):=by rw[he0];simp only[gW,reduceIte,Nat.reduceEqDiff,beq_self_eq_true];exact g13
 have f14:e0.get 14= .v (.int .i64 (target.length:Nat)):=by rw[he0];simp only[gW,reduceIte,Nat.reduceEqDiff,beq_self_eq_true];exact g14
 have f15:e0.get 15= .v (.int .i64 (k:Nat)):=by rw[he0];simp only[gW,reduceIte,Nat.reduceEqDiff,beq_self_eq_true];exact g15
 have f20:e0.get 20= .list kx0 sx (xs.map fun a=>[a]):=by rw[he0];exact gS
 have f21:e0.get 21= .v (.int .i64 (rows.length:Nat)):=by rw[he0];exact gS
 have f22:e0.get 22= .v (.int .i64 (0:Nat)):=by rw[he0];exact gR
 have fd:e0.defers=[]:=by rw[hd0];simp only[gW,reduceIte,Nat.reduceEqDiff,beq_self_eq_true];exact hd
 clear he0 hd0 hp0 hr0 g0 g5 g13 g14 g15 hd l0
 refine aD (fun m e H=>∃(i:Nat) (cur:AV),i<=rows.length/\m=rows.length - i/\ah (zB H h.boxes.length h.boxes.length (rows.length+1) target.length B ((cO rows target).take k) cur ((rows.take i).map fun r=>at0 r k))/\ah (Ext h H)/\e.get 0= .list kx0 sx (xs.map fun a=>[a])/\e.get 5= .arr h.boxes.length 0 target.length target.length/\e.get 6= .v (.int .i64 (k:Nat))/\e.get 7= .v (.int .i64 (at0 target k))/\e.get 13= .list ky 1 (ints target)/\e.get 14= .v (.int .i64 (target.length:Nat))/\e.get 15= .v (.int .i64 (k:Nat))/\e.get 20= .list kx0 sx (xs.map fun a=>[a])/\e.get 21= .v (.int .i64 (rows.length:Nat))/\e.get 22= .v (.int .i64 (i:Nat))/\e.defers=[]) ?_ rows.length _ _ ?_
 rotate_left 1
 ·exact⟨0,_,Nat.zero_le _,rfl,kF0,kX,f0,f5,f6,f7,f13,f14,f15,f20,f21,f22,fd⟩
 clear f0 f5 f6 f7 f13 f14 f15 f20 f21 f22 fd kF0 kM kX
 rintro m e2 H2 ⟨i,cur,hi,rfl,kF,kX,g0,g5,g6,g7,g13,g14,g15,g20,g21,g22,hd⟩
 have lc:((rows.take i).map fun r=>at0 r k).length=i:=by rw[List.length_map,List.length_take];omega
 have hcell:(wJ (rows.length+1) B++cur::List.replicate (target.length - B.length - 1) (.list .nil 0 []))[k]?=some cur:=by rw[<-hBk];exact J8 _ _ _ _
 have m1:=oQ kF.out.hdr hcell
 have ixk:=xH (b:=h.boxes.length) (len:=target.length) (cap:=target.length) (k:= .i64) hkm
 clear hcell
 by_cases hin:i<rows.length
 ·obtain⟨a,ha⟩:∃a,xs[i]?=some a:=⟨_,List.getElem?_eq_getElem (by omega)⟩
  obtain⟨r,hr⟩:∃r,rows[i]?=some r:=⟨_,List.getElem?_eq_getElem hin⟩
  have hsx:sx=1:=kx.out.1 (by intro q;rw[q] at hin;simp at hin)
  subst hsx
  obtain⟨ka,sa,rfl,hsa⟩:=kx.out.2.1 i a r ha hr
  have hrl:=kx.out.2.2.2 r (List.mem_of_getElem? hr)
  have hsa1:sa=1:=hsa (by intro q;rw[q] at hrl;simp at hrl;omega)
  subst hsa1
  have l1:=ldr (H:=H2) (s:=1) ha
  have l2:=ldi (H:=H2) (l:=r) (i:=k) (s:=1) (by omega)
  have hrl2:(ints r).length=target.length:=by rw[aU];exact hrl
  obtain⟨H3,H4,cur',c1,c2,c3,c4,-⟩:=kF.out.more kX.out (Nat.le_refl _) (at0 r k) (by rw[lc];omega)
  have hstep:((rows.take i).map fun r=>at0 r k)++[at0 r k]=(rows.take (i+1)).map fun r=>at0 r k:=by rw[a9 hr,List.map_append];rfl
  rw[hstep] at c3
  rw[hBk] at c2
  have bl:=pQ (at0 r k)
  have kF2:=ah.mk c3
  have kX2:=ah.mk c4
  have hinI:(i:Int)<(rows.length:Int):=by omega
  clear c3 c4 hstep ha hr hsa lc hBk tl hrl
  repeat' (first|simp(maxSteps:=999999) (disch:=first|exact dZ|fail) only[gW,reduceIte,Nat.reduceEqDiff,beq_self_eq_true,xJ,al, *] | (refine dX ?_ ?_<;>(intro _;try omega)))
  repeat' (first|simp(maxSteps:=999999) (disch:=first|exact dZ|fail) only[gW,reduceIte,Nat.reduceEqDiff,beq_self_eq_true,xJ,al, *] | (refine dX ?_ ?_<;>(intro _;try omega)) |refine bf tH kZq ?_)
  exact⟨rows.length - (i+1),by omega,i+1,cur',by omega,rfl,kF2,by simp⟩
 ·have hie:i=rows.length:=by omega
  subst hie
  obtain⟨H3,H4,cur',c1,c2,c3,c4,-⟩:=kF.out.more kX.out (Nat.le_refl _) (at0 target k) (by rw[lc];omega)
  rw[List.take_length] at c3
  have hrow:(rows.map fun r=>at0 r k)++[at0 target k]=((cO rows target)[k]'(by omega)):=by
   unfold cO;rw[List.getElem_map,List.getElem_range]
  rw[hrow] at c3
  obtain⟨b,M2⟩:=c3.mid (by rw[<-hrow];simp) (by omega)
  rw[<-a9 (List.getElem?_eq_getElem (show k<(cO rows target).length by omega))] at M2
  have kM2:=ah.mk M2
  have kX2:=ah.mk c4
  have hBl:(B++[b]).length=k+1:=by rw[List.length_append,hBk];rfl
  rw[hBk] at c2
  have bl:=pQ (at0 target k)
  clear c3 c4 M2 hrow lc hBk tl
  repeat' (first|simp(maxSteps:=999999) (disch:=first|exact dZ|fail) only[gW,reduceIte,Nat.reduceEqDiff,beq_self_eq_true,xJ, *] | (refine dX ?_ ?_<;>(intro _;try omega)))
  exact⟨target.length - (k+1),by omega,k+1,B++[b],by omega,rfl,hBl,kM2,by simp⟩
theorem NI:Tryz.f126.results.toList=[.tmp 4]:=kZq
theorem tI:Tryz.f167.results.toList=[.tmp 4]:=kZq
theorem Rp:Tryz.f152.results.toList=[.tmp 4]:=kZq
theorem EF:Tryz.f185.results.toList=[.tmp 4]:=kZq
theorem NJ:Tryz.f218.results.toList=[.tmp 2]:=kZq
theorem Bs:Tryz.f200.results.toList=[]:=kZq
theorem NK:Tryz.f178.results.toList=[]:=kZq
theorem Ka(g:FuncId)(p:Int->Bool)(h:ae)(x:AV)(l:List Int)(hx:IL x l)(hl:l.length<=1000000)(hp:∀n∈l,W2.call g [im n] h=some (.ret (.v (.bool (p n))),h)):
 ∃r h',W2.call 167 [x,.func (.func g) [] []] h=some (r,h')/\h'=h/\∃i:Int,r= .ret (im i)/\decide (0<=i)=l.any p:=by
 obtain⟨k,s,rfl,hs⟩:=hx
 have kp:=ah.mk hp
 have ks:=ah.mk hs
 clear hp hs
 have u23:=Tryz.underlying23
 have z3:=sz3
 have hil:=aU l
 refine aL rfl Tryz.func167 rfl ?_
 repeat' (first|simp(maxSteps:=999999) (disch:=first|exact dZ|fail) only[gW,reduceIte,Nat.reduceEqDiff,beq_self_eq_true,tI, *] | (refine dX ?_ ?_<;>(intro _;try omega)))
 refine aD (fun m e H=>∃i:Nat,i<=l.length/\m=l.length - i/\(l.take i).any p=false/\e.get 0= .list k s (ints l)/\e.get 1= .func (.func g) [] []/\e.get 7= .v (.int .i64 (l.length:Nat))/\e.get 8= .v (.int .i64 (i:Nat))/\e.defers=[]/\H=h) ?_ l.length _ _ ?_
 rotate_left 1
 ·refine⟨0,Nat.zero_le _,rfl,by simp,?_,?_,?_,?_,?_,rfl⟩<;>exact gR
 rintro m e H ⟨i,hi,rfl,ha,g0,g1,g7,g8,hd,rfl⟩
 have ka:=ah.mk ha
 clear ha
 by_cases hlt:i<l.length
 ·have hs1:s=1:=ks.out (by intro q;rw[q] at hlt;simp at hlt)
  subst hs1
  have ld:=ldi (H:=H) (s:=1) hlt
  have hv:l[i]?=some (at0 l i):=by rw[List.getElem?_eq_getElem hlt,bN hlt]
  have hc:=kp.out (at0 l i) (List.mem_of_getElem? hv)
  have hltI:(i:Int)<(l.length:Int):=by omega
  have htake:(l.take (i+1)).any p=p (at0 l i):=by rw[a9 hv,List.any_append,ka.out];simp
  have kt:=ah.mk htake
  have kh:=ah.mk hv
  clear hv htake
  unfold im at hc
  cases hpv:p (at0 l i) with
  |true=>
   rw[hpv] at hc
   have hany:l.any p=true:=List.any_eq_true.2 ⟨_,List.mem_of_getElem? kh.out,hpv⟩
   have kan:=ah.mk hany
   clear hany hpv
   repeat' (first|simp(maxSteps:=999999) (disch:=first|exact dZ|fail) only[gW,reduceIte,Nat.reduceEqDiff,beq_self_eq_true,tI,al,List.nil_append,List.append_nil, *] | (refine dX ?_ ?_<;>(intro _;try omega)))
   exact⟨_,_,rfl,rfl,(i:Int),rfl,by rw[kan.out];simp⟩
  |false=>
   rw[hpv] at hc
   have kt2:(l.take (i+1)).any p=false:=kt.out.trans hpv
   clear hpv
   repeat' (first|simp(maxSteps:=999999) (disch:=first|exact dZ|fail) only[gW,reduceIte,Nat.reduceEqDiff,beq_self_eq_true,tI,al,List.nil_append,List.append_nil, *] | (refine dX ?_ ?_<;>(intro _;try omega)))
   exact⟨l.length - (i+1),by omega,i+1,by omega,rfl,kt2,by simp⟩
 ·have:i=l.length:=by omega
  subst this
  have:=ka.out
  rw[List.take_length] at this
  have kan:=ah.mk this
  clear this
  repeat' (first|simp(maxSteps:=999999) (disch:=first|exact dZ|fail) only[gW,reduceIte,Nat.reduceEqDiff,beq_self_eq_true,tI, *] | (refine dX ?_ ?_<;>(intro _;try omega)))
  exact⟨_,_,rfl,rfl,-1,rfl,by rw[kan.out];rfl⟩
theorem tJ(g:FuncId)(p:Int->Bool)(h:ae)(x:AV)(l:List Int)(hx:IL x l)(hl:l.length<=1000000)(hp:∀n∈l,W2.call g [im n] h=some (.ret (.v (.bool (p n))),h)):
 W2.call 126 [x,.func (.func g) [] []] h=some (.ret (.v (.bool (l.any p))),h):=by
 obtain⟨r,h',c,rfl,i,rfl,hi⟩:=Ka g p h x l hx hl hp
 have hi2:(0<=i)=(l.any p=true):=by rw[<-hi];simp
 have hdec:decide (0<=i)=l.any p:=hi
 unfold im at c
 refine ar rfl Tryz.func126 rfl ?_
 clear hi hi2
 repeat' (first|simp(maxSteps:=999999) (disch:=first|exact dZ|fail) only[gW,reduceIte,Nat.reduceEqDiff,beq_self_eq_true,NI, *] | (refine dX ?_ ?_<;>(intro _;try omega)))
theorem Kb(g:FuncId)(p:List Int->Bool)(h:ae)(x:AV)(l:List (List Int))(hx:RL x l)(hl:l.length<=1000000)(hp:∀a r,r∈l->IL a r->W2.call g [a] h=some (.ret (.v (.bool (p r))),h)):
 ∃r h',W2.call 185 [x,.func (.func g) [] []] h=some (r,h')/\h'=h/\∃i:Int,r= .ret (im i)/\decide (0<=i)=l.any p:=by
 obtain⟨k,s,xs,rfl,hs,hxl,hxr⟩:=hx
 have kxr:=ah.mk hxr
 clear hxr
 have kp:=ah.mk hp
 have ks:=ah.mk hs
 clear hp hs
 have u22:=Tryz.underlying22
 have z23:=jC
 have hil:(xs.map fun a=>[a]).length=l.length:=by rw[List.length_map];exact hxl
 refine aL rfl Tryz.func185 rfl ?_
 repeat' (first|simp(maxSteps:=999999) (disch:=first|exact dZ|fail) only[gW,reduceIte,Nat.reduceEqDiff,beq_self_eq_true,EF, *] | (refine dX ?_ ?_<;>(intro _;try omega)))
 refine aD (fun m e H=>∃i:Nat,i<=l.length/\m=l.length - i/\(l.take i).any p=false/\e.get 0= .list k s (xs.map fun a=>[a])/\e.get 1= .func (.func g) [] []/\e.get 7= .v (.int .i64 (l.length:Nat))/\e.get 8= .v (.int .i64 (i:Nat))/\e.defers=[]/\H=h) ?_ l.length _ _ ?_
 rotate_left 1
 ·refine⟨0,Nat.zero_le _,rfl,by simp,?_,?_,?_,?_,?_,rfl⟩<;>exact gR
 rintro m e H ⟨i,hi,rfl,ha,g0,g1,g7,g8,hd,rfl⟩
 have ka:=ah.mk ha
 clear ha
 by_cases hlt:i<l.length
 ·have hs1:s=1:=ks.out (by intro q;rw[q] at hlt;simp at hlt)
  subst hs1
  obtain⟨a,hav⟩:∃a,xs[i]?=some a:=⟨_,List.getElem?_eq_getElem (by omega)⟩
  obtain⟨r,hv⟩:∃r,l[i]?=some r:=⟨_,List.getElem?_eq_getElem hlt⟩
  have ld:=ldr (H:=H) (s:=1) hav
  have hc:=kp.out a r (List.mem_of_getElem? hv) (kxr.out i a r hav hv)
  clear hav
  have hltI:(i:Int)<(l.length:Int):=by omega
  have htake:(l.take (i+1)).any p=p r:=by rw[a9 hv,List.any_append,ka.out];simp
  have kt:=ah.mk htake
  have kh:=ah.mk hv
  clear hv htake
  cases hpv:p r with
  |true=>
   rw[hpv] at hc
   have hany:l.any p=true:=List.any_eq_true.2 ⟨_,List.mem_of_getElem? kh.out,hpv⟩
   have kan:=ah.mk hany
   clear hany hpv
   repeat' (first|simp(maxSteps:=999999) (disch:=first|exact dZ|fail) only[gW,reduceIte,Nat.reduceEqDiff,beq_self_eq_true,EF,al,List.nil_append,List.append_nil, *] | (refine dX ?_ ?_<;>(intro _;try omega)))
   exact⟨_,_,rfl,rfl,(i:Int),rfl,by rw[kan.out];simp⟩
  |false=>
   rw[hpv] at hc
   have kt2:(l.take (i+1)).any p=false:=kt.out.trans hpv
   clear hpv
   repeat' (first|simp(maxSteps:=999999) (disch:=first|exact dZ|fail) only[gW,reduceIte,Nat.reduceEqDiff,beq_self_eq_true,EF,al,List.nil_append,List.append_nil, *] | (refine dX ?_ ?_<;>(intro _;try omega)))
   exact⟨l.length - (i+1),by omega,i+1,by omega,rfl,kt2,by simp⟩
 ·have:i=l.length:=by omega
  subst this
  have:=ka.out
  rw[List.take_length] at this
  have kan:=ah.mk this
  clear this
  repeat' (first|simp(maxSteps:=999999) (disch:=first|exact dZ|fail) only[gW,reduceIte,Nat.reduceEqDiff,beq_self_eq_true,EF, *] | (refine dX ?_ ?_<;>(intro _;try omega)))
  exact⟨_,_,rfl,rfl,-1,rfl,by rw[kan.out];rfl⟩
theorem Bt(g:FuncId)(p:List Int->Bool)(h:ae)(x:AV)(l:List (List Int))(hx:RL x l)(hl:l.length<=1000000)(hp:∀a r,r∈l->IL a r->W2.call g [a] h=some (.ret (.v (.bool (p r))),h)):
 W2.call 152 [x,.func (.func g) [] []] h=some (.ret (.v (.bool (l.any p))),h):=by
 obtain⟨r,h',c,rfl,i,rfl,hi⟩:=Kb g p h x l hx hl hp
 have hi2:(0<=i)=(l.any p=true):=by rw[<-hi];simp
 have hdec:decide (0<=i)=l.any p:=hi
 unfold im at c
 refine ar rfl Tryz.func152 rfl ?_
 clear hi hi2
 repeat' (first|simp(maxSteps:=999999) (disch:=first|exact dZ|fail) only[gW,reduceIte,Nat.reduceEqDiff,beq_self_eq_true,Rp, *] | (refine dX ?_ ?_<;>(intro _;try omega)))
def pR(n:Int):Bool:=decide (n<0) ||decide (1073741789<=n)
theorem Pg(n:Int)(h:ae):W2.call 218 [im n] h=some (.ret (.v (.bool (pR n))),h):=by
 unfold im pR
 by_cases h0:n<0
 ·refine ar rfl Tryz.func218 rfl ?_
  have:decide (n<0)=true:=by simp[h0]
  repeat' (first|simp(maxSteps:=999999) (disch:=first|exact dZ|fail) only[gW,reduceIte,Nat.reduceEqDiff,beq_self_eq_true,NJ,Bool.true_or, *] | (refine dX ?_ ?_<;>(intro _;try omega)))
 ·refine ar rfl Tryz.func218 rfl ?_
  have:decide (n<0)=false:=by simp[h0]
  repeat' (first|simp(maxSteps:=999999) (disch:=first|exact dZ|fail) only[gW,reduceIte,Nat.reduceEqDiff,beq_self_eq_true,NJ,Bool.false_or, *] | (refine dX ?_ ?_<;>(intro _;try omega)))
theorem um(e:Int)(h:ae):W2.call 199 [.v (.bool true),im e] h=some (.ret (.tuple []),h):=by
 unfold im
 refine ar rfl Tryz.func199 rfl ?_
 repeat' (first|simp(maxSteps:=999999) (disch:=first|exact dZ|fail) only[gW,reduceIte,Nat.reduceEqDiff,beq_self_eq_true,Rl, *] | (refine dX ?_ ?_<;>(intro _;try omega)))
theorem Ph{l:List Int}(h:∀x∈l,okF x):l.any pR=false:=by
 rw[List.any_eq_false]
 intro x hx
 obtain⟨h1,h2⟩:=h x hx
 have:Qi=1073741789:=rfl
 unfold pR
 simp
 omega
theorem Bu(h:ae)(x:AV)(rows:List (List Int))(w:Nat)(hx:RL x rows)(hr:rows.length<=1000)(hw:∀r∈rows,r.length=w)(hw2:w<=64)(hok:∀r∈rows,∀x∈r,okF x):∃h',W2.call 200 [x] h=some (.ret (.tuple []),h')/\h'=h:=by
 obtain⟨k,s,xs,rfl,hs,hxl,hxr⟩:=hx
 have kk:=ah.mk (And.intro hs (And.intro hxr (And.intro hw hok)))
 clear hs hxr hw hok
 have u23:=Tryz.underlying23
 have u22:=Tryz.underlying22
 have z23:=jC
 have hil:(xs.map fun a=>[a]).length=rows.length:=by rw[List.length_map];exact hxl
 have n2:=um 2
 have n130:=um 130
 unfold im at n2 n130
 refine dL rfl Tryz.func200 rfl ?_
 repeat' (first|simp(maxSteps:=999999) (disch:=first|exact dZ|fail) only[gW,reduceIte,Nat.reduceEqDiff,beq_self_eq_true,Bs, *] | (refine dX ?_ ?_<;>(intro _;try omega)))
 refine aD (fun m e H=>∃i:Nat,i<=rows.length/\m=rows.length - i/\e.get 0= .list k s (xs.map fun a=>[a])/\e.get 7= .list k s (xs.map fun a=>[a])/\e.get 8= .v (.int .i64 (rows.length:Nat))/\e.get 9= .v (.int .i64 (i:Nat))/\e.defers=[]/\H=h) ?_ rows.length _ _ ?_
 rotate_left 1
 ·refine⟨0,Nat.zero_le _,rfl,?_,?_,?_,?_,?_,rfl⟩<;>exact gR
 rintro m e H ⟨i,hi,rfl,g0,g7,g8,g9,hd,rfl⟩
 by_cases hlt:i<rows.length
 ·have hs1:s=1:=kk.out.1 (by intro q;rw[q] at hlt;simp at hlt)
  subst hs1
  obtain⟨a,hav⟩:∃a,xs[i]?=some a:=⟨_,List.getElem?_eq_getElem (by omega)⟩
  obtain⟨r,hv⟩:∃r,rows[i]?=some r:=⟨_,List.getElem?_eq_getElem hlt⟩
  have ld:=ldr (H:=H) (s:=1) hav
  obtain⟨ka,sa,rfl,hsa⟩:=kk.out.2.1 i a r hav hv
  have hrl:=kk.out.2.2.1 r (List.mem_of_getElem? hv)
  have hrl2:(ints r).length=w:=by rw[aU];exact hrl
  have hltI:(i:Int)<(rows.length:Int):=by omega
  have hwd:decide ((w:Int)<=64)=true:=by simp;omega
  clear hav hv hsa hrl
  repeat' (first|simp(maxSteps:=999999) (disch:=first|exact dZ|fail) only[gW,reduceIte,Nat.reduceEqDiff,beq_self_eq_true,Bs,al, *] | (refine dX ?_ ?_<;>(intro _;try omega)))
  exact⟨rows.length - (i+1),by omega,i+1,by omega,rfl,by simp⟩
 ·repeat' (first|simp(maxSteps:=999999) (disch:=first|exact dZ|fail) only[gW,reduceIte,Nat.reduceEqDiff,beq_self_eq_true,Bs, *] | (refine dX ?_ ?_<;>(intro _;try omega)))
  refine Run.gen fun e0 he0 hd0 hp0 hr0=>?_
  have f0:e0.get 0= .list k s (xs.map fun a=>[a]):=by rw[he0];simp only[gW,reduceIte,Nat.reduceEqDiff,beq_self_eq_true];exact g0
  have f4:e0.get 4= .func (.func 218) [] []:=by rw[he0];exact gS
  have f18:e0.get 18= .list k s (xs.map fun a=>[a]):=by rw[he0];exact gS
  have f19:e0.get 19= .v (.int .i64 (rows.length:Nat)):=by rw[he0];exact gS
  have f20:e0.get 20= .v (.int .i64 (0:Nat)):=by rw[he0];exact gR
  have fd:e0.defers=[]:=by rw[hd0];simp only[gW,reduceIte,Nat.reduceEqDiff,beq_self_eq_true];exact hd
  clear he0 hd0 hp0 hr0 g0 g7 g8 g9 hd hi hlt
  refine aD (fun m e H2=>∃i:Nat,i<=rows.length/\m=rows.length - i/\e.get 0= .list k s (xs.map fun a=>[a])/\e.get 4= .func (.func 218) [] []/\e.get 18= .list k s (xs.map fun a=>[a])/\e.get 19= .v (.int .i64 (rows.length:Nat))/\e.get 20= .v (.int .i64 (i:Nat))/\e.defers=[]/\H2=H) ?_ rows.length _ _ ?_
  rotate_left 1
  ·exact⟨0,Nat.zero_le _,rfl,f0,f4,f18,f19,f20,fd,rfl⟩
  clear f0 f4 f18 f19 f20 fd
  rintro m e H ⟨i,hi,rfl,g0,g4,g18,g19,g20,hd,rfl⟩
  by_cases hlt:i<rows.length
  ·have hs1:s=1:=kk.out.1 (by intro q;rw[q] at hlt;simp at hlt)
   subst hs1
   obtain⟨a,hav⟩:∃a,xs[i]?=some a:=⟨_,List.getElem?_eq_getElem (by omega)⟩
   obtain⟨r,hv⟩:∃r,rows[i]?=some r:=⟨_,List.getElem?_eq_getElem hlt⟩
   obtain⟨a0,hav0⟩:∃a,xs[0]?=some a:=⟨_,List.getElem?_eq_getElem (by omega)⟩
   obtain⟨r0,hv0⟩:∃r,rows[0]?=some r:=⟨_,List.getElem?_eq_getElem (by omega)⟩
   have ld:=ldr (H:=H) (s:=1) hav
   have ld0:=ldr (H:=H) (s:=1) hav0
   obtain⟨ka,sa,rfl,hsa⟩:=kk.out.2.1 i a r hav hv
   obtain⟨ka0,sa0,rfl,hsa0⟩:=kk.out.2.1 0 a0 r0 hav0 hv0
   have hrl:=kk.out.2.2.1 r (List.mem_of_getElem? hv)
   have hrl0:=kk.out.2.2.1 r0 (List.mem_of_getElem? hv0)
   have cc:=tJ 218 pR H (.list ka sa (ints r)) r ⟨_,_,rfl,hsa⟩ (by omega) (fun n _=>Pg n H)
   rw[Ph (kk.out.2.2.2 r (List.mem_of_getElem? hv))] at cc
   have hrl2:(ints r).length=w:=by rw[aU];exact hrl
   have hrl3:(ints r0).length=w:=by rw[aU];exact hrl0
   have hltI:(i:Int)<(rows.length:Int):=by omega
   have h0I:(0:Int)<(rows.length:Int):=by omega
   have z0:(0:Int).toNat=0:=rfl
   clear hav hv hsa hrl hav0 hv0 hsa0 hrl0
   repeat' (first|simp(maxSteps:=999999) (disch:=first|exact dZ|fail) only[gW,reduceIte,Nat.reduceEqDiff,beq_self_eq_true,Bs,al, *] | (refine dX ?_ ?_<;>(intro _;try omega)))
   exact⟨rows.length - (i+1),by omega,i+1,by omega,rfl,by simp⟩
  ·repeat' (first|simp(maxSteps:=999999) (disch:=first|exact dZ|fail) only[gW,reduceIte,Nat.reduceEqDiff,beq_self_eq_true,Bs, *] | (refine dX ?_ ?_<;>(intro _;try omega)))
   exact⟨_,rfl,rfl⟩
theorem xK:Tryz.f144.results.toList=[.tmp 4,.tmp 5,.cell 6 32]:=kZq
theorem Rq:Tryz.f177.results.toList=[]:=kZq
theorem Rr(x:AV)(hx:x.bu=true):aN Tryz.prog 22 1 [(0,x)]=some (.list .tight 1 [[x]]):=by
 cases x<;>first| (cases hx;done) |kernel_rfl
theorem IL.cell{x:AV}{l:List Int}(h:IL x l):x.bu=true:=by
 obtain⟨k,s,rfl,-⟩:=h;rfl
theorem xL(b:Nat)(h:ae):W2.fg 177 [.ptr (.box b) 0] none h=some (.ret (.tuple []),none,h):=by
 have u20:=Tryz.underlying20
 refine yL Tryz.func177 rfl ?_
 repeat' (first|simp(maxSteps:=999999) (disch:=first|exact dZ|fail) only[gW,reduceIte,Nat.reduceEqDiff,beq_self_eq_true,Rq,AG,and_self, *] | (refine dX ?_ ?_<;>(intro _;try omega)))
theorem DK(h:ae)(x y:AV)(rows:List (List Int))(target:List Int)(hx:RL x rows)(hy:IL y target)(hr:rows.length<=64)(hw:∀r∈rows,r.length=target.length)(hw2:target.length<=64)(hok:∀r∈rows,∀x∈r,okF x)(hot:∀x∈target,okF x):
 W2.call 178 [x,y] h=some (.ret (.tuple []),h):=by
 obtain⟨h1,c1,e1⟩:=Bu h x rows target.length hx (by omega) hw hw2 hok
 rw[e1] at c1
 clear e1 h1
 have hRL:RL (.list .tight 1 [[y]]) [target]:=⟨.tight,1,[y],rfl,fun _=>rfl,rfl,fun i a r ha hr=>by
  cases i with
  |zero=>
   simp only[List.getElem?_cons_zero] at ha hr
   injection ha with ha;injection hr with hr
   subst ha;subst hr;exact hy
  |succ i=>simp at ha⟩
 obtain⟨h2,c2,e2⟩:=Bu h (.list .tight 1 [[y]]) [target] target.length hRL (by simp) (by simp) hw2 (by simpa using hot)
 rw[e2] at c2
 clear e2 h2
 have bl:=Rr y hy.cell
 have n2:=um 2
 have n130:=um 130
 obtain⟨k,s,xs,rfl,hs,hxl,hxr⟩:=hx
 obtain⟨ky,sy,rfl,hsy⟩:=hy
 have u23:=Tryz.underlying23
 have u22:=Tryz.underlying22
 have z23:=jC
 have hil:(xs.map fun a=>[a]).length=rows.length:=by rw[List.length_map];exact hxl
 have hil2:=aU target
 have hrI:decide ((rows.length:Int)<=64)=true:=by simp;omega
 unfold im at n2 n130
 clear hRL hok hot
 refine ar rfl Tryz.func178 rfl ?_
 by_cases h0:rows.length=0
 ·have hq:decide ((rows.length:Int)=0)=true:=by simp[h0]
  clear hw hxr h0
  repeat' (first|simp(maxSteps:=999999) (disch:=first|exact dZ|fail) only[gW,reduceIte,Nat.reduceEqDiff,beq_self_eq_true,NK, *] | (refine dX ?_ ?_<;>(intro _;try omega)))
 ·have hq:decide ((rows.length:Int)=0)=false:=by simp[h0]
  obtain⟨a0,hav0⟩:∃a,xs[0]?=some a:=⟨_,List.getElem?_eq_getElem (by omega)⟩
  obtain⟨r0,hv0⟩:∃r,rows[0]?=some r:=⟨_,List.getElem?_eq_getElem (by omega)⟩
  have hs1:s=1:=hs (by intro q;rw[q] at h0;simp at h0)
  subst hs1
  have ld0:=ldr (H:=h) (s:=1) hav0
  obtain⟨ka0,sa0,rfl,hsa0⟩:=hxr 0 a0 r0 hav0 hv0
  have hrl0:=hw r0 (List.mem_of_getElem? hv0)
  have hrl3:(ints r0).length=target.length:=by rw[aU];exact hrl0
  have h0I:(0:Int)<(rows.length:Int):=by omega
  have z0:(0:Int).toNat=0:=rfl
  clear hw hxr hav0 hv0 hrl0 hs
  repeat' (first|simp(maxSteps:=999999) (disch:=first|exact dZ|fail) only[gW,reduceIte,Nat.reduceEqDiff,beq_self_eq_true,NK,al, *] | (refine dX ?_ ?_<;>(intro _;try omega)))
theorem DL:cZ Tryz.prog 32=some false:=kZq
theorem Rs:bF Tryz.prog 32=some 1:=kZq
theorem S1:(ej Tryz.prog 32).bind AV.aC=some [im 0]:=kZq
theorem NL{H:ae}{b:Nat}{x:AV}(hb:H.boxes[b]?=some [x]):ai Tryz.prog Gt H 32 (.ptr (.box b) 0)=some x:=by rw[dc DL hb];rfl
theorem NM{H:ae}{b:Nat}{x:AV}{n:Int}(hb:H.boxes[b]?=some [x]):aA Tryz.prog H 32 (.ptr (.box b) 0) (.v (.int .i64 n))=some (H.put b [.v (.int .i64 n)]):=aW (off:=0) (cs:=[x]) (xs:=[im n]) rfl Rs hb rfl (Nat.le_refl 1)
theorem Kc{b n k:Nat}(hk:k<=n):∃off,ck Tryz.prog 203 (.arr b 0 n n) (some (.v (.int .i64 (k:Nat)))) none none=some (.arr b off (n - k) (n - k))/\(k<n->off=k):=by
 refine⟨if n=k then 0 else 0+k * 1,?_,fun h=>by rw[if_neg (by omega)];omega⟩
 have e1:bX n none n=some n:=rfl
 have e3:bX n (some (.v (.int .i64 (k:Nat)))) 0=some k:=by
  show(if 0<=(k:Int)/\(k:Int)<=(n:Int) then some (k:Int).toNat else none)=_
  rw[if_pos ⟨by omega,by omega⟩];rfl
 unfold ck
 simp only[Tryz.underlying203,jC,e1,e3,Option.isSome_none,Bool.false_and,Bool.false_eq_true,false_and,if_false]
 rfl
theorem Rt{b off len cap n:Nat}{k:IntKind}(hn:n<len):ay Tryz.prog 203 (.arr b off len cap) (.v (.int k (n:Nat)))=some (.ptr (.box b) (off+n)):=by
 rw[mE Tryz.underlying203 jC (by omega) (by omega),Int.toNat_natCast,Nat.mul_one]
def jD(t:List (List Int))(pv:List Nat)(n j:Nat):List Int:=(pv.zipIdx.take j).foldl (fun y p=>y.set p.1 (at0 (t.getD p.2 []) n)) (List.replicate n 0)
theorem xM(t:List (List Int))(pv:List Nat)(n j:Nat):(jD t pv n j).length=n:=by
 unfold jD
 rw[oJ (fun p=>at0 (t.getD p.2 []) n),List.length_replicate]
theorem DM{t:List (List Int)}{pv:List Nat}{n j p:Nat}(h:pv[j]?=some p):(jD t pv n j).set p (at0 (t.getD j []) n)=jD t pv n (j+1):=by
 have hz:pv.zipIdx[j]?=some (p,j):=by rw[List.getElem?_zipIdx,h];simp
 unfold jD
 rw[a9 hz,List.foldl_append]
 rfl
theorem G8(t:List (List Int))(pv:List Nat)(n:Nat):jD t pv n pv.length=gF (t,pv) n:=by
 unfold jD gF
 rw[List.take_of_length_le (by simp)]
def Kd(rows:List (List Int))(target:List Int)(h:ae)(r:Res)(h':ae):Prop:=
 Ext h h'/\((gi rows target=none/\r= .ret (.tuple [.list .nil 0 [],.v (.bool false),im 0]))∨∃l b,gi rows target=some l/\l.length=rows.length/\r= .ret (.tuple [.arr b 0 rows.length rows.length,.v (.bool true),im 0])/\h'.boxes[b]?=some (l.map im))
theorem DN(h:ae)(x y:AV)(rows:List (List Int))(target:List Int)(hx:RL x rows)(hy:IL y target)(hr:rows.length<=64)(hw:∀r∈rows,r.length=target.length)(hw2:target.length<=64)(hok:∀r∈rows,∀x∈r,okF x)(hot:∀x∈target,okF x)(ho:aZ h=true):
 ∃r h',W2.call 144 [x,y] h=some (r,h')/\Kd rows target h r h':=by
 have c1:=DK (h.push [im 0]) x y rows target hx hy hr hw hw2 hok hot
 obtain⟨_,H2,c2,tb,B,rfl,T2,X2,hb1,hb2⟩:=G7 (h.push [im 0]) x y rows target hx hy (by omega) (by omega) hw
 obtain⟨t1,t2⟩:=xC hok hot
 have tl:=vt rows target
 obtain⟨_,H3,c3,tk,s3,B3,rfl,hs3,T3,hP3,G3⟩:=GZ H2 tb B (cO rows target) (rows.length+1) rows.length T2 (by omega) (by omega) (by omega) t2 (X2.ok ho)
 have hsame:=AX (many:=rows.length) t1 t2 (by omega)
 obtain⟨R,V⟩:=pk t1 t2 (show rows.length<=rows.length+1 by omega)
 rw[hsame] at hs3 T3 c3
 rw[tl] at c3
 have e1:gi rows target=if ((cJ (cO rows target) rows.length).1.drop (cJ (cO rows target) rows.length).2.length).all (fun a=>decide (at0 a rows.length=0)) then some (gF (cJ (cO rows target) rows.length) rows.length) else none:=rfl
 have hl3:(cJ (cO rows target) rows.length).1.length=target.length:=by
  have:=(ED t1 t2 rows.length (by omega)).2.1
  rw[<-Br,hsame] at this
  omega
 have X3:Ext (h.push [im 0]) H3:=X2.O0 (G3.mu.tS X2.tn) (fun b hb=>by
  rcases List.mem_cons.1 hb with q|q
  ·rw[q];exact hb1
  ·exact hb2 b q)
 have b0:H3.boxes[h.boxes.length]?=some [im 0]:=X3.box _ _ (ak _ _)
 have X0:Ext h H3:=(Ext.push h [im 0]).trans X3
 obtain⟨k,s,xs,rfl,hs,hxl,hxr⟩:=hx
 obtain⟨ky,sy,rfl,hsy⟩:=hy
 have hil:(xs.map fun a=>[a]).length=rows.length:=by rw[List.length_map];exact hxl
 have hprl:=V.len
 generalize hst:cJ (cO rows target) rows.length=st at *
 obtain⟨t',pv⟩:=st
 dsimp only at *
 have hpl:=zA pv
 have kk:=ah.mk (And.intro T3 (And.intro V (And.intro e1 (And.intro X0 (And.intro b0 hs3)))))
 clear T2 X2 hb1 hb2 t1 t2 tl hsame R V e1 hP3 G3 X3 b0 X0 T3 hs hxl hxr hsy hst hs3 hok hot hw ho
 have u23:=Tryz.underlying23
 have u22:=Tryz.underlying22
 have u203:=Tryz.underlying203
 have z23:=jC
 have z32:=S1
 obtain⟨off,hsl,hoff⟩:=Kc (b:=tb) (show pv.length<=target.length by omega)
 have khoff:=ah.mk hoff
 clear hoff
 unfold im at *
 refine aL rfl Tryz.func144 rfl ?_
 repeat' (first|simp(maxSteps:=999999) (disch:=first|exact dZ|fail) only[gW,reduceIte,Nat.reduceEqDiff,beq_self_eq_true,xK, *] | (refine dX ?_ ?_<;>(intro _;try omega)))
 refine Run.gen fun e0 he0 hd0 hp0 hr0=>?_
 have f6:e0.get 6= .ptr (.box h.boxes.length) 0:=by rw[he0];exact gS
 have f7:e0.get 7= .v (.int .i64 (rows.length:Nat)):=by rw[he0];exact gS
 have f8:e0.get 8= .arr tb 0 target.length target.length:=by rw[he0];exact gS
 have f9:e0.get 9= .list tk s3 (ints (pvI pv)):=by rw[he0];exact gS
 have f28:e0.get 28= .arr tb off (target.length - pv.length) (target.length - pv.length):=by rw[he0];exact gS
 have f29:e0.get 29= .v (.int .i64 ((target.length - pv.length:Nat):Int)):=by rw[he0];exact gS
 have f30:e0.get 30= .v (.int .i64 (0:Nat)):=by rw[he0];exact gR
 have fd:e0.defers=[(177,[.ptr (.box h.boxes.length) 0])]:=by rw[hd0];exact gS
 have fp:e0.pan=none:=by rw[hp0];exact gS
 clear he0 hd0 hp0 hr0 c1 c2 c3 hsl
 refine aD (fun m e H=>∃j:Nat,j<=target.length - pv.length/\m=target.length - pv.length - j/\ah (∀i,i<j->∀a,t'[pv.length+i]?=some a->at0 a rows.length=0)/\e.get 6= .ptr (.box h.boxes.length) 0/\e.get 7= .v (.int .i64 (rows.length:Nat))/\e.get 8= .arr tb 0 target.length target.length/\e.get 9= .list tk s3 (ints (pvI pv))/\e.get 28= .arr tb off (target.length - pv.length) (target.length - pv.length)/\e.get 29= .v (.int .i64 ((target.length - pv.length:Nat):Int))/\e.get 30= .v (.int .i64 (j:Nat))/\e.defers=[(177,[.ptr (.box h.boxes.length) 0])]/\e.pan=none/\H=H3) ?_ (target.length - pv.length) _ _ ?_
 rotate_left 1
 ·exact⟨0,Nat.zero_le _,rfl,⟨fun i hi=>absurd hi (Nat.not_lt_zero _)⟩,f6,f7,f8,f9,f28,f29,f30,fd,fp,rfl⟩
 clear f6 f7 f8 f9 f28 f29 f30 fd fp
 rintro m e H3 ⟨j,hj,rfl,kz,g6,g7,g8,g9,g28,g29,g30,hd,hp,rfl⟩
 obtain⟨T3,V,e1,X0,b0,hs3⟩:=kk.out
 have s6:=fun n=>NM (n:=n) b0
 by_cases hlt:j<target.length - pv.length
 ·obtain⟨a,ha⟩:∃a,t'[pv.length+j]?=some a:=⟨_,List.getElem?_eq_getElem (by omega)⟩
  obtain⟨b,hb⟩:∃b,B3[pv.length+j]?=some b:=⟨_,List.getElem?_eq_getElem (by rw[T3.len];omega)⟩
  have wa:=T3.wid a (List.mem_of_getElem? ha)
  have hdj:(B3.map fun b=>AV.arr b 0 (rows.length+1) (rows.length+1))[off+j]?=some (.arr b 0 (rows.length+1) (rows.length+1)):=by rw[khoff.out (by omega),List.getElem?_map,hb];rfl
  have m1:=oQ T3.hdr hdj
  have m2:=ldc (T3.row _ _ _ hb ha) (gv (k:=rows.length) (by omega))
  have ix1:=Rt (b:=tb) (off:=off) (cap:=target.length - pv.length) (k:= .i64) hlt
  have ix2:=vE (b:=b) (len:=rows.length+1) (cap:=rows.length+1) (k:= .i64) (show rows.length<rows.length+1 by omega)
  have hltI:(j:Int)<((target.length - pv.length:Nat):Int):=by omega
  by_cases hz:at0 a rows.length=0
  ·have kz2:ah (∀i,i<j+1->∀a,t'[pv.length+i]?=some a->at0 a rows.length=0):=⟨fun i hi a' ha'=>by
    rcases Nat.lt_or_ge i j with q|q
    ·exact kz.out i q a' ha'
    ·rw[show i=j by omega,ha] at ha'
     injection ha' with ha'
     rw[<-ha'];exact hz⟩
   rw[hz] at m2
   unfold im at *
   clear T3 V e1 X0 b0 hs3 s6 ha hb wa hdj hz kz
   repeat' (first|simp(maxSteps:=999999) (disch:=first|exact dZ|fail) only[gW,reduceIte,Nat.reduceEqDiff,beq_self_eq_true,xK, *] | (refine dX ?_ ?_<;>(intro _;try omega)))
   exact⟨target.length - pv.length - (j+1),by omega,j+1,by omega,rfl,kz2,by simp⟩
  ·have e2:gi rows target=none:=by
    rw[e1,if_neg]
    intro q
    rw[List.all_eq_true] at q
    have:=q a (List.mem_of_getElem? (i:=j) (by rw[List.getElem?_drop];exact ha))
    exact hz (of_decide_eq_true this)
   have ke:=ah.mk e2
   have kX:=ah.mk X0
   have kb:=ah.mk b0
   have l6:∀n,ai Tryz.prog Gt (H3.put h.boxes.length [.v (.int .i64 n)]) 32 (.ptr (.box h.boxes.length) 0)=some (.v (.int .i64 n)):=fun n=>NL (aS (List.getElem?_eq_some_iff.1 b0).1)
   unfold im at *
   clear T3 V e1 X0 b0 hs3 ha hb wa hdj kz e2
   repeat' (first|simp(maxSteps:=999999) (disch:=first|exact dZ|fail) only[gW,reduceIte,Nat.reduceEqDiff,beq_self_eq_true,xK,oC (xL _ _), *] | (refine dX ?_ ?_<;>(intro _;try omega)))
   exact⟨_,_,rfl,kX.out.bZ (Nat.le_refl _) _,.inl ⟨ke.out,rfl⟩⟩
 ·have hje:j=target.length - pv.length:=by omega
  subst hje
  have e2:gi rows target=some (gF (t',pv) rows.length):=by
   rw[e1,if_pos]
   rw[List.all_eq_true]
   intro a ha
   obtain⟨i,hi⟩:=List.getElem?_of_mem ha
   rw[List.getElem?_drop] at hi
   have hil:=(List.getElem?_eq_some_iff.1 hi).1
   exact decide_eq_true (kz.out i (by omega) a hi)
  rw[<-G8] at e2
  have ke:=ah.mk e2
  have mk:=Pf H3 rows.length (by omega) .i64 .i64
  have hrep:List.replicate rows.length (im 0)=(jD t' pv rows.length 0).map im:=by
   unfold jD;rw[List.take_zero,List.foldl_nil,List.map_replicate]
  rw[hrep] at mk
  clear e1 e2 hrep kz b0 s6 X0 T3 V hs3
  unfold im at mk
  repeat' (first|simp(maxSteps:=999999) (disch:=first|exact dZ|fail) only[gW,reduceIte,Nat.reduceEqDiff,beq_self_eq_true,xK, *] | (refine dX ?_ ?_<;>(intro _;try omega)))
  refine Run.gen fun e0 he0 hd0 hp0 hr0=>?_
  have f4:e0.get 4= .arr H3.boxes.length 0 rows.length rows.length:=by rw[he0];exact gS
  have f6:e0.get 6= .ptr (.box h.boxes.length) 0:=by rw[he0];simp only[gW,reduceIte,Nat.reduceEqDiff,beq_self_eq_true];exact g6
  have f7:e0.get 7= .v (.int .i64 (rows.length:Nat)):=by rw[he0];simp only[gW,reduceIte,Nat.reduceEqDiff,beq_self_eq_true];exact g7
  have f8:e0.get 8= .arr tb 0 target.length target.length:=by rw[he0];simp only[gW,reduceIte,Nat.reduceEqDiff,beq_self_eq_true];exact g8
  have f42:e0.get 42= .list tk s3 (ints (pvI pv)):=by rw[he0];exact gS
  have f43:e0.get 43= .v (.int .i64 (pv.length:Nat)):=by rw[he0];exact gS
  have f44:e0.get 44= .v (.int .i64 (0:Nat)):=by rw[he0];exact gR
  have fd:e0.defers=[(177,[.ptr (.box h.boxes.length) 0])]:=by rw[hd0];simp only[gW,reduceIte,Nat.reduceEqDiff,beq_self_eq_true];exact hd
  have fp:e0.pan=none:=by rw[hp0];simp only[gW,reduceIte,Nat.reduceEqDiff,beq_self_eq_true];exact hp
  clear he0 hd0 hp0 hr0 g6 g7 g8 g9 g28 g29 g30 hd hp mk
  refine aD (fun m e H=>∃j:Nat,j<=pv.length/\m=pv.length - j/\e.get 4= .arr H3.boxes.length 0 rows.length rows.length/\e.get 6= .ptr (.box h.boxes.length) 0/\e.get 7= .v (.int .i64 (rows.length:Nat))/\e.get 8= .arr tb 0 target.length target.length/\e.get 42= .list tk s3 (ints (pvI pv))/\e.get 43= .v (.int .i64 (pv.length:Nat))/\e.get 44= .v (.int .i64 (j:Nat))/\e.defers=[(177,[.ptr (.box h.boxes.length) 0])]/\e.pan=none/\H=H3.push ((jD t' pv rows.length j).map im)) ?_ pv.length _ _ ?_
  rotate_left 1
  ·exact⟨0,Nat.zero_le _,rfl,f4,f6,f7,f8,f42,f43,f44,fd,fp,rfl⟩
  clear f4 f6 f7 f8 f42 f43 f44 fd fp
  rintro m e H ⟨j,hj,rfl,g4,g6,g7,g8,g42,g43,g44,hd,hp,rfl⟩
  obtain⟨T3,V,-,X0,b0,hs3⟩:=kk.out
  by_cases hlt:j<pv.length
  ·obtain⟨p,hpv⟩:∃p,pv[j]?=some p:=⟨_,List.getElem?_eq_getElem hlt⟩
   have hpn:=V.lt j p hpv
   have hs1:s3=1:=by
    rcases hs3 with q|⟨q,-⟩
    ·exact q
    ·exfalso
     unfold pvI at q
     rw[List.map_eq_nil_iff] at q
     rw[q] at hlt
     exact Nat.not_lt_zero _ hlt
   subst hs1
   obtain⟨a,ha⟩:∃a,t'[j]?=some a:=⟨_,List.getElem?_eq_getElem (by omega)⟩
   obtain⟨b,hb⟩:∃b,B3[j]?=some b:=⟨_,List.getElem?_eq_getElem (by rw[T3.len];omega)⟩
   have wa:=T3.wid a (List.mem_of_getElem? ha)
   have hdj:(B3.map fun b=>AV.arr b 0 (rows.length+1) (rows.length+1))[j]?=some (.arr b 0 (rows.length+1) (rows.length+1)):=by rw[List.getElem?_map,hb];rfl
   have hpI:at0 (pvI pv) j=(p:Int):=by
    have:(pvI pv)[j]?=some (p:Int):=by unfold pvI;rw[List.getElem?_map,hpv];rfl
    unfold at0
    rw[List.getD_eq_getElem?_getD,this];rfl
   have l0:=ldi (H:=H3.push ((jD t' pv rows.length j).map im)) (l:=pvI pv) (i:=j) (s:=1) (by unfold pvI;rw[List.length_map];exact hlt)
   rw[hpI] at l0
   have m1:=oQ (H:=H3.push ((jD t' pv rows.length j).map im)) (aj T3.hdr) hdj
   have m2:=ldc (H:=H3.push ((jD t' pv rows.length j).map im)) (aj (T3.row _ _ _ hb ha)) (gv (k:=rows.length) (by omega))
   have ix1:=xH (b:=tb) (len:=target.length) (cap:=target.length) (k:= .i64) (show j<target.length by omega)
   have ix2:=vE (b:=b) (len:=rows.length+1) (cap:=rows.length+1) (k:= .i64) (show rows.length<rows.length+1 by omega)
   have ix3:=vE (b:=H3.boxes.length) (len:=rows.length) (cap:=rows.length) (k:= .i64) hpn
   have sk:=J3 (H:=H3.push ((jD t' pv rows.length j).map im)) (b:=H3.boxes.length) (r:=jD t' pv rows.length j) (k:=p) (x:=at0 a rows.length) (ak _ _) (by rw[xM];exact hpn)
   have gD:t'.getD j []=a:=by rw[List.getD_eq_getElem?_getD,ha];rfl
   rw[gg,<-gD,DM hpv,gD] at sk
   have hltI:(j:Int)<(pv.length:Int):=by omega
   have z3:=sz3
   unfold im at *
   clear T3 V X0 b0 hs3 ha hb wa hdj gD hpI hpv kk ke
   repeat' (first|simp(maxSteps:=999999) (disch:=first|exact dZ|fail) only[gW,reduceIte,Nat.reduceEqDiff,beq_self_eq_true,xK,al, *] | (refine dX ?_ ?_<;>(intro _;try omega)))
   exact⟨pv.length - (j+1),by omega,j+1,by omega,rfl,by simp⟩
  ·have hje:j=pv.length:=by omega
   subst hje
   have b1:(H3.push ((jD t' pv rows.length pv.length).map im)).boxes[h.boxes.length]?=some [im 0]:=aj b0
   have s6:=fun n=>NM (n:=n) b1
   have hlt0:=(List.getElem?_eq_some_iff.1 b1).1
   have l6:∀n,ai Tryz.prog Gt ((H3.push ((jD t' pv rows.length pv.length).map im)).put h.boxes.length [.v (.int .i64 n)]) 32 (.ptr (.box h.boxes.length) 0)=some (.v (.int .i64 n)):=fun n=>NL (aS hlt0)
   have hne:H3.boxes.length≠h.boxes.length:=by have:=(List.getElem?_eq_some_iff.1 b0).1;omega
   have kX:=ah.mk X0
   clear T3 V X0 b0 b1 hs3 hlt0
   repeat' (first|simp(maxSteps:=999999) (disch:=first|exact dZ|fail) only[gW,reduceIte,Nat.reduceEqDiff,beq_self_eq_true,xK,oC (xL _ _), *] | (refine dX ?_ ?_<;>(intro _;try omega)))
   exact⟨_,_,rfl,(kX.out.trans (.push _ _)).bZ (Nat.le_refl _) _,.inr ⟨_,_,ke.out,xM _ _ _ _,rfl,(av hne).trans (ak _ _)⟩⟩
end Go.Proofs.YtnfciiiohoafaaaGreatDoor
end
