/-
  Part of the proof: PM.
-/
import Derived.Test.YtnfciiiohoafaaaGreatDoorPL
set_option maxHeartbeats 64000000
set_option maxRecDepth 100000
set_option linter.unusedSimpArgs false
set_option linter.unusedVariables false
set_option linter.constructorNameAsVariable false
section
namespace Go.Proofs.YtnfciiiohoafaaaGreatDoor
open Go.AE Go.NT
theorem NN:Tryz.f154.results.toList=[.tmp 6]:=kZq
theorem Ru:Tryz.f155.results.toList=[.tmp 2]:=kZq
theorem Rv:Tryz.f151.results.toList=[.tmp 2]:=kZq
theorem Rw:Tryz.f153.results.toList=[.tmp 2]:=kZq
theorem wK:Tryz.f97.results.toList=[.tmp 2]:=kZq
theorem xN(n a b:Int)(h:ae):W2.call 154 [im n,im a,im b] h=some (.ret (.v (.bool (decide (a<=n)&&decide (n<=b)))),h):=by
 unfold im
 by_cases h0:a<=n
 ·have:decide (a<=n)=true:=by simp[h0]
  refine ar rfl Tryz.func154 rfl ?_
  repeat' (first|simp(maxSteps:=999999) (disch:=first|exact dZ|fail) only[gW,reduceIte,Nat.reduceEqDiff,beq_self_eq_true,NN,Bool.true_and, *] | (refine dX ?_ ?_<;>(intro _;try omega)))
 ·have:decide (a<=n)=false:=by simp[h0]
  refine ar rfl Tryz.func154 rfl ?_
  repeat' (first|simp(maxSteps:=999999) (disch:=first|exact dZ|fail) only[gW,reduceIte,Nat.reduceEqDiff,beq_self_eq_true,NN,Bool.false_and, *] | (refine dX ?_ ?_<;>(intro _;try omega)))
def iR(n:Int):Bool:=decide (0<=n)&&decide (n<=63)
theorem xO(n:Int)(h:ae):W2.call 155 [im n] h=some (.ret (.v (.bool (iR n))),h):=by
 have w:=xN n 0 63 h
 unfold iR
 unfold im at *
 refine ar rfl Tryz.func155 rfl ?_
 repeat' (first|simp(maxSteps:=999999) (disch:=first|exact dZ|fail) only[gW,reduceIte,Nat.reduceEqDiff,beq_self_eq_true,Ru, *] | (refine dX ?_ ?_<;>(intro _;try omega)))
theorem MF(a:AV)(r:List Int)(ha:IL a r)(h:ae):W2.call 151 [a] h=some (.ret (.v (.bool (decide (64<r.length)))),h):=by
 obtain⟨k,s,rfl,-⟩:=ha
 have u23:=Tryz.underlying23
 have hl:=aU r
 have hd:decide (64<r.length)=decide ((64:Int)<(r.length:Int)):=by rw[decide_eq_decide];omega
 rw[hd]
 refine ar rfl Tryz.func151 rfl ?_
 repeat' (first|simp(maxSteps:=999999) (disch:=first|exact dZ|fail) only[gW,reduceIte,Nat.reduceEqDiff,beq_self_eq_true,Rv, *] | (refine dX ?_ ?_<;>(intro _;try omega)))
theorem Pj(n:Int)(h:ae):W2.call 153 [im n] h=some (.ret (.v (.bool (!inQ n))),h):=by
 have w:=xN n 0 1073741788 h
 have e:inQ n=(decide (0<=n)&&decide (n<=1073741788)):=by
  unfold inQ Qi
  congr 1
  rw[decide_eq_decide]
  omega
 rw[e]
 unfold im at *
 refine ar rfl Tryz.func153 rfl ?_
 repeat' (first|simp(maxSteps:=999999) (disch:=first|exact dZ|fail) only[gW,reduceIte,Nat.reduceEqDiff,beq_self_eq_true,Rw, *] | (refine dX ?_ ?_<;>(intro _;try omega)))
theorem Pk:cZ Tryz.prog 22=some false:=kZq
theorem G9:cZ Tryz.prog 25=some true:=kZq
theorem bH{b:Nat}:aJ Tryz.prog 25 (.ptr (.box b) 0) 0=some (.ptr (.box b) 0):=kZq
theorem cW{b:Nat}:aJ Tryz.prog 25 (.ptr (.box b) 0) 1=some (.ptr (.box b) 1):=kZq
theorem tY{H:ae}{b:Nat}{x y:AV}(hb:H.boxes[b]?=some [x,y]):ai Tryz.prog Gt H 22 (.ptr (.box b) 0)=some x:=by rw[dc Pk hb];rfl
theorem MG{H:ae}{b:Nat}{x y:AV}(hb:H.boxes[b]?=some [x,y]):ai Tryz.prog Gt H 23 (.ptr (.box b) 1)=some y:=by rw[dc mo hb];rfl
def mT(rows:List (List Int))(owners:List Int)(i:Nat):Bool:= !(rows.getD i []).isEmpty&&decide ((rows.getD i []).length=(rows.getD 0 []).length)&&(decide (0<=at0 owners i)&&decide (at0 owners i<=63))&&(rows.getD i []).all inQ
theorem EG(h:ae)(x y:AV)(rows:List (List Int))(owners:List Int)(hx:RL x rows)(hy:IL y owners):
 ∃h',W2.call 97 [.agg [x,y]] h=some (.ret (.v (.int .i64 (bC rows owners))),h')/\h'=h.push [x,y]:=by
 have c1:=fun(hl:rows.length<=64)=>Bt 151 (fun r=>decide (64<r.length)) (h.push [x,y]) x rows hx (by omega) (fun a r _ ha=>MF a r ha _)
 obtain⟨k,s,xs,rfl,hs,hxl,hxr⟩:=hx
 obtain⟨ky,sy,rfl,hsy⟩:=hy
 have kk:=ah.mk (And.intro hs (And.intro hxr hsy))
 clear hs hxr hsy
 have u23:=Tryz.underlying23
 have u22:=Tryz.underlying22
 have z23:=jC
 have z3:=sz3
 have hil:(xs.map fun a=>[a]).length=rows.length:=by rw[List.length_map];exact hxl
 have hol:=aU owners
 have b0:(h.push [.list k s (xs.map fun a=>[a]),.list ky sy (ints owners)]).boxes[h.boxes.length]?=some [.list k s (xs.map fun a=>[a]),.list ky sy (ints owners)]:=ak _ _
 have l0:=tY b0
 have l1:=MG b0
 have bx:(AV.agg [.list k s (xs.map fun a=>[a]),.list ky sy (ints owners)]).aC=some [.list k s (xs.map fun a=>[a]),.list ky sy (ints owners)]:=rfl
 clear b0
 unfold bC
 refine dL rfl Tryz.func97 rfl ?_
 by_cases h1:64<rows.length
 ·have hq:decide ((64:Int)<(rows.length:Int))=true:=by simp;omega
  rw[if_pos (by simp[h1])]
  clear c1
  generalize hH:h.push [.list k s (xs.map fun a=>[a]),.list ky sy (ints owners)]=H at *
  repeat' (first|simp(maxSteps:=999999) (disch:=first|exact dZ|fail) only[gW,reduceIte,Nat.reduceEqDiff,beq_self_eq_true,wK,bH,cW,aw,hH, *] | (refine dX ?_ ?_<;>(intro _;try omega)))
  exact⟨_,rfl,rfl⟩
 have hq:decide ((64:Int)<(rows.length:Int))=false:=by simp;omega
 have c2:=c1 (by omega)
 have hd1:decide (64<rows.length)=false:=by simp[h1]
 rw[hd1,Bool.false_or]
 clear c1 hd1
 cases h2:rows.any fun r=>decide (64<r.length) with
 |true=>
  rw[h2] at c2
  rw[if_pos rfl]
  clear h2
  repeat' (first|simp(maxSteps:=999999) (disch:=first|exact dZ|fail) only[gW,reduceIte,Nat.reduceEqDiff,beq_self_eq_true,wK,bH,cW,aw, *] | (refine dX ?_ ?_<;>(intro _;try omega)))
  exact⟨_,rfl,rfl⟩
 |false=>
  rw[h2] at c2
  rw[if_neg (by simp)]
  by_cases h3:rows.length=owners.length
  rotate_left 1
  ·rw[if_pos h3]
   clear h2
   have hn:¬((rows.length:Int)=(owners.length:Int)):=by omega
   repeat' (first|simp(maxSteps:=999999) (disch:=first|exact dZ|fail) only[gW,reduceIte,Nat.reduceEqDiff,beq_self_eq_true,wK,bH,cW,aw, *] | (refine dX ?_ ?_<;>(intro _;try omega)))
   exact⟨_,rfl,rfl⟩
  rw[if_neg (by simpa using h3)]
  have h2':=ah.mk h2
  have hn:(rows.length:Int)=(owners.length:Int):=by omega
  have kn:=ah.mk h3
  clear h2 h3
  obtain⟨H,hH⟩:∃H,h.push [.list k s (xs.map fun a=>[a]),.list ky sy (ints owners)]=H:=⟨_,rfl⟩
  rw[hH] at l0 l1 c2
  rw[hH]
  generalize hres:(if ((List.range rows.length).all fun i=> !(rows.getD i []).isEmpty&&decide ((rows.getD i []).length=(rows.getD 0 []).length)&&(decide (0<=at0 owners i)&&decide (at0 owners i<=63))&&(rows.getD i []).all inQ)=true then (0:Int) else 230)=res
  have kres:ah (res=if ((List.range rows.length).all (mT rows owners))=true then (0:Int) else 230):=⟨hres.symm⟩
  have kH:=ah.mk hH
  clear hres hn
  have hle:rows.length<=64:=by omega
  have hn':(owners.length:Int)=(rows.length:Int):=by have:=kn.out;omega
  repeat' (first|simp(maxSteps:=999999) (disch:=first|exact dZ|fail) only[gW,reduceIte,Nat.reduceEqDiff,beq_self_eq_true,wK,bH,cW,aw,hH, *] | (refine dX ?_ ?_<;>(intro _;try omega)))
  refine Run.gen fun e0 he0 hd0 hp0 hr0=>?_
  have f1:e0.get 1= .ptr (.box h.boxes.length) 0:=by rw[he0];exact gS
  have f25:e0.get 25= .list k s (xs.map fun a=>[a]):=by rw[he0];exact gS
  have f26:e0.get 26= .v (.int .i64 (rows.length:Nat)):=by rw[he0];exact gS
  have f27:e0.get 27= .v (.int .i64 (0:Nat)):=by rw[he0];exact gR
  have fd:e0.defers=[]:=by rw[hd0];exact gS
  clear he0 hd0 hp0 hr0 hH bx c2 hq h1
  refine aD (fun m e H2=>∃i:Nat,i<=rows.length/\m=rows.length - i/\ah (∀j,j<i->mT rows owners j=true)/\e.get 1= .ptr (.box h.boxes.length) 0/\e.get 25= .list k s (xs.map fun a=>[a])/\e.get 26= .v (.int .i64 (rows.length:Nat))/\e.get 27= .v (.int .i64 (i:Nat))/\e.defers=[]/\H2=H) ?_ rows.length _ _ ?_
  rotate_left 1
  ·exact⟨0,Nat.zero_le _,rfl,⟨fun j hj=>absurd hj (Nat.not_lt_zero _)⟩,f1,f25,f26,f27,fd,rfl⟩
  clear f1 f25 f26 f27 fd
  rintro m e H2 ⟨i,hi,rfl,kf,g1,g25,g26,g27,hd,hHe⟩
  rw[<-hHe] at l0 l1 kH ⊢
  clear hHe
  by_cases hlt:i<rows.length
  rotate_left 1
  ·have hie:i=rows.length:=by omega
   subst hie
   have h0:res=0:=by
    rw[kres.out,if_pos]
    rw[List.all_eq_true]
    intro j hj
    exact kf.out j (List.mem_range.1 hj)
   have k0:=ah.mk h0
   clear h0
   repeat' (first|simp(maxSteps:=999999) (disch:=first|exact dZ|fail) only[gW,reduceIte,Nat.reduceEqDiff,beq_self_eq_true,wK, *] | (refine dX ?_ ?_<;>(intro _;try omega)))
   exact⟨_,by rw[k0.out],rfl⟩
  have hs1:s=1:=kk.out.1 (by intro q;rw[q] at hlt;simp at hlt)
  subst hs1
  have hs2:sy=1:=kk.out.2.2 (by intro q;have h0:=kn.out;rw[q,List.length_nil] at h0;omega)
  subst hs2
  obtain⟨a,hav⟩:∃a,xs[i]?=some a:=⟨_,List.getElem?_eq_getElem (by omega)⟩
  obtain⟨r,hv⟩:∃r,rows[i]?=some r:=⟨_,List.getElem?_eq_getElem hlt⟩
  obtain⟨a0,hav0⟩:∃a,xs[0]?=some a:=⟨_,List.getElem?_eq_getElem (by omega)⟩
  obtain⟨r0,hv0⟩:∃r,rows[0]?=some r:=⟨_,List.getElem?_eq_getElem (by omega)⟩
  have ld:=ldr (H:=H2) (s:=1) hav
  have ld0:=ldr (H:=H2) (s:=1) hav0
  have hil2:=kk.out.2.1 i a r hav hv
  obtain⟨ka,sa,rfl,hsa⟩:=hil2
  obtain⟨ka0,sa0,rfl,hsa0⟩:=kk.out.2.1 0 a0 r0 hav0 hv0
  have hrl:=aU r
  have hrl0:=aU r0
  have ldo:=ldi (H:=H2) (l:=owners) (i:=i) (s:=1) (by have:=kn.out;omega)
  have hbig:r.length<=64:=by
   have:=h2'.out
   rw[List.any_eq_false] at this
   have:=this r (List.mem_of_getElem? hv)
   simpa using this
  have cc:=tJ 153 (fun n=> !inQ n) H2 (.list ka sa (ints r)) r ⟨_,_,rfl,hsa⟩ (by omega) (fun n _=>Pj n H2)
  have cp:=xO (at0 owners i) H2
  have hfin:mT rows owners i=(!r.isEmpty&&decide (r.length=r0.length)&&iR (at0 owners i)&&r.all inQ):=by
   unfold mT iR
   have g1:rows.getD i []=r:=by rw[List.getD_eq_getElem?_getD,hv];rfl
   have g2:rows.getD 0 []=r0:=by rw[List.getD_eq_getElem?_getD,hv0];rfl
   rw[g1,g2]
  have hany:(r.any fun n=> !inQ n)= !(r.all inQ):=by
   rw[List.any_eq_not_all_not];simp
  rw[hany] at cc
  have kfin:=ah.mk hfin
  have bad:mT rows owners i=false->res=230:=by
   intro q
   rw[kres.out,if_neg]
   intro z
   rw[List.all_eq_true] at z
   have:=z i (List.mem_range.2 hlt)
   rw[q] at this;cases this
  have kbad:=ah.mk bad
  have hltI:(i:Int)<(rows.length:Int):=by omega
  have h0I:(0:Int)<(rows.length:Int):=by omega
  have z0:(0:Int).toNat=0:=rfl
  clear hfin bad hany hbig hav hv hsa hav0 hv0 hsa0
  unfold im at *
  generalize at0 owners i=o at *
  by_cases e1:r.length=0
  ·have hq1:decide ((r.length:Int)=0)=true:=by simp[e1]
   have hb:res=230:=kbad.out (by rw[kfin.out,List.length_eq_zero_iff.1 e1];rfl)
   have kb:=ah.mk hb
   clear hb e1 cc cp
   repeat' (first|simp(maxSteps:=999999) (disch:=first|exact dZ|fail) only[gW,reduceIte,Nat.reduceEqDiff,beq_self_eq_true,wK,bH,cW,al, *] | (refine dX ?_ ?_<;>(intro _;try omega)))
   exact⟨_,by rw[kb.out],rfl⟩
  have hq1:decide ((r.length:Int)=0)=false:=by simp[e1]
  have he1:r.isEmpty=false:=by cases r with|nil=>exact absurd rfl e1|cons _ _=>rfl
  by_cases e2:r.length=r0.length
  rotate_left 1
  ·have hq2:decide ((r.length:Int)=(r0.length:Int))=false:=by simp;omega
   have hb:res=230:=kbad.out (by rw[kfin.out,he1,decide_eq_false e2];rfl)
   have kb:=ah.mk hb
   clear hb e1 e2 he1 cc cp
   repeat' (first|simp(maxSteps:=999999) (disch:=first|exact dZ|fail) only[gW,reduceIte,Nat.reduceEqDiff,beq_self_eq_true,wK,bH,cW,al, *] | (refine dX ?_ ?_<;>(intro _;try omega)))
   exact⟨_,by rw[kb.out],rfl⟩
  have hq2:decide ((r.length:Int)=(r0.length:Int))=true:=by simp;omega
  cases e3:iR o with
  |false=>
   have hb:res=230:=kbad.out (by rw[kfin.out,e3];simp)
   have kb:=ah.mk hb
   rw[e3] at cp
   clear hb e1 e2 he1 cc e3
   repeat' (first|simp(maxSteps:=999999) (disch:=first|exact dZ|fail) only[gW,reduceIte,Nat.reduceEqDiff,beq_self_eq_true,wK,bH,cW,al, *] | (refine dX ?_ ?_<;>(intro _;try omega)))
   exact⟨_,by rw[kb.out],rfl⟩
  |true=>
   rw[e3] at cp
   cases e4:r.all inQ with
   |false=>
    have hb:res=230:=kbad.out (by rw[kfin.out,e4];simp)
    have kb:=ah.mk hb
    rw[e4] at cc
    clear hb e1 e2 he1 e3 e4
    repeat' (first|simp(maxSteps:=999999) (disch:=first|exact dZ|fail) only[gW,reduceIte,Nat.reduceEqDiff,beq_self_eq_true,wK,bH,cW,al, *] | (refine dX ?_ ?_<;>(intro _;try omega)))
    exact⟨_,by rw[kb.out],rfl⟩
   |true=>
    rw[e4] at cc
    have kf2:ah (∀j,j<i+1->mT rows owners j=true):=⟨fun j hj=>by
     rcases Nat.lt_or_ge j i with q|q
     ·exact kf.out j q
     ·rw[show j=i by omega,kfin.out,he1,decide_eq_true e2,e3,e4];rfl⟩
    clear e1 e2 he1 e3 e4 kfin kf
    repeat' (first|simp(maxSteps:=999999) (disch:=first|exact dZ|fail) only[gW,reduceIte,Nat.reduceEqDiff,beq_self_eq_true,wK,bH,cW,al, *] | (refine dX ?_ ?_<;>(intro _;try omega)))
    exact⟨rows.length - (i+1),by omega,i+1,by omega,rfl,kf2,by simp⟩
theorem xP:Tryz.f198.results.toList=[.tmp 4,.tmp 5]:=kZq
theorem Rx:Tryz.f216.results.toList=[.tmp 4]:=kZq
theorem Ry:Tryz.f217.results.toList=[.tmp 2]:=kZq
theorem Rz:Tryz.f226.results.toList=[.tmp 2]:=kZq
theorem Ke(n:Int)(h:ae):W2.call 226 [im n] h=some (.ret (.v (.bool false)),h):=by
 unfold im
 refine ar rfl Tryz.func226 rfl ?_
 repeat' (first|simp(maxSteps:=999999) (disch:=first|exact dZ|fail) only[gW,reduceIte,Nat.reduceEqDiff,beq_self_eq_true,Rz,ne_eq,not_true_eq_false,decide_false, *] | (refine dX ?_ ?_<;>(intro _;try omega)))
theorem Pl(n:Int)(h:ae):W2.call 217 [im n] h=some (.ret (.v (.bool false)),h):=by
 unfold im
 refine ar rfl Tryz.func217 rfl ?_
 repeat' (first|simp(maxSteps:=999999) (disch:=first|exact dZ|fail) only[gW,reduceIte,Nat.reduceEqDiff,beq_self_eq_true,Ry,ne_eq,not_true_eq_false,decide_false, *] | (refine dX ?_ ?_<;>(intro _;try omega)))
theorem MH(a b:Int)(h:ae):W2.call 216 [im a,im b] h=some (.ret (.v (.bool (decide (a<b)))),h):=by
 have n1:=Ke a h
 have n2:=Ke b h
 unfold im at *
 refine ar rfl Tryz.func216 rfl ?_
 repeat' (first|simp(maxSteps:=999999) (disch:=first|exact dZ|fail) only[gW,reduceIte,Nat.reduceEqDiff,beq_self_eq_true,Rx, *] | (refine dX ?_ ?_<;>(intro _;try omega)))
theorem EH(n:Int)(h:ae):fm Tryz.prog h 179 3 (.v (.int .u64 n))=some (.v (.int .i64 (IntKind.i64.wrap n)),h):=kZq
theorem Kf{t:TypeId}{x y:Operand}{n:Nat}:bB Tryz.prog .shr t x y (.v (.int .u64 (n:Nat))) (.v (.int .u64 1))=some (.v (.int .u64 ((n/2:Nat):Int))):=by
 rw[nr (by decide)]
 congr 3
 show((n:Nat):Int).fdiv (2^1)=_
 rw[Int.fdiv_eq_ediv_of_nonneg _ (by decide)]
 simp
theorem Kg{n:Nat}(h:n<18446744073709551616):IntKind.u64.wrap (n:Nat)=(n:Nat):=by
 show((n:Nat):Int).emod 18446744073709551616=_
 exact Int.emod_eq_of_lt (by omega) (by omega)
def Asc(who:List Int):Prop:=∀i j:Nat,i<j->j<who.length->at0 who i<at0 who j
theorem zC{l:List Int}{i:Nat}(h:i<l.length):at0 l i∈l:=by rw[bN h];exact List.getElem_mem h
theorem EI{l:List Int}{x:Int}(h:x∈l):∃i,i<l.length/\at0 l i=x:=by
 obtain⟨i,hi,rfl⟩:=List.getElem_of_mem h
 exact⟨i,hi,bN hi⟩
theorem Ha(h:ae)(x:AV)(who:List Int)(o:Int)(hx:IL x who)(hs:Asc who)(hl:who.length<=1000000):
 ∃r h',W2.call 198 [x,im o] h=some (r,h')/\h'=h/\∃i:Int,r= .ret (.tuple [im i,.v (.bool (who.contains o))]):=by
 obtain⟨k,s,rfl,hsz⟩:=hx
 have kk:=ah.mk (And.intro hsz hs)
 clear hsz hs
 have u23:=Tryz.underlying23
 have z3:=sz3
 have hil:=aU who
 have hn1:=fun n=>Pl n h
 unfold im at *
 refine aL rfl Tryz.func198 rfl ?_
 repeat' (first|simp(maxSteps:=999999) (disch:=first|exact dZ|fail) only[gW,reduceIte,Nat.reduceEqDiff,beq_self_eq_true,xP, *] | (refine dX ?_ ?_<;>(intro _;try omega)))
 refine Run.gen fun e0 he0 hd0 hp0 hr0=>?_
 have f0:e0.get 0= .list k s (ints who):=by rw[he0];exact gS
 have f1:e0.get 1= .v (.int .i64 o):=by rw[he0];exact gS
 have f6:e0.get 6= .v (.int .i64 (who.length:Nat)):=by rw[he0];exact gS
 have f7:e0.get 7= .v (.int .i64 (0:Nat)):=by rw[he0];exact gR
 have f8:e0.get 8= .v (.int .i64 (who.length:Nat)):=by rw[he0];exact gS
 have fd:e0.defers=[]:=by rw[hd0];exact gS
 clear he0 hd0 hp0 hr0
 refine aD (fun m e H=>∃lo hi:Nat,lo<=hi/\hi<=who.length/\m=hi - lo/\ah ((∀j,j<lo->at0 who j<o)/\∀j,hi<=j->j<who.length->o<=at0 who j)/\e.get 0= .list k s (ints who)/\e.get 1= .v (.int .i64 o)/\e.get 6= .v (.int .i64 (who.length:Nat))/\e.get 7= .v (.int .i64 (lo:Nat))/\e.get 8= .v (.int .i64 (hi:Nat))/\e.defers=[]/\H=h) ?_ who.length _ _ ?_
 rotate_left 1
 ·exact⟨0,who.length,Nat.zero_le _,Nat.le_refl _,rfl,⟨fun j hj=>absurd hj (Nat.not_lt_zero _),fun j h1 h2=>by omega⟩,f0,f1,f6,f7,f8,fd,rfl⟩
 clear f0 f1 f6 f7 f8 fd
 rintro m e H ⟨lo,hi,h1,h2,rfl,kI,g0,g1,g6,g7,g8,hd,rfl⟩
 by_cases hlt:lo<hi
 ·have hs1:s=1:=kk.out.1 (by intro q;rw[q,List.length_nil] at h2;omega)
  subst hs1
  obtain⟨md,hmd⟩:∃md:Nat,(lo+hi)/2=md:=⟨_,rfl⟩
  have ld:=ldi (H:=H) (l:=who) (i:=md) (s:=1) (by omega)
  have ls:=MH (at0 who md) o H
  have hltI:(lo:Int)<(hi:Int):=by omega
  have hadd:(lo:Int)+(hi:Int)=((lo+hi:Nat):Int):=by omega
  have hw1:IntKind.u64.wrap ((lo+hi:Nat):Int)=((lo+hi:Nat):Int):=Kg (by omega)
  have hw2:IntKind.i64.wrap (((lo+hi)/2:Nat):Int)=((md:Nat):Int):=by rw[hmd];exact bT (by omega) (by omega)
  have hmlt:(md:Int)<(who.length:Int):=by omega
  unfold im at ls
  by_cases hc:at0 who md<o
  ·have hdc:decide (at0 who md<o)=true:=by simp[hc]
   rw[hdc] at ls
   have kI2:ah ((∀j,j<md+1->at0 who j<o)/\∀j,hi<=j->j<who.length->o<=at0 who j):=⟨fun j hj=>by
    rcases Nat.lt_or_ge j md with q|q
    ·exact Int.lt_trans (kk.out.2 j md q (by omega)) hc
    ·rw[show j=md by omega];exact hc,kI.out.2⟩
   have khm:=ah.mk hmd
   clear hc hdc hmd
   repeat' (first|simp(maxSteps:=999999) (disch:=first|exact dZ|fail) only[gW,reduceIte,Nat.reduceEqDiff,beq_self_eq_true,xP,al,gN,EH,Kf, *] | (refine dX ?_ ?_<;>(intro _;try omega)))
   have:=khm.out
   exact⟨hi - (md+1),by omega,md+1,hi,by omega,h2,rfl,kI2,trivial,trivial,trivial,by simp,rfl,trivial,trivial⟩
  ·have hdc:decide (at0 who md<o)=false:=by simp[hc]
   rw[hdc] at ls
   have kI2:ah ((∀j,j<lo->at0 who j<o)/\∀j,md<=j->j<who.length->o<=at0 who j):=⟨kI.out.1,fun j hj hj2=>by
    rcases Nat.lt_or_ge md j with q|q
    ·have:=kk.out.2 md j q hj2
     omega
    ·rw[show j=md by omega];omega⟩
   have khm:=ah.mk hmd
   clear hc hdc hmd
   repeat' (first|simp(maxSteps:=999999) (disch:=first|exact dZ|fail) only[gW,reduceIte,Nat.reduceEqDiff,beq_self_eq_true,xP,al,gN,EH,Kf, *] | (refine dX ?_ ?_<;>(intro _;try omega)))
   have:=khm.out
   exact⟨md - lo,by omega,lo,md,by omega,by omega,rfl,kI2,trivial,trivial,trivial,rfl,by simp,trivial,trivial⟩
 ·have hle:lo=hi:=by omega
  subst hle
  have hno:∀j,j<who.length->at0 who j=o->j=lo:=by
   intro j hj he
   rcases Nat.lt_trichotomy j lo with q|q|q
   ·have:=kI.out.1 j q;omega
   ·exact q
   ·have h3:=kk.out.2 lo j q hj
    have h4:=kI.out.2 lo (Nat.le_refl _) (by omega)
    omega
  by_cases hin:lo<who.length
  ·have hs1:s=1:=kk.out.1 (by intro q;rw[q,List.length_nil] at hin;omega)
   subst hs1
   have ld:=ldi (H:=H) (l:=who) (i:=lo) (s:=1) hin
   have hltI:(lo:Int)<(who.length:Int):=by omega
   have hdI:decide ((lo:Int)<(who.length:Int))=true:=by simp[hin]
   by_cases hv:at0 who lo=o
   ·have hc:who.contains o=true:=by rw[List.contains_eq_mem,decide_eq_true (by rw[<-hv];exact zC hin)]
    have kc:=ah.mk hc
    have hd1:decide (at0 who lo=o)=true:=by simp[hv]
    clear hc hv hno
    repeat' (first|simp(maxSteps:=999999) (disch:=first|exact dZ|fail) only[gW,reduceIte,Nat.reduceEqDiff,beq_self_eq_true,xP,al, *] | (refine dX ?_ ?_<;>(intro _;try omega)))
    exact⟨_,_,rfl,rfl,_,by rw[kc.out]⟩
   ·have hc:who.contains o=false:=by
     rw[List.contains_eq_mem,decide_eq_false]
     intro q
     obtain⟨j,j1,j2⟩:=EI q
     have:=hno j j1 j2
     subst this
     exact hv j2
    have kc:=ah.mk hc
    have hd1:decide (at0 who lo=o)=false:=by simp[hv]
    clear hc hv hno
    repeat' (first|simp(maxSteps:=999999) (disch:=first|exact dZ|fail) only[gW,reduceIte,Nat.reduceEqDiff,beq_self_eq_true,xP,al, *] | (refine dX ?_ ?_<;>(intro _;try omega)))
    exact⟨_,_,rfl,rfl,_,by rw[kc.out]⟩
  ·have hc:who.contains o=false:=by
    rw[List.contains_eq_mem,decide_eq_false]
    intro q
    obtain⟨j,j1,j2⟩:=EI q
    have:=hno j j1 j2
    omega
   have kc:=ah.mk hc
   have hle:lo=who.length:=by omega
   subst hle
   have hdI:decide ((who.length:Int)<(who.length:Int))=false:=by simp
   clear hc hno
   repeat' (first|simp(maxSteps:=999999) (disch:=first|exact dZ|fail) only[gW,reduceIte,Nat.reduceEqDiff,beq_self_eq_true,xP,al, *] | (refine dX ?_ ?_<;>(intro _;try omega)))
   exact⟨_,_,rfl,rfl,_,by rw[kc.out]⟩
theorem RA:Tryz.f176.results.toList=[.tmp 4]:=kZq
theorem xQ:Tryz.f197.results.toList=[]:=kZq
theorem Pm(h:ae)(x y z:AV)(bx:(AV.agg [x,y]).aC=some [x,y])(hz:z.aC=some [z]):W2.call 176 [.agg [x,y],z] h=some (.ret (.func (.func 197) [] [.ptr (.box h.boxes.length) 0,.ptr (.box (h.boxes.length+1)) 0]),(h.push [x,y]).push [z]):=by
 refine ar rfl Tryz.func176 rfl ?_
 repeat' (first|simp(maxSteps:=999999) (disch:=first|exact dZ|fail) only[gW,reduceIte,Nat.reduceEqDiff,beq_self_eq_true,RA,aw,az, *] | (refine dX ?_ ?_<;>(intro _;try omega)))
theorem Kh(l pb wb:Nat)(k0:Tok)(s0:Nat)(xs:List AV)(y z:AV)(rows:List (List Int))(owners who:List Int)(Inv:Nat->ae->Prop)
 (hy:IL y owners) (hz:IL z who) (hxl:xs.length=rows.length) (hol:owners.length=rows.length) (hs0:rows≠[]->s0=1) (hasc:Asc who) (hwl:who.length<=1000000) (hrl:rows.length<=1000000)
 (h1:∀k H,Inv k H->H.boxes[pb]?=some [.list k0 s0 (xs.map fun a=>[a]),y]/\H.boxes[wb]?=some [z])
 (hR:∀k a H,k<rows.length->xs[k]?=some a->who.contains (at0 owners k)=true->Inv k H->∃H',W2.round l [im (k:Nat),a] H=some (.ret (.v (.bool true)),H')/\Inv (k+1) H')
 (hS:∀k H,k<rows.length->who.contains (at0 owners k)=false->Inv k H->Inv (k+1) H)
 (H0:ae) (h0:Inv 0 H0):∃H',W2.call 197 [.yield l,.ptr (.box pb) 0,.ptr (.box wb) 0] H0=some (.ret (.tuple []),H')/\Inv rows.length H':=by
 have kk:=ah.mk (And.intro h1 (And.intro hR (And.intro hS (And.intro h0 (And.intro hs0 (And.intro hasc hz))))))
 obtain⟨b1,b2⟩:=h1 0 H0 h0
 have l1:=tY b1
 obtain⟨ky,sy,rfl,hsy⟩:=hy
 have ksy:=ah.mk hsy
 clear h1 hR hS h0 hs0 hasc hz b1 b2 hsy
 have u23:=Tryz.underlying23
 have u22:=Tryz.underlying22
 have z3:=sz3
 have z23:=jC
 have hil:(xs.map fun a=>[a]).length=rows.length:=by rw[List.length_map];exact hxl
 have hil2:(ints owners).length=rows.length:=by rw[aU];exact hol
 refine dL rfl Tryz.func197 rfl ?_
 repeat' (first|simp(maxSteps:=999999) (disch:=first|exact dZ|fail) only[gW,reduceIte,Nat.reduceEqDiff,beq_self_eq_true,xQ,bH,cW, *] | (refine dX ?_ ?_<;>(intro _;try omega)))
 refine aD (fun m e H=>∃k:Nat,k<=rows.length/\m=rows.length - k/\ah (Inv k H)/\e.get 0= .yield l/\e.get 1= .ptr (.box pb) 0/\e.get 2= .ptr (.box wb) 0/\e.get 9= .list k0 s0 (xs.map fun a=>[a])/\e.get 10= .v (.int .i64 (rows.length:Nat))/\e.get 11= .v (.int .i64 (k:Nat))/\e.defers=[]) ?_ rows.length _ _ ?_
 rotate_left 1
 ·refine⟨0,Nat.zero_le _,rfl,⟨kk.out.2.2.2.1⟩,?_,?_,?_,?_,?_,?_,?_⟩<;>exact gR
 clear l1
 rintro m e H ⟨k,hk,rfl,kI,g0,g1,g2,g9,g10,g11,hd⟩
 by_cases hlt:k<rows.length
 rotate_left 1
 ·have:k=rows.length:=by omega
  subst this
  repeat' (first|simp(maxSteps:=999999) (disch:=first|exact dZ|fail) only[gW,reduceIte,Nat.reduceEqDiff,beq_self_eq_true,xQ, *] | (refine dX ?_ ?_<;>(intro _;try omega)))
  exact⟨_,rfl,kI.out⟩
 obtain⟨b1,b2⟩:=kk.out.1 k H kI.out
 have hs1:s0=1:=kk.out.2.2.2.2.1 (by intro q;rw[q,List.length_nil] at hlt;omega)
 subst hs1
 have hs2:sy=1:=ksy.out (by intro q;rw[q,List.length_nil] at hol;omega)
 subst hs2
 obtain⟨a,ha⟩:∃a,xs[k]?=some a:=⟨_,List.getElem?_eq_getElem (by omega)⟩
 have ld:=ldr (H:=H) (s:=1) ha
 have lo:=ldi (H:=H) (l:=owners) (i:=k) (s:=1) (by omega)
 have l1:=MG b1
 have l2:=vD b2
 obtain⟨_,H2,cs,e2,i,rfl⟩:=Ha H z who (at0 owners k) kk.out.2.2.2.2.2.2 kk.out.2.2.2.2.2.1 hwl
 rw[e2] at cs
 clear e2 b1 b2
 have hltI:(k:Int)<(rows.length:Int):=by omega
 cases hc:who.contains (at0 owners k) with
 |true=>
  obtain⟨H',r1,r2⟩:=kk.out.2.1 k a H hlt ha hc kI.out
  rw[hc] at cs
  have kI2:=ah.mk r2
  clear r2 ha hc kI
  unfold im at *
  repeat' (first|simp(maxSteps:=999999) (disch:=first|exact dZ|fail) only[gW,reduceIte,Nat.reduceEqDiff,beq_self_eq_true,xQ,bH,cW,al, *] | (refine dX ?_ ?_<;>(intro _;try omega)))
  refine bf tH kZq ?_
  repeat' (first|simp(maxSteps:=999999) (disch:=first|exact dZ|fail) only[gW,reduceIte,Nat.reduceEqDiff,beq_self_eq_true,xQ,bH,cW,al,gY, *] | (refine dX ?_ ?_<;>(intro _;try omega)))
  exact⟨rows.length - (k+1),by omega,k+1,by omega,rfl,kI2,by simp⟩
 |false=>
  have kI2:=ah.mk (kk.out.2.2.1 k H hlt hc kI.out)
  rw[hc] at cs
  clear ha hc kI
  unfold im at *
  repeat' (first|simp(maxSteps:=999999) (disch:=first|exact dZ|fail) only[gW,reduceIte,Nat.reduceEqDiff,beq_self_eq_true,xQ,bH,cW,al, *] | (refine dX ?_ ?_<;>(intro _;try omega)))
  refine bf tH kZq ?_
  repeat' (first|simp(maxSteps:=999999) (disch:=first|exact dZ|fail) only[gW,reduceIte,Nat.reduceEqDiff,beq_self_eq_true,xQ,bH,cW,al,gY, *] | (refine dX ?_ ?_<;>(intro _;try omega)))
  exact⟨rows.length - (k+1),by omega,k+1,by omega,rfl,kI2,by simp⟩
structure Two(h H:ae)(t1 t2:Tok):Prop where
 c1:bG h.tn H t1
 c2:bG h.tn H t2
 ne:∀a,t1= .free a->t2≠ .free a
 ok:aZ H=true
 ext:Ext h H
theorem xR{n0:Nat}{H:ae}{t k:Tok}(hk:bG n0 H k)(hne:∀a,t= .free a->k≠ .free a):bG n0 (H.app t) k:=by
 rcases hk with q|q|⟨m,rfl,q1,q2⟩
 ·exact .inl q
 ·exact .inr (.inl q)
 ·refine .inr (.inr ⟨m,rfl,q1,?_⟩)
  have hlt:=gG q2
  unfold alive at *
  simp only[Bool.and_eq_true,Bool.not_eq_true',List.contains_eq_mem,decide_eq_false_iff_not,decide_eq_true_eq] at *
  refine⟨by rw[uY];omega,?_⟩
  cases t with
  |free a=>
   intro hm
   rcases List.mem_cons.1 hm with e|e
   ·exact hne a rfl (by rw[e])
   ·exact q2.2 e
  |_=>exact q2.2
theorem Two.app{h H:ae}{t1 t2:Tok}(w:Two h H t1 t2):bG h.tn (H.app t1) t2/\Two h ((H.app t1).app t2) (.free H.tn) (.free (H.app t1).tn):=by
 have hn:=w.ext.tn
 have g1:=Grown.one (n0:=h.tn) w.c1 w.ok hn
 have c2:=xR w.c2 w.ne
 have g2:=Grown.one (n0:=h.tn) c2 g1.ok (Nat.le_trans hn g1.tn)
 refine⟨c2,?_,g2.can,?_,g2.ok,g2.ext (g1.ext w.ext (Nat.le_refl _)) (Nat.le_refl _)⟩
 ·refine xR g1.can fun a ha he=>?_
  injection he with he
  subst he
  rcases c2 with q|q|⟨m,q,-,q2⟩
  ·rw[q] at ha;cases ha
  ·rw[q] at ha;cases ha
  ·rw[q] at ha
   injection ha with ha
   subst ha
   rcases w.c2 with z|z|⟨m2,z,-,z2⟩
   ·rw[z] at q;cases q
   ·rw[z] at q;cases q
   ·rw[z] at q
    injection q with q
    have:=gG z2
    omega
 ·intro a ha he
  injection ha with ha
  injection he with he
  rw[uY] at he
  omega
theorem Two.put{h H:ae}{t1 t2:Tok}(w:Two h H t1 t2){b:Nat}(hb:h.boxes.length<=b)(cs:List AV):Two h (H.put b cs) t1 t2:=⟨w.c1,w.c2,w.ne,w.ok,w.ext.bZ hb cs⟩
theorem qb:Tryz.f143.results.toList=[.cell 4 22,.cell 5 23,.tmp 6,.tmp 7]:=kZq
theorem S3:(ej Tryz.prog 22).bind AV.aC=some [.list .nil 0 []]:=kZq
theorem S4:(ej Tryz.prog 23).bind AV.aC=some [.list .nil 0 []]:=kZq
theorem S5:bF Tryz.prog 22=some 1:=kZq
theorem S6{H:ae}{k:Tok}{n0 sz:Nat}{es:List AV}{x:AV}(hl:es.length<1000000)(hs:sz=1∨(es=[]/\k= .nil))(hk:bG n0 H k):
 bP Tryz.prog H #[22,22] (.list k sz (es.map fun a=>[a])) (.list .tight 1 [[x]])=some (.list (.free H.tn) 1 ((es++[x]).map fun a=>[a]),H.app k):=by
 obtain⟨i,q1,q2,q3,q4⟩:=Rm
 have hb:=Nat.mul_le_mul (show es.length+1<=1000000 by omega) q3
 have:=lI (t0:=22) (t1:=22) (n0:=n0) (i:=i) (sz:=sz) (es:=es.map fun a=>[a]) (new:=[[x]]) (x:= .list .tight 1 [[x]]) Tryz.underlying22 (.inl ⟨_,Tryz.underlying22⟩) q1 (by omega) (by rw[q2];exact q4) (by rw[q2];rfl) (by simp)
  (by simp only[List.length_map,List.length_cons,List.length_nil,Nat.zero_add];omega) (by simp only[List.length_map,List.length_cons,List.length_nil];omega) (hs.imp (fun q=>q.trans q2.symm) fun q=>⟨by rw[q.1];rfl,q.2⟩) hk
 rw[q2] at this
 rw[List.map_append]
 exact this
def fy(xs:List AV)(owners who:List Int)(k:Nat):List AV:=((List.range k).filter fun i=>who.contains (at0 owners i)).map fun i=>xs.getD i default
def fb(owners who:List Int)(k:Nat):List Nat:=(List.range k).filter fun i=>who.contains (at0 owners i)
theorem Hc{owners who:List Int}{k:Nat}(h:who.contains (at0 owners k)=true):fb owners who (k+1)=fb owners who k++[k]:=by
 unfold fb;rw[List.range_succ,List.filter_append,List.filter_cons,if_pos h];rfl
theorem Ki{owners who:List Int}{k:Nat}(h:who.contains (at0 owners k)=false):fb owners who (k+1)=fb owners who k:=by
 unfold fb;rw[List.range_succ,List.filter_append,List.filter_cons,if_neg (by rw[h];simp)];simp
theorem Hd{xs:List AV}{owners who:List Int}{k:Nat}{a:AV}(h:who.contains (at0 owners k)=true)(ha:xs[k]?=some a):fy xs owners who (k+1)=fy xs owners who k++[a]:=by
 have e:xs.getD k default=a:=by rw[List.getD_eq_getElem?_getD,ha];rfl
 unfold fy;rw[List.range_succ,List.filter_append,List.filter_cons,if_pos h,List.filter_nil,List.map_append,List.map_cons,List.map_nil,e]
theorem Kj{xs:List AV}{owners who:List Int}{k:Nat}(h:who.contains (at0 owners k)=false):fy xs owners who (k+1)=fy xs owners who k:=by
 unfold fy;rw[List.range_succ,List.filter_append,List.filter_cons,if_neg (by rw[h];simp)];simp
theorem He{xs:List AV}{owners who:List Int}{k:Nat}:(fy xs owners who k).length<=k:=by
 unfold fy
 rw[List.length_map]
 exact Nat.le_trans (List.length_filter_le _ _) (by simp)
theorem vI:∀(who:List Int) (last:Int),cS last who=true->(∀i,i<who.length->last<at0 who i)/\Asc who:=by
 intro who
 induction who with
 |nil=>exact fun _ _=>⟨fun i hi=>absurd hi (Nat.not_lt_zero _),fun i j _ hj=>absurd hj (Nat.not_lt_zero _)⟩
 |cons n l ih=>
  intro last h
  unfold cS at h
  simp only[Bool.and_eq_true,decide_eq_true_eq] at h
  obtain⟨i1,i2⟩:=ih n h.2
  refine⟨fun i hi=>?_,fun i j hij hj=>?_⟩
  ·cases i with
   |zero=>exact h.1.1
   |succ i=>exact Int.lt_trans h.1.1 (i1 i (by simpa using hi))
  ·cases j with
   |zero=>omega
   |succ j=>
    cases i with
    |zero=>exact i1 j (by simpa using hj)
    |succ i=>exact i2 i j (by omega) (by simpa using hj)
theorem EJ{H:ae}{b:Nat}{x:AV}(hb:H.boxes[b]?=some [x]):ai Tryz.prog Gt H 22 (.ptr (.box b) 0)=some x:=by rw[dc Pk hb];rfl
theorem Kk{H:ae}{b:Nat}{x:AV}{k:Tok}{s:Nat}{es:List (List AV)}(hb:H.boxes[b]?=some [x]):aA Tryz.prog H 22 (.ptr (.box b) 0) (.list k s es)=some (H.put b [.list k s es]):=aW (off:=0) (cs:=[x]) (xs:=[.list k s es]) rfl S5 hb rfl (Nat.le_refl 1)
theorem EK{H:ae}{b:Nat}{x:AV}{k:Tok}{s:Nat}{es:List (List AV)}(hb:H.boxes[b]?=some [x]):aA Tryz.prog H 23 (.ptr (.box b) 0) (.list k s es)=some (H.put b [.list k s es]):=aW (off:=0) (cs:=[x]) (xs:=[.list k s es]) rfl jC hb rfl (Nat.le_refl 1)
theorem S7:bF Tryz.prog 25=some 2:=kZq
theorem ma{H:ae}{b:Nat}{x y:AV}(hb:H.boxes[b]?=some [x,y]):ai Tryz.prog Gt H 25 (.ptr (.box b) 0)=some (.agg [x,y]):=by
 rw[cP G9 S7 hb (Nat.le_refl 2)];rfl
theorem MI{who:List Int}(h:Asc who)(h0:∀i,i<who.length-> -1<at0 who i):∀i:Nat,i<who.length->(i:Int)<=at0 who i:=by
 intro i
 induction i with
 |zero=>intro hi;have:=h0 0 hi;omega
 |succ i ih=>
  intro hi
  have h1:=ih (by omega)
  have h2:=h i (i+1) (by omega) hi
  omega
theorem Bv:∀(who:List Int) (last:Int),cS last who=true->∀i,i<who.length->at0 who i<=63:=by
 intro who
 induction who with
 |nil=>exact fun _ _ i hi=>absurd hi (Nat.not_lt_zero _)
 |cons n l ih=>
  intro last h i hi
  unfold cS at h
  simp only[Bool.and_eq_true,decide_eq_true_eq] at h
  cases i with
  |zero=>exact h.1.2
  |succ i=>exact ih n h.2 i (by simpa using hi)
theorem MJ{who:List Int}(h:cS (-1) who=true):who.length<=64:=by
 obtain⟨h1,h2⟩:=vI who (-1) h
 rcases Nat.lt_or_ge 64 who.length with q|q
 ·have h3:=MI h2 h1 64 q
  have h4:=Bv who (-1) h 64 q
  omega
 ·exact q
theorem sO(k:Tok)(s:Nat)(l:List Int):cB (.list k s (ints l)) (.list k s (ints l))=true:=by
 have h:eT (ints l) (ints l)=true:=by
  induction l with
  |nil=>simp[ints,eT]
  |cons n l ih=>
   have:ints (n::l)=[.v (.int .i64 n)]::ints l:=rfl
   rw[this]
   simp[eT,kL,cB,gB,ih]
 rw[cB,h,Bool.and_true]
 cases k<;>simp[lY]
theorem Bw{H:ae}{l:Nat}{r:bE}{t:Tok}:(H.busy l r).app t=(H.app t).busy l r:=by cases t<;>rfl
theorem Kl{H:ae}{l:Nat}{r:bE}{t1 t2:Tok}{b1 b2:Nat}{c1 c2:List AV}:({boxes:=(((((H.busy l r).app t1).app t2).put b1 c1).put b2 c2).boxes,loops:=H.loops,tn:=(((((H.busy l r).app t1).app t2).put b1 c1).put b2 c2).tn,dead:=(((((H.busy l r).app t1).app t2).put b1 c1).put b2 c2).dead}:ae)=(((H.app t1).app t2).put b1 c1).put b2 c2:=by cases t1<;>cases t2<;>rfl
def MK(h:ae)(L:List bE)(b1 b2 b3 b4 b5:Nat)(ta xy zz:List AV)(xs:List AV)(owners who:List Int)(k:Nat)(H:ae):Prop:=
 ∃t1 s1 t2 s2,H.loops=L/\H.boxes[b1]?=some [.list t1 s1 ((fy xs owners who k).map fun a=>[a])]/\H.boxes[b2]?=some [.list t2 s2 (ints (pvI (fb owners who k)))]/\(s1=1∨(fy xs owners who k=[]/\t1= .nil))/\(s2=1∨(pvI (fb owners who k)=[]/\t2= .nil))/\Two h H t1 t2/\H.boxes[b3]?=some ta/\H.boxes[b4]?=some xy/\H.boxes[b5]?=some zz
theorem Km(l:List Nat)(k:Nat):pvI (l++[k])=pvI l++[(k:Int)]:=by unfold pvI;simp
theorem Hg{owners who:List Int}{k:Nat}:(pvI (fb owners who k)).length<=k:=by
 unfold pvI fb
 rw[List.length_map]
 exact Nat.le_trans (List.length_filter_le _ _) (by simp)
def NO(xs:List AV)(rows:List (List Int))(owners who:List Int)(h:ae)(r:Res)(h':ae):Prop:=
 Ext h h'/\if bC rows owners≠0 then r= .ret (.tuple [.list .nil 0 [],.list .nil 0 [],.list .nil 0 [],.v (.int .i64 (bC rows owners))])
  else if cS (-1) who=false then r= .ret (.tuple [.list .nil 0 [],.list .nil 0 [],.list .nil 0 [],.v (.int .i64 1)])
  else ∃k1 s1 k2 s2 tb,r= .ret (.tuple [.list k1 s1 ((fy xs owners who rows.length).map fun a=>[a]),.list k2 s2 (ints (pvI (fb owners who rows.length))),.arr tb 0 (aK rows) (aK rows),.v (.int .i64 0)])/\(s1=1∨(fy xs owners who rows.length=[]/\k1= .nil))/\(s2=1∨(pvI (fb owners who rows.length)=[]/\k2= .nil))/\h'.boxes[tb]?=some ((ct (aK rows)).map im)
theorem Bx(h:ae)(k0:Tok)(s0:Nat)(xs:List AV)(y z:AV)(rows:List (List Int))(owners who:List Int)(hx:RL (.list k0 s0 (xs.map fun a=>[a])) rows)(hxl:xs.length=rows.length)(hy:IL y owners)(hz:IL z who)(hwl:who.length<=1099511627776)(ho:aZ h=true):
 ∃r h',W2.call 143 [.agg [.list k0 s0 (xs.map fun a=>[a]),y],z] h=some (r,h')/\NO xs rows owners who h r h':=by
 obtain⟨H1,c97,e1⟩:=EG (((h.push [.list k0 s0 (xs.map fun a=>[a]),y]).push [.list .nil 0 []]).push [.list .nil 0 []]) _ y rows owners hx hy
 have kyz:=ah.mk (And.intro hx (And.intro hy (And.intro hz ho)))
 have bx:(AV.agg [.list k0 s0 (xs.map fun a=>[a]),y]).aC=some [.list k0 s0 (xs.map fun a=>[a]),y]:=by
  obtain⟨ky,sy,rfl,-⟩:=hy;rfl
 have X1:Ext h H1:=by rw[e1];exact(((Ext.push _ _).trans (.push _ _)).trans (.push _ _)).trans (.push _ _)
 have p0:H1.boxes[h.boxes.length]?=some [.list k0 s0 (xs.map fun a=>[a]),y]:=by rw[e1];exact aj (aj (aj (ak _ _)))
 have p1:H1.boxes[h.boxes.length+1]?=some [.list .nil 0 []]:=by rw[e1];exact aj (aj (cD (by rw[az])))
 have p2:H1.boxes[h.boxes.length+1+1]?=some [.list .nil 0 []]:=by rw[e1];exact aj (cD (by rw[az,az]))
 have hH1:H1.boxes.length=h.boxes.length+4:=by rw[e1];simp only[az]
 have ok1:aZ H1=true:=X1.ok ho
 have l0:ai Tryz.prog Gt (((h.push [.list k0 s0 (xs.map fun a=>[a]),y]).push [.list .nil 0 []]).push [.list .nil 0 []]) 25 (.ptr (.box h.boxes.length) 0)=some (.agg [.list k0 s0 (xs.map fun a=>[a]),y]):=ma (aj (aj (ak _ _)))
 have tn1:H1.tn=h.tn:=by rw[e1];rfl
 have kX:=ah.mk (And.intro X1 (And.intro ok1 (And.intro hH1 tn1)))
 have z22:=S3
 have z23:=S4
 have kp:=ah.mk (And.intro p0 (And.intro p1 p2))
 have s4:=fun(k:Tok) s es=>Kk (k:=k) (s:=s) (es:=es) p1
 have hlt1:=(List.getElem?_eq_some_iff.1 p1).1
 have hlt2:=(List.getElem?_eq_some_iff.1 p2).1
 clear e1 X1 p0 hH1 ok1 tn1 hx hy ho
 unfold NO
 refine aL rfl Tryz.func143 rfl ?_
 generalize hpe:bC rows owners=pe at *
 by_cases hz0:pe=0
 rotate_left 1
 ·have s5:aA Tryz.prog (H1.put (h.boxes.length+1) [.list .nil 0 []]) 23 (.ptr (.box (h.boxes.length+1+1)) 0) (.list .nil 0 [])=some ((H1.put (h.boxes.length+1) [.list .nil 0 []]).put (h.boxes.length+1+1) [.list .nil 0 []]):=EK (by rw[av (by omega)];exact p2)
  have m1:ai Tryz.prog Gt ((H1.put (h.boxes.length+1) [.list .nil 0 []]).put (h.boxes.length+1+1) [.list .nil 0 []]) 22 (.ptr (.box (h.boxes.length+1)) 0)=some (.list .nil 0 []):=EJ (by rw[av (by omega)];exact aS hlt1)
  have m2:ai Tryz.prog Gt ((H1.put (h.boxes.length+1) [.list .nil 0 []]).put (h.boxes.length+1+1) [.list .nil 0 []]) 23 (.ptr (.box (h.boxes.length+1+1)) 0)=some (.list .nil 0 []):=vD (aS (by rw[dU];exact hlt2))
  have hdz:decide (pe=0)=false:=by simp[hz0]
  clear p1 p2 hz hlt1 hlt2
  repeat' (first|simp(maxSteps:=999999) (disch:=first|exact dZ|fail) only[gW,reduceIte,Nat.reduceEqDiff,beq_self_eq_true,qb,aw,az, *] | (refine dX ?_ ?_<;>(intro _;try omega)))
  exact⟨_,_,rfl,(kX.out.1.bZ (by omega) _).bZ (by omega) _,by rw[if_pos hz0]⟩
 ·subst hz0
  obtain⟨kz,sz,rfl,hsz⟩:=kyz.out.2.2.1
  have ksz:=ah.mk hsz
  clear hsz hz
  have u23:=Tryz.underlying23
  have z3':=sz3
  have hwl2:=aU who
  have kpe:=ah.mk hpe
  clear hpe
  repeat' (first|simp(maxSteps:=999999) (disch:=first|exact dZ|fail) only[gW,reduceIte,Nat.reduceEqDiff,beq_self_eq_true,qb,aw,az, *] | (refine dX ?_ ?_<;>(intro _;try omega)))
  refine Run.gen fun e0 he0 hd0 hp0 hr0=>?_
  have f1:e0.get 1= .list kz sz (ints who):=by rw[he0];exact gS
  have f2:e0.get 2= .ptr (.box h.boxes.length) 0:=by rw[he0];exact gS
  have f4:e0.get 4= .ptr (.box (h.boxes.length+1)) 0:=by rw[he0];simp only[gW,reduceIte,Nat.reduceEqDiff,beq_self_eq_true,az]
  have f5:e0.get 5= .ptr (.box (h.boxes.length+1+1)) 0:=by rw[he0];simp only[gW,reduceIte,Nat.reduceEqDiff,beq_self_eq_true,az]
  have f8:e0.get 8= .v (.int .i64 (-1)):=by rw[he0];exact gS
  have f19:e0.get 19= .list kz sz (ints who):=by rw[he0];exact gS
  have f20:e0.get 20= .v (.int .i64 (who.length:Nat)):=by rw[he0];exact gS
  have f21:e0.get 21= .v (.int .i64 (0:Nat)):=by rw[he0];exact gR
  have fd:e0.defers=[]:=by rw[hd0];exact gS
  clear he0 hd0 hp0 hr0 l0 c97
  refine aD (fun m e H=>∃(i:Nat) (last:Int),i<=who.length/\m=who.length - i/\ -1<=last/\ah (cS last (who.drop i)=cS (-1) who)/\e.get 1= .list kz sz (ints who)/\e.get 2= .ptr (.box h.boxes.length) 0/\e.get 4= .ptr (.box (h.boxes.length+1)) 0/\e.get 5= .ptr (.box (h.boxes.length+1+1)) 0/\e.get 8= .v (.int .i64 last)/\e.get 19= .list kz sz (ints who)/\e.get 20= .v (.int .i64 (who.length:Nat))/\e.get 21= .v (.int .i64 (i:Nat))/\e.defers=[]/\H=H1) ?_ who.length _ _ ?_
  rotate_left 1
  ·exact⟨0,-1,Nat.zero_le _,rfl,Int.le_refl _,⟨rfl⟩,f1,f2,f4,f5,f8,f19,f20,f21,fd,rfl⟩
  clear f1 f2 f4 f5 f8 f19 f20 f21 fd
  rintro m e H1 ⟨i,last,hi,rfl,hla,kP,g1,g2,g4,g5,g8,g19,g20,g21,hd,rfl⟩
  by_cases hlt:i<who.length
  ·have hs1:sz=1:=ksz.out (by intro q;rw[q,List.length_nil] at hlt;omega)
   subst hs1
   have ld:=ldi (H:=H1) (l:=who) (s:=1) hlt
   have cp:=xO (at0 who i) H1
   have hltI:(i:Int)<(who.length:Int):=by omega
   have hdrop:who.drop i=at0 who i::who.drop (i+1):=by rw[bN hlt];exact List.drop_eq_getElem_cons hlt
   have hpf:=kP.out
   rw[hdrop,cS] at hpf
   have s5:aA Tryz.prog (H1.put (h.boxes.length+1) [.list .nil 0 []]) 23 (.ptr (.box (h.boxes.length+1+1)) 0) (.list .nil 0 [])=some ((H1.put (h.boxes.length+1) [.list .nil 0 []]).put (h.boxes.length+1+1) [.list .nil 0 []]):=EK (by rw[av (by omega)];exact p2)
   have m1:ai Tryz.prog Gt ((H1.put (h.boxes.length+1) [.list .nil 0 []]).put (h.boxes.length+1+1) [.list .nil 0 []]) 22 (.ptr (.box (h.boxes.length+1)) 0)=some (.list .nil 0 []):=EJ (by rw[av (by omega)];exact aS hlt1)
   have m2:ai Tryz.prog Gt ((H1.put (h.boxes.length+1) [.list .nil 0 []]).put (h.boxes.length+1+1) [.list .nil 0 []]) 23 (.ptr (.box (h.boxes.length+1+1)) 0)=some (.list .nil 0 []):=vD (aS (by rw[dU];exact hlt2))
   unfold im iR at *
   generalize at0 who i=n at *
   by_cases h1:0<=n/\n<=63
   ·have hd1:(decide (0<=n)&&decide (n<=63))=true:=by simp[h1.1,h1.2]
    rw[hd1] at cp
    by_cases h2:n<=last
    ·have hd2:decide (n<=last)=true:=by simp[h2]
     have hf:cS (-1) who=false:=by rw[<-hpf];simp;omega
     have kf:=ah.mk hf
     clear hpf hf hdrop p1 p2 h2 h1 kP
     repeat' (first|simp(maxSteps:=999999) (disch:=first|exact dZ|fail) only[gW,reduceIte,Nat.reduceEqDiff,beq_self_eq_true,qb,al, *] | (refine dX ?_ ?_<;>(intro _;try omega)))
     exact⟨_,_,rfl,(kX.out.1.bZ (by omega) _).bZ (by omega) _,by rw[if_neg (by simp[kpe.out]),if_pos kf.out]⟩
    ·have hd2:decide (n<=last)=false:=by simp;omega
     have kP2:ah (cS n (who.drop (i+1))=cS (-1) who):=⟨by
      rw[<-hpf,decide_eq_true (show last<n by omega),decide_eq_true h1.2];rfl⟩
     have h3: -1<=n:=by omega
     clear hpf hdrop p1 p2 h2 h1 kP s4 s5 m1 m2
     repeat' (first|simp(maxSteps:=999999) (disch:=first|exact dZ|fail) only[gW,reduceIte,Nat.reduceEqDiff,beq_self_eq_true,qb,al, *] | (refine dX ?_ ?_<;>(intro _;try omega)))
     exact⟨who.length - (i+1),by omega,i+1,n,by omega,rfl,h3,kP2,by simp⟩
   ·have hd1:(decide (0<=n)&&decide (n<=63))=false:=by
     simp only[Bool.and_eq_false_iff,decide_eq_false_iff_not];omega
    rw[hd1] at cp
    have hf:cS (-1) who=false:=by
     rw[<-hpf]
     simp only[Bool.and_eq_false_iff,decide_eq_false_iff_not];omega
    have kf:=ah.mk hf
    clear hpf hf hdrop p1 p2 h1 kP
    repeat' (first|simp(maxSteps:=999999) (disch:=first|exact dZ|fail) only[gW,reduceIte,Nat.reduceEqDiff,beq_self_eq_true,qb,al, *] | (refine dX ?_ ?_<;>(intro _;try omega)))
    exact⟨_,_,rfl,(kX.out.1.bZ (by omega) _).bZ (by omega) _,by rw[if_neg (by simp[kpe.out]),if_pos kf.out]⟩
  ·have hie:i=who.length:=by omega
   subst hie
   have hf:cS (-1) who=true:=by
    rw[<-kP.out,List.drop_of_length_le (Nat.le_refl _)];rfl
   have kf:=ah.mk hf
   clear hf kP
   obtain⟨o1,o2,o3,o4⟩:=fk kpe.out
   obtain⟨n1,n2⟩:=fI kpe.out
   have hasc:=(vI who (-1) kf.out).2
   have hwl64:=MJ kf.out
   have ko:=ah.mk (And.intro o3 hasc)
   have hRL:(rows≠[]->s0=1)/\∀(i:Nat) (a:AV) (r:List Int),xs[i]?=some a->rows[i]?=some r->IL a r:=by
    obtain⟨k',s',xs',he,hs',-,hh⟩:=kyz.out.1
    injection he with _ hse he
    have:=(List.map_inj_right (fun x y h=>by injection h)).1 he
    subst this
    subst hse
    exact⟨hs',hh⟩
   have kRL:=ah.mk hRL
   have ko1:=ah.mk o1
   have l22:ai Tryz.prog Gt H1 22 (.ptr (.box h.boxes.length) 0)=some (.list k0 s0 (xs.map fun a=>[a])):=tY kp.out.1
   have u22:=Tryz.underlying22
   have hil:(xs.map fun a=>[a]).length=rows.length:=by rw[List.length_map];exact hxl
   have mk:=Pf H1 (aK rows) (by omega) .i64 .i64
   have hrep:List.replicate (aK rows) (im 0)=(List.replicate (aK rows) (0:Int)).map im:=by rw[List.map_replicate]
   rw[hrep] at mk
   have sk:=J3 (H:=H1.push ((List.replicate (aK rows) (0:Int)).map im)) (b:=H1.boxes.length) (r:=List.replicate (aK rows) (0:Int)) (k:=0) (x:=1) (ak _ _) (by rw[List.length_replicate];exact n1)
   have htg:(List.replicate (aK rows) (0:Int)).set 0 1=ct (aK rows):=by
    obtain⟨c,hc⟩:∃c,aK rows=c+1:=⟨aK rows - 1,by omega⟩
    rw[hc];unfold ct;rw[List.replicate_succ];rfl
   rw[gg,htg] at sk
   have ix:ay Tryz.prog 23 (.arr H1.boxes.length 0 (aK rows) (aK rows)) (.v (.int .i64 0))=some (.ptr (.box H1.boxes.length) 0):=vE (n:=0) (k:= .i64) n1
   have l25:ai Tryz.prog Gt (H1.push ((ct (aK rows)).map im)) 25 (.ptr (.box h.boxes.length) 0)=some (.agg [.list k0 s0 (xs.map fun a=>[a]),y]):=ma (aj kp.out.1)
   have ow:=Pm (H1.push ((ct (aK rows)).map im)) (.list k0 s0 (xs.map fun a=>[a])) y (.list kz sz (ints who)) bx rfl
   have kmk:=ah.mk (And.intro p1 p2)
   have hcz:((0:Nat):Int)=0:=rfl
   clear htg hrep hasc o3 o4 o1 hRL p1 p2 s4 hlt1 hlt2
   unfold im at *
   have hcols:(rows.length=0->aK rows=1)/\∀r0,rows[0]?=some r0->r0.length=aK rows:=by
    refine⟨fun q=>by unfold aK;rw[if_pos q],fun r0 q=>?_⟩
    exact(ko.out.1 r0 (List.mem_of_getElem? q)).1
   have kcols:=ah.mk hcols
   clear hcols
   generalize aK rows=cw at *
   have two:rows.length=0∨0<rows.length:=by omega
   rcases two with hr0|hr0
   case' inl=>
    have hc1:=kcols.out.1 hr0
    have hdr:¬((0:Int)<(rows.length:Int)):=by omega
    have mk':eU Tryz.prog H1 23 (.v (.int .i64 1)) (.v (.int .i64 1))=some (.arr H1.boxes.length 0 cw cw,H1.push ((List.replicate cw (0:Int)).map fun n=> .v (.int .i64 n))):=by
     have:=mk
     rw[show((cw:Nat):Int)=1 by omega] at this
     exact this
    clear hr0 mk hc1
    repeat' (first|simp(maxSteps:=999999) (disch:=first|exact dZ|fail) only[gW,reduceIte,Nat.reduceEqDiff,beq_self_eq_true,qb,bH,cW,al, *] | (refine dX ?_ ?_<;>(intro _;try omega)))
   case' inr=>
    obtain⟨a0,hav0⟩:∃a,xs[0]?=some a:=⟨_,List.getElem?_eq_getElem (by omega)⟩
    obtain⟨r0,hv0⟩:∃r,rows[0]?=some r:=⟨_,List.getElem?_eq_getElem (by omega)⟩
    have hs1:s0=1:=kRL.out.1 (by intro q;rw[q,List.length_nil] at hr0;omega)
    have ixr:ay Tryz.prog 22 (.list k0 s0 (xs.map fun a=>[a])) (.v (.int .i64 0))=some (.elem 1 (xs.map fun a=>[a]) 0 0):=by
     rw[hs1];exact al u22 jC (Int.le_refl _) (by rw[hil];omega)
    clear hs1
    have ld0:=ldr (H:=H1) (s:=1) hav0
    obtain⟨ka0,sa0,rfl,-⟩:=kRL.out.2 0 a0 r0 hav0 hv0
    have hrl:(ints r0).length=cw:=by rw[aU];exact kcols.out.2 r0 hv0
    have hdr:(0:Int)<(rows.length:Int):=by omega
    have z0:(0:Int).toNat=0:=rfl
    have z23':=jC
    clear hav0 hv0
    repeat' (first|simp(maxSteps:=999999) (disch:=first|exact dZ|fail) only[gW,reduceIte,Nat.reduceEqDiff,beq_self_eq_true,qb,bH,cW,al, *] | (refine dX ?_ ?_<;>(intro _;try omega)))
   all_goals
    refine Run.gen fun e4 he4 hd4 hp4 hr4=>?_
    have f4:e4.get 4= .ptr (.box (h.boxes.length+1)) 0:=by rw[he4];simp only[gW,reduceIte,Nat.reduceEqDiff,beq_self_eq_true];exact g4
    have f5:e4.get 5= .ptr (.box (h.boxes.length+1+1)) 0:=by rw[he4];simp only[gW,reduceIte,Nat.reduceEqDiff,beq_self_eq_true];exact g5
    have f6:e4.get 6= .arr H1.boxes.length 0 cw cw:=by rw[he4];exact gS
    have f50:e4.get 50= .func (.func 197) [] [.ptr (.box (H1.push ((ct cw).map fun n=> .v (.int .i64 n))).boxes.length) 0,.ptr (.box ((H1.push ((ct cw).map fun n=> .v (.int .i64 n))).boxes.length+1)) 0]:=by rw[he4];exact gS
    have fd:e4.defers=[]:=by rw[hd4];simp only[gW,reduceIte,Nat.reduceEqDiff,beq_self_eq_true];exact hd
    clear he4 hd4 hp4 hr4 g1 g2 g4 g5 g8 g19 g20 g21 hd
    refine kD (by rw[lv];exact f50) fun rec w1 w2 w3 w4 w5 w6=>?_
    obtain⟨x1,ok1,hH1,tn1⟩:=kX.out
    obtain⟨p0,p1,p2⟩:=kp.out
    have X3:Ext h (((H1.push ((ct cw).map im)).push [.list k0 s0 (xs.map fun a=>[a]),y]).push [.list kz sz (ints who)]):=((x1.trans (.push _ _)).trans (.push _ _)).trans (.push _ _)
    have b0:(((H1.push ((ct cw).map im)).push [.list k0 s0 (xs.map fun a=>[a]),y]).push [.list kz sz (ints who)]).boxes[H1.boxes.length]?=some ((ct cw).map im):=aj (aj (ak _ _))
    have b1:(((H1.push ((ct cw).map im)).push [.list k0 s0 (xs.map fun a=>[a]),y]).push [.list kz sz (ints who)]).boxes[h.boxes.length+1]?=some [.list .nil 0 []]:=aj (aj (aj p1))
    have b2:(((H1.push ((ct cw).map im)).push [.list k0 s0 (xs.map fun a=>[a]),y]).push [.list kz sz (ints who)]).boxes[h.boxes.length+1+1]?=some [.list .nil 0 []]:=aj (aj (aj p2))
    have b3:(((H1.push ((ct cw).map im)).push [.list k0 s0 (xs.map fun a=>[a]),y]).push [.list kz sz (ints who)]).boxes[H1.boxes.length+1]?=some [.list k0 s0 (xs.map fun a=>[a]),y]:=aj (cD (by rw[az]))
    have b4:(((H1.push ((ct cw).map im)).push [.list k0 s0 (xs.map fun a=>[a]),y]).push [.list kz sz (ints who)]).boxes[H1.boxes.length+1+1]?=some [.list kz sz (ints who)]:=cD (by rw[az,az])
    have ok3:aZ (((H1.push ((ct cw).map im)).push [.list k0 s0 (xs.map fun a=>[a]),y]).push [.list kz sz (ints who)])=true:=ok1
    have hll:(((H1.push ((ct cw).map im)).push [.list k0 s0 (xs.map fun a=>[a]),y]).push [.list kz sz (ints who)]).loops.length=H1.loops.length:=rfl
    have hLh:h.loops.length<=H1.loops.length:=x1.IV
    rw[az] at f50
    unfold im at *
    rw[az]
    generalize ((H1.push ((ct cw).map fun n=>AV.v (.int .i64 n))).push [.list k0 s0 (xs.map fun a=>[a]),y]).push [.list kz sz (ints who)]=H3 at *
    have hb12:h.boxes.length+1<H3.boxes.length:=(List.getElem?_eq_some_iff.1 b1).1
    have hb22:h.boxes.length+1+1<H3.boxes.length:=(List.getElem?_eq_some_iff.1 b2).1
    have hlr:(H3.loop rec).loops[H1.loops.length]?=some rec:=by rw[<-hll];exact @kC H3 rec
    have feed:=Kh H1.loops.length (H1.boxes.length+1) (H1.boxes.length+1+1) k0 s0 xs y (.list kz sz (ints who)) rows owners who
     (MK h (H3.loop rec).loops (h.boxes.length+1) (h.boxes.length+1+1) H1.boxes.length (H1.boxes.length+1) (H1.boxes.length+1+1) ((ct cw).map fun n=> .v (.int .i64 n)) [.list k0 s0 (xs.map fun a=>[a]),y] [.list kz sz (ints who)] xs owners who)
     kyz.out.2.1 kyz.out.2.2.1 hxl ko1.out.symm kRL.out.1 ko.out.2 (by omega) (by omega)
     (fun k H q=>by obtain⟨_,_,_,_,_,_,_,_,_,_,_,q1,q2⟩:=q;exact⟨q1,q2⟩)
     ?_
     (fun k H _ hc q=>by
      unfold MK at *
      rw[Kj hc,Ki hc];exact q)
     (H3.loop rec) ⟨.nil,0,.nil,0,rfl,b1,b2,.inr ⟨rfl,rfl⟩,.inr ⟨rfl,rfl⟩,⟨.inl rfl,.inl rfl,fun a q=>(nomatch q),ok3,X3.trans ((Fr.lD (bn:=H3.boxes.length) (l0:=H3.loops.length) (n0:=H3.tn) H3 rec).ext (Nat.le_refl _) (Nat.le_refl _) (Nat.le_refl _))⟩,b0,b3,b4⟩
    rotate_left 1
    ·rintro k a H hk hak hc ⟨t1,s1,t2,s2,i1,i2,i3,i4,i5,i6,i7,i8,i9⟩
     have hlH:H.loops[H1.loops.length]?=some rec:=by rw[i1];exact hlr
     have w:=i6
     have q0:(H.busy H1.loops.length rec).boxes=H.boxes:=rfl
     have e22:=fun hc=>Hd (xs:=xs) (owners:=owners) (who:=who) (k:=k) (a:=a) hc hak
     have e23:=Hc (owners:=owners) (who:=who) (k:=k) hc
     have wA:=w.app
     refine pC (Post:=MK h (H3.loop rec).loops (h.boxes.length+1) (h.boxes.length+1+1) H1.boxes.length (H1.boxes.length+1) (H1.boxes.length+1+1) ((ct cw).map fun n=> .v (.int .i64 n)) [.list k0 s0 (xs.map fun a=>[a]),y] [.list kz sz (ints who)] xs owners who (k+1)) hlH (by rw[w2];rfl) w5 w6 ?_
     have r1:∀t,(dD H1.loops.length rec [im (k:Nat),a]).get t=if 52=t then a else if 51=t then im (k:Nat) else e4.get t:=fun t=>jn w2 w1
     have d1:(dD H1.loops.length rec [im (k:Nat),a]).defers=[]:=rfl
     obtain⟨K,hK⟩:∃K,H.busy H1.loops.length rec=K:=⟨_,rfl⟩
     have kc1:bG h.tn K t1:=by rw[<-hK];exact w.c1
     have kc2:bG h.tn (K.app t1) t2:=by rw[<-hK,Bw];exact wA.1
     have kb1:K.boxes[h.boxes.length+1]?=some [.list t1 s1 ((fy xs owners who k).map fun a=>[a])]:=by rw[<-hK];exact i2
     have kb2:(K.app t1).boxes[h.boxes.length+1+1]?=some [.list t2 s2 (ints (pvI (fb owners who k)))]:=by rw[aT,<-hK];exact i3
     have kb22:K.boxes[h.boxes.length+1+1]?=some [.list t2 s2 (ints (pvI (fb owners who k)))]:=by rw[<-hK];exact i3
     have pl1:=He (xs:=xs) (owners:=owners) (who:=who) (k:=k)
     have pl2:=Hg (owners:=owners) (who:=who) (k:=k)
     have ap1:=S6 (x:=a) (show(fy xs owners who k).length<1000000 by omega) i4 kc1
     have ap2:=wI (x:=(k:Int)) (show(pvI (fb owners who k)).length<1099511627776 by omega) i5 kc2
     rw[<-e22 hc] at ap1
     rw[<-Km,<-e23] at ap2
     have lA:=EJ kb1
     have lB:=vD kb2
     have lB0:=vD kb22
     have sA:=Kk (H:=(K.app t1).app t2) (b:=h.boxes.length+1) (k:= .free K.tn) (s:=1) (es:=(fy xs owners who (k+1)).map fun a=>[a]) (by rw[aT,aT];exact kb1)
     have sB:=EK (H:=((K.app t1).app t2).put (h.boxes.length+1) [.list (.free K.tn) 1 ((fy xs owners who (k+1)).map fun a=>[a])]) (b:=h.boxes.length+1+1) (k:= .free (K.app t1).tn) (s:=1) (es:=ints (pvI (fb owners who (k+1)))) (by rw[av (by omega),aT];exact kb2)
     have blA:aN Tryz.prog 22 1 [(0,a)]=some (.list .tight 1 [[a]]):=by
      obtain⟨r',hr'⟩:∃r',rows[k]?=some r':=⟨_,List.getElem?_eq_getElem hk⟩
      exact Rr a (kRL.out.2 k a r' hak hr').cell
     have blB:=pQ (k:Int)
     have svs:=sO t2 s2 (pvI (fb owners who k))
     have kfin:ah (MK h (H3.loop rec).loops (h.boxes.length+1) (h.boxes.length+1+1) H1.boxes.length (H1.boxes.length+1) (H1.boxes.length+1+1) ((ct cw).map fun n=> .v (.int .i64 n)) [.list k0 s0 (xs.map fun a=>[a]),y] [.list kz sz (ints who)] xs owners who (k+1) ((((H.app t1).app t2).put (h.boxes.length+1) [.list (.free H.tn) 1 ((fy xs owners who (k+1)).map fun a=>[a])]).put (h.boxes.length+1+1) [.list (.free (H.app t1).tn) 1 (ints (pvI (fb owners who (k+1))))])):=by
      have hl1:=(List.getElem?_eq_some_iff.1 i2).1
      have hl2:=(List.getElem?_eq_some_iff.1 i3).1
      refine⟨_,1,_,1,?_,?_,?_,.inl rfl,.inl rfl,(wA.2.put (by omega) _).put (by omega) _,?_,?_,?_⟩
      ·show((H.app t1).app t2).loops=_
       rw[ig,ig];exact i1
      ·rw[av (by omega)];exact aS (by rw[aT,aT];exact hl1)
      ·exact aS (by rw[dU,aT,aT];exact hl2)
      ·rw[av (by omega),av (by omega),aT,aT];exact i7
      ·rw[av (by omega),av (by omega),aT,aT];exact i8
      ·rw[av (by omega),av (by omega),aT,aT];exact i9
     clear i1 i2 i3 i4 i5 i6 i7 i8 i9 w wA q0 e22 e23 b0 b1 b2 b3 b4 kb1 kb2 kb22 pl1 pl2 hc hak kc1 kc2 X3 ok3 hll p0 p1 p2 x1 ok1 f50
     rw[hK]
     unfold im at *
     rw[w3,w4]
     repeat' (first|simp(maxSteps:=999999) (disch:=first|exact dZ|fail) only[gW,reduceIte,Nat.reduceEqDiff,beq_self_eq_true, *] | (refine dX ?_ ?_<;>(intro _;try omega)))
     refine⟨trivial,trivial,?_⟩
     refine Run.gen fun e2 he2 hd2 hp2 hro2=>?_
     have q4:e2.get 4= .ptr (.box (h.boxes.length+1)) 0:=by rw[he2];simp only[gW,reduceIte,Nat.reduceEqDiff,beq_self_eq_true,r1];exact f4
     have q5:e2.get 5= .ptr (.box (h.boxes.length+1+1)) 0:=by rw[he2];simp only[gW,reduceIte,Nat.reduceEqDiff,beq_self_eq_true,r1];exact f5
     have q12:e2.get 12= .v (.int .i64 k):=by rw[he2];simp only[gW,reduceIte,Nat.reduceEqDiff,beq_self_eq_true,r1]
     have q13:e2.get 13=a:=by rw[he2];simp only[gW,reduceIte,Nat.reduceEqDiff,beq_self_eq_true,r1]
     clear he2 hd2 hp2 hro2 r1 d1 w1 w2 w3 w4 w5 w6
     repeat' (first|simp(maxSteps:=999999) (disch:=first|exact dZ|fail) only[gW,reduceIte,Nat.reduceEqDiff,beq_self_eq_true, *] | (refine dX ?_ ?_<;>(intro _;try omega)))
     refine bU [(3,4)] tH kZq (fun p hp=>?_) ?_
     ·simp only[List.mem_singleton] at hp
      subst hp
      refine dI (x:= .ptr (.box (h.boxes.length+1+1)) 0) (v:= .list t2 s2 (ints (pvI (fb owners who k)))) kZq rfl rfl rfl kZq (svs) ?_ ?_<;>(simp only[List.take_succ_cons,List.take_zero];repeat' (first|simp(maxSteps:=999999) (disch:=first|exact dZ|fail) only[gW,reduceIte,Nat.reduceEqDiff,beq_self_eq_true,List.append_nil,and_self, *] | (refine dX ?_ ?_<;>(intro _;try omega))))
     repeat' (first|simp(maxSteps:=999999) (disch:=first|exact dZ|fail) only[gW,reduceIte,Nat.reduceEqDiff,beq_self_eq_true, *] | (refine dX ?_ ?_<;>(intro _;try omega)))
     have kf2:=kfin.out
     rw[hH1] at kf2
     refine⟨trivial,?_,?_⟩
     ·show((K.app t1).app t2).loops=_
      rw[ig,ig]
     ·rw[<-hK,Kl,Bw]
      exact kf2
    ·obtain⟨Hf,c1,t1,s1,t2,s2,i1,i2,i3,i4,i5,i6,i7,i8,i9⟩:=feed
     rw[hll]
     refine⟨_,_,c1,rec,by rw[i1];exact hlr,by rw[w5];decide,.inl ⟨w6,?_⟩⟩
     have hf1:=(List.getElem?_eq_some_iff.1 i2).1
     have hf2:=(List.getElem?_eq_some_iff.1 i3).1
     have q1:(Hf.bh H1.loops.length {rec with state:= .exhausted}).boxes[h.boxes.length+1]?=some [.list t1 s1 ((fy xs owners who rows.length).map fun a=>[a])]:=i2
     have q2:(Hf.bh H1.loops.length {rec with state:= .exhausted}).boxes[h.boxes.length+1+1]?=some [.list t2 s2 (ints (pvI (fb owners who rows.length)))]:=i3
     have q7:(Hf.bh H1.loops.length {rec with state:= .exhausted}).boxes[H1.boxes.length]?=some ((ct cw).map fun n=> .v (.int .i64 n)):=i7
     have XF:Ext h (Hf.bh H1.loops.length {rec with state:= .exhausted}):=((Fr.sF (bn:=h.boxes.length) (l0:=h.loops.length) (n0:=h.tn) i6.ext (Nat.le_refl _)).trans (.bh hLh _)).ext (Nat.le_refl _) (Nat.le_refl _) (Nat.le_refl _)
     generalize Hf.bh H1.loops.length {rec with state:= .exhausted}=HF at *
     have hg1:=(List.getElem?_eq_some_iff.1 q1).1
     have hg2:=(List.getElem?_eq_some_iff.1 q2).1
     have lA:=EJ q1
     have lB:=vD q2
     have sA:=Kk (k:=t1) (s:=s1) (es:=(fy xs owners who rows.length).map fun a=>[a]) q1
     have lB2:ai Tryz.prog Gt (HF.put (h.boxes.length+1) [.list t1 s1 ((fy xs owners who rows.length).map fun a=>[a])]) 23 (.ptr (.box (h.boxes.length+1+1)) 0)=some (.list t2 s2 (ints (pvI (fb owners who rows.length)))):=vD (by rw[av (by omega)];exact q2)
     have sB:=EK (H:=HF.put (h.boxes.length+1) [.list t1 s1 ((fy xs owners who rows.length).map fun a=>[a])]) (b:=h.boxes.length+1+1) (k:=t2) (s:=s2) (es:=ints (pvI (fb owners who rows.length))) (by rw[av (by omega)];exact q2)
     have eA:=ec q1
     have eB:=ec (h:=HF) q2
     rw[eA] at sA sB lB2
     rw[eB] at sB
     have svs:=sO t2 s2 (pvI (fb owners who rows.length))
     have kfin:=ah.mk (And.intro XF (And.intro i4 (And.intro i5 q7)))
     clear q1 q2 q7 XF i1 i2 i3 i4 i5 i6 i7 i8 i9 c1 b0 b1 b2 b3 b4 X3 ok3 hll p0 p1 p2 x1 ok1 f50 hlr w1 w2 w3 w4 w5 w6 eA eB
     repeat' (first|simp(maxSteps:=999999) (disch:=first|exact dZ|fail) only[gW,reduceIte,Nat.reduceEqDiff,beq_self_eq_true,qb, *] | (refine dX ?_ ?_<;>(intro _;try omega)))
     refine bU [(1,3)] tH kZq (fun p hp=>?_) ?_
     ·simp only[List.mem_singleton] at hp
      subst hp
      refine dH (x:= .ptr (.box (h.boxes.length+1+1)) 0) (v:= .list t2 s2 (ints (pvI (fb owners who rows.length)))) kZq rfl rfl rfl kZq (svs) ?_ ?_<;>(simp only[List.take_succ_cons,List.take_zero];repeat' (first|simp(maxSteps:=999999) (disch:=first|exact dZ|fail) only[gW,reduceIte,Nat.reduceEqDiff,beq_self_eq_true,qb,and_self, *] | (refine dX ?_ ?_<;>(intro _;try omega))))
     repeat' (first|simp(maxSteps:=999999) (disch:=first|exact dZ|fail) only[gW,reduceIte,Nat.reduceEqDiff,beq_self_eq_true,qb, *] | (refine dX ?_ ?_<;>(intro _;try omega)))
     exact⟨_,_,rfl,kfin.out.1,by
      rw[if_neg (by simp[kpe.out]),if_neg (by simp[kf.out])]
      exact⟨_,_,_,_,_,rfl,kfin.out.2.1,kfin.out.2.2.1,by rw[<-hH1];exact kfin.out.2.2.2⟩⟩
theorem IL.hold{x:AV}{l:List Int}(h:IL x l):IL (au x) l/\aV 0 0 0 (au x)=true:=by
 obtain⟨k,s,rfl,hs⟩:=h
 rw[au,xF]
 exact⟨⟨di k,s,rfl,hs⟩,by rw[aV,bV,fJ];rfl⟩
theorem hD:∀xs:List AV,eF (xs.map fun a=>[a])=(xs.map au).map fun a=>[a]
 | []=>rfl
 |x::xs=>by rw[List.map_cons,eF,hD xs];rfl
theorem gx:∀xs:List AV,(∀a∈xs,aV 0 0 0 a=true)->gH 0 0 0 (xs.map fun a=>[a])=true
 | [],_=>rfl
 |x::xs,h=>by
  rw[List.map_cons,gH,gx xs fun a ha=>h a (List.mem_cons_of_mem _ ha),bA,h x List.mem_cons_self];rfl
theorem RL.hold{k:Tok}{s:Nat}{xs:List AV}{rows:List (List Int)}(h:RL (.list k s (xs.map fun a=>[a])) rows):
 RL (.list (di k) s ((xs.map au).map fun a=>[a])) rows/\∀a∈xs.map au,aV 0 0 0 a=true:=by
 obtain⟨k',s',xs',he,hs,hl,hr⟩:=h
 injection he with e1 e2 e3
 have e4:=(List.map_inj_right (fun x y h=>by injection h)).1 e3
 subst e1;subst e2;subst e4
 refine⟨⟨di k,s,xs.map au,rfl,hs,by rw[List.length_map];exact hl,fun i a r ha hr'=>?_⟩,fun a ha=>?_⟩
 ·rw[List.getElem?_map] at ha
  cases hx:xs[i]? with
  |none=>rw[hx] at ha;cases ha
  |some b=>
   rw[hx] at ha
   injection ha with ha
   rw[<-ha]
   exact(hr i b r hx hr').hold.1
 ·obtain⟨b,hb,rfl⟩:=List.mem_map.1 ha
  obtain⟨i,hi⟩:=List.getElem?_of_mem hb
  have hil:=(List.getElem?_eq_some_iff.1 hi).1
  exact(hr i b _ hi (List.getElem?_eq_getElem (by rw[<-hl];exact hil))).hold.2
def L3:List FuncId:=[28,29,30,46,65,66,69,78,82,94,97,118,119,120,121,123,132,138,140,143,144,146,194,201]
noncomputable def Kn:FuncId->Option (List AV->ae->Option (AV × ae)):=fx W2 L3
noncomputable abbrev W3:=whole Tryz.prog Gt Kn
section
variable (a b n x:Int)
theorem S8:∀h,W3.call 28 [im a,im b] h=some (.ret (im (cN a b)),h):=aF (L:=L3) rfl rfl rfl (Rg a b _) rfl rfl
theorem S9:∀h,W3.call 29 [im a,im b] h=some (.ret (im (cq a b)),h):=aF (L:=L3) rfl rfl rfl (Pa a b _) rfl rfl
theorem Pn:∀h,W3.call 46 [im x] h=some (.ret (.v (.bool (aX x))),h):=aF (L:=L3) rfl rfl rfl (Pb x _) rfl rfl
theorem RB:∀h,W3.call 69 [im a,im b] h=some (.ret (.tuple [im (pO a b),im (mP a b)]),h):=aF (L:=L3) rfl rfl rfl (Rh a b _) rfl rfl
theorem RC:∀h,W3.call 30 [im a,im n] h=some (.ret (.tuple [im (iL a n),im (lG a)]),h):=aF (L:=L3) rfl rfl rfl (Ri a n _) rfl rfl
end
theorem RL.form{x:AV}{rows:List (List Int)}(h:RL x rows):∃(k:Tok) (s:Nat) (xs:List AV),x= .list k s (xs.map fun a=>[a])/\xs.length=rows.length:=by
 obtain⟨k,s,xs,he,-,hl,-⟩:=h
 exact⟨k,s,xs,he,hl⟩
theorem RL.xS{x:AV}{rows:List (List Int)}(h:RL x rows):RL (au x) rows/\aV 0 0 0 (au x)=true:=by
 obtain⟨k,s,xs,rfl,-⟩:=h.form
 obtain⟨h1,h2⟩:=h.hold
 rw[au,hD]
 exact⟨h1,by rw[aV,bV,gx _ h2];rfl⟩
theorem Po(x y:AV)(rows:List (List Int))(owners:List Int)(hx:RL x rows)(hy:IL y owners):∀h,W3.call 97 [.agg [x,y]] h=some (.ret (.v (.int .i64 (bC rows owners))),h):=by
 obtain⟨h1,h2⟩:=hx.xS
 obtain⟨h3,h4⟩:=hy.hold
 obtain⟨h',hc,-⟩:=EG ⟨[],[],0,[]⟩ (au x) (au y) rows owners h1 h3
 exact aF (L:=L3) (args':=[.agg [au x,au y]]) rfl rfl (by simp[bA,aV,h2,h4]) hc rfl rfl
theorem EL(l:List Int):(l.map im).map (fun c=>[c])=ints l:=by unfold ints;rw[List.map_map];rfl
theorem vJ{h:ae}{b n:Nat}{l:List Int}(hb:h.boxes[b]?=some (l.map im))(hn:l.length=n):jK h (.arr b 0 n n)= .list .held 1 (ints l):=by
 subst hn
 rw[jK,hb]
 simp only
 rw[if_pos (by rw[List.length_map];omega),List.drop_zero,List.take_of_length_le (by rw[List.length_map];exact Nat.le_refl _),EL]
theorem Ko(x y:AV)(rows:List (List Int))(target:List Int)(hx:RL x rows)(hy:IL y target)(hr:rows.length<=64)(hw:∀r∈rows,r.length=target.length)(hw2:target.length<=64)(hok:∀r∈rows,∀x∈r,okF x)(hot:∀x∈target,okF x):
 (gi rows target=none/\∀h,W3.call 144 [x,y] h=some (.ret (.tuple [.list .nil 0 [],.v (.bool false),im 0]),h))∨∃l,gi rows target=some l/\l.length=rows.length/\∀h,W3.call 144 [x,y] h=some (.ret (.tuple [.list .held 1 (ints l),.v (.bool true),im 0]),h):=by
 obtain⟨h1,h2⟩:=hx.xS
 obtain⟨h3,h4⟩:=hy.hold
 obtain⟨r,h',hc,-,⟨e1,rfl⟩|⟨l,b,e1,e2,rfl,e3⟩⟩:=DN ⟨[],[],0,[]⟩ (au x) (au y) rows target h1 h3 hr hw hw2 hok hot rfl
 ·exact .inl ⟨e1,aF (L:=L3) (args':=[au x,au y]) rfl rfl (by simp[bA,h2,h4]) hc rfl rfl⟩
 ·refine .inr ⟨l,e1,e2,aF (L:=L3) (args':=[au x,au y]) rfl rfl (by simp[bA,h2,h4]) hc ?_ (by simp[aV,bA,fJ,oF,im])⟩
  rw[jK,vp,vJ e3 e2];rfl
theorem By{xs:List AV}{owners who:List Int}{n i:Nat}{a:AV}(h:(fy xs owners who n)[i]?=some a):∃j,(fb owners who n)[i]?=some j/\j<n/\a=xs.getD j default:=by
 unfold fy at h
 rw[List.getElem?_map] at h
 cases hj:((List.range n).filter fun i=>who.contains (at0 owners i))[i]? with
 |none=>rw[hj] at h;cases h
 |some j=>
  rw[hj] at h
  injection h with h
  exact⟨j,hj,List.mem_range.1 (List.mem_filter.1 (List.mem_of_getElem? hj)).1,h.symm⟩
theorem Hh(k0:Tok)(s0:Nat)(xs:List AV)(y z:AV)(rows:List (List Int))(owners who:List Int)(hx:RL (.list k0 s0 (xs.map fun a=>[a])) rows)(hy:IL y owners)(hz:IL z who)(hwl:who.length<=1099511627776):
 (bC rows owners≠0/\∀h,W3.call 143 [.agg [.list k0 s0 (xs.map fun a=>[a]),y],z] h=some (.ret (.tuple [.list .nil 0 [],.list .nil 0 [],.list .nil 0 [],.v (.int .i64 (bC rows owners))]),h))∨
 (bC rows owners=0/\cS (-1) who=false/\∀h,W3.call 143 [.agg [.list k0 s0 (xs.map fun a=>[a]),y],z] h=some (.ret (.tuple [.list .nil 0 [],.list .nil 0 [],.list .nil 0 [],.v (.int .i64 1)]),h))∨
 (bC rows owners=0/\cS (-1) who=true/\∃X A,RL X ((gV owners who).map fun i=>rows.getD i [])/\IL A (pvI (gV owners who))/\∀h,W3.call 143 [.agg [.list k0 s0 (xs.map fun a=>[a]),y],z] h=some (.ret (.tuple [X,A,.list .held 1 (ints (ct (aK rows))),.v (.int .i64 0)]),h)):=by
 obtain⟨h1,h2⟩:=hx.hold
 obtain⟨h3,h4⟩:=hy.hold
 obtain⟨h5,h6⟩:=hz.hold
 have hxl:(xs.map au).length=rows.length:=by
  obtain⟨_,_,xs',he,-,hl,-⟩:=h1
  injection he with _ _ e3
  have e4:=(List.map_inj_right (fun x y h=>by injection h)).1 e3
  rw[e4];exact hl
 have ea:bM [.agg [.list k0 s0 (xs.map fun a=>[a]),y],z]=[.agg [.list (di k0) s0 ((xs.map au).map fun a=>[a]),au y],au z]:=by
  rw[bM,au,bM,bM,bM,au,hD];rfl
 have ef:bA 0 0 0 [.agg [.list (di k0) s0 ((xs.map au).map fun a=>[a]),au y],au z]=true:=by
  have hf:=gx _ h2
  rw[bA,aV,bA,bA,bA,bA,aV,bV,hf,h4,h6];rfl
 obtain⟨r,h',hc,-,hp⟩:=Bx ⟨[],[],0,[]⟩ (di k0) s0 (xs.map au) (au y) (au z) rows owners who h1 hxl h3 h5 hwl rfl
 by_cases q1:bC rows owners≠0
 ·rw[if_pos q1] at hp
  subst hp
  exact .inl ⟨q1,aF (L:=L3) rfl ea ef hc rfl rfl⟩
 ·rw[if_neg q1] at hp
  have q1':bC rows owners=0:=Decidable.not_not.1 q1
  cases q2:cS (-1) who with
  |false=>
   rw[if_pos q2] at hp
   subst hp
   exact .inr (.inl ⟨q1',rfl,aF (L:=L3) rfl ea ef hc rfl rfl⟩)
  |true=>
   rw[if_neg (by rw[q2];simp)] at hp
   obtain⟨k1,s1,k2,s2,tb,rfl,e1,e2,e3⟩:=hp
   obtain⟨o1,-,-,-⟩:=fk q1'
   have hN:fb owners who rows.length=gV owners who:=by unfold fb gV;rw[o1]
   obtain⟨n1,-⟩:=fI q1'
   have htl:(ct (aK rows)).length=aK rows:=by unfold ct;simp;omega
   refine .inr (.inr ⟨q1',rfl,.list (di k1) s1 ((fy (xs.map au) owners who rows.length).map fun a=>[a]),.list (di k2) s2 (ints (pvI (gV owners who))),⟨_,_,_,rfl,fun hne=>?_,?_,fun i a r ha hr=>?_⟩,⟨_,_,rfl,fun hne=>?_⟩,aF (L:=L3) rfl ea ef hc ?_ ?_⟩)
   ·rcases e1 with q|⟨q,-⟩
    ·exact q
    ·exfalso
     apply hne
     rw[<-hN]
     unfold fy at q
     unfold fb
     rw[List.map_eq_nil_iff] at q
     rw[q];rfl
   ·rw[List.length_map,<-hN]
    unfold fy fb
    rw[List.length_map]
   ·obtain⟨j,j1,j2,rfl⟩:=By ha
    rw[hN] at j1
    rw[List.getElem?_map,j1] at hr
    injection hr with hr
    subst hr
    obtain⟨_,_,xs',he,-,hl,hh⟩:=h1
    injection he with _ _ e5
    have e4:=(List.map_inj_right (fun x y h=>by injection h)).1 e5
    subst e4
    refine hh j _ _ ?_ ?_
    ·rw[List.getD_eq_getElem?_getD,List.getElem?_eq_getElem (by omega)];rfl
    ·show rows[j]?=some (rows.getD j [])
     rw[List.getD_eq_getElem?_getD,List.getElem?_eq_getElem j2];rfl
   ·rcases e2 with q|⟨q,-⟩
    ·exact q
    ·rw[hN] at q;exact absurd q hne
   ·rw[jK,vp,vp,vp,vJ e3 htl,hN];rfl
   ·have hfit:gH 0 0 0 ((fy (xs.map au) owners who rows.length).map fun a=>[a])=true:=gx _ fun a ha=>by
     obtain⟨i,hi⟩:=List.getElem?_of_mem ha
     obtain⟨j,-,j2,rfl⟩:=By hi
     refine h2 _ ?_
     rw[List.getD_eq_getElem?_getD,List.getElem?_eq_getElem (by omega)]
     exact List.getElem_mem _
    cases k1<;>cases k2<;>simp[aV,bA,di,fJ,hfit,oF]
theorem Hi:Tryz.f76.results.toList=[.tmp 4,.tmp 5,.tmp 6]:=kZq
def fU(n:Nat)(at_:List Nat)(l:List Int)(j:Nat):List Int:=(at_.zipIdx.take j).foldl (fun y p=>y.set p.1 (at0 l p.2)) (List.replicate n 0)
theorem tK{n j:Nat}{at_:List Nat}{l:List Int}:(fU n at_ l j).length=n:=by
 unfold fU
 rw[oJ (fun p=>at0 l p.2),List.length_replicate]
theorem zD{n j p:Nat}{at_:List Nat}{l:List Int}(h:at_[j]?=some p):(fU n at_ l j).set p (at0 l j)=fU n at_ l (j+1):=by
 have hz:at_.zipIdx[j]?=some (p,j):=by rw[List.getElem?_zipIdx,h];simp
 unfold fU
 rw[a9 hz,List.foldl_append]
 rfl
theorem tL{n:Nat}{at_:List Nat}{l:List Int}:fU n at_ l at_.length=fS n at_ l:=by
 unfold fU fS
 rw[List.take_of_length_le (by simp)]
theorem Pp{l:List Nat}{j p:Nat}(h:l[j]?=some p):at0 (pvI l) j=(p:Int):=by
 have:(pvI l)[j]?=some (p:Int):=by unfold pvI;rw[List.getElem?_map,h];rfl
 unfold at0
 rw[List.getD_eq_getElem?_getD,this];rfl
def EM(rows:List (List Int))(owners who:List Int)(h:ae)(r:Res)(h':ae):Prop:=
 Ext h h'/\((∃e,bJ rows owners who=([],false,e)/\r= .ret (.tuple [.list .nil 0 [],.v (.bool false),.v (.int .i64 e)]))∨∃l b,bJ rows owners who=(l,true,0)/\l.length=rows.length/\r= .ret (.tuple [.arr b 0 rows.length rows.length,.v (.bool true),.v (.int .i64 0)])/\h'.boxes[b]?=some (l.map im))
theorem DO(h:ae)(k0:Tok)(s0:Nat)(xs:List AV)(y z:AV)(rows:List (List Int))(owners who:List Int)(hx:RL (.list k0 s0 (xs.map fun a=>[a])) rows)(hy:IL y owners)(hz:IL z who)(hwl:who.length<=1099511627776):
 ∃r h',W3.call 76 [.agg [.list k0 s0 (xs.map fun a=>[a]),y],z] h=some (r,h')/\EM rows owners who h r h':=by
 have hq:=Hh k0 s0 xs y z rows owners who hx hy hz hwl
 obtain⟨_,_,xs',he,hxl⟩:=hx.form
 have hxl2:(xs.map fun a=>[a]).length=rows.length:=by
  injection he with _ _ e5
  rw[e5,List.length_map];exact hxl
 have bx:(AV.agg [.list k0 s0 (xs.map fun a=>[a]),y]).aC=some [.list k0 s0 (xs.map fun a=>[a]),y]:=by
  obtain⟨ky,sy,rfl,-⟩:=hy;rfl
 have b0:(h.push [.list k0 s0 (xs.map fun a=>[a]),y]).boxes[h.boxes.length]?=some [.list k0 s0 (xs.map fun a=>[a]),y]:=ak _ _
 have l25:=ma b0
 have l22:=tY b0
 have u23:=Tryz.underlying23
 have u22:=Tryz.underlying22
 have z3:=sz3
 clear he hxl hx hy hz b0
 unfold EM
 have eA:bJ rows owners who=if bC rows owners≠0 then ([],false,bC rows owners) else if !cS (-1) who then ([],false,1) else match gi ((gV owners who).map fun i=>rows.getD i []) (ct (aK rows)) with|none=>([],false,0) |some l=>(fS rows.length (gV owners who) l,true,0):=rfl
 refine aL rfl Tryz.func76 rfl ?_
 rcases hq with⟨q1,c⟩|⟨q1,q2,c⟩|⟨q1,q2,X,A,hX,hA,c⟩
 ·rw[if_pos q1] at eA
  generalize bC rows owners=pe at *
  have hdz:decide (pe=0)=false:=by simp[q1]
  have ke:=ah.mk eA
  clear eA q1
  repeat' (first|simp(maxSteps:=999999) (disch:=first|exact dZ|fail) only[gW,reduceIte,Nat.reduceEqDiff,beq_self_eq_true,Hi,aw, *] | (refine dX ?_ ?_<;>(intro _;try omega)))
  exact⟨_,_,rfl,.push _ _,.inl ⟨pe,ke.out,rfl⟩⟩
 ·rw[if_neg (by simp[q1]),if_pos (by rw[q2];rfl)] at eA
  have ke:=ah.mk eA
  clear eA q1 q2
  repeat' (first|simp(maxSteps:=999999) (disch:=first|exact dZ|fail) only[gW,reduceIte,Nat.reduceEqDiff,beq_self_eq_true,Hi,aw, *] | (refine dX ?_ ?_<;>(intro _;try omega)))
  exact⟨_,_,rfl,.push _ _,.inl ⟨1,ke.out,rfl⟩⟩
 ·rw[if_neg (by simp[q1]),if_neg (by rw[q2];simp)] at eA
  obtain⟨o1,o2,o3,-⟩:=fk q1
  obtain⟨n1,n2⟩:=fI q1
  have htl:(ct (aK rows)).length=aK rows:=by unfold ct;simp;omega
  have hown:∀i∈gV owners who,i<rows.length:=fun i hi=>by
   unfold gV at hi
   rw[o1];exact List.mem_range.1 (List.mem_filter.1 hi).1
  have hlen:(gV owners who).length<=64:=by
   unfold gV
   exact Nat.le_trans (List.length_filter_le _ _) (by rw[List.length_range];omega)
  have hrow:∀r∈(gV owners who).map fun i=>rows.getD i [],r∈rows:=fun r hr=>by
   obtain⟨i,hi,rfl⟩:=List.mem_map.1 hr
   have:=hown i hi
   rw[List.getD_eq_getElem?_getD,List.getElem?_eq_getElem this]
   exact List.getElem_mem _
  have hcm:=Ko X (.list .held 1 (ints (ct (aK rows)))) _ (ct (aK rows)) hX ⟨_,_,rfl,fun _=>rfl⟩ (by rw[List.length_map];exact hlen) (fun r hr=>by rw[htl];exact(o3 r (hrow r hr)).1) (by rw[htl];exact n2) (fun r hr=>(o3 r (hrow r hr)).2.2.2) (fun x hx=>by
   unfold ct at hx
   rcases List.mem_cons.1 hx with rfl|hx
   ·exact⟨by decide,by decide⟩
   ·rw[List.eq_of_mem_replicate hx];exact⟨by decide,by decide⟩)
  rcases hcm with⟨e1,c2⟩|⟨l,e1,e2,c2⟩
  ·rw[e1] at eA
   have ke:=ah.mk eA
   unfold im at c2
   clear eA q1 q2 e1 hrow hown o3
   repeat' (first|simp(maxSteps:=999999) (disch:=first|exact dZ|fail) only[gW,reduceIte,Nat.reduceEqDiff,beq_self_eq_true,Hi,aw, *] | (refine dX ?_ ?_<;>(intro _;try omega)))
   exact⟨_,_,rfl,.push _ _,.inl ⟨0,ke.out,rfl⟩⟩
  ·rw[e1] at eA
   have ke:=ah.mk eA
   have mk:=Pf (h.push [.list k0 s0 (xs.map fun a=>[a]),y]) rows.length (by omega) .i64 .i64
   have hrep:List.replicate rows.length (im 0)=(fU rows.length (gV owners who) l 0).map im:=by
    unfold fU;rw[List.take_zero,List.foldl_nil,List.map_replicate]
   rw[hrep] at mk
   rw[List.length_map] at e2
   have ko:=ah.mk hown
   obtain⟨ka,sa,rfl,hsa⟩:=hA
   have ksa:=ah.mk hsa
   have hal:=zA (gV owners who)
   have hll:=aU l
   clear eA q1 q2 e1 hrow hown o3 hrep hX hsa
   unfold im at c2 mk
   generalize gV owners who=ow at *
   clear o1
   repeat' (first|simp(maxSteps:=999999) (disch:=first|exact dZ|fail) only[gW,reduceIte,Nat.reduceEqDiff,beq_self_eq_true,Hi,aw,bH, *] | (refine dX ?_ ?_<;>(intro _;try omega)))
   refine Run.gen fun e0 he0 hd0 hp0 hr0=>?_
   have f4:e0.get 4= .arr (h.boxes.length+1) 0 rows.length rows.length:=by rw[he0];simp only[gW,reduceIte,Nat.reduceEqDiff,beq_self_eq_true,az]
   have f10:e0.get 10= .list .held 1 (ints l):=by rw[he0];exact gS
   have f42:e0.get 42= .list ka sa (ints (pvI ow)):=by rw[he0];exact gS
   have f43:e0.get 43= .v (.int .i64 (ow.length:Nat)):=by rw[he0];exact gS
   have f44:e0.get 44= .v (.int .i64 (0:Nat)):=by rw[he0];exact gR
   have fd:e0.defers=[]:=by rw[hd0];exact gS
   clear he0 hd0 hp0 hr0 mk c c2 l25 l22
   have hH1:(h.push [.list k0 s0 (xs.map fun a=>[a]),y]).boxes.length=h.boxes.length+1:=az _ _
   have X1:Ext h (h.push [.list k0 s0 (xs.map fun a=>[a]),y]):= .push _ _
   generalize h.push [.list k0 s0 (xs.map fun a=>[a]),y]=H1 at *
   have kX:=ah.mk (And.intro X1 hH1)
   clear X1
   refine aD (fun m e H=>∃j:Nat,j<=ow.length/\m=ow.length - j/\e.get 4= .arr (h.boxes.length+1) 0 rows.length rows.length/\e.get 10= .list .held 1 (ints l)/\e.get 42= .list ka sa (ints (pvI ow))/\e.get 43= .v (.int .i64 (ow.length:Nat))/\e.get 44= .v (.int .i64 (j:Nat))/\e.defers=[]/\H=H1.push ((fU rows.length ow l j).map im)) ?_ ow.length _ _ ?_
   rotate_left 1
   ·exact⟨0,Nat.zero_le _,rfl,f4,f10,f42,f43,f44,fd,rfl⟩
   clear f4 f10 f42 f43 f44 fd
   rintro m e H ⟨j,hj,rfl,g4,g10,g42,g43,g44,hd,rfl⟩
   by_cases hlt:j<ow.length
   ·obtain⟨p,hpv⟩:∃p,ow[j]?=some p:=⟨_,List.getElem?_eq_getElem hlt⟩
    have hpn:=ko.out p (List.mem_of_getElem? hpv)
    have hs1:sa=1:=ksa.out (by
     intro q
     unfold pvI at q
     rw[List.map_eq_nil_iff] at q
     rw[q] at hlt
     exact Nat.not_lt_zero _ hlt)
    subst hs1
    have l0:=ldi (H:=H1.push ((fU rows.length ow l j).map im)) (l:=pvI ow) (i:=j) (s:=1) (by unfold pvI;rw[List.length_map];exact hlt)
    rw[Pp hpv] at l0
    have l1:=ldi (H:=H1.push ((fU rows.length ow l j).map im)) (l:=l) (i:=j) (s:=1) (by omega)
    have ix3:=vE (b:=h.boxes.length+1) (len:=rows.length) (cap:=rows.length) (k:= .i64) hpn
    have sk:=J3 (H:=H1.push ((fU rows.length ow l j).map im)) (b:=H1.boxes.length) (r:=fU rows.length ow l j) (k:=p) (x:=at0 l j) (ak _ _) (by rw[tK];exact hpn)
    rw[gg,zD hpv,hH1] at sk
    have hltI:(j:Int)<(ow.length:Int):=by omega
    unfold im at *
    clear hpv hH1
    repeat' (first|simp(maxSteps:=999999) (disch:=first|exact dZ|fail) only[gW,reduceIte,Nat.reduceEqDiff,beq_self_eq_true,Hi,al, *] | (refine dX ?_ ?_<;>(intro _;try omega)))
    exact⟨ow.length - (j+1),by omega,j+1,by omega,rfl,by simp⟩
   ·have hje:j=ow.length:=by omega
    subst hje
    repeat' (first|simp(maxSteps:=999999) (disch:=first|exact dZ|fail) only[gW,reduceIte,Nat.reduceEqDiff,beq_self_eq_true,Hi, *] | (refine dX ?_ ?_<;>(intro _;try omega)))
    refine⟨_,_,rfl,kX.out.1.trans (.push _ _),.inr ⟨_,h.boxes.length+1,ke.out,?_,rfl,?_⟩⟩
    ·rw[<-tL,tK]
    ·rw[<-tL]
     exact cD kX.out.2.symm
def IS(H:ae)(x:AV)(l:List Int):Prop:=IL x l∨∃b,x= .arr b 0 l.length l.length/\H.boxes[b]?=some (l.map im)
theorem IS.mono{H H':ae}{x:AV}{l:List Int}(s:IS H x l)(m:∀(c:Nat) cs,H.boxes[c]?=some cs->H'.boxes[c]?=some cs):IS H' x l:=by
 rcases s with q|⟨b,q1,q2⟩
 ·exact .inl q
 ·exact .inr ⟨b,q1,m _ _ q2⟩
theorem IS.len{H:ae}{x:AV}{l:List Int}(s:IS H x l):cH Tryz.prog 23 x=some (.v (.int .i64 (l.length:Nat))):=by
 rcases s with⟨k,z,rfl,-⟩|⟨b,rfl,-⟩
 ·rw[uV Tryz.underlying23,aU]
 ·rw[yS Tryz.underlying23]
theorem IS.at{H:ae}{x:AV}{l:List Int}(s:IS H x l){i:Nat}(hi:i<l.length):∃a,ay Tryz.prog 23 x (.v (.int .i64 (i:Nat)))=some a/\∀H':ae,IS H' x l->ai Tryz.prog Gt H' 3 a=some (.v (.int .i64 (at0 l i))):=by
 rcases s with⟨k,z,rfl,hz⟩|⟨b,rfl,hb⟩
 ·have:z=1:=hz (by intro q;rw[q] at hi;exact Nat.not_lt_zero _ hi)
  subst this
  have q:=al (t:=23) (k:=k) (kk:= .i64) (sz:=1) (es:=ints l) (a:=((i:Nat):Int)) Tryz.underlying23 sz3 (by omega) (by rw[aU];omega)
  rw[Int.toNat_natCast] at q
  exact⟨_,q,fun H' _=>ldi hi⟩
 ·refine⟨.ptr (.box b) i,vE (b:=b) (len:=l.length) (cap:=l.length) (n:=i) (k:= .i64) hi,fun H' s'=>?_⟩
  rcases s' with⟨k,z,e,-⟩|⟨b',e,hb'⟩
  ·cases e
  ·injection e with e1
   subst e1
   exact ldc hb' (gv hi)
end Go.Proofs.YtnfciiiohoafaaaGreatDoor
end
