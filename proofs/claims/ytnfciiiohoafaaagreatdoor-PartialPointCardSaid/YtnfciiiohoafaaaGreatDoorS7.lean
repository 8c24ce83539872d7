/-
  Part of the proof: S7.
-/
import Derived.Test.YtnfciiiohoafaaaGreatDoorQS
set_option maxHeartbeats 64000000
set_option maxRecDepth 100000
set_option linter.unusedSimpArgs false
set_option linter.unusedVariables false
set_option linter.constructorNameAsVariable false
section
namespace Go.Proofs.YtnfciiiohoafaaaGreatDoor
open Go.AE Go.NT
def TY(N binds:List Int)(k:Nat):Int:=(List.range k).foldl (fun a i=>cN a (cN (at0 N (2 * i)) (cq (at0 N (2 * i+1)) (at0 binds i)))) 0
theorem T1(N binds:List Int)(k:Nat):TY N binds (k+1)=cN (TY N binds k) (cN (at0 N (2 * k)) (cq (at0 N (2 * k+1)) (at0 binds k))):=by
 unfold TY
 rw[List.range_succ,List.foldl_append];rfl
theorem T9{α:Type}{f g:α->Int}:∀{L:List α},(∀i∈L,Qi∣f i - g i)->Qi∣bW (L.map f) - bW (L.map g):=by
 intro L
 induction L with
 |nil=>intro _;simp[bW]
 |cons x L ih=>
  intro h
  have h1:=h x List.mem_cons_self
  have h2:=ih fun i hi=>h i (List.mem_cons_of_mem _ hi)
  simp only[List.map_cons,bW]
  have:=Int.dvd_add h1 h2
  have e:f x - g x+(bW (L.map f) - bW (L.map g))=f x+bW (L.map f) - (g x+bW (L.map g)):=by omega
  rwa [e] at this
theorem Ua(a b c:Int):Qi∣cN a (cq b c) - (a+b * c):=by
 rw[jU,fR]
 refine rL ?_
 rw[Int.emod_emod_of_dvd _ (Int.dvd_refl _),Int.add_emod,Int.emod_emod_of_dvd _ (Int.dvd_refl _),<-Int.add_emod]
theorem TZ{who N:List Int}{l:List Pr}{text:List UInt8}(c:nM who N l)(hw:cS (-1) who=true)(c0:Int):aY Gn (TY N (mr c0 text l) who.length)=dA c0 text l:=by
 rw[GG (c.Ty hw) c0]
 refine vv ?_
 have h1:=vx (f:=fun i=>cN (at0 N (2 * i)) (cq (at0 N (2 * i+1)) (at0 (mr c0 text l) i))) (l:=List.range who.length) 0
 rw[Int.zero_add] at h1
 have h2:=T9 (L:=List.range who.length) (f:=fun i=>cN (at0 N (2 * i)) (cq (at0 N (2 * i+1)) (at0 (mr c0 text l) i))) (g:=fun i=>at0 N (2 * i)+at0 N (2 * i+1) * at0 (mr c0 text l) i) fun i _=>Ua _ _ _
 have e:((List.range who.length).map fun i=>at0 N (2 * i)+at0 N (2 * i+1) * at0 (mr c0 text l) i)=l.map fun p=>at0 N (2 * ixW who p.ag)+at0 N (2 * ixW who p.ag+1) * ((dP c0 text l p.ag:Nat):Int):=by
  refine List.ext_getElem? fun i=>?_
  rcases Nat.lt_or_ge i who.length with h|h
  ·obtain⟨no,-,-,q⟩:=c.at_ i h
   have hb:at0 (mr c0 text l) i=((dP c0 text l (at0 who i):Nat):Int):=by
    unfold mr
    have hl:i<(l.map fun p=>((dP c0 text l p.ag:Nat):Int)).length:=by rw[List.length_map,c.len];exact h
    rw[bN hl,List.getElem_map]
    have:=(List.getElem?_eq_some_iff.1 q).2
    rw[this]
   rw[List.getElem?_map,List.getElem?_map,List.getElem?_range h,q,Option.map_some,Option.map_some,hb]
   simp only[Lf (nH hw).2 h]
  ·rw[List.getElem?_eq_none (by simpa using h),List.getElem?_eq_none (by rw[List.length_map,c.len];exact h)]
 rw[e] at h2
 exact jg h1 h2
theorem Ub{who N s:List Int}{l:List Pr}{text:List UInt8}(c:nM who N l)(hw:cS (-1) who=true)(hs:0<s.length):
 iO (at0 (ax s) 0) text ((aG (at0 (ax s) 0) text l:Nat):Int) (cN (TY N (mr (at0 (ax s) 0) text l) who.length) (cq ((aG (at0 (ax s) 0) text l:Nat):Int) (at0 s 0)))=true:=by
 have hpt:=TZ (text:=text) c hw (at0 (ax s) 0)
 have hc:aG (at0 (ax s) 0) text l=tw ((dA (at0 (ax s) 0) text l:Nat):Int) (at0 (ax s) 0) text:=rfl
 rw[<-hpt] at hc
 generalize aG (at0 (ax s) 0) text l=ch at *
 generalize TY N (mr (at0 (ax s) 0) text l) who.length=n at *
 rw[JD hs] at *
 exact Gy hc (oI _ _) (Ua _ _ _)
theorem rs7:Tryz.f7.results.toList=[.tmp 12]:=kZq
theorem Ue(h:ae)(hok:aZ h=true)(X Y R N0 Tx:AV)(rows:List (List Int))(owners random eg:List Int)(secret sm:Int)(text:List UInt8)
 (hx:RL X rows) (hy:IL Y owners) (hr:UL R random) (hn:UL N0 eg) (hs:0<=secret/\secret<4294967296) (ht:BL Tx text):
 ∃r h',W6.call 7 [.agg [X,Y],.v (.int .u32 secret),R,N0,.v (.int .u16 sm),Tx] h=some (r,h')/\r= .ret (.v (.bool true)):=by
 have bx:=ff hx hy
 obtain⟨_,H1,c1,x1,rfl⟩:=Qb (h.push [X,Y]) hok
 have hok1:=x1.ok hok
 obtain⟨_,H2,c2,x2,post⟩:=Nf H1 hok1 X Y R N0 rows owners random eg secret sm hx hy hr hn hs
 have hok2:=x2.ok hok1
 have l1:ai Tryz.prog Gt H1 25 (.ptr (.box h.boxes.length) 0)=some (.agg [X,Y]):=ma (x1.box _ _ (ak _ _))
 have lnT:=ht.cH
 have zc:=Sb
 refine aL rfl Tryz.func7 rfl ?_
 rcases post with⟨hu,W,rfl,lw,hW⟩|⟨hu,C,S,W,L,N,rfl,q1,q2,q3,q4,q5⟩
 ·have s1:=N4 (H:=H2) (vX hW) rfl
  clear hx hy hr hn ht hW x1 x2 hok hok1 hok2
  repeat' (first|simp(maxSteps:=999999) (disch:=first|exact dZ|fail) only[gW,reduceIte,Nat.reduceEqDiff,beq_self_eq_true,rs7,aw, *] | (refine dX ?_ ?_<;>(intro _;try omega)))
  exact⟨_,_,rfl,rfl⟩
 have tb:=TJ hu hx hy q1 q2 q3 q4 q5
 have s1:=N4 (H:=H2) (pI (ep:=0) hx hy q1 q2 q3 q4 q5) rfl
 by_cases hlen:text.length<=300
 rotate_left 1
 ·have hI:(300:Int)<(text.length:Int):=by omega
  clear hx hy hr hn ht tb x1 x2 hok hok1 hok2 q1 q2 q3 q4 q5
  repeat' (first|simp(maxSteps:=999999) (disch:=first|exact dZ|fail) only[gW,reduceIte,Nat.reduceEqDiff,beq_self_eq_true,rs7,aw, *] | (refine dX ?_ ?_<;>(intro _;try omega)))
  exact⟨_,_,rfl,rfl⟩
 have hI:¬(300:Int)<(text.length:Int):=by omega
 obtain⟨y,p1,p2,p3,p4,p5,p6,p7⟩:=vZ hu
 have hsl:=tQ (secret:=secret) (random:=random) p1
 have cr:=Ss (cG sm) eg
 have hbg:=nN (ep:=0) (text:=text) cr p4 p5 (by omega) (by omega) (by decide) (eE hsl).1 (eE hsl).2
 obtain⟨Z,hZ,c3⟩:∃Z,IL Z (mr (at0 (ax (dk rows secret random)) 0) text (eJ (cG sm) (eG (2 * (cG sm).length) eg)))/\∀h,W6.call 17 [.agg (cI 0 X Y C),Tx,L] h=some (.ret (.tuple [Z,im ((dA (at0 (ax (dk rows secret random)) 0) text (eJ (cG sm) (eG (2 * (cG sm).length) eg)):Nat):Int),im ((aG (at0 (ax (dk rows secret random)) 0) text (eJ (cG sm) (eG (2 * (cG sm).length) eg)):Nat):Int),im 0]),h):=by
  rcases E3 0 X Y C Tx L rows owners _ text _ hx hy q1 ht q4 tb.cl tb.ll with⟨z,-⟩|⟨-,z⟩
  ·exact absurd hbg z
  ·exact z
 have hspos:0<(dk rows secret random).length:=by rw[hsl];exact(fI p1).1
 have vf:=Ub (text:=text) cr p7 hspos
 have hpt:=TZ (text:=text) cr p7 (at0 (ax (dk rows secret random)) 0)
 have hs0:at0 (dk rows secret random) 0=secret%Qi:=rfl
 rw[hs0] at vf
 have hbl:(mr (at0 (ax (dk rows secret random)) 0) text (eJ (cG sm) (eG (2 * (cG sm).length) eg))).length=(cG sm).length:=by unfold mr;rw[List.length_map,qK]
 have lnZ:=hZ.cH
 have lnL:=q4.cH
 rw[hbl] at lnZ
 rw[qK] at lnL
 have tb4:(H2.push (dG 0 X Y C S W L N)).boxes[H2.boxes.length]?=some (dG 0 X Y C S W L N):=ak _ _
 have lK:=Sd tb4
 have lL:ai Tryz.prog Gt (H2.push (dG 0 X Y C S W L N)) 29 (.ptr (.box H2.boxes.length) 6)=some L:=aQ KP tb4 rfl
 have lN:ai Tryz.prog Gt (H2.push (dG 0 X Y C S W L N)) 23 (.ptr (.box H2.boxes.length) 7)=some N:=aQ mo tb4 rfl
 have lC:∀ds:List AV,ai Tryz.prog Gt ((H2.push (dG 0 X Y C S W L N)).push ds) 23 (.ptr (.box H2.boxes.length) 3)=some C:=fun ds=>aQ mo (aj tb4) rfl
 have hpos:0<(ax (dk rows secret random)).length:=by unfold ax;rw[List.length_map];exact hspos
 have ixC:ay Tryz.prog 23 C (.v (.int .i64 0))=some (.elem 1 (ints (ax (dk rows secret random))) 0 0):=q1.ix (i:=0) hpos
 have ldC:∀K:ae,ai Tryz.prog Gt K 3 (.elem 1 (ints (ax (dk rows secret random))) 0 0)=some (.v (.int .i64 (at0 (ax (dk rows secret random)) 0))):=fun K=>ldi hpos
 have hNl:(eG (2 * (cG sm).length) eg).length=2 * (cG sm).length:=iu _ _
 have hm:secret.tmod 1073741789=secret%Qi:=Int.tmod_eq_emod_of_nonneg hs.1
 have hwr:IntKind.i64.wrap secret=secret:=bT (by omega) (by omega)
 have c4:=fun s=>E4 (at0 (ax (dk rows secret random)) 0) ((aG (at0 (ax (dk rows secret random)) 0) text (eJ (cG sm) (eG (2 * (cG sm).length) eg)):Nat):Int) s Tx text ht (by omega)
 have c5:=Uc 4 (TY (eG (2 * (cG sm).length) eg) (mr (at0 (ax (dk rows secret random)) 0) text (eJ (cG sm) (eG (2 * (cG sm).length) eg))) (cG sm).length)
 have e4:lG 4=0:=by unfold lG;rw[if_pos oU]
 have hG:(4:Int).toNat=Gn:=rfl
 rw[e4,iS oU,hG,hpt] at c5
 have kq:=ah.mk (And.intro q5 hZ)
 have zg:=Sf
 clear hx hy hr hn ht tb x1 x2 hok hok1 hok2 q1 q2 q3 q4 q5 hbg cr p1 p2 p3 p4 p5 p7 hsl hpos tb4 hu hZ hpt hs0 hspos e4 hG
 generalize eG (2 * (cG sm).length) eg=NS at *
 generalize eJ (cG sm) NS=ps at *
 generalize at0 (ax (dk rows secret random)) 0=key at *
 generalize ints (ax (dk rows secret random))=ic at *
 generalize mr key text ps=bz at *
 generalize ((aG key text ps:Nat):Int)=ch at *
 generalize ((dA key text ps:Nat):Int)=pt at *
 generalize secret%Qi=sq at *
 generalize dG 0 X Y C S W L N=T at *
 generalize cI 0 X Y C=ky at *
 generalize hb:H2.boxes.length=b at *
 generalize hwn:(cG sm).length=wn at *
 generalize hHT:H2.push T=HT at *
 unfold im at *
 repeat' (first|simp(maxSteps:=999999) (disch:=first|exact dZ|fail) only[gW,reduceIte,Nat.reduceEqDiff,beq_self_eq_true,rs7,aw,mw,hHT, *] | (refine dX ?_ ?_<;>(intro _;try omega)))
 refine Run.gen fun e0 he0 hd0 hp0 hr0=>?_
 have f1:e0.get 1= .v (.int .u32 secret):=by rw[he0];exact gS
 have f5:e0.get 5=Tx:=by rw[he0];exact gS
 have f13:e0.get 13= .ptr (.box b) 0:=by rw[he0];simp only[gW,reduceIte,Nat.reduceEqDiff,beq_self_eq_true,hb]
 have f17:e0.get 17= .v (.int .i64 pt):=by rw[he0];exact gS
 have f18:e0.get 18= .v (.int .i64 ch):=by rw[he0];exact gS
 have f20:e0.get 20= .v (.int .i64 0):=by rw[he0];exact gS
 have f71:e0.get 71=Z:=by rw[he0];exact gS
 have f72:e0.get 72= .v (.int .i64 (wn:Nat)):=by rw[he0];exact gS
 have f73:e0.get 73= .v (.int .i64 (0:Nat)):=by rw[he0];exact gR
 have fd:e0.defers=[]:=by rw[hd0];exact gS
 clear he0 hd0 hp0 hr0 c1 c2 c3 l1 lK lL s1 lnT lnZ lnL zc bx
 refine aD (fun m e H=>∃(i:Nat),i<=wn/\m=wn - i/\H=HT/\e.get 1= .v (.int .u32 secret)/\e.get 5=Tx/\e.get 13= .ptr (.box b) 0/\e.get 17= .v (.int .i64 pt)/\e.get 18= .v (.int .i64 ch)/\e.get 20= .v (.int .i64 (TY NS bz i))/\e.get 71=Z/\e.get 72= .v (.int .i64 (wn:Nat))/\e.get 73= .v (.int .i64 (i:Nat))/\e.defers=[]) ?_ wn _ _ ?_
 rotate_left 1
 ·exact⟨0,Nat.zero_le _,rfl,rfl,f1,f5,f13,f17,f18,f20,f71,f72,f73,fd⟩
 clear f1 f5 f13 f17 f18 f20 f71 f72 f73 fd
 rintro m e H ⟨i,hi,rfl,rfl,g1,g5,g13,g17,g18,g20,g71,g72,g73,hd⟩
 by_cases hlt:i<wn
 ·have ixA:=kq.out.1.ix (i:=2 * i) (by omega)
  have ixB:=kq.out.1.ix (i:=2 * i+1) (by omega)
  have ldA:∀K:ae,ai Tryz.prog Gt K 3 (.elem 1 (ints NS) (2 * i) 0)=some (.v (.int .i64 (at0 NS (2 * i)))):=fun K=>ldi (by omega)
  have ldB:∀K:ae,ai Tryz.prog Gt K 3 (.elem 1 (ints NS) (2 * i+1) 0)=some (.v (.int .i64 (at0 NS (2 * i+1)))):=fun K=>ldi (by omega)
  rw[show((2 * i:Nat):Int)=2 * (i:Int) by omega] at ixA
  rw[show((2 * i+1:Nat):Int)=2 * (i:Int)+1 by omega] at ixB
  have hwA:IntKind.i64.wrap (2 * (i:Int))=2 * (i:Int):=bT (by omega) (by omega)
  have hwB:IntKind.i64.wrap (2 * (i:Int)+1)=2 * (i:Int)+1:=bT (by omega) (by omega)
  have ixZ:=kq.out.2.ix (i:=i) (by omega)
  have ldZ:∀K:ae,ai Tryz.prog Gt K 3 (.elem 1 (ints bz) i 0)=some (.v (.int .i64 (at0 bz i))):=fun K=>ldi (by omega)
  have m1:=PT (at0 NS (2 * i+1)) (at0 bz i)
  have m2:=K7 (at0 NS (2 * i)) (cq (at0 NS (2 * i+1)) (at0 bz i))
  have m3:=K7 (TY NS bz i) (cN (at0 NS (2 * i)) (cq (at0 NS (2 * i+1)) (at0 bz i)))
  rw[<-T1] at m3
  have hltI:(i:Int)<(wn:Int):=by omega
  generalize cN (at0 NS (2 * i)) (cq (at0 NS (2 * i+1)) (at0 bz i))=za at *
  generalize cq (at0 NS (2 * i+1)) (at0 bz i)=zm at *
  generalize at0 NS (2 * i)=nA at *
  generalize at0 NS (2 * i+1)=nB at *
  generalize at0 bz i=bi at *
  unfold im at *
  repeat' (first|simp(maxSteps:=999999) (disch:=first|exact dZ|fail) only[gW,reduceIte,Nat.reduceEqDiff,beq_self_eq_true,rs7,mw, *] | (refine dX ?_ ?_<;>(intro _;try omega)))
  refine bf rV kZq ?_
  repeat' (first|simp(maxSteps:=999999) (disch:=first|exact dZ|fail) only[gW,reduceIte,Nat.reduceEqDiff,beq_self_eq_true,rs7,mw, *] | (refine dX ?_ ?_<;>(intro _;try omega)))
  exact⟨wn - (i+1),by omega,i+1,by omega,rfl,by simp⟩
 have hie:i=wn:=by omega
 subst hie
 have m1:=PT ch sq
 have m2:=K7 (TY NS bz i) (cq ch sq)
 have c6:=c4 (cN (TY NS bz i) (cq ch sq))
 rw[vf] at c6
 have s2:=Su (H:=H) ch (cN (TY NS bz i) (cq ch sq))
 have l4:=Sh (ak H [im ch,im (cN (TY NS bz i) (cq ch sq))])
 clear hi hlt c4 vf
 generalize cN (TY NS bz i) (cq ch sq)=sg at *
 generalize cq ch sq=zm at *
 generalize TY NS bz i=n at *
 have bd:=TH ch sg
 unfold im at *
 repeat' (first|simp(maxSteps:=999999) (disch:=first|exact dZ|fail) only[gW,reduceIte,Nat.reduceEqDiff,beq_self_eq_true,rs7,aw,mw,fF,zL, *] | (refine dX ?_ ?_<;>(intro _;try omega)))
 refine bf rV kZq ?_
 repeat' (first|simp(maxSteps:=999999) (disch:=first|exact dZ|fail) only[gW,reduceIte,Nat.reduceEqDiff,beq_self_eq_true,rs7,mw,fF, *] | (refine dX ?_ ?_<;>(intro _;try omega)))
 exact⟨_,_,rfl,rfl⟩
end Go.Proofs.YtnfciiiohoafaaaGreatDoor
end
