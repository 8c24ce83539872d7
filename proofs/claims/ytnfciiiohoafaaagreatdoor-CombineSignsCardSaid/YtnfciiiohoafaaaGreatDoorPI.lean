/-
  The engine, part 47: lists that grow.
-/
import Derived.Test.YtnfciiiohoafaaaGreatDoorPH
import Derived.Test.YtnfciiiohoafaaaGreatDoorPF
import Derived.Test.YtnfciiiohoafaaaGreatDoorPG
set_option maxHeartbeats 64000000
set_option maxRecDepth 100000
set_option linter.unusedSimpArgs false
set_option linter.unusedVariables false
set_option linter.constructorNameAsVariable false
section
namespace Go.Proofs.YtnfciiiohoafaaaGreatDoor
open Go.AE Go.NT
theorem tB(cs:List AV):bI cs 0 cs=cs:=by unfold bI;simp
theorem A9{s:List U32}(hs:s.length=8){i:Nat}(hi:i<8):qA (u8c (nZ (s.take i))++List.replicate (32 - 4 * i) (u8v 0)) (4 * i) 4 (wAt s i).toNat=u8c (nZ (s.take (i+1)))++List.replicate (32 - 4 * (i+1)) (u8v 0):=by
 have hl:(u8c (nZ (s.take i))).length=4 * i:=by rw[eC,mR,List.length_take];omega
 have hx:s[i]?=some (wAt s i):=by
  unfold wAt
  rw[List.getD_eq_getElem?_getD,List.getElem?_eq_getElem (by omega)];rfl
 unfold qA
 rw[Gk hx,List.take_left' hl,List.drop_append,hl,List.drop_of_length_le (by omega),List.nil_append,List.drop_replicate,show 32 - 4 * i - (4 * i+4 - 4 * i)=32 - 4 * (i+1) by omega]
 unfold u8c
 rw[List.map_append]
theorem Dw(b:List UInt8)(i:Nat):qy (de i NT.start b) ((b.drop (64 * i)).take 64)=de (i+1) NT.start b:=(jZ i _ b).symm
theorem xx(b:List UInt8)(x:AV)(h:ae)(s:b9 1 h x (u8s b))(hb:b.length<=1152921504606846975):
 ∃h',W.call 181 [x] h=some (.ret (.agg (u8c (jA b))),h')/\Ext h h':=by
 have u28:=Tryz.underlying28
 have z177:=Jp
 have zz:(ej Tryz.prog 230).bind AV.aC=some (ek (List.replicate 8 0#32)):=by rw[xw];exact Nu
 have cs8:(AV.agg (ek NT.start)).aC=some (ek NT.start):=zh rfl
 have spz:∀H:ae,aA Tryz.prog (H.push (ek (List.replicate 8 0#32))) 230 (.ptr (.box H.boxes.length) 0) (.agg (ek NT.start))=some (H.push (ek NT.start)):=fun H=>cQ (zh rfl) xv rfl rfl
 have spz2:∀H:ae,∀y,aA Tryz.prog ((H.push y).push (ek (List.replicate 8 0#32))) 230 (.ptr (.box (H.boxes.length+1)) 0) (.agg (ek NT.start))=some ((H.push y).push (ek NT.start)):=fun H y=>by rw[<-az H y];exact spz _
 have lx:=s.len Tryz.underlying28
 rw[List.length_map] at lx
 have kS:=ah.mk s
 have kSs:=ah.mk (OT b)
 clear s
 refine dL rfl Tryz.func181 rfl ?_
 repeat' (first|simp(maxSteps:=999999) (disch:=first|exact dZ|fail) only[gW,reduceIte,Nat.reduceEqDiff,beq_self_eq_true,nS,az,QF, *] | (refine dX ?_ ?_<;>(intro _;try omega)))
 generalize hH0:(h.push (List.replicate 32 (u8v 0))).push (ek NT.start)=H0
 generalize hsb:h.boxes.length+1=sb
 have kx:ah (∀H',Mut sb h.tn H0 H'->b9 1 H' x (u8s b)):=⟨fun H' m=>kS.out.mono fun c cs hc=>by
  have hlt:=(List.getElem?_eq_some_iff.1 hc).1
  refine m.box c cs (by omega) ?_
  rw[<-hH0];exact aj (aj hc)⟩
 have hd0:H0.boxes[h.boxes.length]?=some (List.replicate 32 (u8v 0)):=by rw[<-hH0];exact aj (ak _ _)
 have hs0:H0.boxes[sb]?=some (ek (de 0 NT.start b)):=by rw[<-hH0,<-hsb];exact cD (by rw[az])
 have hE0:Ext h H0:=by rw[<-hH0];exact(Ext.push _ _).trans (.push _ _)
 have hsbl:h.boxes.length<sb:=by omega
 have hH0l:H0.boxes.length=sb+1:=by rw[<-hH0,<-hsb,az,az]
 have kd:=ah.mk hd0
 have kE:=ah.mk hE0
 have ks:=ah.mk hs0
 clear hd0 hE0 hs0 hH0 hsb z177 zz cs8 spz spz2 kS
 refine aD (fun m e H=>∃(i:Nat) (y:AV),64 * i<=b.length/\m=b.length - 64 * i/\e.get 0=x/\e.get 2= .ptr (.box h.boxes.length) 0/\e.get 3= .ptr (.box sb) 0/\e.get 4= .func (.func 204) [.ptr (.box sb) 0] []/\e.get 5=y/\e.defers=[]/\(∀H',Mut sb h.tn H0 H'->b9 1 H' y (u8s (b.drop (64 * i))))/\H.boxes[sb]?=some (ek (de i NT.start b))/\Mut sb h.tn H0 H) ?_ b.length _ _ ?_
 rotate_left 1
 ·refine⟨0,x,Nat.zero_le _,rfl,?_,?_,?_,?_,?_,?_,kx.out,ks.out,Mut.refl _ _ _⟩<;>(first|assumption| (exact gR))
 clear ks
 rintro m e H ⟨i,y,hi,rfl,g0,g2,g3,g4,g5,hd,hy,hsb,hM⟩
 have ly:=(hy H hM).len Tryz.underlying28
 rw[List.length_map,List.length_drop] at ly
 by_cases hc:64<=b.length - 64 * i
 ·refine gI fun Q=>?_
  obtain⟨y1,y2,q1,q2,q3,q4⟩:=zq hy hM (by rw[List.length_drop];exact hc)
  obtain⟨H2,c1,c2,c3⟩:=sJ _ _ sb y1 H (fC i NT.start b rfl) (by rw[List.length_take,List.length_drop];omega) hsb (fun H' m=>q3 H' (hM.trans (m.tS (Nat.le_trans kE.out.tn hM.tn))))
  rw[Dw] at c2
  have kM:=ah.mk (hM.trans (c3.tS (Nat.le_trans kE.out.tn hM.tn)))
  have kq:=ah.mk q4
  have k2:=ah.mk c2
  clear hM c2 c3 q3 q4 hy hsb
  repeat' (first|simp(maxSteps:=999999) (disch:=first|exact dZ|fail) only[gW,reduceIte,Nat.reduceEqDiff,beq_self_eq_true,nS,List.cons_append,List.nil_append, *] | (refine dX ?_ ?_<;>(intro _;try omega)))
  refine⟨b.length - 64 * (i+1),by omega,i+1,y2,by omega,rfl,trivial,trivial,trivial,trivial,rfl,trivial,?_,k2.out,kM.out⟩
  rw[show 64 * (i+1)=64 * i+64 by omega,<-List.drop_drop]
  exact kq.out
 have hi2:b.length/64=i:=by omega
 have kSh:=ah.mk kSs.out
 rw[hi2] at kSh
 have hrl:(b.drop (64 * i)).length<64:=by rw[List.length_drop];omega
 have hrl2:b.length - 64 * i=(b.drop (64 * i)).length:=by rw[List.length_drop]
 rw[hrl2] at ly hc
 have h8:=fC i NT.start b rfl
 generalize de i NT.start b=s1 at *
 generalize b.drop (64 * i)=r at *
 clear hrl2 kSs
 have kM:=ah.mk hM
 have hHl:=hM.len
 have hy2:=hy (H.push (List.replicate 128 (u8v 0))) (hM.push _)
 have cp:=OU (len:=64) (cap:=128) hy2 (ak _ _) (by rw[List.length_replicate];decide) (by decide) (by omega)
 rw[gg] at cp
 have e1:IntKind.u64.wrap ((b.length:Nat):Int)=((b.length:Nat):Int):=by
  unfold IntKind.wrap
  simp[IntKind.signed,IntKind.bits]
  omega
 have e2:IntKind.u64.wrap (((b.length:Nat):Int) * 8)=((b.length * 8:Nat):Int):=by
  unfold IntKind.wrap
  simp[IntKind.signed,IntKind.bits]
  omega
 have ix:=QE (b:=H.boxes.length) (off:=0) (cap:=128) (k:= .i64) hrl
 rw[Nat.zero_add] at ix
 have hC1:(u8c r++(List.replicate 128 (u8v 0)).drop r.length).length=128:=by
  rw[List.length_append,eC,List.length_drop,List.length_replicate];omega
 have st:aA Tryz.prog (H.push (u8c r++(List.replicate 128 (u8v 0)).drop r.length)) 5 (.ptr (.box H.boxes.length) r.length) (.v (.int .u8 128))=some (H.push ((u8c r++(List.replicate 128 (u8v 0)).drop r.length).set r.length (u8v 0x80))):=by
  have:=OR (H:=H.push (u8c r++(List.replicate 128 (u8v 0)).drop r.length)) (v:=0x80) (ak _ _) (k:=r.length) (by rw[hC1];omega)
  rw[gg] at this
  exact this
 have hE:=Gl (n:=b.length) hrl
 have hC2:((u8c r++(List.replicate 128 (u8v 0)).drop r.length).set r.length (u8v 0x80)).length=128:=by rw[List.length_set,hC1]
 generalize u8c r++(List.replicate 128 (u8v 0)).drop r.length=C1 at *
 generalize C1.set r.length (u8v 0x80)=C2 at *
 have kEl:=ah.mk (A8 (n:=b.length) hrl)
 have pe:=fun(off cap:Nat) (ho:off+8<=128)=>Du H.boxes.length off 8 cap (b.length * 8) C2 (H.push C2) (by decide) (by omega) (ak _ _) (by rw[hC2];exact ho)
 simp only[gg] at pe
 have ks:=ah.mk hsb
 clear hy2 hy hM hsb hC1 hC2 hi hi2
 have hL:(r.length<=55/\nD r.length=64)∨(55<r.length/\nD r.length=128):=by unfold nD;split<;>omega
 rcases hL with⟨hr,hL⟩|⟨hr,hL⟩
 ·rw[hL] at hE kEl kSh
  have p1:=pe 56 72 (by decide)
  rw[hE] at p1
  have sl:ck Tryz.prog 28 (.arr H.boxes.length 0 64 128) (some (.v (.int .i64 (((64:Nat):Int) - 8)))) none none=some (.arr H.boxes.length 56 8 72):=kZq
  clear pe hE hL
  repeat' (first|simp(maxSteps:=999999) (disch:=first|exact dZ|fail) only[gW,reduceIte,Nat.reduceEqDiff,beq_self_eq_true,nS,Nv,jY, *] | (refine dX ?_ ?_<;>(intro _;try omega)))
  have hlen:=kEl.out
  generalize hH1:H.push (u8c (mn r b.length)++List.replicate (128 - 64) (u8v 0))=H1
  generalize hz:H.boxes.length=eb
  have hbe:H1.boxes[eb]?=some (u8c (mn r b.length)++List.replicate (128 - 64) (u8v 0)):=by rw[<-hH1,<-hz];exact ak _ _
  have hM1:Mut sb h.tn H0 H1:=by rw[<-hH1];exact kM.out.push _
  have hs1:H1.boxes[sb]?=some (ek s1):=by rw[<-hH1];exact aj ks.out
  have hne:eb≠sb:=by omega
  have hR:∀H',Mut sb h.tn H1 H'->b9 1 H' (.arr eb 0 64 128) (u8s ((mn r b.length).drop (64 * 0))):=fun H' m=>by
   rw[Nat.mul_zero,List.drop_zero]
   refine⟨ga _,.inr ⟨eb,0,128,_,by rw[List.length_map,hlen],by rw[List.length_map,hlen];decide,m.box _ _ hne hbe,?_,?_⟩⟩
   ·rw[rJ,List.length_map,Nat.mul_one,List.drop_zero,List.take_left' (eC _)]
   ·rw[List.length_map,List.length_append,eC,hlen,List.length_replicate];decide
  have kR:=ah.mk hR
  have kB:=ah.mk hbe
  have kM1:=ah.mk hM1
  have kS1:=ah.mk hs1
  clear hbe hM1 hs1 hR hH1 hz kM ks cp st p1 sl ix
  refine aD (fun m e H=>∃(i:Nat) (y:AV),64 * i<=64/\m=64 - 64 * i/\e.get 2= .ptr (.box h.boxes.length) 0/\e.get 3= .ptr (.box sb) 0/\e.get 4= .func (.func 204) [.ptr (.box sb) 0] []/\e.get 6=y/\e.defers=[]/\(∀H',Mut sb h.tn H1 H'->b9 1 H' y (u8s ((mn r b.length).drop (64 * i))))/\H.boxes[sb]?=some (ek (de i s1 (mn r b.length)))/\Mut sb h.tn H1 H) ?_ 64 _ _ ?_
  rotate_left 1
  ·refine⟨0,.arr eb 0 64 128,Nat.zero_le _,rfl,?_,?_,?_,?_,?_,kR.out,kS1.out,Mut.refl _ _ _⟩<;>(first|assumption| (exact gR))
  clear kR kS1 g0 g2 g3 g4 g5 hd ly hc
  rintro m e H ⟨i,y,hi,rfl,g2,g3,g4,g6,hd,hy,hsb,hM⟩
  have ly:=(hy H hM).len Tryz.underlying28
  rw[List.length_map,List.length_drop,hlen] at ly
  by_cases hc:0<64 - 64 * i
  ·refine gI fun Q=>?_
   obtain⟨y1,y2,q1,q2,q3,q4⟩:=zq hy hM (by rw[List.length_drop,hlen];omega)
   obtain⟨H2,c1,c2,c3⟩:=sJ _ _ sb y1 H (fC i s1 _ h8) (by rw[List.length_take,List.length_drop,hlen];omega) hsb (fun H' m=>q3 H' (hM.trans (m.tS (Nat.le_trans kE.out.tn (Nat.le_trans kM1.out.tn hM.tn)))))
   rw[<-jZ] at c2
   have kM:=ah.mk (hM.trans (c3.tS (Nat.le_trans kE.out.tn (Nat.le_trans kM1.out.tn hM.tn))))
   have kq:=ah.mk q4
   have k2:=ah.mk c2
   clear hM c2 c3 q3 q4 hy hsb
   repeat' (first|simp(maxSteps:=999999) (disch:=first|exact dZ|fail) only[gW,reduceIte,Nat.reduceEqDiff,beq_self_eq_true,nS,List.cons_append,List.nil_append, *] | (refine dX ?_ ?_<;>(intro _;try omega)))
   refine⟨64 - 64 * (i+1),by omega,i+1,y2,by omega,rfl,trivial,trivial,trivial,rfl,trivial,?_,k2.out,kM.out⟩
   rw[show 64 * (i+1)=64 * i+64 by omega,<-List.drop_drop]
   exact kq.out
  have hi2:i=64/64:=by omega
  subst hi2
  have h8b:=fC (64/64) s1 (mn r b.length) h8
  generalize de (64/64) s1 (mn r b.length)=s2 at *
  have hX:Ext h H:=kE.out.mut (kM1.out.trans hM) (by omega)
  have hdb:=(kM1.out.trans hM).box _ _ (by omega) kd.out
  have h8c:s2.length=8:=h8b
  have lds:ai Tryz.prog Gt H 230 (.ptr (.box sb) 0)=some (.agg (ek s2)):=by
   have hw8:(ek s2).length=8:=by rw[List.length_map];exact h8c
   rw[cP Ev xv hsb (by rw[hw8];exact Nat.le_refl _),List.drop_zero,List.take_of_length_le (by rw[hw8];exact Nat.le_refl _)]
  have kX:=ah.mk hX
  have kdb:=ah.mk hdb
  clear hX hdb hsb hM hy kM1 kd kB kE h8b
  have kSh2:ah (jA b=nZ s2):=⟨kSh.out⟩
  clear kSh
  repeat' (first|simp(maxSteps:=999999) (disch:=first|exact dZ|fail) only[gW,reduceIte,Nat.reduceEqDiff,beq_self_eq_true,nS, *] | (refine dX ?_ ?_<;>(intro _;try omega)))
  refine aD (fun m e H=>∃(i:Nat),i<=8/\m=8 - i/\e.get 2= .ptr (.box h.boxes.length) 0/\e.get 53= .agg (ek s2)/\e.get 54= .v (.int .i64 i)/\e.defers=[]/\H.boxes[h.boxes.length]?=some (u8c (nZ (s2.take i))++List.replicate (32 - 4 * i) (u8v 0))/\Ext h H) ?_ 8 _ _ ?_
  rotate_left 1
  ·refine⟨0,by decide,rfl,?_,?_,?_,?_,kdb.out,kX.out⟩<;>(first|assumption| (exact gR))
  clear kdb kX lds g2 g3 g4 g6 hd ly hc
  rintro m e H ⟨i,hi,rfl,g2,g53,g54,hd,hdb,hX⟩
  by_cases hc:i=8
  ·subst hc
   rw[List.take_of_length_le (by omega)] at hdb
   have e0:u8c (nZ s2)++List.replicate (32 - 4 * 8) (u8v 0)=u8c (nZ s2):=List.append_nil _
   rw[e0,<-kSh2.out] at hdb
   have hL32:(u8c (jA b)).length=32:=by rw[eC,kSh2.out,mR,h8c]
   have l177:ai Tryz.prog Gt H 177 (.ptr (.box h.boxes.length) 0)=some (.agg (u8c (jA b))):=by
    rw[cP Jo tA hdb (by rw[hL32];exact Nat.le_refl _),List.drop_zero,List.take_of_length_le (by rw[hL32];exact Nat.le_refl _)]
   have s177:aA Tryz.prog H 177 (.ptr (.box h.boxes.length) 0) (.agg (u8c (jA b)))=some H:=by
    rw[aW (rI _) tA hdb hL32 (by rw[hL32];exact Nat.le_refl _),tB,ec hdb]
   have kX:=ah.mk hX
   clear hdb hX
   repeat' (first|simp(maxSteps:=999999) (disch:=first|exact dZ|fail) only[gW,reduceIte,Nat.reduceEqDiff,beq_self_eq_true,nS, *] | (refine dX ?_ ?_<;>(intro _;try omega)))
   exact⟨_,rfl,kX.out⟩
  ·refine gI fun Q=>?_
   have hlt:i<8:=by omega
   have iv:=Jq (k:= .i64) h8c hlt
   have e4:IntKind.i64.wrap (4 * ((i:Nat):Int))=((4 * i:Nat):Int):=by rw[bT (by omega) (by omega)];omega
   have e5:IntKind.i64.wrap (((4 * i:Nat):Int)+4)=((4 * i+4:Nat):Int):=by rw[bT (by omega) (by omega)];omega
   have sl:=Nw (b:=h.boxes.length) hlt
   have pe:=Du h.boxes.length (4 * i) 4 (32 - 4 * i) (wAt s2 i).toNat _ H (by decide) (by have:=(wAt s2 i).isLt;omega) hdb (by
    rw[List.length_append,eC,mR,List.length_take,List.length_replicate];omega)
   rw[A9 h8c hlt] at pe
   have hlb:=(List.getElem?_eq_some_iff.1 hdb).1
   have kX:=ah.mk hX
   clear hdb hX
   repeat' (first|simp(maxSteps:=999999) (disch:=first|exact dZ|fail) only[gW,reduceIte,Nat.reduceEqDiff,beq_self_eq_true,nS,Jr, *] | (refine dX ?_ ?_<;>(intro _;try omega)))
   refine⟨8 - (i+1),by omega,i+1,by omega,rfl,trivial,trivial,rfl,trivial,aS hlb,kX.out.bZ (Nat.le_refl _) _⟩
 ·rw[hL] at hE kEl kSh
  have p1:=pe 120 8 (by decide)
  rw[hE] at p1
  have sl0:ck Tryz.prog 28 (.arr H.boxes.length 0 64 128) none (some (.v (.int .i64 128))) none=some (.arr H.boxes.length 0 128 128):=kZq
  have sl:ck Tryz.prog 28 (.arr H.boxes.length 0 128 128) (some (.v (.int .i64 (((128:Nat):Int) - 8)))) none none=some (.arr H.boxes.length 120 8 8):=kZq
  clear pe hE hL
  repeat' (first|simp(maxSteps:=999999) (disch:=first|exact dZ|fail) only[gW,reduceIte,Nat.reduceEqDiff,beq_self_eq_true,nS,Nv,jY, *] | (refine dX ?_ ?_<;>(intro _;try omega)))
  have hlen:=kEl.out
  generalize hH1:H.push (u8c (mn r b.length)++List.replicate (128 - 128) (u8v 0))=H1
  generalize hz:H.boxes.length=eb
  have hbe:H1.boxes[eb]?=some (u8c (mn r b.length)++List.replicate (128 - 128) (u8v 0)):=by rw[<-hH1,<-hz];exact ak _ _
  have hM1:Mut sb h.tn H0 H1:=by rw[<-hH1];exact kM.out.push _
  have hs1:H1.boxes[sb]?=some (ek s1):=by rw[<-hH1];exact aj ks.out
  have hne:eb≠sb:=by omega
  have hR:∀H',Mut sb h.tn H1 H'->b9 1 H' (.arr eb 0 128 128) (u8s ((mn r b.length).drop (64 * 0))):=fun H' m=>by
   rw[Nat.mul_zero,List.drop_zero]
   refine⟨ga _,.inr ⟨eb,0,128,_,by rw[List.length_map,hlen],by rw[List.length_map,hlen];decide,m.box _ _ hne hbe,?_,?_⟩⟩
   ·rw[rJ,List.length_map,Nat.mul_one,List.drop_zero,List.take_left' (eC _)]
   ·rw[List.length_map,List.length_append,eC,hlen,List.length_replicate];decide
  have kR:=ah.mk hR
  have kB:=ah.mk hbe
  have kM1:=ah.mk hM1
  have kS1:=ah.mk hs1
  clear hbe hM1 hs1 hR hH1 hz kM ks cp st p1 sl ix
  refine aD (fun m e H=>∃(i:Nat) (y:AV),64 * i<=128/\m=128 - 64 * i/\e.get 2= .ptr (.box h.boxes.length) 0/\e.get 3= .ptr (.box sb) 0/\e.get 4= .func (.func 204) [.ptr (.box sb) 0] []/\e.get 6=y/\e.defers=[]/\(∀H',Mut sb h.tn H1 H'->b9 1 H' y (u8s ((mn r b.length).drop (64 * i))))/\H.boxes[sb]?=some (ek (de i s1 (mn r b.length)))/\Mut sb h.tn H1 H) ?_ 128 _ _ ?_
  rotate_left 1
  ·refine⟨0,.arr eb 0 128 128,Nat.zero_le _,rfl,?_,?_,?_,?_,?_,kR.out,kS1.out,Mut.refl _ _ _⟩<;>(first|assumption| (exact gR))
  clear kR kS1 g0 g2 g3 g4 g5 hd ly hc
  rintro m e H ⟨i,y,hi,rfl,g2,g3,g4,g6,hd,hy,hsb,hM⟩
  have ly:=(hy H hM).len Tryz.underlying28
  rw[List.length_map,List.length_drop,hlen] at ly
  by_cases hc:0<128 - 64 * i
  ·refine gI fun Q=>?_
   obtain⟨y1,y2,q1,q2,q3,q4⟩:=zq hy hM (by rw[List.length_drop,hlen];omega)
   obtain⟨H2,c1,c2,c3⟩:=sJ _ _ sb y1 H (fC i s1 _ h8) (by rw[List.length_take,List.length_drop,hlen];omega) hsb (fun H' m=>q3 H' (hM.trans (m.tS (Nat.le_trans kE.out.tn (Nat.le_trans kM1.out.tn hM.tn)))))
   rw[<-jZ] at c2
   have kM:=ah.mk (hM.trans (c3.tS (Nat.le_trans kE.out.tn (Nat.le_trans kM1.out.tn hM.tn))))
   have kq:=ah.mk q4
   have k2:=ah.mk c2
   clear hM c2 c3 q3 q4 hy hsb
   repeat' (first|simp(maxSteps:=999999) (disch:=first|exact dZ|fail) only[gW,reduceIte,Nat.reduceEqDiff,beq_self_eq_true,nS,List.cons_append,List.nil_append, *] | (refine dX ?_ ?_<;>(intro _;try omega)))
   refine⟨128 - 64 * (i+1),by omega,i+1,y2,by omega,rfl,trivial,trivial,trivial,rfl,trivial,?_,k2.out,kM.out⟩
   rw[show 64 * (i+1)=64 * i+64 by omega,<-List.drop_drop]
   exact kq.out
  have hi2:i=128/64:=by omega
  subst hi2
  have h8b:=fC (128/64) s1 (mn r b.length) h8
  generalize de (128/64) s1 (mn r b.length)=s2 at *
  have hX:Ext h H:=kE.out.mut (kM1.out.trans hM) (by omega)
  have hdb:=(kM1.out.trans hM).box _ _ (by omega) kd.out
  have h8c:s2.length=8:=h8b
  have lds:ai Tryz.prog Gt H 230 (.ptr (.box sb) 0)=some (.agg (ek s2)):=by
   have hw8:(ek s2).length=8:=by rw[List.length_map];exact h8c
   rw[cP Ev xv hsb (by rw[hw8];exact Nat.le_refl _),List.drop_zero,List.take_of_length_le (by rw[hw8];exact Nat.le_refl _)]
  have kX:=ah.mk hX
  have kdb:=ah.mk hdb
  clear hX hdb hsb hM hy kM1 kd kB kE h8b
  have kSh2:ah (jA b=nZ s2):=⟨kSh.out⟩
  clear kSh
  repeat' (first|simp(maxSteps:=999999) (disch:=first|exact dZ|fail) only[gW,reduceIte,Nat.reduceEqDiff,beq_self_eq_true,nS, *] | (refine dX ?_ ?_<;>(intro _;try omega)))
  refine aD (fun m e H=>∃(i:Nat),i<=8/\m=8 - i/\e.get 2= .ptr (.box h.boxes.length) 0/\e.get 53= .agg (ek s2)/\e.get 54= .v (.int .i64 i)/\e.defers=[]/\H.boxes[h.boxes.length]?=some (u8c (nZ (s2.take i))++List.replicate (32 - 4 * i) (u8v 0))/\Ext h H) ?_ 8 _ _ ?_
  rotate_left 1
  ·refine⟨0,by decide,rfl,?_,?_,?_,?_,kdb.out,kX.out⟩<;>(first|assumption| (exact gR))
  clear kdb kX lds g2 g3 g4 g6 hd ly hc
  rintro m e H ⟨i,hi,rfl,g2,g53,g54,hd,hdb,hX⟩
  by_cases hc:i=8
  ·subst hc
   rw[List.take_of_length_le (by omega)] at hdb
   have e0:u8c (nZ s2)++List.replicate (32 - 4 * 8) (u8v 0)=u8c (nZ s2):=List.append_nil _
   rw[e0,<-kSh2.out] at hdb
   have hL32:(u8c (jA b)).length=32:=by rw[eC,kSh2.out,mR,h8c]
   have l177:ai Tryz.prog Gt H 177 (.ptr (.box h.boxes.length) 0)=some (.agg (u8c (jA b))):=by
    rw[cP Jo tA hdb (by rw[hL32];exact Nat.le_refl _),List.drop_zero,List.take_of_length_le (by rw[hL32];exact Nat.le_refl _)]
   have s177:aA Tryz.prog H 177 (.ptr (.box h.boxes.length) 0) (.agg (u8c (jA b)))=some H:=by
    rw[aW (rI _) tA hdb hL32 (by rw[hL32];exact Nat.le_refl _),tB,ec hdb]
   have kX:=ah.mk hX
   clear hdb hX
   repeat' (first|simp(maxSteps:=999999) (disch:=first|exact dZ|fail) only[gW,reduceIte,Nat.reduceEqDiff,beq_self_eq_true,nS, *] | (refine dX ?_ ?_<;>(intro _;try omega)))
   exact⟨_,rfl,kX.out⟩
  ·refine gI fun Q=>?_
   have hlt:i<8:=by omega
   have iv:=Jq (k:= .i64) h8c hlt
   have e4:IntKind.i64.wrap (4 * ((i:Nat):Int))=((4 * i:Nat):Int):=by rw[bT (by omega) (by omega)];omega
   have e5:IntKind.i64.wrap (((4 * i:Nat):Int)+4)=((4 * i+4:Nat):Int):=by rw[bT (by omega) (by omega)];omega
   have sl:=Nw (b:=h.boxes.length) hlt
   have pe:=Du h.boxes.length (4 * i) 4 (32 - 4 * i) (wAt s2 i).toNat _ H (by decide) (by have:=(wAt s2 i).isLt;omega) hdb (by
    rw[List.length_append,eC,mR,List.length_take,List.length_replicate];omega)
   rw[A9 h8c hlt] at pe
   have hlb:=(List.getElem?_eq_some_iff.1 hdb).1
   have kX:=ah.mk hX
   clear hdb hX
   repeat' (first|simp(maxSteps:=999999) (disch:=first|exact dZ|fail) only[gW,reduceIte,Nat.reduceEqDiff,beq_self_eq_true,nS,Jr, *] | (refine dX ?_ ?_<;>(intro _;try omega)))
   refine⟨8 - (i+1),by omega,i+1,by omega,rfl,trivial,trivial,rfl,trivial,aS hlb,kX.out.bZ (Nat.le_refl _) _⟩
theorem vm(z:AV):∀n:Nat,(List.replicate n [z]).flatten=List.replicate n z
 |0=>rfl
 |n+1=>by rw[List.replicate_succ,List.flatten_cons,vm z n,List.replicate_succ];rfl
theorem Ny:Tryz.f206.results.toList=[.tmp 4]:=kZq
theorem tC:Tryz.f182.results.toList=[.tmp 2]:=kZq
theorem Nz:wQ Tryz.prog 28 (.list .nil 0 [])=some (.v (.int .i64 0)):=kZq
theorem QG:ck Tryz.prog 28 (.list .nil 0 []) none (some (.v (.int .i64 0))) none=some (.list .nil 0 []):=kZq
theorem in5:∃i,Tryz.prog.info? 5=some i/\i.size=1/\i.bytes<=8/\(i.zero.map fun z=>z.cells.size)=some 1:=by
 have h:(match Tryz.prog.info? 5 with|some i=>Nat.beq i.size 1&&Nat.ble i.bytes 8&&decide ((i.zero.map fun z=>z.cells.size)=some 1) |none=>false)=true:=kZq
 split at h
 ·rename_i i hi
  simp only[Bool.and_eq_true,decide_eq_true_eq] at h
  exact⟨i,hi,Nat.eq_of_beq_eq_true h.1.1,Nat.le_of_ble_eq_true h.1.2,h.2⟩
 ·cases h
theorem zr5:(ej Tryz.prog 5).bind AV.aC=some [u8v 0]:=kZq
theorem SO{H:ae}{n:Nat}(h0:0<n)(hn:n<=1099511627776):bP Tryz.prog H #[28,3] (.list .nil 0 []) (.v (.int .i64 (n:Nat)))=some (.arr H.boxes.length 0 n n,H.push (List.replicate n [u8v 0]).flatten):=by
 obtain⟨i,h1,h2,h3,h4⟩:=in5
 have:=Nat.mul_le_mul hn h3
 exact rp Tryz.underlying28 Tryz.underlying3 h1 zr5 h0 (by omega) (by omega) (by omega) h2.symm
theorem Gm(n:Nat)(h0:0<n)(hn:n<=1099511627776)(H:ae):W.call 206 [.list .nil 0 [],.v (.int .i64 (n:Nat))] H=some (.ret (.arr H.boxes.length 0 0 n),H.push (List.replicate n [u8v 0]).flatten):=by
 have u28:=Tryz.underlying28
 have a:=SO (H:=H) h0 hn
 have e1:IntKind.i64.wrap ((0:Int) - 0)=0:=by rfl
 have e2:IntKind.i64.wrap (((n:Nat):Int) - 0)=((n:Nat):Int):=by rw[Int.sub_zero,bT (by omega) (by omega)]
 have s2:ck Tryz.prog 28 (.arr H.boxes.length 0 n n) none (some (.v (.int .i64 (0:Nat)))) none=some (.arr H.boxes.length 0 0 n):=rn u28 sz5 (by decide) (by decide) (by omega) h0
 have s2:ck Tryz.prog 28 (.arr H.boxes.length 0 n n) none (some (.v (.int .i64 0))) none=some (.arr H.boxes.length 0 0 n):=s2
 have hlt:(0:Int)<(n:Nat):=by omega
 refine ar rfl Tryz.func206 rfl ?_
 repeat' (first|simp(maxSteps:=999999) (disch:=first|exact dZ|fail) only[gW,reduceIte,Nat.reduceEqDiff,beq_self_eq_true,Ny,u6,Nz,QG,List.length_nil,Int.natCast_zero,Int.sub_zero, *] | (refine dX ?_ ?_<;>(intro _;try omega)) |refine aP kZq ?_)
theorem Dx(H:ae):W.call 206 [.list .nil 0 [],.v (.int .i64 (0:Nat))] H=some (.ret (.list .nil 0 []),H):=by
 have u28:=Tryz.underlying28
 refine ar rfl Tryz.func206 rfl ?_
 have e1:IntKind.i64.wrap ((0:Int) - 0)=0:=by rfl
 have e2:IntKind.i64.wrap (((0:Nat):Int) - 0)=0:=by rfl
 repeat' (first|simp(maxSteps:=999999) (disch:=first|exact dZ|fail) only[gW,reduceIte,Nat.reduceEqDiff,beq_self_eq_true,Ny,u6,Nz,QG,List.length_nil,Int.natCast_zero,Int.sub_zero, *] | (refine dX ?_ ?_<;>(intro _;try omega)) |refine aP kZq ?_)
theorem OV:cZ Tryz.prog 28=some false:=kZq
theorem SP:bF Tryz.prog 28=some 1:=kZq
theorem SQ{H:ae}{b len cap:Nat}{cs:List AV}{new:List (List AV)}{x:AV}(s:b9 1 H x new)(hb:H.boxes[b]?=some cs)(h2:len+new.length<=cap)(h3:cap<=cs.length):
 bP Tryz.prog H #[28,28] (.arr b 0 len cap) x=some (.arr b 0 (len+new.length) cap,H.put b (bI cs len new.flatten)):=by
 obtain⟨i,h1,q2,-,h4⟩:=in5
 have:=u7 (off:=0) Tryz.underlying28 Tryz.underlying28 h1 (by omega) (by rw[q2];exact h4) (by rw[q2];exact s.news) hb h2 (by rw[q2];omega)
 rwa [q2,Nat.mul_one,Nat.zero_add] at this
theorem SR{H:ae}{x:AV}(s:b9 1 H x []):bP Tryz.prog H #[28,28] (.list .nil 0 []) x=some (.list .nil 0 [],H):=by
 obtain⟨i,h1,q2,-,h4⟩:=in5
 have hx:eH H i.size x=some []:=by rw[q2];exact s.news
 unfold bP
 simp only[List.getElem?_toArray,List.getElem?_cons_zero,List.getElem?_cons_succ,Option.bind_some,Tryz.underlying28,h1,hx]
 rw[if_pos ⟨by omega,by rw[q2];exact h4⟩]
 simp
theorem Ba(k:Tok)(xs:List AV)(rss:List (List (List AV)))(hl:xs.length=rss.length)(H:ae)(hs:∀(i:Nat) x rs,xs[i]?=some x->rss[i]?=some rs->b9 1 H x rs)(hb:rss.flatten.length<=1099511627776)(hxl:xs.length<=1000):
 ∃r H',W.call 182 [.list k 1 (xs.map fun x=>[x])] H=some (r,H')/\∃y,r= .ret y/\Ext H H'/\b9 1 H' y rss.flatten:=by
 have u28:=Tryz.underlying28;have u233:=Tryz.underlying233
 have aE:=OV;have sE:=SP
 have hr:∀(i:Nat) x,xs[i]?=some x->(xs.map fun x=>[x])[i]?=some [x]:=fun i x hx=>by rw[List.getElem?_map,hx];rfl
 have hle:∀i,(rss.take i).flatten.length<=1099511627776:=fun i=>by
  refine Nat.le_trans ?_ hb
  conv=>rhs;rw[<-List.take_append_drop i rss,List.flatten_append,List.length_append]
  omega
 have hstep:∀(i:Nat) rs,rss[i]?=some rs->(rss.take (i+1)).flatten=(rss.take i).flatten++rs:=fun i rs hi=>by rw[a9 hi,List.flatten_append];simp
 have kS:=ah.mk hs
 have kl:=ah.mk hl
 have kr:=ah.mk hr
 have kst:=ah.mk hstep
 have kle:=ah.mk hle
 have hml:(xs.map fun x=>[x]).length=xs.length:=by simp
 clear hs hr hstep hle hl
 generalize hM:(xs.map fun x=>[x])=M at *
 refine aL rfl Tryz.func182 rfl ?_
 repeat' (first|simp(maxSteps:=999999) (disch:=first|exact dZ|fail) only[gW,reduceIte,Nat.reduceEqDiff,beq_self_eq_true,tC, *] | (refine dX ?_ ?_<;>(intro _;try omega)))
 refine aD (fun m e h'=>∃i:Nat,i<=xs.length/\m=xs.length - i/\e.get 0= .list k 1 M/\e.get 9= .list k 1 M/\e.get 10= .v (.int .i64 (xs.length:Nat))/\e.get 11= .v (.int .i64 i)/\e.get 3= .v (.int .i64 ((rss.take i).flatten.length:Nat))/\e.get 2= .list .nil 0 []/\e.defers=[]/\h'=H) ?_ xs.length _ _ ?_
 rotate_left 1
 ·refine⟨0,Nat.zero_le _,rfl,?_,?_,?_,?_,?_,?_,?_,rfl⟩<;>(first|assumption| (simp only[gW,reduceIte,Nat.reduceEqDiff,beq_self_eq_true,hml]<;>rfl))
 rintro m e h' ⟨i,hi,rfl,g0,g9,g10,g11,g3,g2,hd,rfl⟩
 by_cases hlt:i<xs.length
 ·obtain⟨x,hx⟩:∃x,xs[i]?=some x:=⟨_,List.getElem?_eq_getElem hlt⟩
  obtain⟨rs,hrs⟩:∃rs,rss[i]?=some rs:=⟨_,List.getElem?_eq_getElem (by have:=kl.out;omega)⟩
  have s1:=kS.out i x rs hx hrs
  have ls:=s1.len u28
  have hmi:=kr.out i x hx
  have hlm:(i:Int)<(M.length:Int):=by omega
  have q:=kst.out i rs hrs
  have q1:=kle.out (i+1)
  rw[q,List.length_append] at q1
  have ksum:=ah.mk (show(rss.take (i+1)).flatten.length=(rss.take i).flatten.length+rs.length by rw[q,List.length_append])
  generalize (rss.take i).flatten.length=n1 at *
  have e1:IntKind.i64.wrap (((n1:Nat):Int)+((rs.length:Nat):Int))=((n1+rs.length:Nat):Int):=by rw[bT (by omega) (by omega)];omega
  have nn:¬(((n1+rs.length:Nat):Int)<0):=by omega
  have ld:ai Tryz.prog Gt h' 28 (.elem 1 M i 0)=some x:=by rw[ez aE hmi];rfl
  clear q q1 s1
  repeat' (first|simp(maxSteps:=999999) (disch:=first|exact dZ|fail) only[gW,reduceIte,Nat.reduceEqDiff,beq_self_eq_true,tC,al, *] | (refine dX ?_ ?_<;>(intro _;try omega)))
  exact⟨xs.length - (i+1),by omega,i+1,by omega,rfl,by trivial,by trivial,by trivial,by simp,by rw[ksum.out],by trivial,by trivial,by trivial⟩
 have:i=xs.length:=by omega
 subst this
 rw[show rss.take xs.length=rss by rw[kl.out];exact List.take_length] at g3
 have hn:=kle.out xs.length
 rw[show rss.take xs.length=rss by rw[kl.out];exact List.take_length] at hn
 generalize hN:rss.flatten.length=n at *
 rcases Nat.eq_zero_or_pos n with h0|h0
 ·subst h0
  have gn:=Dx h'
  have hnil:rss.flatten=[]:=List.eq_nil_of_length_eq_zero hN
  repeat' (first|simp(maxSteps:=999999) (disch:=first|exact dZ|fail) only[gW,reduceIte,Nat.reduceEqDiff,beq_self_eq_true,tC, *] | (refine dX ?_ ?_<;>(intro _;try omega)))
  refine aD (fun m e H1=>∃i:Nat,i<=xs.length/\m=xs.length - i/\e.get 25= .list k 1 M/\e.get 26= .v (.int .i64 (xs.length:Nat))/\e.get 27= .v (.int .i64 i)/\e.get 6= .list .nil 0 []/\e.defers=[]/\H1=h') ?_ xs.length _ _ ?_
  rotate_left 1
  ·refine⟨0,Nat.zero_le _,rfl,?_,?_,?_,?_,?_,rfl⟩<;>(first|assumption| (simp only[gW,reduceIte,Nat.reduceEqDiff,beq_self_eq_true,hml]<;>rfl))
  clear g0 g9 g10 g11 g3 g2 hd gn
  rintro m e H1 ⟨i,hi,rfl,g25,g26,g27,g6,hd,rfl⟩
  by_cases hlt:i<xs.length
  ·obtain⟨x,hx⟩:∃x,xs[i]?=some x:=⟨_,List.getElem?_eq_getElem hlt⟩
   obtain⟨rs,hrs⟩:∃rs,rss[i]?=some rs:=⟨_,List.getElem?_eq_getElem (by have:=kl.out;omega)⟩
   have s1:=kS.out i x rs hx hrs
   have hrs0:rs=[]:=by
    have:=List.mem_of_getElem? hrs
    cases rs with
    |nil=>rfl
    |cons a l=>exact absurd (List.mem_flatten.2 ⟨_,this,List.mem_cons_self⟩) (by rw[hnil];exact List.not_mem_nil)
   subst hrs0
   have an:=SR s1
   have hmi:=kr.out i x hx
   have hlm:(i:Int)<(M.length:Int):=by omega
   have ld:ai Tryz.prog Gt H1 28 (.elem 1 M i 0)=some x:=by rw[ez aE hmi];rfl
   clear s1
   repeat' (first|simp(maxSteps:=999999) (disch:=first|exact dZ|fail) only[gW,reduceIte,Nat.reduceEqDiff,beq_self_eq_true,tC,al, *] | (refine dX ?_ ?_<;>(intro _;try omega)))
   exact⟨xs.length - (i+1),by omega,i+1,by omega,rfl,by trivial,by trivial,by simp,by trivial,by trivial,by trivial⟩
  ·have:i=xs.length:=by omega
   subst this
   repeat' (first|simp(maxSteps:=999999) (disch:=first|exact dZ|fail) only[gW,reduceIte,Nat.reduceEqDiff,beq_self_eq_true,tC, *] | (refine dX ?_ ?_<;>(intro _;try omega)))
   exact⟨_,_,rfl,_,rfl,Ext.refl _,by(try rw[hnil]);exact b9.list (fun r hr=>by cases hr) (fun q=>absurd rfl q)⟩
 ·have gn:=Gm n h0 hn h'
  repeat' (first|simp(maxSteps:=999999) (disch:=first|exact dZ|fail) only[gW,reduceIte,Nat.reduceEqDiff,beq_self_eq_true,tC, *] | (refine dX ?_ ?_<;>(intro _;try omega)))
  rw[vm]
  have hr1:∀(i:Nat) rs,rss[i]?=some rs->∀r∈rs,r.length=1:=fun i rs hi=>by
   obtain⟨x,hx⟩:∃x,xs[i]?=some x:=⟨_,List.getElem?_eq_getElem (by rw[kl.out];exact(List.getElem?_eq_some_iff.1 hi).1)⟩
   exact(kS.out i x rs hx hi).1
  have hr2:∀i,∀r∈(rss.take i).flatten,r.length=1:=fun i r hr=>by
   obtain⟨rs,h1,h2⟩:=List.mem_flatten.1 hr
   obtain⟨j,hj⟩:=List.mem_iff_getElem?.1 (List.mem_of_mem_take h1)
   exact hr1 j rs hj r h2
  have hfl:∀i,(rss.take i).flatten.flatten.length=(rss.take i).flatten.length:=fun i=>by rw[a8 (hr2 i),Nat.mul_one]
  have hmono:∀i,(rss.take i).flatten.length<=n:=fun i=>by
   rw[<-hN]
   conv=>rhs;rw[<-List.take_append_drop i rss,List.flatten_append,List.length_append]
   omega
  have kfl:=ah.mk hfl
  have kmo:=ah.mk hmono
  have kr2:=ah.mk hr2
  clear hr1 hfl hmono hr2 gn
  refine aD (fun m e H1=>∃i:Nat,i<=xs.length/\m=xs.length - i/\e.get 25= .list k 1 M/\e.get 26= .v (.int .i64 (xs.length:Nat))/\e.get 27= .v (.int .i64 i)/\e.get 6= .arr h'.boxes.length 0 (rss.take i).flatten.length n/\e.defers=[]/\H1.boxes[h'.boxes.length]?=some ((rss.take i).flatten.flatten++List.replicate (n - (rss.take i).flatten.length) (u8v 0))/\Ext h' H1) ?_ xs.length _ _ ?_
  rotate_left 1
  ·refine⟨0,Nat.zero_le _,rfl,?_,?_,?_,?_,?_,?_,Ext.push _ _⟩<;>(first|assumption|exact ak _ _| (simp only[gW,reduceIte,Nat.reduceEqDiff,beq_self_eq_true,hml]<;>rfl))
  clear g0 g9 g10 g11 g3 g2 hd
  rintro m e H1 ⟨i,hi,rfl,g25,g26,g27,g6,hd,hB,hX⟩
  by_cases hlt:i<xs.length
  ·obtain⟨x,hx⟩:∃x,xs[i]?=some x:=⟨_,List.getElem?_eq_getElem hlt⟩
   obtain⟨rs,hrs⟩:∃rs,rss[i]?=some rs:=⟨_,List.getElem?_eq_getElem (by have:=kl.out;omega)⟩
   have s1:=(kS.out i x rs hx hrs).ext hX
   have q:=kst.out i rs hrs
   have m1:=kmo.out (i+1)
   have f0:=kfl.out i
   have hsum:(rss.take (i+1)).flatten.length=(rss.take i).flatten.length+rs.length:=by rw[q,List.length_append]
   rw[hsum] at m1
   have hrsl:rs.flatten.length=rs.length:=by rw[a8 s1.1,Nat.mul_one]
   have ap:=SQ s1 hB m1 (by rw[List.length_append,List.length_replicate,f0];omega)
   have hsp:bI ((rss.take i).flatten.flatten++List.replicate (n - (rss.take i).flatten.length) (u8v 0)) (rss.take i).flatten.length rs.flatten=(rss.take (i+1)).flatten.flatten++List.replicate (n - (rss.take (i+1)).flatten.length) (u8v 0):=by
    unfold bI
    rw[List.take_left' f0,List.drop_append,List.drop_of_length_le (by rw[f0];omega),List.nil_append,f0,List.drop_replicate,q,List.flatten_append,List.length_append,hrsl]
    congr 2
    omega
   rw[hsp] at ap
   have hmi:=kr.out i x hx
   have hlm:(i:Int)<(M.length:Int):=by omega
   have ld:ai Tryz.prog Gt H1 28 (.elem 1 M i 0)=some x:=by rw[ez aE hmi];rfl
   have kX:=ah.mk hX
   have hlb:=(List.getElem?_eq_some_iff.1 hB).1
   have ks:=ah.mk hsum
   clear s1 hX hB hsp q f0 hsum
   repeat' (first|simp(maxSteps:=999999) (disch:=first|exact dZ|fail) only[gW,reduceIte,Nat.reduceEqDiff,beq_self_eq_true,tC,al, *] | (refine dX ?_ ?_<;>(intro _;try omega)))
   refine⟨xs.length - (i+1),by omega,i+1,by omega,rfl,by trivial,by trivial,by simp,by rw[ks.out],by trivial,?_,kX.out.bZ (Nat.le_refl _) _⟩
   exact aS hlb
  ·have:i=xs.length:=by omega
   subst this
   have ht:rss.take xs.length=rss:=by rw[kl.out];exact List.take_length
   have f0:=kfl.out xs.length
   have hr2:=kr2.out xs.length
   rw[ht] at hB g6 f0 hr2
   rw[hN] at hB g6
   rw[Nat.sub_self,List.replicate_zero,List.append_nil] at hB
   have kB:=ah.mk hB
   have kX:=ah.mk hX
   clear hB hX
   repeat' (first|simp(maxSteps:=999999) (disch:=first|exact dZ|fail) only[gW,reduceIte,Nat.reduceEqDiff,beq_self_eq_true,tC, *] | (refine dX ?_ ?_<;>(intro _;try omega)))
   exact⟨_,_,rfl,_,rfl,kX.out,b9.box hr2 hN.symm kB.out⟩
theorem NA:Tryz.f158.results.toList=[.tmp 4]:=kZq
theorem tD:Tryz.f109.results.toList=[.tmp 2]:=kZq
theorem NB:wQ Tryz.prog 23 (.list .nil 0 [])=some (.v (.int .i64 0)):=kZq
theorem QH:ck Tryz.prog 23 (.list .nil 0 []) none (some (.v (.int .i64 0))) none=some (.list .nil 0 []):=kZq
theorem in3:∃i,Tryz.prog.info? 3=some i/\i.size=1/\i.bytes<=8/\(i.zero.map fun z=>z.cells.size)=some 1:=by
 have h:(match Tryz.prog.info? 3 with|some i=>Nat.beq i.size 1&&Nat.ble i.bytes 8&&decide ((i.zero.map fun z=>z.cells.size)=some 1) |none=>false)=true:=kZq
 split at h
 ·rename_i i hi
  simp only[Bool.and_eq_true,decide_eq_true_eq] at h
  exact⟨i,hi,Nat.eq_of_beq_eq_true h.1.1,Nat.le_of_ble_eq_true h.1.2,h.2⟩
 ·cases h
theorem zr3:(ej Tryz.prog 3).bind AV.aC=some [im 0]:=kZq
theorem SS{H:ae}{n:Nat}(h0:0<n)(hn:n<=1099511627776):bP Tryz.prog H #[23,3] (.list .nil 0 []) (.v (.int .i64 (n:Nat)))=some (.arr H.boxes.length 0 n n,H.push (List.replicate n [im 0]).flatten):=by
 obtain⟨i,h1,h2,h3,h4⟩:=in3
 have:=Nat.mul_le_mul hn h3
 exact rp Tryz.underlying23 Tryz.underlying3 h1 zr3 h0 (by omega) (by omega) (by omega) h2.symm
theorem QI:cZ Tryz.prog 23=some false:=kZq
theorem jC:bF Tryz.prog 23=some 1:=kZq
theorem SU{H:ae}{b len cap:Nat}{cs:List AV}{new:List (List AV)}{x:AV}(s:b9 1 H x new)(hb:H.boxes[b]?=some cs)(h2:len+new.length<=cap)(h3:cap<=cs.length):
 bP Tryz.prog H #[23,23] (.arr b 0 len cap) x=some (.arr b 0 (len+new.length) cap,H.put b (bI cs len new.flatten)):=by
 obtain⟨i,h1,q2,-,h4⟩:=in3
 have:=u7 (off:=0) Tryz.underlying23 Tryz.underlying23 h1 (by omega) (by rw[q2];exact h4) (by rw[q2];exact s.news) hb h2 (by rw[q2];omega)
 rwa [q2,Nat.mul_one,Nat.zero_add] at this
theorem SV{H:ae}{x:AV}(s:b9 1 H x []):bP Tryz.prog H #[23,23] (.list .nil 0 []) x=some (.list .nil 0 [],H):=by
 obtain⟨i,h1,q2,-,h4⟩:=in3
 have hx:eH H i.size x=some []:=by rw[q2];exact s.news
 unfold bP
 simp only[List.getElem?_toArray,List.getElem?_cons_zero,List.getElem?_cons_succ,Option.bind_some,Tryz.underlying23,h1,hx]
 rw[if_pos ⟨by omega,by rw[q2];exact h4⟩]
 simp
theorem QJ:Tryz.f145.results.toList=[.cell 4 177]:=kZq
theorem OW(l:List UInt8)(h:ae):fm Tryz.prog h 9 28 (.v (.string (bs l)))=some (.list (.free h.tn) 1 (u8s l),h.app .nil):=by
 have h1:Tryz.prog.underlying 9=some .string:=Tryz.underlying9
 have h2:Tryz.prog.underlying 28=some (.slice 5):=Tryz.underlying28
 have h3:Tryz.prog.underlying 5=some (.int .u8):=Tryz.underlying5
 obtain⟨i,q1,q2,-⟩:=in5
 unfold fm
 simp only[h1,h2,h3,q1,q2,if_true]
 simp[bs,ae.fresh,ae.app]
theorem QN(x y:AV)(hx:x.bu=true)(hy:y.bu=true):aN Tryz.prog 233 2 [(0,x),(1,y)]=some (.list .tight 1 [[x],[y]]):=by
 cases x<;>first| (cases hx;done) | (cases y<;>first| (cases hy;done) |kernel_rfl)
theorem b9.cell{sz:Nat}{h:ae}{x:AV}{rows:List (List AV)}(s:b9 sz h x rows):x.bu=true:=by
 rcases s.2 with⟨k,s',rfl,-⟩|⟨b,off,cap,cs,rfl,-⟩<;>rfl
theorem py(b:List UInt8):(jA b).length=32:=by
 unfold jA
 rw[mR,fC _ _ _ rfl]
theorem OX(M:Nat):ck Tryz.prog 177 (.ptr (.box M) 0) none none none=some (.arr M 0 32 32):=kZq
theorem Gp(tag b:List UInt8)(x:AV)(h:ae)(s:b9 1 h x (u8s b))(hb:b.length<=1099511620000)(ht:tag.length<=1099511620000):
 ∃h',W.call 145 [.v (.string (bs tag)),x] h=some (.ret (.agg (u8c (dV tag b))),h')/\Ext h h':=by
 have z177:=Jp
 have x0:Ext h ((h.push (List.replicate 32 (u8v 0))).app .nil):=(Ext.push _ _).trans (Ext.app (Ext.refl _) (.inl rfl))
 have e0:((h.push (List.replicate 32 (u8v 0))).app .nil).boxes=(h.push (List.replicate 32 (u8v 0))).boxes:=aT _ _
 obtain⟨H2,c2,x2⟩:=xx tag (.list (.free (h.push (List.replicate 32 (u8v 0))).tn) 1 (u8s tag)) ((h.push (List.replicate 32 (u8v 0))).app .nil) (b9.list (ga _) fun _=>rfl) (by omega)
 have d0:H2.boxes[h.boxes.length]?=some (List.replicate 32 (u8v 0)):=x2.box _ _ (by rw[e0];exact ak _ _)
 have tl:(u8c (jA tag)).length=32:=by rw[eC,py]
 have st1:aA Tryz.prog (H2.push (List.replicate 32 (u8v 0))) 177 (.ptr (.box H2.boxes.length) 0) (.agg (u8c (jA tag)))=some (H2.push (u8c (jA tag))):=cQ (rI _) tA tl rfl
 have sx:b9 1 (H2.push (u8c (jA tag))) x (u8s b):=((s.ext x0).ext x2).ext (Ext.push _ _)
 have sy:b9 1 (H2.push (u8c (jA tag))) (.arr H2.boxes.length 0 32 32) (u8s (jA tag)):=b9.box (ga _) (by rw[List.length_map,py]) (by rw[rJ];exact ak _ _)
 obtain⟨r3,H3,c3,y,rfl,x3,s3⟩:=Ba .tight [.arr H2.boxes.length 0 32 32,x] [u8s (jA tag),u8s b] rfl (H2.push (u8c (jA tag))) (fun i z rs hz hrs=>by
  rcases i with _|_|i
  ·injection hz with hz;injection hrs with hrs;subst hz;subst hrs;exact sy
  ·injection hz with hz;injection hrs with hrs;subst hz;subst hrs;exact sx
  ·cases hz) (by simp[py];omega) (by simp)
 have ef:[u8s (jA tag),u8s b].flatten=u8s (jA tag++b):=by simp[u8s]
 rw[ef] at s3
 have bl:=QN _ x (b9.cell sy) (b9.cell sx)
 obtain⟨H4,c4,x4⟩:=xx (jA tag++b) y H3 s3 (by rw[List.length_append,py];omega)
 have hX:Ext H2 H4:=(Ext.push _ _).trans (x3.trans x4)
 have d4:H4.boxes[h.boxes.length]?=some (List.replicate 32 (u8v 0)):=hX.box _ _ d0
 have tl2:(u8c (dV tag b)).length=32:=by rw[eC];exact py _
 have st2:aA Tryz.prog H4 177 (.ptr (.box h.boxes.length) 0) (.agg (u8c (dV tag b)))=some (H4.put h.boxes.length (u8c (dV tag b))):=by
  rw[aW (rI _) tA d4 tl2 (by simp),jc (by rw[tl2];simp)]
 have ld2:ai Tryz.prog Gt (H4.put h.boxes.length (u8c (dV tag b))) 177 (.ptr (.box h.boxes.length) 0)=some (.agg (u8c (dV tag b))):=by
  rw[cP Jo tA (aS (List.getElem?_eq_some_iff.1 d4).1) (by rw[tl2];exact Nat.le_refl _),List.drop_zero,List.take_of_length_le (by rw[tl2];exact Nat.le_refl _)]
 replace c4:W.call 181 [y] H3=some (.ret (.agg (u8c (dV tag b))),H4):=c4
 have kX:=ah.mk (((x0.trans x2).trans hX).bZ (Nat.le_refl _) (u8c (dV tag b)))
 simp only[List.map_cons,List.map_nil] at c3
 clear s sx sy s3 x0 e0 x2 x3 x4 hX d0 d4 ef tl tl2
 refine dL rfl Tryz.func145 rfl ?_
 repeat' (first|simp(maxSteps:=999999) (disch:=first|exact dZ|fail) only[gW,reduceIte,Nat.reduceEqDiff,beq_self_eq_true,QJ,OW,OX, *] | (refine dX ?_ ?_<;>(intro _;try omega)))
 exact⟨_,rfl,kX.out⟩
theorem OY:Tryz.f78.results.toList=[.tmp 4]:=kZq
theorem NC{b n:Nat}{k:IntKind}(hn:n<32):ay Tryz.prog 177 (.ptr (.box b) 0) (.v (.int k (n:Nat)))=some (.ptr (.box b) n):=by
 have h1:Tryz.prog.underlying 177=some (.array 32 5):=Tryz.underlying177
 unfold ay
 simp only[h1,sz5]
 rw[if_pos ⟨by omega,by omega⟩]
 simp
theorem ld5{H:ae}{b i:Nat}{l:List UInt8}(hb:H.boxes[b]?=some (u8c l))(hi:i<l.length):ai Tryz.prog Gt H 5 (.ptr (.box b) i)=some (u8v (bAt l i)):=by
 rw[dc ag5 hb,List.head?_drop,List.getElem?_map,List.getElem?_eq_getElem hi]
 unfold bAt
 rw[List.getD_eq_getElem?_getD,List.getElem?_eq_getElem hi]
 rfl
theorem QP(n:Int)(h:ae):fm Tryz.prog h 5 3 (.v (.int .u8 n))=some (.v (.int .i64 (IntKind.i64.wrap n)),h):=kZq
theorem xz(b:List UInt8):∀i,i<=b.length->lT b i=(b.take i).foldl (fun n c=>n * 256+c.toNat) 0
 |0,_=>rfl
 |i+1,hi=>by
  rw[lT,xz b i (by omega)]
  have:b[i]?=some (bAt b i):=by
   unfold bAt
   rw[List.getD_eq_getElem?_getD,List.getElem?_eq_getElem (by omega)];rfl
  rw[a9 this,List.foldl_append]
  rfl
def mask(b:List UInt8):List UInt8:=b.set 0 (bAt b 0&&&127)
theorem Ex{b:List UInt8}{i:Nat}(hb:0<b.length):bAt (mask b) i=if i=0 then bAt b 0&&&127 else bAt b i:=by
 unfold mask bAt
 rw[List.getD_eq_getElem?_getD,List.getElem?_set]
 split
 ·rename_i h;subst h;simp[hb]
 ·rename_i h;rw[if_neg (fun q=>h q.symm),List.getD_eq_getElem?_getD]
theorem Js(c:UInt8):(c&&&127).toNat=c.toNat%128:=by
 rw[UInt8.toNat_and]
 exact Nat.and_two_pow_sub_one_eq_mod c.toNat 7
theorem vn{b:List UInt8}(hb:0<b.length):∀i,lT (mask b) (i+1)=lT b (i+1)%(128 * 256^i)
 |0=>by
  show 0 * 256+(bAt (mask b) 0).toNat=(0 * 256+(bAt b 0).toNat)%128
  rw[Ex hb,if_pos rfl,Js];omega
 |i+1=>by
  rw[lT,vn hb i,Ex hb,if_neg (by omega),lT.eq_2 b (i+1)]
  have:=A7 (bAt b (i+1))
  generalize lT b (i+1)=A at *
  generalize (bAt b (i+1)).toNat=r at *
  rw[Nat.pow_succ,<-Nat.mul_assoc]
  have hM:0<128 * 256^i:=Nat.mul_pos (by decide) (Nat.pow_pos (by decide))
  generalize 128 * 256^i=M at *
  have h1:=Nat.mod_lt A hM
  have h2:=Nat.div_add_mod A M
  have h3:A * 256+r=M * 256 * (A/M)+(A%M * 256+r):=by
   rw[Nat.mul_right_comm,<-Nat.add_assoc,<-Nat.add_mul,h2]
  rw[h3,Nat.mul_add_mod,Nat.mod_eq_of_lt (a:=A%M * 256+r) (b:=M * 256) (by
   have:(A%M+1) * 256<=M * 256:=Nat.mul_le_mul_right _ h1
   rw[Nat.add_mul] at this
   omega)]
theorem Mv{b:List UInt8}(hb:0<b.length){i:Nat}(hi:i<8):lT (mask b) i<36028797018963968:=by
 cases i with
 |zero=>show 0<_;decide
 |succ i=>
  rw[vn hb]
  have h1:=Nat.mod_lt (lT b (i+1)) (show 0<128 * 256^i from Nat.mul_pos (by decide) (Nat.pow_pos (by decide)))
  have h2:256^i<=256^6:=Nat.pow_le_pow_right (by decide) (by omega)
  have h3:256^6=281474976710656:=by decide
  omega
theorem hash_eq{b:List UInt8}(hb:8<=b.length):lT (mask b) 8%Q=mK b:=by
 unfold mK
 rw[vn (by omega) 7,xz b 8 hb]
theorem QQ{t:TypeId}{x y:Operand}{n:Nat}(hn:n<36028797018963968):bB Tryz.prog .shl t x y (.v (.int .i64 (n:Nat))) (.v (.int .u64 8))=some (.v (.int .i64 ((n * 256:Nat):Int))):=by
 rw[y0 (by decide)]
 congr 3
 show IntKind.i64.wrap (((n:Nat):Int) * 256)=_
 rw[bT (by omega) (by omega)];omega
theorem ori{t:TypeId}{x y:Operand}{n m:Nat}(hn:n<36028797018963968)(hm:m<256):bB Tryz.prog .or t x y (.v (.int .i64 ((n * 256:Nat):Int))) (.v (.int .i64 (m:Nat)))=some (.v (.int .i64 ((n * 256+m:Nat):Int))):=by
 rw[C8]
 congr 3
 have e1:BitVec.ofInt IntKind.i64.bits ((n * 256:Nat):Int)=BitVec.ofNat 64 (n * 256):=by
  apply BitVec.eq_of_toNat_eq
  show(BitVec.ofInt 64 ((n * 256:Nat):Int)).toNat=(BitVec.ofNat 64 (n * 256)).toNat
  rw[BitVec.toNat_ofInt,BitVec.toNat_ofNat];omega
 have e2:BitVec.ofInt IntKind.i64.bits ((m:Nat):Int)=BitVec.ofNat 64 m:=by
  apply BitVec.eq_of_toNat_eq
  show(BitVec.ofInt 64 ((m:Nat):Int)).toNat=(BitVec.ofNat 64 m).toNat
  rw[BitVec.toNat_ofInt,BitVec.toNat_ofNat];omega
 have e3:(BitVec.ofNat 64 (n * 256) |||BitVec.ofNat 64 m).toNat=n * 256+m:=by
  rw[BitVec.toNat_or,BitVec.toNat_ofNat,BitVec.toNat_ofNat,Nat.mod_eq_of_lt (show n * 256<2^64 by omega),Nat.mod_eq_of_lt (show m<2^64 by omega)]
  have h1:n<<<8=n * 256:=by rw[Nat.shiftLeft_eq]
  rw[<-h1,<-Nat.shiftLeft_add_eq_or_of_lt (show m<2^8 by omega)]
 have e4:(BitVec.ofInt IntKind.i64.bits ((n * 256:Nat):Int) |||BitVec.ofInt IntKind.i64.bits ((m:Nat):Int)).toNat=n * 256+m:=by rw[e1,e2];exact e3
 rw[e4,bT (by omega) (by omega)]
theorem Mw{t:TypeId}{x y:Operand}(c:UInt8):bB Tryz.prog .and t x y (u8v c) (.v (.int .u8 127))=some (u8v (c&&&127)):=by
 unfold u8v
 rw[fQ]
 congr 3
 have hc:=A7 c
 have e1:BitVec.ofInt IntKind.u8.bits ((c.toNat:Nat):Int)=BitVec.ofNat 8 c.toNat:=by
  apply BitVec.eq_of_toNat_eq
  show(BitVec.ofInt 8 ((c.toNat:Nat):Int)).toNat=(BitVec.ofNat 8 c.toNat).toNat
  rw[BitVec.toNat_ofInt,BitVec.toNat_ofNat];omega
 have e3:(BitVec.ofInt IntKind.u8.bits ((c.toNat:Nat):Int)&&&BitVec.ofInt IntKind.u8.bits 127).toNat=c.toNat%128:=by
  rw[e1]
  show(BitVec.ofNat 8 c.toNat&&&127#8).toNat=_
  rw[BitVec.toNat_and,BitVec.toNat_ofNat,Nat.mod_eq_of_lt (show c.toNat<2^8 by omega)]
  exact Nat.and_two_pow_sub_one_eq_mod c.toNat 7
 rw[e3,yU (by omega) (by omega),Js]
theorem Dy(l:List UInt8):(u8c l).set 0 (u8v (bAt l 0&&&127))=u8c (mask l):=by
 unfold mask u8c
 rw[List.map_set]
theorem Jt(tag b:List UInt8)(x:AV)(h:ae)(s:b9 1 h x (u8s b))(hb:b.length<=1099511620000)(ht:tag.length<=1099511620000):
 ∃h',W.call 78 [.v (.string (bs tag)),x] h=some (.ret (im (mK (dV tag b):Nat)),h')/\Ext h h':=by
 obtain⟨H1,c1,x1⟩:=Gp tag b x h s hb ht
 have hl:(dV tag b).length=32:=py _
 have hcl:(u8c (dV tag b)).length=32:=by rw[eC,hl]
 have he:=hash_eq (b:=dV tag b) (by omega)
 generalize dV tag b=d at *
 have hd0:0<d.length:=by omega
 have z177:=Jp
 have st1:aA Tryz.prog (H1.push (List.replicate 32 (u8v 0))) 177 (.ptr (.box H1.boxes.length) 0) (.agg (u8c d))=some (H1.push (u8c d)):=cQ (rI _) tA hcl rfl
 have ix0:ay Tryz.prog 177 (.ptr (.box H1.boxes.length) 0) (.v (.int .i64 0))=some (.ptr (.box H1.boxes.length) 0):=NC (n:=0) (by decide)
 have l0:ai Tryz.prog Gt (H1.push (u8c d)) 5 (.ptr (.box H1.boxes.length) 0)=some (u8v (bAt d 0)):=ld5 (ak _ _) hd0
 have st2:aA Tryz.prog (H1.push (u8c d)) 5 (.ptr (.box H1.boxes.length) 0) (u8v (bAt d 0&&&127))=some (H1.push (u8c (mask d))):=by
  rw[OR (ak _ _) (by rw[hcl];decide),Dy,gg]
 have hml:(mask d).length=32:=by unfold mask;rw[List.length_set,hl]
 have hX:=ah.mk (x1.trans (Ext.push H1 (u8c (mask d))))
 have hB:=ak H1 (u8c (mask d))
 have hlt:=fun i hi=>Mv hd0 (i:=i) hi
 have kB:=ah.mk hB
 have klt:=ah.mk hlt
 have ke:=ah.mk he
 have kml:=ah.mk hml
 clear s hcl hl hB hlt he hml x1 hd0
 unfold im
 refine dL rfl Tryz.func78 rfl ?_
 repeat' (first|simp(maxSteps:=999999) (disch:=first|exact dZ|fail) only[gW,reduceIte,Nat.reduceEqDiff,beq_self_eq_true,OY,Mw, *] | (refine dX ?_ ?_<;>(intro _;try omega)))
 refine aD (fun m e H=>∃i:Nat,i<=8/\m=8 - i/\e.get 5= .ptr (.box H1.boxes.length) 0/\e.get 14= .v (.int .i64 i)/\e.get 4= .v (.int .i64 (lT (mask d) i:Nat))/\e.defers=[]/\H=H1.push (u8c (mask d))) ?_ 8 _ _ ?_
 rotate_left 1
 ·refine⟨0,by decide,rfl,?_,?_,?_,?_,rfl⟩<;>(first|assumption| (exact gR))
 clear z177 st1 ix0 l0 st2 c1
 rintro m e H ⟨i,hi,rfl,g5,g14,g4,hd,rfl⟩
 by_cases h8:i=8
 ·subst h8
  have e1:(((lT (mask d) 8:Nat):Int)).tmod 1073741789=((mK d:Nat):Int):=by rw[<-ke.out];exact rE _ _
  generalize lT (mask d) 8=A at *
  repeat' (first|simp(maxSteps:=999999) (disch:=first|exact dZ|fail) only[gW,reduceIte,Nat.reduceEqDiff,beq_self_eq_true,OY, *] | (refine dX ?_ ?_<;>(intro _;try omega)))
  exact⟨_,rfl,hX.out⟩
 ·have hlt:i<8:=by omega
  have a1:=klt.out i hlt
  have u1:=A7 (bAt (mask d) i)
  have ix:=NC (b:=H1.boxes.length) (n:=i) (k:= .i64) (by omega)
  have ld:ai Tryz.prog Gt (H1.push (u8c (mask d))) 5 (.ptr (.box H1.boxes.length) i)=some (.v (.int .u8 ((bAt (mask d) i).toNat:Nat))):=ld5 kB.out (by have:=kml.out;omega)
  have ew:IntKind.i64.wrap (((bAt (mask d) i).toNat:Nat):Int)=(((bAt (mask d) i).toNat:Nat):Int):=bT (by omega) (by omega)
  have s1:=fun t x y=>QQ (t:=t) (x:=x) (y:=y) a1
  have s2:=fun t x y=>ori (t:=t) (x:=x) (y:=y) a1 u1
  have kstep:=ah.mk (show lT (mask d) (i+1)=lT (mask d) i * 256+(bAt (mask d) i).toNat from rfl)
  generalize lT (mask d) i=A at *
  generalize (bAt (mask d) i).toNat=r at *
  repeat' (first|simp(maxSteps:=999999) (disch:=first|exact dZ|fail) only[gW,reduceIte,Nat.reduceEqDiff,beq_self_eq_true,OY,QP, *] | (refine dX ?_ ?_<;>(intro _;try omega)))
  exact⟨8 - (i+1),by omega,i+1,by omega,rfl,by trivial,rfl,by rw[kstep.out],by trivial,by trivial⟩
end Go.Proofs.YtnfciiiohoafaaaGreatDoor
end
section
namespace Go.AE
structure Grown(n0:Nat)(h h':ae)(t:Tok):Prop where
 box:∀(b:Nat) (cs:List AV),h.boxes[b]?=some cs->h'.boxes[b]?=some cs
 loop:∀(l:Nat) (r:bE),h.loops[l]?=some r->h'.loops[l]?=some r
 can:bG n0 h' t
 ok:aZ h'=true
 tn:h.tn<=h'.tn
 dead:∀n,n<n0->n∈h'.dead->n∈h.dead
section
variable {n0:Nat} {h0 h h' h2:ae} {t k:Tok}
theorem Grown.refl(hk:bG n0 h k)(ho:aZ h=true):Grown n0 h h k:=⟨fun _ _ q=>q,fun _ _ q=>q,hk,ho,Nat.le_refl _,fun _ _ q=>q⟩
theorem Grown.trans(g:Grown n0 h h' t)(g2:Grown n0 h' h2 k):Grown n0 h h2 k:=
 ⟨fun b cs q=>g2.box b cs (g.box b cs q),fun b cs q=>g2.loop b cs (g.loop b cs q),g2.can,g2.ok,Nat.le_trans g.tn g2.tn,fun n hn q=>g.dead n hn (g2.dead n hn q)⟩
theorem Grown.ext(g:Grown n0 h h' t)(x:Ext h0 h)(hn:h0.tn<=n0):Ext h0 h':=
 ⟨fun b cs hb=>g.box b cs (x.box b cs hb),fun l r hl=>g.loop l r (x.loop l r hl),Nat.le_trans x.tn g.tn,fun n q hd=>x.dead n q (g.dead n (Nat.lt_of_lt_of_le q hn) hd),fun _=>g.ok⟩
theorem OZ(ho:aZ h=true)(hk:bG n0 h k):aZ (h.app k)=true:=by
 unfold aZ at *
 rw[List.all_eq_true] at *
 intro n hn
 rcases hk with rfl|rfl|⟨m,rfl,-,ha⟩
 ·exact decide_eq_true (Nat.lt_succ_of_lt (of_decide_eq_true (ho n hn)))
 ·exact decide_eq_true (Nat.lt_succ_of_lt (of_decide_eq_true (ho n hn)))
 ·rcases List.mem_cons.1 hn with rfl|q
  ·exact decide_eq_true (Nat.lt_succ_of_lt (gG ha))
  ·exact decide_eq_true (Nat.lt_succ_of_lt (of_decide_eq_true (ho n q)))
theorem Grown.one(hk:bG n0 h k)(ho:aZ h=true)(hn:n0<=h.tn):Grown n0 h (h.app k) (.free h.tn):=by
 refine⟨fun b cs q=>by rw[aT];exact q,fun b cs q=>by rw[ig];exact q,hk.next ho hn,OZ ho hk,by rw[uY];omega,fun n q hd=>?_⟩
 rcases hk with rfl|rfl|⟨m,rfl,hm,ha⟩
 ·exact hd
 ·exact hd
 ·rcases List.mem_cons.1 hd with rfl|hd
  ·omega
  ·exact hd
theorem Grown.push(g:Grown n0 h h' t)(cs:List AV):Grown n0 h (h'.push cs) t:=⟨fun b cs q=>aj (g.box b cs q),g.loop,g.can,g.ok,g.tn,g.dead⟩
theorem Grown.app(g:Grown n0 h h' t)(hn:n0<=h.tn):Grown n0 h (h'.app t) (.free h'.tn):=g.trans (Grown.one g.can g.ok (Nat.le_trans hn g.tn))
variable {P:Program} {t0 t1 elem:TypeId} {i:TypeInfo} {sz:Nat} {es new:List (List AV)} {x:AV}
theorem lI(h0:P.underlying t0=some (.slice elem))(h1:(∃e,P.underlying t1=some (.slice e))∨P.underlying t1=some .string)(hi:P.info? elem=some i)(hsz:0<i.size)(hz:(i.zero.map fun z=>z.cells.size)=some i.size)
 (hx:eH h i.size x=some new) (hnew:new≠[]) (hb:(es.length+new.length) * i.bytes<=140737488355328) (hl:es.length+new.length<=9223372036854775807) (hs:sz=i.size∨(es=[]/\k= .nil)) (hk:bG n0 h k):
 bP P h #[t0,t1] (.list k sz es) x=some (.list (.free h.tn) i.size (es++new),h.app k):=by
 unfold bP
 rcases h1 with⟨e,h1⟩|h1
 all_goals
  simp only[List.getElem?_toArray,List.getElem?_cons_zero,List.getElem?_cons_succ,Option.bind_some,h0,h1,hi,hx]
  rw[if_pos ⟨hsz,hz⟩,if_pos (hs.imp_right fun q=>q.1),if_neg hnew,if_pos ⟨hb,hl⟩]
  rcases hk with rfl|rfl|⟨m,rfl,-,ha⟩
  ·rfl
  ·rfl
  ·have hs:sz=i.size:=by
    rcases hs with hs|⟨-,hs⟩
    ·exact hs
    ·cases hs
   simp only[ha,hs,decide_true,Bool.and_self,if_true]
   rfl
theorem Bb(h0:P.underlying t0=some (.slice elem))(h1:(∃e,P.underlying t1=some (.slice e))∨P.underlying t1=some .string)(hi:P.info? elem=some i)(hsz:0<i.size)(hz:(i.zero.map fun z=>z.cells.size)=some i.size)
 (hx:eH h i.size x=some []) (hs:sz=i.size∨es=[]):bP P h #[t0,t1] (.list k sz es) x=some (.list k sz es,h):=by
 unfold bP
 rcases h1 with⟨e,h1⟩|h1
 ·simp only[List.getElem?_toArray,List.getElem?_cons_zero,List.getElem?_cons_succ,Option.bind_some,h0,h1,hi,hx]
  rw[if_pos ⟨hsz,hz⟩,if_pos hs,if_pos trivial]
 ·simp only[List.getElem?_toArray,List.getElem?_cons_zero,List.getElem?_cons_succ,Option.bind_some,h0,h1,hi,hx]
  rw[if_pos ⟨hsz,hz⟩,if_pos hs,if_pos trivial]
end
end Go.AE
end
section
namespace Go.AE
open Go.RowKit (Below)
mutual
def jK(h:ae):AV->AV
 | .list k sz es=> .list (di k) sz es
 | .arr b off len _=>match h.boxes[b]? with
  |some cs=>if off+len<=cs.length then .list .held 1 (((cs.drop off).take len).map fun c=>[c]) else .bad
  |none=> .bad
 | .tuple cs=> .tuple (vp h cs)
 | .agg cs=> .agg (vp h cs)
 |x=>x
def vp(h:ae):List AV->List AV
 | []=>[]
 |x::r=>jK h x::vp h r
end
def xA(R:Rec)(g:FuncId)(args:List AV):Option AV:=
 if bA 0 0 0 (bM args)=true then
  match R.call g (bM args) ⟨[],[],0,[]⟩ with
  |some (.ret y,h2)=>if aV 0 0 0 (jK h2 y)=true then some (jK h2 y) else none
  |_=>none
 else none
def sK(R:Rec)(g:FuncId)(args:List AV)(h:ae):Option (AV × ae):=(xA R g args).map (·,h)
theorem l9:∀l:List AV,(l.map fun c=>[c]).flatten=l
 | []=>rfl
 |x::l=>by rw[List.map_cons,List.flatten_cons,l9 l];rfl
section
variable {P:Program} {G:Nat->Option (List AV)} {ok:FuncId->Nat->Code->Bool} {w0 w w':World} {K K1 K2:aB} {h h2:ae}
mutual
theorem aI.lJ(hsub:∀g j c,K1.ic g j=some c->K2.ic g j=some c):∀{x:AV} {c:Value},aI K1 x c->aV 0 0 0 x=true->aI K2 x c
 |_,_,.bad c,_=> .bad c
 |_,_,.v x hx,_=> .v x hx
 |_,_,.nil sz,_=> .nil sz
 |_,_,.eK sz a,_=> .eK sz a
 |_,_,.list k sz es g off m cap cells hn hr hv hc ht ha,h=>by
  rw[aV,Bool.and_eq_true] at h
  refine .list k sz es g off m cap cells hn hr (ao.lJ hsub hv (by rw[eL];exact h.2)) (fun j c hj=>hsub _ _ _ (hc j c hj)) ⟨ht.1,?_⟩ ha
  have h1:=h.1
  have h2:=ht.2
  cases k with
  |free i=>simp[oF] at h1
  |_=>exact h2
 |_,_,.arr _ _ _ _ _ _ _ _ _ _ _ _,h=>by simp[aV] at h
 |_,_,.agg cs vs hv,h=> .agg cs vs (ao.lJ hsub hv (by rw[aV] at h;exact h))
 |_,_,.tuple cs vs hv,h=> .tuple cs vs (ao.lJ hsub hv (by rw[aV] at h;exact h))
 |_,_,.box _ _ _ _,h=>by simp[aV] at h
 |_,_,.dW g off,_=> .dW g off
 |_,_,.elem sz es i off g o p cells hr hv hc hi hp ha,h=> .elem sz es i off g o p cells hr (ao.lJ hsub hv (by rw[eL];rw[aV] at h;exact h)) (fun j c hj=>hsub _ _ _ (hc j c hj)) hi hp ha
 |_,_,.func fn first cap fs cs h1 h2,h=> .func fn first cap fs cs (ao.lJ hsub h1 (by rw[aV,Bool.and_eq_true] at h;exact h.1)) (ao.lJ hsub h2 (by rw[aV,Bool.and_eq_true] at h;exact h.2))
 |_,_,.yield _ _ _,h=>by simp[aV] at h
 |_,_,.iface t x c hx,h=> .iface t x c (aI.lJ hsub hx (by rw[aV] at h;exact h))
theorem ao.lJ(hsub:∀g j c,K1.ic g j=some c->K2.ic g j=some c):∀{xs:List AV} {cs:List Value},ao K1 xs cs->bA 0 0 0 xs=true->ao K2 xs cs
 |_,_,.nil,_=> .nil
 |_,_,.cons x c xs cs hx hs,h=> .cons x c xs cs (aI.lJ hsub hx (by rw[bA,Bool.and_eq_true] at h;exact h.1)) (ao.lJ hsub hs (by rw[bA,Bool.and_eq_true] at h;exact h.2))
end
mutual
theorem aI.ice(s1:Sim K1 G ok w h2 w')(hsub:∀g j c,K1.ic g j=some c->K2.ic g j=some c)(hnew:∀g j c,K1.base<=g->w'.cell? ⟨g,j,none⟩=some c->K2.ic g j=some c):
 ∀{x:AV} {c:Value},aI K1 x c->aV 0 0 0 (jK h2 x)=true->aI K2 (jK h2 x) c
 |_,_,.bad c,_=> .bad c
 |_,_,.v x hx,_=> .v x hx
 |_,_,.nil sz,_=> .nil sz
 |_,_,.eK sz a,_=> .eK sz a
 |_,_,.list k sz es g off m cap cells hn hr hv hc ht ha,h=>by
  have hf:gH 0 0 0 es=true:=by
   simp only[jK,aV,Bool.and_eq_true] at h
   exact h.2
  have hv2:ao K2 es.flatten cells:=ao.lJ hsub hv (by rw[eL];exact hf)
  cases k with
  |nil=>exact ht.2.elim
  |tight=>exact .list .tight sz es g off m cap cells hn hr hv2 (fun j c hj=>hsub _ _ _ (hc j c hj)) ⟨ht.1,ht.2⟩ ha
  |free i=>exact .list .held sz es g off m cap cells hn hr hv2 (fun j c hj=>hsub _ _ _ (hc j c hj)) ⟨ht.1,trivial⟩ ha
  |held=>exact .list .held sz es g off m cap cells hn hr hv2 (fun j c hj=>hsub _ _ _ (hc j c hj)) ⟨ht.1,trivial⟩ ha
 |_,_,.arr b g off len cap off' cap' hb hl hcc ho hr,h=>by
  simp only[jK] at h ⊢
  cases hcs:h2.boxes[b]? with
  |none=>exact .bad _
  |some cs=>
   rw[hcs] at h
   simp only at h ⊢
   split at h
   ·rename_i hle
    rw[if_pos hle]
    have hf:gH 0 0 0 (((cs.drop off).take len).map fun c=>[c])=true:=by
     simp only[aV,Bool.and_eq_true] at h
     exact h.2
    obtain⟨q1,q2,q3,cells,e,q4,q5⟩:=s1.box b g cs hb hcs
    have hle2:=q5.le
    by_cases h0:cap=0
    ·have:len=0:=by omega
     subst this
     exact .list .held 1 [] g off' 0 cap' [] rfl (fun _ h=>by cases h) .nil (fun _ _ h=>by simp at h) ⟨Nat.zero_le _,trivial⟩ rfl
    ·have hoff:off'=off:=by rcases ho with p|p<;>omega
     subst hoff
     have hv:ao K1 ((cs.drop off').take len) (((cells.toList.take cs.length).drop off').take len):=(q5.1.drop off').take len
     have hlen:((cs.drop off').take len).length=len:=by rw[List.length_take,List.length_drop];omega
     refine .list .held 1 _ g off' len cap' (((cells.toList.take cs.length).drop off').take len) (by rw[List.length_map,hlen]) (fun r hr=>?_) ?_ (fun j c hj=>?_) ⟨by omega,trivial⟩ ?_
     ·obtain⟨c,-,rfl⟩:=List.mem_map.1 hr
      rfl
     ·rw[l9]
      rw[<-eL,l9] at hf
      exact ao.lJ hsub hv hf
     ·refine hnew _ _ _ q1 ?_
      have hjl:j<len:=by
       have:=(List.getElem?_eq_some_iff.1 hj).1
       rw[List.length_take] at this;omega
      rw[List.getElem?_take,if_pos hjl,List.getElem?_drop,List.getElem?_take,if_pos (by omega)] at hj
      rw[fO q4]
      simpa using hj
     ·rw[l9]
      rw[List.all_eq_true] at q3 ⊢
      exact fun x hx=>q3 x (List.mem_of_mem_drop (List.mem_of_mem_take hx))
   ·rename_i hle
    rw[if_neg hle]
    exact .bad _
 |_,_,.agg cs vs hv,h=> .agg _ vs (ao.ice s1 hsub hnew hv (by simpa only[jK,aV] using h))
 |_,_,.tuple cs vs hv,h=> .tuple _ vs (ao.ice s1 hsub hnew hv (by simpa only[jK,aV] using h))
 |_,_,.box b g off hb,h=>by simp[jK,aV] at h
 |_,_,.dW g off,_=> .dW g off
 |_,_,.elem sz es i off g o p cells hr hv hc hi hp ha,h=> .elem sz es i off g o p cells hr (ao.lJ hsub hv (by rw[eL];simpa only[jK,aV] using h)) (fun j c hj=>hsub _ _ _ (hc j c hj)) hi hp ha
 |_,_,.func fn first cap fs cs h1 h2,h=>by
  simp only[jK,aV,Bool.and_eq_true] at h
  exact .func fn first cap fs cs (ao.lJ hsub h1 h.1) (ao.lJ hsub h2 h.2)
 |_,_,.yield l g hl,h=>by simp[jK,aV] at h
 |_,_,.iface t x c hx,h=>by
  simp only[jK,aV] at h
  exact .iface t x c (aI.lJ hsub hx h)
theorem ao.ice(s1:Sim K1 G ok w h2 w')(hsub:∀g j c,K1.ic g j=some c->K2.ic g j=some c)(hnew:∀g j c,K1.base<=g->w'.cell? ⟨g,j,none⟩=some c->K2.ic g j=some c):
 ∀{xs:List AV} {cs:List Value},ao K1 xs cs->bA 0 0 0 (vp h2 xs)=true->ao K2 (vp h2 xs) cs
 |_,_,.nil,_=> .nil
 |_,_,.cons x c xs cs hx hs,h=>by
  simp only[vp,bA,Bool.and_eq_true] at h
  exact .cons _ c _ cs (aI.ice s1 hsub hnew hx h.1) (ao.ice s1 hsub hnew hs h.2)
end
def aB.qB(K:aB)(n:Nat)(w:World):aB:={K with ic:=fun g j=>if g<n then K.ic g j else w.cell? ⟨g,j,none⟩}
theorem aB.zr(s:Sim K G ok w0 h w):K.Le (K.qB w.heap.size w'):=by
 refine⟨rfl,fun g j c hc=>?_,fun _ _ h=>h,fun _ _ h=>h,Nat.le_refl _,fun _ _=>rfl,fun _ h=>h,fun _ _=>rfl,fun g j c hc=>?_⟩
 ·simp only[aB.qB,if_pos (s.fY hc),hc]
 ·simp only[aB.qB] at hc
  split at hc
  ·exact .inl hc
  ·exact .inr (by have:=s.size;omega)
theorem Sim.qB(s:Sim K G ok w0 h w)(b:Below w.heap.size w w'):Sim (K.qB w.heap.size w') G ok w0 h w':=by
 have g:=s.grown b
 have le:K.Le (K.qB w.heap.size w'):=aB.zr s
 refine⟨g.old,g.size,fun g1 j c hc=>?_,fun g1 cs hg=>?_,g.js,g.βnd,fun b1 g1 cs hb hc=>?_,g.mA,g.γnd,fun l g1 r hl hr=>?_,g.tn,fun t ht=>?_,g.oq,g.md,g.all⟩
 ·simp only[aB.qB] at hc
  split at hc
  ·exact g.ic g1 j c hc
  ·exact hc
 ·obtain⟨cells,q1,q2⟩:=g.dW g1 cs hg
  exact⟨cells,q1.mono le,fun j c hj=>le.ic _ _ _ (q2 j c hj)⟩
 ·obtain⟨q1,q2,q3,cells,e,q4,q5⟩:=g.box b1 g1 cs hb hc
  obtain⟨-,-,-,cells0,e0,p4,-⟩:=s.box b1 g1 cs hb hc
  refine⟨q1,fun j=>?_,q3,cells,e,q4,q5.mono le (List.getElem?_eq_some_iff.1 hb).1⟩
  simp only[aB.qB,if_pos (cV p4)]
  exact q2 j
 ·obtain⟨q1,fn,tmps,d,q2,q3,q4⟩:=g.loop l g1 r hl hr
  exact⟨q1,fn,tmps,d,q2,q3.mono le,q4⟩
 ·obtain⟨q1,q2,q3,q4⟩:=g.tok t ht
  obtain⟨-,-,-,cells0,e0,z0,p4,-⟩:=s.tok t ht
  refine⟨q1,q2,fun j hj=>?_,q4⟩
  simp only[aB.qB,if_pos (cV p4)]
  exact q3 j hj
def aB.alone(K:aB)(n:Nat):aB:={K with base:=n,β:=[],γ:=[],tn:=0,md:=[]}
theorem Sim.alone(s:Sim K G ok w0 h w)(hG:∀g cs,G g=some cs->bA 0 0 0 cs=true):Sim (K.alone w.heap.size) G ok w ⟨[],[],0,[]⟩ w:=by
 refine⟨Below.refl _ _,Nat.le_refl _,s.ic,fun g cs hg=>?_,rfl,fun b b' g hb=>by simp[aB.alone] at hb,fun b g cs hb=>by simp[aB.alone] at hb,rfl,fun b b' g hb=>by simp[aB.alone] at hb,fun l g r hl=>by simp[aB.alone] at hl,rfl,fun t ht=>?_,fun t t' ht=>?_,fun r hr=>by simp[aB.alone] at hr,rfl⟩
 ·obtain⟨cells,q1,q2⟩:=s.dW g cs hg
  exact⟨cells,ao.lJ (K1:=K) (K2:=K.alone w.heap.size) (fun _ _ _ h=>h) q1 (hG g cs hg),q2⟩
 ·simp[alive] at ht
 ·simp[alive] at ht
theorem Ey{prims:FuncId->Option (List AV->ae->Option (AV × ae))}(hp:Prog P)(hG:∀g cs,G g=some cs->bA 0 0 0 cs=true)(hprim:∀V g p,prims g=some p->jb P G V g p){g:FuncId}(hfn:∃fn,P.funcs[g]?=some fn/\fn.body.isSome=true)(V:World):
 jb P G V g (sK (whole P G prims) g):=by
 refine⟨hfn,fun args h x h' hx K w vargs hv hs cs=>?_⟩
 unfold sK xA at hx
 split at hx
 ·rename_i hf
  split at hx
  ·rename_i y h2 hc
   split at hx
   ·rename_i hf2
    simp only[Option.map_some,Option.some.injEq,Prod.mk.injEq] at hx
    obtain⟨rfl,rfl⟩:=hx
    obtain⟨-,hsim⟩:=(su hp (hprim w)).call g _ _ _ _ hc
    have s0:=Sim.alone hs hG
    obtain⟨K1,w',fr,le,s1,hst,hfr,v,hv',hle⟩:=hsim (K.alone w.heap.size) w vargs (ao.lJ (K1:=K) (K2:=K.alone w.heap.size) (fun _ _ _ h=>h) hv.hold hf) s0 cs
    have hb:Below w.heap.size w w':=by have:=s1.old;rwa [le.base] at this
    refine⟨.returned v,w',fr,⟨v,_,rfl,aB.zr hs,aI.ice (K2:=K.qB w.heap.size w') s1 (fun g j c hc=>?_) (fun g j c hg hc=>?_) hv' hf2,Sim.qB hs hb⟩,hst,hfr,hle⟩
    ·rcases le.new g j c hc with q|q
     ·have:g<w.heap.size:=hs.fY q
      simp only[aB.qB,if_pos this]
      exact q
     ·have q:w.heap.size<=g:=q
      simp only[aB.qB,if_neg (show ¬g<w.heap.size by omega)]
      exact s1.ic g j c hc
    ·have q:w.heap.size<=g:=by rw[le.base] at hg;exact hg
     simp only[aB.qB,if_neg (show ¬g<w.heap.size by omega)]
     exact hc
   ·cases hx
  ·cases hx
 ·cases hx
def fx(R:Rec)(L:List FuncId)(g:FuncId):Option (List AV->ae->Option (AV × ae)):=if L.contains g=true then some (sK R g) else none
theorem iN{prims:FuncId->Option (List AV->ae->Option (AV × ae))}(hp:Prog P)(hG:∀g cs,G g=some cs->bA 0 0 0 cs=true)(hprim:∀V g p,prims g=some p->jb P G V g p){L:List FuncId}(hL:∀g∈L,∃fn,P.funcs[g]?=some fn/\fn.body.isSome=true):
 ∀V g p,fx (whole P G prims) L g=some p->jb P G V g p:=by
 intro V g p he
 unfold fx at he
 split at he
 ·rename_i hg
  injection he with he
  subst he
  exact Ey hp hG hprim (hL g (by simpa using hg)) V
 ·cases he
theorem aF{R:Rec}{L:List FuncId}{g:FuncId}{args args':List AV}{x y:AV}{h1:ae}(hg:L.contains g=true)(ha:bM args=args')(hf:bA 0 0 0 args'=true)(hc:R.call g args' ⟨[],[],0,[]⟩=some (.ret y,h1))(hy:jK h1 y=x)(hx:aV 0 0 0 x=true):
 ∀h,(whole P G (fx R L)).call g args h=some (.ret x,h):=by
 intro h
 subst ha;subst hy
 rw[lu]
 unfold gQ fx
 rw[if_pos hg]
 simp only[sK,xA,if_pos hf,hc,if_pos hx,Option.map_some]
end
end Go.AE
end
section
namespace Go.AE
def zt(P:Program)(s d:TypeId):Bool:=
 match P.underlying s,P.underlying d with
 |some (.int _),some (.int _)=>true
 |_,_=>false
def vq(P:Program)(ops:Array Oper)(L:List FuncId)(k:Nat):Bool:=
 match ops[k]? with
 |some o=>o.guard.isNone&&match o.op with
  | .call {callee:= .value (.func f),.. }=>L.contains f
  | .call {callee:= .builtin .max,.. }=>true
  | .call {callee:= .builtin .min,.. }=>true
  | .convert s d _=>zt P s d
  |_=>false
 |none=>false
def zu(P:Program)(ops:Array Oper)(L:List FuncId):List Nat:=(List.range ops.size).filter (vq P ops L)
section
variable {P:Program} {G:Nat->Option (List AV)} {prims:FuncId->Option (List AV->ae->Option (AV × ae))} {Q:Xt->Env->ae->Prop} {e:Env} {h:ae} {L:List FuncId}
def jo(prims:FuncId->Option (List AV->ae->Option (AV × ae)))(L:List FuncId):Prop:=∀g∈L,∃q:List AV->Option AV,prims g=some fun args h=>(q args).map (·,h)
theorem nE{R:Rec}:jo (fx R L) L:=fun g hg=>⟨xA R g,by
 unfold fx
 rw[if_pos (by simpa using hg)]
 rfl⟩
theorem Ju{s d:TypeId}{x:AV}(hn:zt P s d=true):∃q:Option AV,∀hm,fm P hm s d x=q.map (·,hm):=by
 unfold zt at hn
 split at hn
 ·rename_i k1 k2 h1 h2
  unfold fm
  simp only[h1,h2]
  cases x<;>first|exact⟨none,fun hm=>rfl⟩|exact⟨_,fun hm=>rfl⟩
 ·cases hn
theorem QS{hm:ae}{ts:Array TypeId}{ty:TypeId}{xs:List AV}:bK P hm .max ts ty xs=(match flatAll xs with|some l=>(bQ P (Builtin.max_ ts ty l.toArray)).bind eS|none=>none).map (·,hm):=by
 rcases xs with _|⟨x,_|⟨y,xs⟩⟩<;>(unfold bK;simp only[];cases flatAll _<;>rfl)
theorem QT{hm:ae}{ts:Array TypeId}{ty:TypeId}{xs:List AV}:bK P hm .min ts ty xs=(match flatAll xs with|some l=>(bQ P (Builtin.min_ ts ty l.toArray)).bind eS|none=>none).map (·,hm):=by
 rcases xs with _|⟨x,_|⟨y,xs⟩⟩<;>(unfold bK;simp only[];cases flatAll _<;>rfl)
theorem uk{o:Oper}(hg:o.guard=none)(hq:oj o.op=true)(hop:∀er:Env,∃q:Option AV,∀hm,dC P G (whole P G prims) er hm o=q.map fun x=>(.ret x,er,hm)){ops:Array Oper}{en:Env}{hn:ae}
 (hall:br P G (whole P G prims) ops (List.range ops.size) e h=some (.normal,en,hn)) {k:Nat} (ho:ops[k]?=some o):sY P G (whole P G prims) ops e h k:=by
 have hklt:k<ops.size:=(Array.getElem?_eq_some_iff.1 ho).1
 obtain⟨-,tr,st⟩:=trace hall
 obtain⟨s1,-⟩:=st k hklt
 obtain⟨q,hq1⟩:=hop (cK P G (whole P G prims) ops e h k).1
 unfold dR at s1
 simp only[ho,bg,hg,hq1] at s1
 cases hx:q with
 |none=>rw[hx] at s1;simp at s1
 |some x=>exact⟨o,x,_,_,ho,hq,tr k (Nat.le_of_lt hklt),fun m hm=>⟨_,_,tr m hm,by rw[hq1,hx];rfl⟩⟩
theorem tE{ops:Array Oper}(hL:jo prims L){en:Env}{hn:ae}(hall:br P G (whole P G prims) ops (List.range ops.size) e h=some (.normal,en,hn)){k:Nat}(hk:vq P ops L k=true):sY P G (whole P G prims) ops e h k:=by
 unfold vq at hk
 split at hk
 ·rename_i o ho
  simp only[Bool.and_eq_true,Option.isNone_iff_eq_none] at hk
  obtain⟨hg,hk⟩:=hk
  split at hk
  ·rename_i f args ts hop
   obtain⟨q,hq⟩:=hL f (by simpa using hk)
   refine uk hg (by rw[hop];rfl) (fun er=>⟨q (args.toList.map er.eval),fun hm=>?_⟩) hall ho
   have:dC P G (whole P G prims) er hm o=(eI P (whole P G prims) er hm {callee:= .value (.func f),args,argTypes:=ts}).map fun(r,h1)=>(r,er,h1):=by
    unfold dC
    rw[hop]
   rw[this,xc,lu]
   unfold gQ
   rw[hq]
   simp only[Option.map_map]
   rfl
  ·rename_i args ts hop
   refine uk hg (by rw[hop];rfl) (fun er=>⟨match flatAll (args.toList.map er.eval) with|some l=>(bQ P (Builtin.max_ ts o.type l.toArray)).bind eS|none=>none,fun hm=>?_⟩) hall ho
   ·unfold dC
    simp only[hop]
    show(bK P hm .max ts o.type (args.toList.map er.eval)).map _=_
    rw[QS,Option.map_map];rfl
  ·rename_i args ts hop
   refine uk hg (by rw[hop];rfl) (fun er=>⟨match flatAll (args.toList.map er.eval) with|some l=>(bQ P (Builtin.min_ ts o.type l.toArray)).bind eS|none=>none,fun hm=>?_⟩) hall ho
   ·unfold dC
    simp only[hop]
    show(bK P hm .min ts o.type (args.toList.map er.eval)).map _=_
    rw[QT,Option.map_map];rfl
  ·rename_i s d x hop
   refine uk hg (by rw[hop];rfl) (fun er=>?_) hall ho
   obtain⟨q,hq⟩:=Ju (P:=P) (x:=er.eval x) hk
   refine⟨q,fun hm=>?_⟩
   unfold dC
   simp only[hop,aO,hq,Option.map_map]
   rfl
  ·cases hk
 ·cases hk
theorem bU{id:Nat}{ops:Array Oper}(ps:List (Nat × Nat))(hL:jo prims L)(hd:mF ops (zu P ops L) ps=true)(hs:∀p∈ps,cX P G (whole P G prims) ops e h p.1 p.2=true)
 (hr:cz P G (whole P G prims) ops ops.toList e h (rh Q)):Run (whole P G prims) (.region id ops true) e h Q:=by
 have hr':=hr
 obtain⟨o,en,hn,h1,h2⟩:=hr'
 cases o with
 |normal=>
  have hall:br P G (whole P G prims) ops (List.range ops.size) e h=some (.normal,en,hn):=by
   rw[dM (Nat.le_refl _),<-Array.length_toList,List.take_length];exact h1
  exact oB (sD hd (fun k hk=>tE hL hall (List.mem_filter.1 hk).2) hs) hr
 |_=>exact h2.elim
theorem bf{id:Nat}{ops:Array Oper}(hL:jo prims L)(hd:mF ops (zu P ops L) []=true)
 (hr:cz P G (whole P G prims) ops ops.toList e h (rh Q)):Run (whole P G prims) (.region id ops true) e h Q:=bU [] hL hd (fun p hp=>nomatch hp) hr
end
end Go.AE
end
section
namespace Go.AE
structure fi(S:List Nat)(n0:Nat)(h h':ae):Prop where
 box:∀(c:Nat) (cs:List AV),c∉S->h.boxes[c]?=some cs->h'.boxes[c]?=some cs
 len:h.boxes.length<=h'.boxes.length
 loop:∀(l:Nat) (r:bE),h.loops[l]?=some r->h'.loops[l]?=some r
 tn:h.tn<=h'.tn
 dead:∀n,n<n0->n∈h'.dead->n∈h.dead
 ok:aZ h=true->aZ h'=true
section
variable {S S':List Nat} {n0:Nat} {h0 h h' h2:ae}
theorem fi.refl:fi S n0 h h:=⟨fun _ _ _ q=>q,Nat.le_refl _,fun _ _ q=>q,Nat.le_refl _,fun _ _ q=>q,fun q=>q⟩
theorem fi.trans(m:fi S n0 h h')(k:fi S n0 h' h2):fi S n0 h h2:=
 ⟨fun c cs hc hb=>k.box c cs hc (m.box c cs hc hb),Nat.le_trans m.len k.len,fun l r q=>k.loop l r (m.loop l r q),Nat.le_trans m.tn k.tn,fun n hn q=>m.dead n hn (k.dead n hn q),fun q=>k.ok (m.ok q)⟩
theorem fi.mono(m:fi S n0 h h')(hs:∀b∈S,b∈S'):fi S' n0 h h':=⟨fun c cs hc=>m.box c cs fun q=>hc (hs c q),m.len,m.loop,m.tn,m.dead,m.ok⟩
theorem fi.put{b:Nat}(hb:b∈S)(cs:List AV):fi S n0 h (h.put b cs):=
 ⟨fun c ds hc q=>by rw[av (fun(e:c=b)=>hc (by rw[e];exact hb))];exact q,by rw[dU];exact Nat.le_refl _,fun _ _ q=>q,Nat.le_refl _,fun _ _ q=>q,fun q=>q⟩
theorem fi.bZ(m:fi S n0 h h'){b:Nat}(hb:h.boxes.length<=b)(cs:List AV):fi S n0 h (h'.put b cs):=
 ⟨fun c ds hc q=>by
  have:=(List.getElem?_eq_some_iff.1 q).1
  rw[av (by omega)];exact m.box c ds hc q,by rw[dU];exact m.len,m.loop,m.tn,m.dead,m.ok⟩
theorem fi.push(m:fi S n0 h h')(cs:List AV):fi S n0 h (h'.push cs):=
 ⟨fun c ds hc q=>aj (m.box c ds hc q),by rw[az];exact Nat.le_succ_of_le m.len,m.loop,m.tn,m.dead,m.ok⟩
theorem fi.lD(m:fi S n0 h h')(r:bE):fi S n0 h (h'.loop r):=⟨m.box,m.len,fun l q hq=>AM (m.loop l q hq),m.tn,m.dead,m.ok⟩
theorem fi.bh(m:fi S n0 h h'){l:Nat}(hl:h.loops.length<=l)(r:bE):fi S n0 h (h'.bh l r):=
 ⟨m.box,m.len,fun k q hq=>by
  have:=(List.getElem?_eq_some_iff.1 hq).1
  rw[pX (by omega)];exact m.loop k q hq,m.tn,m.dead,m.ok⟩
theorem fi.sF(x:Ext h h')(hn:n0<=h.tn):fi S n0 h h':=⟨fun c cs _ hb=>x.box c cs hb,x.len,x.loop,x.tn,fun n hl hd=>x.dead n (Nat.lt_of_lt_of_le hl hn) hd,x.ok⟩
theorem fi.tS{n1:Nat}(m:fi S n1 h h')(hn:n0<=n1):fi S n0 h h':=⟨m.box,m.len,m.loop,m.tn,fun n hl hd=>m.dead n (Nat.lt_of_lt_of_le hl hn) hd,m.ok⟩
theorem Ext.O0(x:Ext h0 h)(m:fi S h0.tn h h')(hb:∀b∈S,h0.boxes.length<=b):Ext h0 h':=
 ⟨fun c cs q=>m.box c cs (fun hc=>by
  have:=hb c hc
  have:=(List.getElem?_eq_some_iff.1 q).1
  omega) (x.box c cs q),fun l r q=>m.loop l r (x.loop l r q),Nat.le_trans x.tn m.tn,fun n hn hd=>x.dead n hn (m.dead n hn hd),fun q=>m.ok (x.ok q)⟩
theorem Grown.O0{t:Tok}(g:Grown n0 h h' t):fi S n0 h h':=⟨fun c cs _ q=>g.box c cs q,by
 rcases Nat.lt_or_ge h'.boxes.length h.boxes.length with hlt|hge
 ·have h1:=g.box h'.boxes.length _ (List.getElem?_eq_getElem hlt)
  have:=(List.getElem?_eq_some_iff.1 h1).1
  omega
 ·exact hge,g.loop,g.tn,g.dead,fun _=>g.ok⟩
end
section
variable {P:Program} {G:Nat->Option (List AV)} {prims:FuncId->Option (List AV->ae->Option (AV × ae))} {H:ae} {l:Nat} {rec:bE} {args:List AV}
theorem Jv{Post:ae->Prop}(hr:H.loops[l]?=some rec)(hs:rec.params.size=args.length)(hst:rec.state= .ready)(hp:rec.pending=none)
 (ha:Run (whole P G prims) rec.assign (dD l rec args) H (fun o e1 h1=>o= .normal/\h1=H/\Run (whole P G prims) rec.body e1 (H.busy l rec) (fun o _ h2=>o= .normal/\h2.loops=(H.busy l rec).loops/\Post {h2 with loops:=H.loops}))):
 ∃H',(whole P G prims).round l args H=some (.ret (.v (.bool true)),H')/\H'.loops=H.loops/\Post H':=by
 obtain⟨o,e1,h1,q1,rfl,rfl,o2,e2,h2,q2,rfl,q3,q4⟩:=ha
 have hll:=(List.getElem?_eq_some_iff.1 hr).1
 have hb:(h1.busy l rec).loops[l]?=some {rec with state:= .busy}:=by
  show(h1.loops.set l _)[l]?=_
  simp[hll]
 refine⟨{h2 with loops:=h1.loops},jT hr hs ⟨_,e1,h1,q1,rfl,rec,hr,hst,.normal,e2,h2,q2,{rec with state:= .busy},by rw[q3];exact hb,rfl,?_⟩,rfl,q4⟩
 have hrec:{rec with state:=LoopState.ready,pending:=none}=rec:=by
  cases rec;cases hst;cases hp;rfl
 have hset:h2.loops.set l rec=h1.loops:=by
  rw[q3]
  show(h1.loops.set l _).set l rec=_
  rw[List.set_set]
  apply List.ext_getElem?
  intro k
  rw[List.getElem?_set]
  split
  ·rename_i e;subst e;exact hr.symm
  ·rfl
 show _=({h2 with loops:=h2.loops.set l {rec with state:=LoopState.ready,pending:=none}}:ae)
 rw[hrec,hset]
theorem pC{Post:ae->Prop}(hr:H.loops[l]?=some rec)(hs:rec.params.size=args.length)(hst:rec.state= .ready)(hp:rec.pending=none)
 (ha:Run (whole P G prims) rec.assign (dD l rec args) H (fun o e1 h1=>o= .normal/\h1=H/\Run (whole P G prims) rec.body e1 (H.busy l rec) (fun o _ h2=>o= .normal/\h2.loops=(H.busy l rec).loops/\Post {h2 with loops:=H.loops}))):
 ∃H',(whole P G prims).round l args H=some (.ret (.v (.bool true)),H')/\Post H':=by
 obtain⟨H',q1,_,q3⟩:=Jv hr hs hst hp ha
 exact⟨H',q1,q3⟩
end
end Go.AE
end
section
namespace Go.NT
theorem wG{α:Type}{f:α->Int}:∀{l:List α},(∀i∈l,f i=0)->bW (l.map f)=0:=by
 intro l
 induction l with
 |nil=>intro _;rfl
 |cons x l ih=>intro h;simp only[List.map_cons,bW];rw[h x List.mem_cons_self,ih fun i hi=>h i (List.mem_cons_of_mem _ hi)];rfl
theorem qC{α:Type}{f g:α->Int}:∀{l:List α},(∀i∈l,f i=g i)->bW (l.map f)=bW (l.map g):=by
 intro l
 induction l with
 |nil=>intro _;rfl
 |cons x l ih=>intro h;simp only[List.map_cons,bW];rw[h x List.mem_cons_self,ih fun i hi=>h i (List.mem_cons_of_mem _ hi)]
theorem Bc{α:Type}{f:α->Int}{p:α->Bool}:∀{l:List α},(∀i∈l,p i=false->f i=0)->bW ((l.filter p).map f)=bW (l.map f):=by
 intro l
 induction l with
 |nil=>intro _;rfl
 |cons x l ih=>
  intro h
  have ih:=ih fun i hi=>h i (List.mem_cons_of_mem _ hi)
  cases hp:p x
  ·rw[List.filter_cons_of_neg (by simp[hp]),ih]
   simp only[List.map_cons,bW]
   rw[h x List.mem_cons_self hp];omega
  ·rw[List.filter_cons_of_pos hp]
   simp only[List.map_cons,bW,ih]
theorem Bd{α:Type}{f g:α->Int}:∀{l:List α},bW (l.map fun i=>f i+g i)=bW (l.map f)+bW (l.map g):=by
 intro l
 induction l with
 |nil=>rfl
 |cons x l ih=>simp only[List.map_cons,bW,ih];omega
theorem rK{α:Type}{f:α->Int}{c:Int}:∀{l:List α},bW (l.map fun i=>c * f i)=c * bW (l.map f):=by
 intro l
 induction l with
 |nil=>simp[bW]
 |cons x l ih=>simp only[List.map_cons,bW,ih,Int.mul_add]
theorem xB{α β:Type}{f:α->β->Int}:∀{l:List α} {m:List β},bW (l.map fun i=>bW (m.map fun j=>f i j))=bW (m.map fun j=>bW (l.map fun i=>f i j)):=by
 intro l m
 induction l with
 |nil=>simp only[List.map_nil,bW];exact(wG fun _ _=>rfl).symm
 |cons x l ih=>simp only[List.map_cons,bW,ih];rw[<-Bd]
theorem oO{α:Type}{f g:α->Int}{q:Int}:∀{l:List α},(∀i∈l,q∣f i - g i)->q∣bW (l.map f) - bW (l.map g):=by
 intro l
 induction l with
 |nil=>intro _;simp[bW]
 |cons x l ih=>
  intro h
  simp only[List.map_cons,bW]
  have e:f x+bW (l.map f) - (g x+bW (l.map g))=(f x - g x)+(bW (l.map f) - bW (l.map g)):=by omega
  rw[e]
  exact Int.dvd_add (h x List.mem_cons_self) (ih fun i hi=>h i (List.mem_cons_of_mem _ hi))
theorem Gq{α β:Type}{l:List α}{f:α->β}{g:Nat->β}(h:∀i x,l[i]?=some x->f x=g i):l.map f=(List.range l.length).map g:=by
 apply List.ext_getElem
 ·simp
 ·intro i h1 h2
  rw[List.getElem_map,List.getElem_map,List.getElem_range]
  exact h i _ (List.getElem?_eq_getElem (by simpa using h1))
theorem vt(rows:List (List Int))(target:List Int):(cO rows target).length=target.length:=by unfold cO;simp
theorem vu{rows:List (List Int)}{target a:List Int}(h:a∈cO rows target):∃k,k<target.length/\a=rows.map (fun r=>at0 r k)++[at0 target k]:=by
 unfold cO at h
 obtain⟨k,hk,rfl⟩:=List.mem_map.1 h
 exact⟨k,List.mem_range.1 hk,rfl⟩
theorem Mx{rows:List (List Int)}{k i:Nat}{t:List Int}(hi:i<rows.length):at0 (rows.map (fun r=>at0 r k)++t) i=at0 (rows.getD i []) k:=by
 unfold at0
 rw[List.getD_eq_getElem?_getD,List.getElem?_append_left (by simpa using hi),List.getElem?_map,List.getElem?_eq_getElem hi,cU hi]
 rfl
theorem Be{rows:List (List Int)}{k:Nat}{x:Int}:at0 (rows.map (fun r=>at0 r k)++[x]) rows.length=x:=by
 unfold at0
 rw[List.getD_eq_getElem?_getD,List.getElem?_append_right (by simp)]
 simp
section
variable {rows:List (List Int)} {target l:List Int}
theorem xC(hr:∀r∈rows,∀x∈r,okF x)(ht:∀x∈target,okF x):(∀a∈cO rows target,a.length=rows.length+1)/\∀a∈cO rows target,∀x∈a,okF x:=by
 refine⟨fun a ha=>?_,fun a ha x hx=>?_⟩
 ·obtain⟨k,-,rfl⟩:=vu ha
  simp
 ·obtain⟨k,hk,rfl⟩:=vu ha
  rcases List.mem_append.1 hx with q|q
  ·obtain⟨r,h1,rfl⟩:=List.mem_map.1 q
   exact gU (hr r h1) k
  ·rw[List.mem_singleton] at q
   subst q
   exact gU ht k
theorem combine_sat(hr:∀r∈rows,∀x∈r,okF x)(ht:∀x∈target,okF x)(h:gi rows target=some l):
 l.length=rows.length/\(∀x∈l,okF x)/\∀k,k<target.length->Qi∣bW ((List.range rows.length).map fun i=>at0 l i * at0 (rows.getD i []) k) - at0 target k:=by
 obtain⟨t1,t2⟩:=xC hr ht
 unfold gi at h
 dsimp only at h
 split at h
 ·rename_i hall
  simp only[Option.some.injEq] at h
  subst h
  have hlast:∀i a,(cJ (cO rows target) rows.length).2.length<=i->(cJ (cO rows target) rows.length).1[i]?=some a->at0 a rows.length=0:=fun i a hi ha=>by
   rw[List.all_eq_true] at hall
   have:a∈(cJ (cO rows target) rows.length).1.drop (cJ (cO rows target) rows.length).2.length:=by
    refine List.mem_of_getElem? (i:=i - (cJ (cO rows target) rows.length).2.length) ?_
    rw[List.getElem?_drop]
    rw[show(cJ (cO rows target) rows.length).2.length+(i - (cJ (cO rows target) rows.length).2.length)=i by omega]
    exact ha
   simpa using hall a this
  have hs:=F9 t1 t2 hlast
  have R:=(pk t1 t2 (show rows.length<=rows.length+1 by omega)).1
  refine⟨po _ _,?_,fun k hk=>?_⟩
  ·have hok:∀(ps:List (Nat × Nat)) (y:List Int),(∀x∈y,okF x)->∀x∈ps.foldl (fun y p=>y.set p.1 (at0 ((cJ (cO rows target) rows.length).1.getD p.2 []) rows.length)) y,okF x:=by
    intro ps
    induction ps with
    |nil=>intro y hy;exact hy
    |cons p ps ih=>
     intro y hy
     refine ih _ fun x hx=>?_
     rcases List.mem_or_eq_of_mem_set hx with q|q
     ·exact hy x q
     ·rw[q]
      refine gU (fun z hz=>?_) _
      rcases Nat.lt_or_ge p.2 (cJ (cO rows target) rows.length).1.length with q2|q2
      ·rw[cU q2] at hz
       exact R.ok _ (List.getElem_mem q2) z hz
      ·rw[List.getD_eq_getElem?_getD,List.getElem?_eq_none q2] at hz
       simp at hz
   unfold gF
   exact hok _ _ fun x hx=>by rw[List.eq_of_mem_replicate hx];exact iJ
  ·have hm:rows.map (fun r=>at0 r k)++[at0 target k]∈cO rows target:=by
    unfold cO
    exact List.mem_map.2 ⟨k,List.mem_range.2 hk,rfl⟩
   have:=hs _ hm
   unfold Sat res dot at this
   rw[po,Be] at this
   have e:((List.range rows.length).map fun i=>at0 (gF (cJ (cO rows target) rows.length) rows.length) i * at0 (rows.map (fun r=>at0 r k)++[at0 target k]) i)=(List.range rows.length).map fun i=>at0 (gF (cJ (cO rows target) rows.length) rows.length) i * at0 (rows.getD i []) k:=
    List.map_congr_left fun i hi=>by rw[Mx (List.mem_range.1 hi)]
   rw[e] at this
   exact this
 ·cases h
end
theorem Dz{n:Nat}{at_:List Nat}{l:List Int}:(fS n at_ l).length=n:=by
 unfold fS
 rw[oJ (fun p=>at0 l p.2)];simp
theorem zv{n i:Nat}{at_:List Nat}{l:List Int}(h:i∉at_):at0 (fS n at_ l) i=0:=by
 unfold fS
 rw[ny (fun p=>at0 l p.2) _ _ fun p hp e=>h (by
  subst e
  obtain⟨p1,p2⟩:=p
  have:=List.mem_zipIdx hp
  simp only at this ⊢
  rw[this.2.2]
  exact List.getElem_mem _)]
 unfold at0
 rw[List.getD_eq_getElem?_getD,List.getElem?_replicate]
 split<;>rfl
theorem Bf{l:List Int}:∀(ps:List (Nat × Nat)) (y:List Int),(ps.map Prod.fst).Nodup->(∀p∈ps,p.1<y.length)->∀p∈ps,at0 (ps.foldl (fun y p=>y.set p.1 (at0 l p.2)) y) p.1=at0 l p.2:=by
 intro ps
 induction ps with
 |nil=>intro y _ _ p hp;cases hp
 |cons q ps ih=>
  intro y hn hy p hp
  rw[List.map_cons,List.nodup_cons] at hn
  rcases List.mem_cons.1 hp with rfl|hp
  ·rw[List.foldl_cons,ny (fun p=>at0 l p.2) _ _ fun p' hp' e=>hn.1 (List.mem_map.2 ⟨p',hp',e⟩),ui (hy p List.mem_cons_self),if_pos rfl]
  ·exact ih _ hn.2 (fun p hp=>by rw[List.length_set];exact hy p (List.mem_cons_of_mem _ hp)) p hp
theorem zip_fst(at_:List Nat):at_.zipIdx.map Prod.fst=at_:=by
 apply List.ext_getElem<;>simp
theorem Gs{n j i:Nat}{at_:List Nat}{l:List Int}(hn:at_.Nodup)(hb:∀i∈at_,i<n)(hj:at_[j]?=some i):at0 (fS n at_ l) i=at0 l j:=by
 unfold fS
 have hm:(i,j)∈at_.zipIdx:=by
  rw[List.mem_zipIdx_iff_getElem?]
  exact hj
 exact Bf at_.zipIdx (List.replicate n 0) (by rw[zip_fst];exact hn) (fun p hp=>by
  rw[List.length_replicate]
  refine hb _ ?_
  have:p.1∈at_.zipIdx.map Prod.fst:=List.mem_map.2 ⟨p,hp,rfl⟩
  rwa [zip_fst] at this) (i,j) hm
theorem Gu{n:Nat}{at_:List Nat}{l:List Int}(hl:∀x∈l,okF x):∀x∈fS n at_ l,okF x:=by
 have hok:∀(ps:List (Nat × Nat)) (y:List Int),(∀x∈y,okF x)->∀x∈ps.foldl (fun y p=>y.set p.1 (at0 l p.2)) y,okF x:=by
  intro ps
  induction ps with
  |nil=>intro y hy;exact hy
  |cons p ps ih=>
   intro y hy
   refine ih _ fun x hx=>?_
   rcases List.mem_or_eq_of_mem_set hx with q|q
   ·exact hy x q
   ·rw[q];exact gU hl _
 exact hok _ _ fun x hx=>by rw[List.eq_of_mem_replicate hx];exact iJ
theorem zw{owners who:List Int}{i:Nat}:i∈gV owners who↔i<owners.length/\at0 owners i∈who:=by
 unfold gV
 rw[List.mem_filter,List.mem_range,List.contains_iff_mem]
theorem Gv(owners who:List Int):(gV owners who).Nodup:=List.nodup_range.filter _
theorem fk{rows:List (List Int)}{owners:List Int}(h:bC rows owners=0):rows.length=owners.length/\rows.length<=64/\(∀r∈rows,r.length=aK rows/\0<r.length/\r.length<=64/\∀x∈r,okF x)/\∀x∈owners,0<=x/\x<=63:=by
 unfold bC at h
 split at h
 ·cases h
 ·rename_i h1
  simp only[Bool.or_eq_true,decide_eq_true_eq,List.any_eq_true,not_or,not_exists,not_and,Nat.not_lt] at h1
  split at h
  ·cases h
  ·rename_i h2
   have h2:rows.length=owners.length:=by simpa using h2
   split at h
   ·rename_i h3
    rw[List.all_eq_true] at h3
    have key:∀i (hi:i<rows.length),rows[i].length=(rows.getD 0 []).length/\0<rows[i].length/\(∀x∈rows[i],okF x)/\0<=at0 owners i/\at0 owners i<=63:=fun i hi=>by
     have:=h3 i (List.mem_range.2 hi)
     simp only[cU hi,Bool.and_eq_true,decide_eq_true_eq,List.all_eq_true] at this
     obtain⟨⟨⟨a,b⟩,c,d⟩,f⟩:=this
     refine⟨b,?_,fun x hx=>?_,c,d⟩
     ·rcases Nat.eq_zero_or_pos rows[i].length with q|q
      ·rw[List.length_eq_zero_iff] at q
       rw[q] at a;cases a
      ·exact q
     ·have:=f x hx
      unfold inQ at this
      simpa [okF] using this
    refine⟨h2,h1.1,fun r hr=>?_,fun x hx=>?_⟩
    ·obtain⟨i,hi,rfl⟩:=List.mem_iff_getElem.1 hr
     obtain⟨a,b,c,-⟩:=key i hi
     refine⟨?_,b,h1.2 _ hr,c⟩
     unfold aK
     rw[if_neg (by omega)];exact a
    ·obtain⟨i,hi,rfl⟩:=List.mem_iff_getElem.1 hx
     have:=(key i (by omega)).2.2.2
     rwa [bN hi] at this
   ·cases h
theorem fI{rows:List (List Int)}{owners:List Int}(h:bC rows owners=0):0<aK rows/\aK rows<=64:=by
 obtain⟨-,-,h3,-⟩:=fk h
 unfold aK
 split
 ·omega
 ·rename_i q
  have:=h3 (rows.getD 0 []) (by rw[cU (by omega)];exact List.getElem_mem _)
  exact⟨this.2.1,this.2.2.1⟩
theorem DA{n:Nat}(h:0<n):(ct n).length=n:=by unfold ct;simp;omega
theorem Gw{n k:Nat}:at0 (ct n) k=if k=0 then 1 else 0:=by
 unfold ct at0
 cases k with
 |zero=>rfl
 |succ k=>
  rw[List.getD_cons_succ,List.getD_eq_getElem?_getD,List.getElem?_replicate]
  split<;>rfl
theorem Gx{n:Nat}:∀x∈ct n,okF x:=by
 intro x hx
 unfold ct at hx
 rcases List.mem_cons.1 hx with rfl|q
 ·unfold okF;decide
 ·rw[List.eq_of_mem_replicate q];exact iJ
theorem e7{rows:List (List Int)}{owners who y:List Int}(h:bJ rows owners who=(y,true,0)):
 bC rows owners=0/\cS (-1) who=true/\y.length=rows.length/\(∀x∈y,okF x)/\(∀i,at0 owners i∉who->at0 y i=0)/\
  ∀k,k<aK rows->Qi∣bW ((List.range rows.length).map fun i=>at0 y i * at0 (rows.getD i []) k) - (if k=0 then 1 else 0):=by
 unfold bJ at h
 split at h
 ·simp at h
 ·rename_i hp
  have hp:bC rows owners=0:=by simpa using hp
  obtain⟨p1,p2,p3,p4⟩:=fk hp
  split at h
  ·simp at h
  ·rename_i hw
   split at h
   ·simp at h
   ·rename_i l hl
    simp only[Prod.mk.injEq,and_true] at h
    subst h
    have hb:∀i∈gV owners who,i<rows.length:=fun i hi=>by rw[p1];exact(zw.1 hi).1
    have hr:∀r∈(gV owners who).map (fun i=>rows.getD i []),∀x∈r,okF x:=fun r hr=>by
     obtain⟨i,hi,rfl⟩:=List.mem_map.1 hr
     rw[cU (hb i hi)]
     exact(p3 _ (List.getElem_mem _)).2.2.2
    obtain⟨c1,c2,c3⟩:=combine_sat hr Gx hl
    rw[List.length_map] at c1 c3
    have hout:∀i,i∉gV owners who->at0 (fS rows.length (gV owners who) l) i=0:=fun i hi=>zv hi
    refine⟨hp,by simpa using hw,Dz,Gu c2,fun i hi=>hout i fun q=>hi (zw.1 q).2,fun k hk=>?_⟩
    have:=c3 k (by rw[DA (fI hp).1];exact hk)
    rw[Gw] at this
    have e:bW ((List.range rows.length).map fun i=>at0 (fS rows.length (gV owners who) l) i * at0 (rows.getD i []) k)=bW ((List.range (gV owners who).length).map fun i=>at0 l i * at0 (((gV owners who).map fun i=>rows.getD i []).getD i []) k):=by
     have e1:gV owners who=(List.range rows.length).filter fun i=>who.contains (at0 owners i):=by unfold gV;rw[p1]
     have e2:=Bc (f:=fun i=>at0 (fS rows.length (gV owners who) l) i * at0 (rows.getD i []) k) (p:=fun i=>who.contains (at0 owners i)) (l:=List.range rows.length) fun i hi hq=>by
      rw[hout i fun q=>?_,Int.zero_mul]
      rw[List.contains_iff_mem.2 (zw.1 q).2] at hq;cases hq
     rw[<-e1] at e2
     rw[<-e2]
     congr 1
     refine Gq fun j i hj=>?_
     have hjl:=(List.getElem?_eq_some_iff.1 hj).1
     rw[Gs (Gv owners who) hb hj,cU (t:=(gV owners who).map fun i=>rows.getD i []) (by simpa using hjl),List.getElem_map]
     rw[(List.getElem?_eq_some_iff.1 hj).2]
    rw[e]
    exact this
end Go.NT
end
