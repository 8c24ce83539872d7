/-
  Plain: dealing, parts and signatures.
-/
import Derived.Test.YtnfciiiohoafaaaGreatDoorPI
set_option maxHeartbeats 64000000
set_option maxRecDepth 100000
set_option linter.unusedSimpArgs false
set_option linter.unusedVariables false
set_option linter.constructorNameAsVariable false
section
namespace Go.NT
def Gn:Nat:=4
theorem gZ:elem Gn=true:=by decide+kernel
theorem Bg{a b:Int}(h:Qi∣a - b):a%Qi=b%Qi:=Int.emod_eq_emod_iff_emod_sub_eq_zero.2 (Int.emod_eq_zero_of_dvd h)
theorem rL{a b:Int}(h:a%Qi=b%Qi):Qi∣a - b:=Int.dvd_of_emod_eq_zero (Int.emod_eq_emod_iff_emod_sub_eq_zero.1 h)
theorem vv{a b:Int}(h:Qi∣a - b):aY Gn a=aY Gn b:=mM (Bg h)
theorem wH{a:Int}(h:aY Gn a=1):Qi∣a:=by
 have hf:=mJ a
 have ha:Qi∣a - fmod a:=rL (by unfold fmod;rw[Int.emod_emod_of_dvd _ (Int.dvd_refl _)])
 by_cases h0:fmod a=0
 ·rw[h0,Int.sub_zero] at ha;exact ha
 ·exfalso
  have h1:aY Gn (fmod a * eZ (fmod a))=1:=by
   rw[oL gZ,Gd,h,jW,Nat.one_pow];rfl
  have h2:cq (fmod a) (eZ (fmod a))=1:=sG hf h0
  rw[fR] at h2
  have h3:aY Gn (fmod a * eZ (fmod a))=aY Gn 1:=mM (by rw[h2];rfl)
  rw[h1,Jc gZ] at h3
  cases h3
theorem My{a b:Int}(h:aY Gn a=aY Gn b):Qi∣a - b:=by
 refine wH ?_
 rw[Int.sub_eq_add_neg,mO gZ,h]
 exact Jd gZ b
theorem DB{a b:Int}(ha:okF a)(hb:okF b)(h:aY Gn a=aY Gn b):a=b:=by
 have:=Bg (My h)
 rwa [Int.emod_eq_of_lt ha.1 ha.2,Int.emod_eq_of_lt hb.1 hb.2] at this
theorem Jw{α:Type}{f:α->Nat}{a:α->Int}:∀{l:List α} (_:∀p∈l,f p=aY Gn (a p)) (k:Int),l.foldl (fun x p=>x * f p%P) (aY Gn k)=aY Gn (k+bW (l.map a)):=by
 intro l
 induction l with
 |nil=>intro _ k;simp[bW]
 |cons p l ih=>
  intro h k
  rw[List.foldl_cons,h p List.mem_cons_self,<-mO gZ,ih (fun q hq=>h q (List.mem_cons_of_mem _ hq))]
  simp only[List.map_cons,bW]
  congr 1;omega
theorem vw{α:Type}{f:α->Nat}{a:α->Int}{l:List α}(h:∀p∈l,f p=aY Gn (a p)):l.foldl (fun x p=>x * f p%P) 1=aY Gn (bW (l.map a)):=by
 have:=Jw h 0
 rw[xq,Int.zero_add] at this
 exact this
def oa(a b:List Int):Int:=(List.range a.length).foldl (fun x j=>cN x (cq (at0 a j) (at0 b j))) 0
theorem vx{α:Type}{f:α->Int}:∀{l:List α} (x:Int),Qi∣l.foldl (fun x j=>cN x (f j)) x - (x+bW (l.map f)):=by
 intro l
 induction l with
 |nil=>intro x;simp[bW]
 |cons j l ih=>
  intro x
  have h1:=ih (cN x (f j))
  simp only[List.foldl_cons,List.map_cons,bW]
  have h2:Qi∣cN x (f j) - (x+f j):=rL (by rw[jU,Int.emod_emod_of_dvd _ (Int.dvd_refl _)])
  have:=Int.dvd_add h1 h2
  rw[show l.foldl (fun x j=>cN x (f j)) (cN x (f j)) - (cN x (f j)+bW (l.map f))+(cN x (f j) - (x+f j))=l.foldl (fun x j=>cN x (f j)) (cN x (f j)) - (x+(f j+bW (l.map f))) by omega] at this
  exact this
theorem Bh{α:Type}{f:α->Int}{l:List α}{x:Int}(hx:okF x):okF (l.foldl (fun x j=>cN x (f j)) x):=by
 rcases List.eq_nil_or_concat l with rfl|⟨l',a,rfl⟩
 ·exact hx
 ·rw[List.concat_eq_append,List.foldl_append];exact oI _ _
theorem Mz(a b:List Int):okF (oa a b):=Bh iJ
theorem rM(a b:Int):Qi∣cq a b - a * b:=rL (by rw[fR,Int.emod_emod_of_dvd _ (Int.dvd_refl _)])
theorem Bi(a b:Int):Qi∣cN a b - (a+b):=rL (by rw[jU,Int.emod_emod_of_dvd _ (Int.dvd_refl _)])
theorem jg{a b c:Int}(h:Qi∣a - b)(k:Qi∣b - c):Qi∣a - c:=by
 have:=Int.dvd_add h k
 rwa [show a - b+(b - c)=a - c by omega] at this
theorem Ez(a b:List Int):Qi∣oa a b - bW ((List.range a.length).map fun j=>at0 a j * at0 b j):=by
 have h1:=vx (f:=fun j=>cq (at0 a j) (at0 b j)) (l:=List.range a.length) 0
 rw[Int.zero_add] at h1
 exact jg h1 (oO fun j _=>rM _ _)
def lU(aa row:List Int):Nat:=(List.range aa.length).foldl (fun x j=>x * aY (at0 aa j).toNat (at0 row j)%P) 1
def bO(rows:List (List Int))(s:List Int):List Int:=rows.map fun r=>oa r s
def ax(s:List Int):List Int:=s.map fun n=>((aY Gn n:Nat):Int)
theorem tF{s:List Int}{j:Nat}(hj:j<s.length):at0 (ax s) j=((aY Gn (at0 s j):Nat):Int):=by
 unfold ax
 have:j<(s.map fun n=>((aY Gn n:Nat):Int)).length:=by simpa using hj
 rw[bN this,bN hj,List.getElem_map]
theorem Jx{s row:List Int}(hl:row.length=s.length):lU (ax s) row=aY Gn (oa row s):=by
 unfold lU
 have hc:(ax s).length=s.length:=by unfold ax;simp
 rw[hc,vw (a:=fun j=>at0 row j * at0 s j) fun j hj=>by
  rw[tF (List.mem_range.1 hj),Int.toNat_natCast,<-oL gZ,Int.mul_comm]]
 refine(vv ?_).symm
 have:=Ez row s
 rwa [hl] at this
theorem zx{s:List Int}:(ax s).all aX=true:=by
 rw[List.all_eq_true]
 intro x hx
 obtain⟨n,-,rfl⟩:=List.mem_map.1 hx
 have:=iq gZ n
 unfold aX
 rw[Int.toNat_natCast,this,Bool.and_true]
 have h:=(elem_iff.1 this).1
 exact decide_eq_true (by omega)
theorem tW{rows:List (List Int)}{owners who y s:List Int}(h:bJ rows owners who=(y,true,0))(hs:s.length=aK rows):
 Qi∣bW ((List.range rows.length).map fun i=>at0 y i * at0 (bO rows s) i) - at0 s 0:=by
 obtain⟨hp,-,h1,h2,h3,h4⟩:=e7 h
 obtain⟨p1,p2,p3,p4⟩:=fk hp
 have hc:=fI hp
 have e1:Qi∣bW ((List.range rows.length).map fun i=>at0 y i * at0 (bO rows s) i) - bW ((List.range rows.length).map fun i=>bW ((List.range (aK rows)).map fun k=>at0 s k * (at0 y i * at0 (rows.getD i []) k))):=by
  refine oO fun i hi=>?_
  have hi:=List.mem_range.1 hi
  have hd:=Ez rows[i] s
  rw[(p3 _ (List.getElem_mem hi)).1] at hd
  have e:at0 (bO rows s) i=oa rows[i] s:=by
   unfold bO
   rw[bN (by simpa using hi),List.getElem_map]
  rw[e,cU hi]
  have:bW ((List.range (aK rows)).map fun k=>at0 s k * (at0 y i * at0 rows[i] k))=at0 y i * bW ((List.range (aK rows)).map fun k=>at0 rows[i] k * at0 s k):=by
   rw[<-rK]
   exact qC fun k _=>by rw[Int.mul_left_comm,Int.mul_comm (at0 s k)]
  rw[this,<-Int.mul_sub]
  exact Int.dvd_mul_of_dvd_right hd
 refine jg e1 ?_
 rw[xB]
 have e2:Qi∣bW ((List.range (aK rows)).map fun k=>bW ((List.range rows.length).map fun i=>at0 s k * (at0 y i * at0 (rows.getD i []) k))) - bW ((List.range (aK rows)).map fun k=>if k=0 then at0 s 0 else 0):=by
  refine oO fun k hk=>?_
  have:=h4 k (List.mem_range.1 hk)
  rw[rK]
  have e:(if k=0 then at0 s 0 else 0)=at0 s k * (if k=0 then 1 else 0):=by
   split
   ·rename_i q;subst q;rw[Int.mul_one]
   ·rw[Int.mul_zero]
  rw[e,<-Int.mul_sub]
  exact Int.dvd_mul_of_dvd_right this
 refine jg e2 ?_
 rw[vh (p:=0) _ hc.1 fun i _ hne=>if_neg hne,if_pos rfl,Int.sub_self]
 exact Int.dvd_zero _
def cT(owners:List Int)(ag:Int):List Nat:=(List.range owners.length).filter fun i=>decide (at0 owners i=ag)
def aM(rows:List (List Int))(owners:List Int)(l:List Pr):List Int:=(bJ rows owners (l.map Pr.ag)).1
def fh(y:List Int)(s:List (Int × Int)):Int:=s.foldl (fun a p=>cN a (cq (at0 y p.1.toNat) p.2)) 0
def nF(rows:List (List Int))(aa:List Int)(p:Int × Int):Bool:=inQ p.2&&decide (aY Gn p.2=lU aa (rows.getD p.1.toNat []))
def eQ(rows:List (List Int))(owners aa:List Int)(ag:Int)(s:List (Int × Int)):Bool:=decide (s.map Prod.fst=(cT owners ag).map fun(i:Nat)=>(i:Int))&&s.all (nF rows aa)
def gl(l:List Pr)(ag:Int):Option Pr:=l.find? fun p=>decide (p.ag=ag)
def aG(c0:Int)(text:List UInt8)(l:List Pr):Nat:=tw (dA c0 text l) c0 text
def rN(rows:List (List Int))(owners:List Int)(aa:List Int)(text:List UInt8)(l:List Pr)(ag:Int)(s:List (Int × Int))(d f:Int):Int × Int:=
 match gl l ag with
 |none=>(0,1)
 |some x=>
  if !(inQ d&&inQ f) then (0,1)
  else if !eQ rows owners aa ag s then (0,340)
  else if ¬((aY Gn d:Nat):Int)=x.d∨¬((aY Gn f:Nat):Int)=x.e then (0,420)
  else (cN (cN d (cq f (dP (at0 aa 0) text l ag))) (cq (aG (at0 aa 0) text l) (fh (aM rows owners l) s)),0)
def p9(rows:List (List Int))(owners:List Int)(aa:List Int)(text:List UInt8)(l:List Pr)(x:Pr):Nat:=
 gX (at0 aa 0) text l x * ((cT owners x.ag).foldl (fun a i=>a * aY (lU aa (rows.getD i [])) (at0 (aM rows owners l) i * aG (at0 aa 0) text l)%P) 1)%P
def tG(rows:List (List Int))(owners:List Int)(aa:List Int)(text:List UInt8)(l:List Pr)(ag z:Int):Bool × Int:=
 match gl l ag with
 |none=>(false,1)
 |some x=>if !inQ z then (false,1) else (decide (aY Gn z=p9 rows owners aa text l x),0)
def iO(key:Int)(text:List UInt8)(e s:Int):Bool:=aX key&&inQ e&&inQ s&&decide (e=((tw ((aY Gn s * aY key.toNat (-e)%P:Nat):Int) key text:Nat):Int))
theorem Jy(b:List UInt8):mK b<Q:=Nat.mod_lt _ (by decide)
theorem iP{x:Int}:inQ x=true↔okF x:=by unfold inQ okF;simp
theorem Bj(tag:List UInt8)(v:Vl):inQ ((mL tag v:Nat):Int)=true:=by
 rw[iP]
 have:=Jy (dV tag (fB v))
 unfold mL okF
 rw[qw]
 omega
theorem Gy{x n s:Int}{text:List UInt8}{e:Nat}(he:e=tw ((aY Gn n:Nat):Int) ((aY Gn x:Nat):Int) text)(hs:okF s)(h:Qi∣s - (n+e * x)):iO ((aY Gn x:Nat):Int) text e s=true:=by
 unfold iO
 have hx:=iq gZ x
 have e1:aX ((aY Gn x:Nat):Int)=true:=by
  unfold aX
  rw[Int.toNat_natCast,hx,Bool.and_true]
  have h:=(elem_iff.1 hx).1
  exact decide_eq_true (by omega)
 have e2:inQ ((e:Nat):Int)=true:=by rw[he];exact Bj _ _
 have e3:aY Gn s * aY (aY Gn x) (-(e:Int))%P=aY Gn n:=by
  rw[<-oL gZ,<-mO gZ]
  refine vv ?_
  have:s+x * -(e:Int) - n=s - (n+e * x):=by rw[Int.mul_neg,Int.mul_comm x];omega
  rw[this];exact h
 rw[e1,e2,iP.2 hs,Int.toNat_natCast,e3,<-he]
 simp
end Go.NT
end
section
namespace Go.NT
def mS(f:Nat->Int)(a:List Int)(c k:Nat):List Int:=(List.range a.length).map fun j=>if c<=j/\j<k then f j else at0 a j
section
variable {f:Nat->Int} {a own:List Int} {c k j r w:Nat} {t:List (List Int)}
theorem gm:(mS f a c k).length=a.length:=by unfold mS;simp
theorem rO(hj:j<a.length):at0 (mS f a c k) j=if c<=j/\j<k then f j else at0 a j:=by
 rw[bN (by rw[gm];exact hj)]
 unfold mS
 rw[List.getElem_map,List.getElem_range]
theorem Gz:mS f a c c=a:=by
 refine jV gm fun j hj=>?_
 rw[gm] at hj
 rw[rO hj,if_neg (by omega)]
theorem GA(hc:c<=k)(hk:k<a.length):(mS f a c k).set k (f k)=mS f a c (k+1):=by
 refine jV (by rw[List.length_set,gm,gm]) fun j hj=>?_
 rw[List.length_set,gm] at hj
 rw[ui (by rw[gm];exact hk),rO hj,rO hj]
 by_cases hjk:j=k
 ·subst hjk;rw[if_pos rfl,if_pos (by omega)]
 ·rw[if_neg hjk]
  by_cases q:c<=j/\j<k
  ·rw[if_pos q,if_pos (by omega)]
  ·rw[if_neg q,if_neg (by omega)]
theorem DC{n:Int}(hc:c<=a.length):mS (fun j=>cq (at0 a j) n) a c a.length=da c a n:=by
 unfold da
 refine jV (by rw[gm,List.length_append,List.length_map,List.length_take,List.length_drop];omega) fun j hj=>?_
 rw[gm] at hj
 rw[rO hj,kJ hc]
 by_cases q:j<c
 ·rw[if_neg (by omega),if_pos q]
 ·rw[if_pos (by omega),if_neg q]
  have hm:j - c<((a.drop c).map (cq · n)).length:=by rw[List.length_map,List.length_drop];omega
  rw[bN hm,List.getElem_map,List.getElem_drop,bN hj]
  congr 2
  omega
def pP(c:Nat)(own:List Int)(r j:Nat)(t:List (List Int)):List (List Int):=t.mapIdx fun i a=>if i<j/\i≠r then lE c a own else a
theorem Bk:(pP c own r j t).length=t.length:=by unfold pP;simp
theorem gJ(i:Nat):(pP c own r j t)[i]?=t[i]?.map fun a=>if i<j/\i≠r then lE c a own else a:=by
 unfold pP;rw[List.getElem?_mapIdx]
theorem GB:pP c own r 0 t=t:=by
 apply List.ext_getElem?
 intro i
 rw[gJ]
 cases t[i]?<;>simp
theorem GC:pP c own r (r+1) t=pP c own r r t:=by
 apply List.ext_getElem?
 intro i
 rw[gJ,gJ]
 congr 1
 funext a
 by_cases h:i<r/\i≠r
 ·rw[if_pos h,if_pos (by omega)]
 ·rw[if_neg h,if_neg (by omega)]
theorem GD:(pP c own r j t)[j]?=t[j]?:=by
 rw[gJ];cases t[j]?<;>simp
theorem Jz:(pP c own r j t)[r]?=t[r]?:=by
 rw[gJ];cases t[r]?<;>simp
theorem GF{a:List Int}(hj:t[j]?=some a)(hr:j≠r):(pP c own r j t).set j (lE c a own)=pP c own r (j+1) t:=by
 apply List.ext_getElem?
 intro i
 rw[List.getElem?_set,Bk]
 have hl:=(List.getElem?_eq_some_iff.1 hj).1
 split
 ·rename_i e;subst e
  try rw[if_pos hl]
  rw[gJ,hj,Option.map_some,if_pos ⟨Nat.lt_succ_self _,hr⟩]
 ·rename_i e
  rw[gJ,gJ]
  congr 1
  funext a
  by_cases h:i<j/\i≠r
  ·rw[if_pos h,if_pos (by omega)]
  ·rw[if_neg h,if_neg (by omega)]
theorem xD{j:Nat}(hr:r<=j)(hj:j<=t.length)(hz:∀k,r<=k->k<j->at0 (t.getD k []) c=0)(he:j<t.length->at0 (t.getD j []) c≠0):lF t r c=if j=t.length then none else some j:=by
 cases hf:lF t r c with
 |none=>
  by_cases e:j=t.length
  ·rw[if_pos e]
  ·exact absurd (vg hf (by omega) hr) (he (by omega))
 |some k=>
  obtain⟨k1,k2,k3⟩:=jf hf
  have hkj:j<=k:=by
   rcases Nat.lt_or_ge k j with h|h
   ·exact absurd (hz k k2 h) k3
   ·exact h
  rw[if_neg (by omega)]
  unfold lF at hf
  rw[List.find?_eq_some_iff_getElem] at hf
  obtain⟨-,i,hi,hik,hall⟩:=hf
  rw[List.getElem_range] at hik
  subst hik
  rcases Nat.lt_or_ge j i with h|h
  ·have:=hall j h
   rw[List.getElem_range] at this
   simp only[Bool.not_eq_true',Bool.and_eq_false_imp,decide_eq_true_eq,Bool.not_eq_false',decide_eq_true_eq] at this
   exact absurd (this hr) (he (by omega))
  ·rw[Nat.le_antisymm h hkj]
theorem JA{pv:List Nat}{k:Nat}{b o:List Int}(hf:lF t pv.length c=some k)(hb:t[k]?=some b)(ho:t[pv.length]?=some o):
 pZ (t,pv) c=(pP c (da c b (eZ (at0 b c))) pv.length t.length (((t.set pv.length b).set k o).set pv.length (da c b (eZ (at0 b c)))),pv++[c]):=by
 have hk:=(List.getElem?_eq_some_iff.1 hb).1
 have hr:=(List.getElem?_eq_some_iff.1 ho).1
 have gb:t.getD k []=b:=by rw[List.getD_eq_getElem?_getD,hb];rfl
 have go:t.getD pv.length []=o:=by rw[List.getD_eq_getElem?_getD,ho];rfl
 unfold pZ
 simp only[hf,gb,go]
 congr 1
 generalize da c b (eZ (at0 b c))=s
 have e1:((t.set pv.length b).set k o).set pv.length s=(t.set k o).set pv.length s:=by
  by_cases e:k=pv.length
  ·subst e;simp
  ·rw[List.set_comm _ _ (fun q=>e q.symm),List.set_set]
 rw[e1]
 apply List.ext_getElem?
 intro i
 rw[List.getElem?_mapIdx,gJ]
 by_cases e:i=pv.length
 ·subst e
  rw[List.getElem?_set_self (by rw[List.length_set];exact hr)]
  simp
 ·cases hi:((t.set k o).set pv.length s)[i]? with
  |none=>rfl
  |some x=>
   have:=(List.getElem?_eq_some_iff.1 hi).1
   rw[List.length_set,List.length_set] at this
   simp[e,this]
end
end Go.NT
end
section
namespace Go.NT
def O1(l:List Pr)(ld le:Int->Int):Prop:=∀p∈l,p.d=((aY Gn (ld p.ag):Nat):Int)/\p.e=((aY Gn (le p.ag):Nat):Int)
theorem Bl(tag:List UInt8)(v:Vl):okF ((mL tag v:Nat):Int):=iP.1 (Bj tag v)
theorem sM(x:Nat)(tag:List UInt8)(v:Vl):y7 x (mL tag v)=aY x ((mL tag v:Nat):Int):=by
 unfold aY
 rw[ph (Bl tag v),Int.toNat_natCast]
theorem xE{text:List UInt8}{l:List Pr}{p:Pr}{d e:Int}(hd:p.d=((aY Gn d:Nat):Int))(he:p.e=((aY Gn e:Nat):Int))(c0:Int):
 gX c0 text l p=aY Gn (d+e * ((dP c0 text l p.ag:Nat):Int)):=by
 unfold gX
 rw[hd,he,Int.toNat_natCast,Int.toNat_natCast]
 unfold dP
 rw[sM,<-oL gZ,<-mO gZ]
theorem GG{text:List UInt8}{l:List Pr}{ld le:Int->Int}(h:O1 l ld le)(c0:Int):
 dA c0 text l=aY Gn (bW (l.map fun p=>ld p.ag+le p.ag * ((dP c0 text l p.ag:Nat):Int))):=by
 unfold dA
 exact vw fun p hp=>xE (h p hp).1 (h p hp).2 c0
def gK(owners sh:List Int)(k:Int):List (Int × Int):=(cT owners k).map fun i=>((i:Nat),at0 sh i)
def nG(y sh:List Int)(L:List Nat):Int:=bW (L.map fun i=>at0 y i * at0 sh i)
theorem JB(y owners sh:List Int)(k:Int):Qi∣fh y (gK owners sh k) - nG y sh (cT owners k):=by
 unfold fh gK nG
 rw[List.foldl_map]
 have h1:=vx (f:=fun i:Nat=>cq (at0 y i) (at0 sh i)) (l:=cT owners k) 0
 rw[Int.zero_add] at h1
 have e:(fun(a:Int) (i:Nat)=>cN a (cq (at0 y (((i:Nat):Int)).toNat) (at0 sh i)))=fun a i=>cN a (cq (at0 y i) (at0 sh i)):=by
  funext a i
  rw[Int.toNat_natCast]
 simp only[e]
 exact jg h1 (oO fun i _=>rM _ _)
theorem GH{α:Type}{f:α->Int}{p:α->Bool}:∀{l:List α},bW ((l.filter p).map f)=bW (l.map fun i=>if p i=true then f i else 0):=by
 intro l
 induction l with
 |nil=>rfl
 |cons x l ih=>
  cases hp:p x
  ·rw[List.filter_cons_of_neg (by simp[hp]),ih]
   simp only[List.map_cons,bW,hp]
   simp
  ·rw[List.filter_cons_of_pos hp]
   simp only[List.map_cons,bW,hp,ih]
   simp
theorem GI{n v:Int}:∀{who:List Int},who.Nodup->bW (who.map fun k=>if decide (n=k)=true then v else 0)=if n∈who then v else 0:=by
 intro who
 induction who with
 |nil=>intro _;rfl
 |cons k l ih=>
  intro h
  obtain⟨h1,h2⟩:=List.nodup_cons.1 h
  simp only[List.map_cons,bW,ih h2]
  by_cases hk:n=k
  ·subst hk
   simp[h1]
  ·simp[hk]
theorem GJ{owners y sh:List Int}{who:List Int}(hn:who.Nodup)(h0:∀i,at0 owners i∉who->at0 y i=0):
 bW (who.map fun k=>nG y sh (cT owners k))=bW ((List.range owners.length).map fun i=>at0 y i * at0 sh i):=by
 have e1:(fun k=>nG y sh (cT owners k))=fun k=>bW ((List.range owners.length).map fun i=>if decide (at0 owners i=k)=true then at0 y i * at0 sh i else 0):=by
  funext k
  exact GH
 rw[e1,xB]
 refine qC fun i _=>?_
 rw[GI hn]
 split
 ·rfl
 ·rename_i h
  rw[h0 i h,Int.zero_mul]
theorem nH:∀{last:Int} {who:List Int},cS last who=true->(∀n∈who,last<n/\n<=63)/\who.Nodup:=by
 intro last who
 induction who generalizing last with
 |nil=>intro _;exact⟨fun n hn=>by simp at hn,.nil⟩
 |cons n l ih=>
  intro h
  rw[cS] at h
  simp only[Bool.and_eq_true,decide_eq_true_eq] at h
  obtain⟨h1,h2⟩:=ih h.2
  refine⟨fun m hm=>?_,List.nodup_cons.2 ⟨fun hm=>?_,h2⟩⟩
  ·rcases List.mem_cons.1 hm with rfl|hm
   ·exact h.1
   ·have:=h1 m hm
    exact⟨by omega,this.2⟩
  ·have:=h1 n hm
   omega
def fD(rows:List (List Int))(owners aa:List Int)(text:List UInt8)(l:List Pr)(k d f:Int)(s:List (Int × Int)):Int:=
 cN (cN d (cq f (dP (at0 aa 0) text l k))) (cq (aG (at0 aa 0) text l) (fh (aM rows owners l) s))
theorem JC{rows:List (List Int)}{owners aa:List Int}{text:List UInt8}{l:List Pr}{k d f:Int}{s:List (Int × Int)}:okF (fD rows owners aa text l k d f s):=oI _ _
theorem Bm(rows:List (List Int))(owners aa:List Int)(text:List UInt8)(l:List Pr)(k d f:Int)(sh:List Int):
 Qi∣fD rows owners aa text l k d f (gK owners sh k) - (d+f * ((dP (at0 aa 0) text l k:Nat):Int)+((aG (at0 aa 0) text l:Nat):Int) * nG (aM rows owners l) sh (cT owners k)):=by
 unfold fD
 generalize ((dP (at0 aa 0) text l k:Nat):Int)=b
 generalize ((aG (at0 aa 0) text l:Nat):Int)=c
 have h1:=JB (aM rows owners l) owners sh k
 generalize fh (aM rows owners l) (gK owners sh k)=w at *
 generalize nG (aM rows owners l) sh (cT owners k)=v at *
 have h2:=Bi (cN d (cq f b)) (cq c w)
 have h3:=Bi d (cq f b)
 have h4:=rM f b
 have h5:=rM c w
 have h6:Qi∣c * (w - v):=Int.dvd_mul_of_dvd_right h1
 rw[Int.mul_sub] at h6
 have:=Int.dvd_add (Int.dvd_add (Int.dvd_add h2 h3) (Int.dvd_add h4 h5)) h6
 refine(congrArg (Qi∣·) ?_).mp this
 generalize f * b=x1
 generalize c * w=x2
 generalize c * v=x3
 omega
theorem GK{rows:List (List Int)}{owners y s:List Int}{text:List UInt8}{l:List Pr}{ld le:Int->Int}(ha:bJ rows owners (l.map Pr.ag)=(y,true,0))(hs:s.length=aK rows):
 Qi∣bW ((l.map Pr.ag).map fun k=>fD rows owners (ax s) text l k (ld k) (le k) (gK owners (bO rows s) k)) -
  (bW ((l.map Pr.ag).map fun k=>ld k+le k * ((dP (at0 (ax s) 0) text l k:Nat):Int))+((aG (at0 (ax s) 0) text l:Nat):Int) * at0 s 0):=by
 obtain⟨hp,hw,h1,h2,h3,h4⟩:=e7 ha
 obtain⟨p1,-,-,-⟩:=fk hp
 have hn:=(nH hw).2
 have e1:=oO (q:=Qi) (l:=l.map Pr.ag) (f:=fun k=>fD rows owners (ax s) text l k (ld k) (le k) (gK owners (bO rows s) k))
  (g:=fun k=>ld k+le k * ((dP (at0 (ax s) 0) text l k:Nat):Int)+((aG (at0 (ax s) 0) text l:Nat):Int) * nG (aM rows owners l) (bO rows s) (cT owners k))
  fun k _=>Bm rows owners (ax s) text l k (ld k) (le k) (bO rows s)
 refine jg e1 ?_
 rw[Bd,rK]
 have hy:aM rows owners l=y:=by unfold aM;rw[ha]
 rw[hy,GJ hn h3,<-p1]
 have h5:=tW ha hs
 have h6:Qi∣((aG (at0 (ax s) 0) text l:Nat):Int) * (bW ((List.range rows.length).map fun i=>at0 y i * at0 (bO rows s) i) - at0 s 0):=Int.dvd_mul_of_dvd_right h5
 rw[Int.mul_sub] at h6
 refine(congrArg (Qi∣·) ?_).mp h6
 omega
theorem JD{s:List Int}(h:0<s.length):at0 (ax s) 0=((aY Gn (at0 s 0):Nat):Int):=tF h
theorem DD(z:List Int):Qi∣z.foldl cN 0 - bW z:=by
 have:=vx (f:=fun x:Int=>x) (l:=z) 0
 rw[Int.zero_add,List.map_id'] at this
 exact this
theorem DE(z:List Int):okF (z.foldl cN 0):=Bh (f:=fun x:Int=>x) iJ
theorem QU{rows:List (List Int)}{owners y s:List Int}{text:List UInt8}{l:List Pr}{ld le:Int->Int}(ha:bJ rows owners (l.map Pr.ag)=(y,true,0))(hs:s.length=aK rows)(hl:O1 l ld le):
 iO (at0 (ax s) 0) text ((aG (at0 (ax s) 0) text l:Nat):Int) (((l.map Pr.ag).map fun k=>fD rows owners (ax s) text l k (ld k) (le k) (gK owners (bO rows s) k)).foldl cN 0)=true:=by
 obtain⟨hp,-⟩:=e7 ha
 have hpos:0<s.length:=by have:=(fI hp).1;omega
 have h1:=GK (text:=text) (ld:=ld) (le:=le) ha hs
 have h2:=DD ((l.map Pr.ag).map fun k=>fD rows owners (ax s) text l k (ld k) (le k) (gK owners (bO rows s) k))
 have h3:=jg h2 h1
 have hpt:=GG (text:=text) hl (at0 (ax s) 0)
 have e:(l.map Pr.ag).map (fun k=>ld k+le k * ((dP (at0 (ax s) 0) text l k:Nat):Int))=l.map fun p=>ld p.ag+le p.ag * ((dP (at0 (ax s) 0) text l p.ag:Nat):Int):=by
  rw[List.map_map];rfl
 rw[e] at h3
 have hc:aG (at0 (ax s) 0) text l=tw ((dA (at0 (ax s) 0) text l:Nat):Int) (at0 (ax s) 0) text:=rfl
 rw[hpt] at hc
 generalize aG (at0 (ax s) 0) text l=c at *
 generalize bW (l.map fun p=>ld p.ag+le p.ag * ((dP (at0 (ax s) 0) text l p.ag:Nat):Int))=n at *
 rw[JD hpos] at *
 exact Gy hc (DE _) h3
theorem sN{rows:List (List Int)}{s:List Int}{i:Nat}(h:i<rows.length):at0 (bO rows s) i=oa (rows.getD i []) s:=by
 unfold bO
 rw[bN (by simpa using h),List.getElem_map,cU h]
theorem JE{rows:List (List Int)}{owners s:List Int}{text:List UInt8}{l:List Pr}{x:Pr}{d f:Int}(hp:bC rows owners=0)(hs:s.length=aK rows)(hd:x.d=((aY Gn d:Nat):Int))(he:x.e=((aY Gn f:Nat):Int)):
 p9 rows owners (ax s) text l x=aY Gn (fD rows owners (ax s) text l x.ag d f (gK owners (bO rows s) x.ag)):=by
 obtain⟨p1,p2,p3,p4⟩:=fk hp
 unfold p9
 rw[xE hd he,vw (a:=fun i=>at0 (aM rows owners l) i * at0 (bO rows s) i * ((aG (at0 (ax s) 0) text l:Nat):Int)) fun i hi=>?_]
 rotate_left 1
 ·have hi:i<rows.length:=by
   rw[p1]
   unfold cT at hi
   exact List.mem_range.1 (List.mem_filter.1 hi).1
  rw[Jx (by rw[hs,cU hi];exact(p3 _ (List.getElem_mem _)).1),<-oL gZ,sN hi]
  congr 1
  rw[Int.mul_comm (at0 (aM rows owners l) i) (oa _ _),Int.mul_assoc]
 rw[<-mO gZ]
 refine(vv ?_).symm
 have h1:=Bm rows owners (ax s) text l x.ag d f (bO rows s)
 have e:bW ((cT owners x.ag).map fun i=>at0 (aM rows owners l) i * at0 (bO rows s) i * ((aG (at0 (ax s) 0) text l:Nat):Int))=((aG (at0 (ax s) 0) text l:Nat):Int) * nG (aM rows owners l) (bO rows s) (cT owners x.ag):=by
  unfold nG
  rw[<-rK]
  exact qC fun i _=>Int.mul_comm _ _
 rw[e]
 exact h1
theorem JF{rows:List (List Int)}{owners s:List Int}{text:List UInt8}{l:List Pr}{x:Pr}{d f z:Int}(hp:bC rows owners=0)(hs:s.length=aK rows)(hd:x.d=((aY Gn d:Nat):Int))(he:x.e=((aY Gn f:Nat):Int))(hz:okF z):
 decide (aY Gn z=p9 rows owners (ax s) text l x)=decide (z=fD rows owners (ax s) text l x.ag d f (gK owners (bO rows s) x.ag)):=by
 rw[JE hp hs hd he,decide_eq_decide]
 exact⟨fun h=>DB hz JC h,fun h=>by rw[h]⟩
theorem GL{rows:List (List Int)}{owners s:List Int}(hp:bC rows owners=0)(hs:s.length=aK rows)(k:Int):eQ rows owners (ax s) k (gK owners (bO rows s) k)=true:=by
 obtain⟨p1,p2,p3,p4⟩:=fk hp
 unfold eQ gK
 rw[Bool.and_eq_true]
 refine⟨by simp[List.map_map,Function.comp_def],?_⟩
 rw[List.all_eq_true]
 intro q hq
 obtain⟨i,hi,rfl⟩:=List.mem_map.1 hq
 have hi:i<rows.length:=by
  rw[p1]
  unfold cT at hi
  exact List.mem_range.1 (List.mem_filter.1 hi).1
 unfold nF
 simp only[Int.toNat_natCast]
 have hpe:lU (ax s) (rows.getD i [])=aY Gn (oa (rows.getD i []) s):=Jx (by rw[hs,cU hi];exact(p3 _ (List.getElem_mem _)).1)
 rw[sN hi,iP.2 (Mz _ _),Bool.true_and]
 exact decide_eq_true hpe.symm
theorem EA{l:List Pr}{last:Int}(h:dy last l=true){p:Pr}(hp:p∈l):gl l p.ag=some p:=by
 induction l generalizing last with
 |nil=>simp at hp
 |cons q l ih=>
  rw[dy] at h
  simp only[Bool.and_eq_true,decide_eq_true_eq] at h
  unfold gl
  rw[List.find?_cons]
  rcases List.mem_cons.1 hp with rfl|hp
  ·simp
  ·have hgt:∀{l:List Pr} {last:Int},dy last l=true->∀p∈l,last<p.ag:=by
    intro l
    induction l with
    |nil=>intro _ _ p hp;simp at hp
    |cons q l ih=>
     intro last h p hp
     rw[dy] at h
     simp only[Bool.and_eq_true,decide_eq_true_eq] at h
     rcases List.mem_cons.1 hp with rfl|hp
     ·exact h.1.1.1.1.1.1
     ·have:=ih h.2 p hp
      have:=h.1.1.1.1.1.1
      omega
   have:=hgt h.2 p hp
   have hne:decide (q.ag=p.ag)=false:=decide_eq_false (by omega)
   rw[hne]
   exact ih h.2 hp
theorem MA{rows:List (List Int)}{owners s:List Int}{text:List UInt8}{l:List Pr}{last:Int}(hp:bC rows owners=0)(hs:s.length=aK rows)(hl:dy last l=true){x:Pr}(hx:x∈l){d f:Int}(hd:x.d=((aY Gn d:Nat):Int))(he:x.e=((aY Gn f:Nat):Int))(od:okF d)(of_:okF f):
 rN rows owners (ax s) text l x.ag (gK owners (bO rows s) x.ag) d f=(fD rows owners (ax s) text l x.ag d f (gK owners (bO rows s) x.ag),0):=by
 unfold rN
 rw[EA hl hx]
 simp only[iP.2 od,iP.2 of_,GL hp hs,hd,he]
 simp[fD]
end Go.NT
end
section
namespace Go.Proofs.YtnfciiiohoafaaaGreatDoor
open Go.AE Go.NT
theorem QV:Tryz.f210.results.toList=[.tmp 2]:=kZq
theorem QW{t:TypeId}{x y:Operand}{n:Nat}(hn:n<=4611686018427387903):bB Tryz.prog .shl t x y (.v (.int .u64 (n:Nat))) (.v (.int .u64 1))=some (.v (.int .u64 ((2 * n:Nat):Int))):=by
 rw[y0 (by decide)]
 congr 3
 show IntKind.u64.wrap (((n:Nat):Int) * 2)=_
 unfold IntKind.wrap
 simp[IntKind.signed,IntKind.bits]
 omega
theorem QX{t:TypeId}{x y:Operand}{n:Nat}(hn:n<=4611686018427387903):bB Tryz.prog .shr t x y (.v (.int .i64 (n:Nat))) (.v (.int .u64 63))=some (.v (.int .i64 0)):=by
 rw[nr (by decide)]
 congr 3
 show((n:Nat):Int).fdiv (2^63)=_
 rw[Int.fdiv_eq_ediv_of_nonneg _ (by decide)]
 omega
theorem SW{t:TypeId}{x y:Operand}{n:Nat}(hn:n<=4611686018427387903):bB Tryz.prog .xor t x y (.v (.int .u64 ((2 * n:Nat):Int))) (.v (.int .u64 0))=some (.v (.int .u64 ((2 * n:Nat):Int))):=by
 rw[Ej]
 congr 3
 have e1:(BitVec.ofInt IntKind.u64.bits ((2 * n:Nat):Int)^^^BitVec.ofInt IntKind.u64.bits 0).toNat=2 * n:=by
  show(BitVec.ofInt 64 ((2 * n:Nat):Int)^^^0#64).toNat=2 * n
  rw[BitVec.xor_zero,BitVec.toNat_ofInt];omega
 rw[e1]
 unfold IntKind.wrap
 simp[IntKind.signed,IntKind.bits]
 omega
theorem JG{n:Nat}(hn:n<18446744073709551616):IntKind.u64.wrap ((n:Nat):Int)=((n:Nat):Int):=by
 unfold IntKind.wrap
 simp[IntKind.signed,IntKind.bits]
 omega
theorem Bn(n:Nat)(hn:n<=4611686018427387903)(h:ae):W.call 210 [.v (.int .i64 (n:Nat))] h=some (.ret (.v (.int .u64 (oK n:Nat))),h):=by
 have e:oK (n:Int)=2 * n:=by unfold oK;rw[if_pos (by omega),Int.toNat_natCast]
 rw[e]
 have e1:=JG (n:=n) (by omega)
 have e2:IntKind.u64.wrap 0=0:=rfl
 have s1:=fun t x y=>QW (t:=t) (x:=x) (y:=y) hn
 have s2:=fun t x y=>QX (t:=t) (x:=x) (y:=y) hn
 have s3:=fun t x y=>SW (t:=t) (x:=x) (y:=y) hn
 refine ar rfl Tryz.func210 rfl ?_
 repeat' (first|simp(maxSteps:=999999) (disch:=first|exact dZ|fail) only[gW,reduceIte,Nat.reduceEqDiff,beq_self_eq_true,QV,jY, *] | (refine dX ?_ ?_<;>(intro _;try omega)))
def L1:List FuncId:=[28,29,30,46,65,66,69,78,82,94,132,138,140,194,201,210,223,224]
noncomputable def DF:FuncId->Option (List AV->ae->Option (AV × ae)):=fx W L1
noncomputable abbrev W1:=whole Tryz.prog Gt DF
theorem Bo:jo DF L1:=nE
theorem bV{t:Nat}(k:Tok):oF t (di k)=true:=by cases k<;>rfl
theorem iQ:∀b:List UInt8,eF (u8s b)=u8s b
 | []=>rfl
 |c::b=>by
  show bM (dp c)::eF (u8s b)=_
  rw[iQ b];rfl
theorem fT{n l t:Nat}:∀b:List UInt8,gH n l t (u8s b)=true
 | []=>rfl
 |c::b=>by
  show(bA n l t (dp c)&&gH n l t (u8s b))=true
  rw[fT b];rfl
theorem xF:∀l:List Int,eF (ints l)=ints l
 | []=>rfl
 |c::b=>by
  show bM (nC c)::eF (ints b)=_
  rw[xF b];rfl
theorem fJ{n l t:Nat}:∀b:List Int,gH n l t (ints b)=true
 | []=>rfl
 |c::b=>by
  show(bA n l t (nC c)&&gH n l t (ints b))=true
  rw[fJ b];rfl
section
variable (a b n x:Int)
theorem SX:∀h,W1.call 28 [im a,im b] h=some (.ret (im (cN a b)),h):=aF (L:=L1) rfl rfl rfl (OG a b _) rfl rfl
theorem SY:∀h,W1.call 29 [im a,im b] h=some (.ret (im (cq a b)),h):=aF (L:=L1) rfl rfl rfl (Dl a b _) rfl rfl
theorem JH:∀h,W1.call 201 [im n] h=some (.ret (.tuple [im (if fmod n=0 then 0 else eZ n),im (if fmod n=0 then 90 else 0)]),h):=aF (L:=L1) rfl rfl rfl (Dn n _) rfl rfl
theorem O2:∀h,W1.call 46 [im x] h=some (.ret (.v (.bool (aX x))),h):=aF (L:=L1) rfl rfl rfl (rF x _) rfl rfl
theorem QY:∀h,W1.call 69 [im a,im b] h=some (.ret (.tuple [im (pO a b),im (mP a b)]),h):=aF (L:=L1) rfl rfl rfl (Mn a b _) rfl rfl
theorem QZ:∀h,W1.call 30 [im a,im n] h=some (.ret (.tuple [im (iL a n),im (lG a)]),h):=by
 obtain⟨h',hc,-⟩:=Mq a n ⟨[],[],0,[]⟩
 exact aF (L:=L1) rfl rfl rfl hc rfl rfl
end
theorem GN(n:Nat)(hn:n<=4611686018427387903):∀h,W1.call 210 [.v (.int .i64 (n:Nat))] h=some (.ret (.v (.int .u64 (oK n:Nat))),h):=aF (L:=L1) rfl rfl rfl (Bn n hn _) rfl rfl
theorem O4(tag b:List UInt8)(k:Tok)(hb:b.length<=1099511620000)(ht:tag.length<=1099511620000):∀h,W1.call 78 [.v (.string (bs tag)),.list k 1 (u8s b)] h=some (.ret (im (mK (dV tag b):Nat)),h):=by
 obtain⟨h',hc,-⟩:=Jt tag b (.list (di k) 1 (u8s b)) ⟨[],[],0,[]⟩ (b9.list (ga _) fun _=>rfl) hb ht
 exact aF (L:=L1) (args':=[.v (.string (bs tag)),.list (di k) 1 (u8s b)]) rfl (by rw[bM,bM,au.eq_1,iQ];rfl) (by simp[bA,aV,bV,fT]) hc rfl rfl
def sv(s:List UInt8):AV:= .v (.string (bs s))
def cE(k n:Int)(s:List UInt8)(t:Tok)(sz:Nat)(rows:List (List AV)):List AV:=[im k,im n,sv s,.list t sz rows]
inductive eo:Vl->List AV->Prop
 |int (n:Int) (hn:0<=n/\n<=4611686018427387903):eo (.int n) (cE 1 n [] .nil 0 [])
 |text (s:List UInt8) (hs:s.length<=1099511620000):eo (.text s) (cE 2 0 s .nil 0 [])
 |list (l:List Vl) (k:Tok) (sz:Nat) (rows:List (List AV)) (hl:rows.length=l.length) (hs:rows≠[]->sz=4) (hm:rows.length<=1000000) (h:∀(i:Nat) v r,l[i]?=some v->rows[i]?=some r->eo v r):eo (.list l) (cE 3 0 [] k sz rows)
theorem eo.len{v:Vl}{r:List AV}(h:eo v r):r.length=4:=by
 cases h<;>rfl
theorem dB{k n:Int}{s:List UInt8}{t:Tok}{sz:Nat}{rows:List (List AV)}:(AV.agg (cE k n s t sz rows)).aC=some (cE k n s t sz rows):=rfl
theorem eo.cells{v:Vl}{r:List AV}(h:eo v r):(AV.agg r).aC=some r:=by
 cases h<;>rfl
theorem Bp:Tryz.f207.results.toList=[.tmp 2,.tmp 3]:=kZq
theorem O5:cZ Tryz.prog 96=some true:=kZq
theorem tX:bF Tryz.prog 96=some 4:=kZq
theorem Q2:cZ Tryz.prog 94=some false:=kZq
theorem ag9:cZ Tryz.prog 9=some false:=kZq
theorem ag4:cZ Tryz.prog 4=some false:=kZq
theorem Q3:bF Tryz.prog 246=some 4:=kZq
section
variable {H:ae} {b:Nat} {k n:Int} {s:List UInt8} {t:Tok} {sz:Nat} {rows:List (List AV)}
theorem MB(hb:H.boxes[b]?=some (cE k n s t sz rows)):ai Tryz.prog Gt H 3 (.ptr (.box b) 0)=some (.v (.int .i64 k)):=by rw[dc ag3 hb];rfl
theorem GO(hb:H.boxes[b]?=some (cE k n s t sz rows)):ai Tryz.prog Gt H 3 (.ptr (.box b) 1)=some (.v (.int .i64 n)):=by rw[dc ag3 hb];rfl
theorem GP(hb:H.boxes[b]?=some (cE k n s t sz rows)):ai Tryz.prog Gt H 9 (.ptr (.box b) 2)=some (.v (.string (bs s))):=by rw[dc ag9 hb];rfl
theorem vy(hb:H.boxes[b]?=some (cE k n s t sz rows)):ai Tryz.prog Gt H 94 (.ptr (.box b) 3)=some (.list t sz rows):=by rw[dc Q2 hb];rfl
theorem ldv{r:List AV}(hr:r.length=4)(hb:H.boxes[b]?=some r):ai Tryz.prog Gt H 96 (.ptr (.box b) 0)=some (.agg r):=by
 rw[cP O5 tX hb (by omega),List.drop_zero,<-hr,List.take_length]
end
theorem jL:(∀b,aJ Tryz.prog 96 (.ptr (.box b) 0) 0=some (.ptr (.box b) 0))/\(∀b,aJ Tryz.prog 96 (.ptr (.box b) 0) 1=some (.ptr (.box b) 1))/\(∀b,aJ Tryz.prog 96 (.ptr (.box b) 0) 2=some (.ptr (.box b) 2))/\∀b,aJ Tryz.prog 96 (.ptr (.box b) 0) 3=some (.ptr (.box b) 3):=⟨fun _=>kZq,fun _=>kZq,fun _=>kZq,fun _=>kZq⟩
def b4(a b c:Bool):List AV:=[.v (.bool false),.v (.bool a),.v (.bool b),.v (.bool c)]
theorem JI(a b c:Bool):fj Tryz.prog 246 [(1,.v (.bool a)),(2,.v (.bool b)),(3,.v (.bool c))]=some (.agg (b4 a b c)):=kZq
theorem Q4:(ej Tryz.prog 246).bind AV.aC=some (b4 false false false):=kZq
theorem JJ:(ej Tryz.prog 96).bind AV.aC=some (cE 0 0 [] .nil 0 []):=kZq
theorem JK(H:ae)(a b c:Bool):aA Tryz.prog (H.push (b4 false false false)) 246 (.ptr (.box H.boxes.length) 0) (.agg (b4 a b c))=some (H.push (b4 a b c)):=cQ rfl Q3 rfl rfl
theorem JL{b n:Nat}{k:IntKind}(hn:n<4):ay Tryz.prog 246 (.ptr (.box b) 0) (.v (.int k (n:Nat)))=some (.ptr (.box b) n):=by
 have h1:Tryz.prog.underlying 246=some (.array 4 4):=Tryz.underlying246
 have sz4:bF Tryz.prog 4=some 1:=kZq
 unfold ay
 simp only[h1,sz4]
 rw[if_pos ⟨by omega,by omega⟩]
 simp
theorem ixb{b:Nat}:ay Tryz.prog 246 (.ptr (.box b) 0) (.v (.int .i64 1))=some (.ptr (.box b) 1)/\ay Tryz.prog 246 (.ptr (.box b) 0) (.v (.int .i64 2))=some (.ptr (.box b) 2)/\ay Tryz.prog 246 (.ptr (.box b) 0) (.v (.int .i64 3))=some (.ptr (.box b) 3):=⟨JL (n:=1) (by decide),JL (n:=2) (by decide),JL (n:=3) (by decide)⟩
theorem ldb{H:ae}{b:Nat}{x y z:Bool}(hb:H.boxes[b]?=some (b4 x y z)):ai Tryz.prog Gt H 4 (.ptr (.box b) 1)=some (.v (.bool x))/\ai Tryz.prog Gt H 4 (.ptr (.box b) 2)=some (.v (.bool y))/\ai Tryz.prog Gt H 4 (.ptr (.box b) 3)=some (.v (.bool z)):=by
 refine⟨?_,?_,?_⟩<;>(rw[dc ag4 hb];rfl)
theorem O6{H:ae}{x:List AV}{p q r:Bool}:ai Tryz.prog Gt ((H.push x).push (b4 p q r)) 4 (.ptr (.box (H.push x).boxes.length) 1)=some (.v (.bool p))/\ai Tryz.prog Gt ((H.push x).push (b4 p q r)) 4 (.ptr (.box (H.push x).boxes.length) 2)=some (.v (.bool q))/\ai Tryz.prog Gt ((H.push x).push (b4 p q r)) 4 (.ptr (.box (H.push x).boxes.length) 3)=some (.v (.bool r)):=ldb (ak _ _)
theorem stv{H:ae}{v:Vl}{r:List AV}(hv:eo v r):aA Tryz.prog (H.push (cE 0 0 [] .nil 0 [])) 96 (.ptr (.box H.boxes.length) 0) (.agg r)=some (H.push r):=cQ hv.cells tX hv.len rfl
theorem ND{H:ae}{rows:List (List AV)}{i:Nat}{r:List AV}(hl:r.length=4)(hr:rows[i]?=some r):ai Tryz.prog Gt H 96 (.elem 4 rows i 0)=some (.agg r):=by
 rw[jm O5 tX hr (by omega),List.drop_zero,<-hl,List.take_length]
theorem qD:∀l m:List Vl,dN (l++m)=max (dN l) (dN m)
 | [],m=>by simp[dN]
 |v::l,m=>by rw[List.cons_append,dN,dN,qD l m,Nat.max_assoc]
theorem vz{l:List Vl}{i:Nat}{v:Vl}(h:l[i]?=some v):dN (l.take (i+1))=max (dN (l.take i)) (eD v):=by
 rw[a9 h,qD];simp[dN]
theorem vA(l:List Vl)(i:Nat):dN (l.take i)<=dN l:=by
 have:=qD (l.take i) (l.drop i)
 rw[List.take_append_drop] at this
 omega
theorem JM{l:List Vl}{i:Nat}{v:Vl}(h:l[i]?=some v):eD v<=dN l:=by
 have h1:=vz h
 have h2:=vA l (i+1)
 omega
theorem GQ{v:Vl}{r:List AV}(hv:eo v r):eD v<=100->∀h,∃h',W1.call 207 [.agg r] h=some (.ret (.tuple [.v (.int .i64 (eD v:Nat)),.v (.bool true)]),h')/\Ext h h':=by
 have u9:=Tryz.underlying9;have u94:=Tryz.underlying94
 have z:=Q4
 induction hv with
 |int n hn=>
  intro _ h
  refine dL rfl Tryz.func207 rfl ?_
  show Run _ _ _ _ (FT _ _ _ _ (.ret (.tuple [.v (.int .i64 0),.v (.bool true)])) _)
  repeat' (first|simp(maxSteps:=999999) (disch:=first|exact dZ|fail) only[gW,reduceIte,Nat.reduceEqDiff,beq_self_eq_true,Bp,JI,JK,dB,MB,GO,GP,vy,ixb,jL,O6,List.length_nil,Int.natCast_zero,decide_true, *] | (refine dX ?_ ?_<;>(intro _;try omega)))
  all_goals exact⟨_,rfl,(Ext.push _ _).trans (Ext.push _ _)⟩
 |text s hs=>
  intro _ h
  refine dL rfl Tryz.func207 rfl ?_
  show Run _ _ _ _ (FT _ _ _ _ (.ret (.tuple [.v (.int .i64 0),.v (.bool true)])) _)
  repeat' (first|simp(maxSteps:=999999) (disch:=first|exact dZ|fail) only[gW,reduceIte,Nat.reduceEqDiff,beq_self_eq_true,Bp,JI,JK,dB,MB,GO,GP,vy,ixb,jL,O6,List.length_nil,Int.natCast_zero,decide_true, *] | (refine dX ?_ ?_<;>(intro _;try omega)))
  all_goals exact⟨_,rfl,(Ext.push _ _).trans (Ext.push _ _)⟩
 |list l k sz rows hl hs hm hr ih=>
  intro hd h
  have kd:=ah.mk hd
  have kr:=ah.mk hr
  have kih:=ah.mk ih
  have kh:=ah.mk hs
  have kl:=ah.mk hl
  refine dL rfl Tryz.func207 rfl ?_
  clear hr ih hs hd hl
  by_cases h0:(rows.length:Int)=0
  all_goals
   repeat' (first|simp(maxSteps:=999999) (disch:=first|exact dZ|fail) only[gW,reduceIte,Nat.reduceEqDiff,beq_self_eq_true,Bp,JI,JK,dB,MB,GO,GP,vy,ixb,jL,O6,Int.natCast_zero,decide_true, *] | (refine dX ?_ ?_<;>(intro _;try omega)))
   refine aD (fun m e H=>∃i:Nat,i<=rows.length/\m=rows.length - i/\e.get 55= .list k sz rows/\e.get 56= .v (.int .i64 (rows.length:Nat))/\e.get 57= .v (.int .i64 i)/\e.get 2= .v (.int .i64 (dN (l.take i):Nat))/\e.defers=[]/\Ext h H) ?_ rows.length _ _ ?_
   rotate_left 1
   ·refine⟨0,Nat.zero_le _,rfl,?_,?_,?_,?_,?_,(Ext.push _ _).trans (Ext.push _ _)⟩<;>(first|assumption| (simp only[gW,reduceIte,Nat.reduceEqDiff,beq_self_eq_true]<;>first|rfl| (rw[h0])))
   rintro m e H ⟨i,hi,rfl,g55,g56,g57,g2,hd,hX⟩
   have kX:=ah.mk hX
   clear hX
   by_cases hlt:i<rows.length
   ·obtain⟨r,hr⟩:∃r,rows[i]?=some r:=⟨_,List.getElem?_eq_getElem hlt⟩
    obtain⟨v,hv⟩:∃v,l[i]?=some v:=⟨_,List.getElem?_eq_getElem (by have:=kl.out;omega)⟩
    have hrow:=kr.out i v r hv hr
    have h4:sz=4:=kh.out (by rintro rfl;simp at hlt)
    subst h4
    have hdl:eD (.list l)=dN l+1:=rfl
    have hdv:=JM hv
    have hdt:=vA l i
    have hdk:=kd.out
    obtain⟨H2,c1,x1⟩:=kih.out i v r hv hr (by omega) (H.push r)
    have ld:=ND (H:=H) hrow.len hr
    have st:=stv (H:=H) hrow
    have l2:ai Tryz.prog Gt (H.push r) 96 (.ptr (.box H.boxes.length) 0)=some (.agg r):=ldv hrow.len (ak _ _)
    have zz:=JJ
    have s96:=tX
    have kX2:=ah.mk (kX.out.trans ((Ext.push H r).trans x1))
    have kst:=ah.mk (vz hv)
    have hlI:(i:Int)<(rows.length:Int):=by omega
    clear kX hrow hv hr x1 hdl hdk
    have hmx:(if ((dN (l.take i):Nat):Int)<((eD v:Nat):Int) then ((eD v:Nat):Int) else ((dN (l.take i):Nat):Int))=((max (dN (l.take i)) (eD v):Nat):Int):=by
     split<;>omega
    repeat' (first|simp(maxSteps:=999999) (disch:=first|exact dZ|fail) only[gW,reduceIte,Nat.reduceEqDiff,beq_self_eq_true,Bp,al,pc, *] | (refine dX ?_ ?_<;>(intro _;try omega)))
    all_goals exact⟨rows.length - (i+1),by omega,i+1,by omega,rfl,by trivial,by trivial,by simp,by rw[kst.out],by trivial,kX2.out⟩
   ·have:i=rows.length:=by omega
    subst this
    have hdk:=kd.out
    have e1:l.take rows.length=l:=by rw[kl.out];exact List.take_length
    rw[e1] at g2
    have hdl:eD (.list l)=dN l+1:=rfl
    rw[hdl] at hdk ⊢
    have e2:((dN l+1:Nat):Int)=((dN l:Nat):Int)+1:=by omega
    repeat' (first|simp(maxSteps:=999999) (disch:=first|exact dZ|fail) only[gW,reduceIte,Nat.reduceEqDiff,beq_self_eq_true,Bp, *] | (refine dX ?_ ?_<;>(intro _;try omega)))
    all_goals exact⟨_,rfl,kX.out⟩
theorem JN:Tryz.f209.results.toList=[.tmp 4]:=kZq
theorem NF{H:ae}{k:Tok}{n0 sz:Nat}{es new:List UInt8}{x:AV}{t1:TypeId}(h1:(∃e,Tryz.prog.underlying t1=some (.slice e))∨Tryz.prog.underlying t1=some .string)(hx:eH H 1 x=some (u8s new))(hne:new≠[])(hl:es.length+new.length<=8796093022208)(hs:sz=1∨(es=[]/\k= .nil))(hk:bG n0 H k):
 bP Tryz.prog H #[28,t1] (.list k sz (u8s es)) x=some (.list (.free H.tn) 1 (u8s (es++new)),H.app k):=by
 obtain⟨i,q1,q2,q3,q4⟩:=in5
 have hb:=Nat.mul_le_mul hl q3
 have:=lI (t0:=28) (n0:=n0) (i:=i) (sz:=sz) (es:=u8s es) (new:=u8s new) Tryz.underlying28 h1 q1 (by omega) (by rw[q2];exact q4) (by rw[q2];exact hx) (by simpa using hne)
  (by rw[List.length_map,List.length_map];omega) (by rw[List.length_map,List.length_map];omega) (hs.imp (fun q=>q.trans q2.symm) fun q=>⟨by rw[q.1];rfl,q.2⟩) hk
 rw[this,q2]
 simp[u8s]
theorem JO{H:ae}{k k':Tok}{n0 sz:Nat}{es:List UInt8}{c:UInt8}(hl:es.length<8796093022208)(hs:sz=1∨(es=[]/\k= .nil))(hk:bG n0 H k):
 bP Tryz.prog H #[28,28] (.list k sz (u8s es)) (.list k' 1 [[u8v c]])=some (.list (.free H.tn) 1 (u8s (es++[c])),H.app k):=
 NF (new:=[c]) (.inl ⟨_,Tryz.underlying28⟩) rfl (by simp) (by simp;omega) hs hk
theorem JP(c:UInt8):aN Tryz.prog 28 1 [(0,u8v c)]=some (.list .tight 1 [[u8v c]]):=kZq
theorem Q5(c:Nat):c%256|||128=c%128+128:=by
 have h:∀d:Fin 256,(d.val|||128)=d.val%128+128:=by decide+kernel
 have:=h ⟨c%256,Nat.mod_lt _ (by decide)⟩
 simp only at this
 rw[this];omega
theorem O7{t:TypeId}{x y:Operand}(c:Nat):bB Tryz.prog .or t x y (.v (.int .u8 (IntKind.u8.wrap (c:Nat)))) (.v (.int .u8 128))=some (u8v (UInt8.ofNat (c%128+128))):=by
 have hw:IntKind.u8.wrap ((c:Nat):Int)=((c%256:Nat):Int):=by
  unfold IntKind.wrap
  simp[IntKind.signed,IntKind.bits]
 have ht:(UInt8.ofNat (c%128+128)).toNat=c%128+128:=by
  have:(UInt8.ofNat (c%128+128)).toNat=(c%128+128)%256:=UInt8.toNat_ofNat'
  omega
 unfold u8v
 rw[hw,C8,ht]
 congr 3
 have e1:BitVec.ofInt IntKind.u8.bits ((c%256:Nat):Int)=BitVec.ofNat 8 (c%256):=by
  apply BitVec.eq_of_toNat_eq
  show(BitVec.ofInt 8 ((c%256:Nat):Int)).toNat=(BitVec.ofNat 8 (c%256)).toNat
  rw[BitVec.toNat_ofInt,BitVec.toNat_ofNat];omega
 have e3:(BitVec.ofInt IntKind.u8.bits ((c%256:Nat):Int) |||BitVec.ofInt IntKind.u8.bits 128).toNat=c%128+128:=by
  rw[e1]
  show(BitVec.ofNat 8 (c%256) |||128#8).toNat=_
  rw[BitVec.toNat_or,BitVec.toNat_ofNat,Nat.mod_eq_of_lt (show c%256<2^8 by omega)]
  exact Q5 c
 rw[e3,yU (by omega) (by omega)]
theorem SZ{t:TypeId}{x y:Operand}{n:Nat}:bB Tryz.prog .shr t x y (.v (.int .u64 (n:Nat))) (.v (.int .u64 7))=some (.v (.int .u64 ((n/128:Nat):Int))):=by
 rw[nr (by decide)]
 congr 3
 show((n:Nat):Int).fdiv (2^7)=_
 rw[Int.fdiv_eq_ediv_of_nonneg _ (by decide)]
 simp
theorem et:∀(k u:Nat),(jH k u).length<=k+1
 |0,u=>by simp[jH]
 |k+1,u=>by
  rw[jH]
  split
  ·simp
  ·have:=et k (u/128)
   simp;omega
theorem qE(u:Nat)(hu:u<18446744073709551616)(es:List UInt8)(k:Tok)(sz n0:Nat)(h:ae)(ho:aZ h=true)(hk:bG n0 h k)(hn:n0<=h.tn)(hs:sz=1∨(es=[]/\k= .nil))(hl:es.length<=1099511627776):
 ∃r h',W1.call 209 [.list k sz (u8s es),.v (.int .u64 (u:Nat))] h=some (r,h')/\∃t,r= .ret (.list t 1 (u8s (es++jH 9 u)))/\Grown n0 h h' t:=by
 have kG:=ah.mk (Grown.refl hk ho)
 clear hk ho
 refine aL rfl Tryz.func209 rfl ?_
 repeat' (first|simp(maxSteps:=999999) (disch:=first|exact dZ|fail) only[gW,reduceIte,Nat.reduceEqDiff,beq_self_eq_true,JN, *] | (refine dX ?_ ?_<;>(intro _;try omega)))
 refine aD (fun m e H=>∃(j:Nat) (t:Tok) (cur:List UInt8) (s:Nat),j<=9/\m<2 * 128^j/\cur++jH j m=es++jH 9 u/\cur.length+j=es.length+9/\(s=1∨(cur=[]/\t= .nil))/\e.get 0= .list t s (u8s cur)/\e.get 1= .v (.int .u64 (m:Nat))/\e.defers=[]/\Grown n0 h H t) ?_ u _ _ ?_
 rotate_left 1
 ·exact⟨9,k,es,sz,Nat.le_refl _,by simpa using hu,rfl,rfl,hs,by exact gR,by exact gR,by exact gR,kG.out⟩
 clear kG hu
 rintro m e H ⟨j,t,cur,s,hj,hm,hq,hcl,hs,g0,g1,hd,hG⟩
 have kG:=ah.mk hG
 have can:=ah.mk hG.can
 clear hG
 by_cases h128:m<128
 ·have hnum:=Gc (k:=j) h128
  rw[hnum] at hq
  have uv:u8v (UInt8.ofNat m)= .v (.int .u8 ((m:Nat):Int)):=by
   have:(UInt8.ofNat m).toNat=m%256:=UInt8.toNat_ofNat'
   unfold u8v
   rw[this,Nat.mod_eq_of_lt (by omega)]
  have hge:¬((128:Int)<=((m:Nat):Int)):=by omega
  have ap:=JO (k':= .tight) (c:=UInt8.ofNat m) (show cur.length<8796093022208 by omega) hs can.out
  rw[hq] at ap
  have bl:=JP (UInt8.ofNat m)
  rw[uv] at ap bl
  clear hm h128 hnum hq uv
  repeat' (first|simp(maxSteps:=999999) (disch:=first|exact dZ|fail) only[gW,reduceIte,Nat.reduceEqDiff,beq_self_eq_true,JN,zj, *] | (refine dX ?_ ?_<;>(intro _;try omega)))
  exact⟨_,_,rfl,_,rfl,kG.out.app hn⟩
 ·obtain⟨j',rfl⟩:∃j',j=j'+1:=⟨j - 1,by
   rcases j with _|j
   ·omega
   ·omega⟩
  have hnum:=Gb (k:=j') (show 128<=m by omega)
  rw[hnum] at hq
  have hge:(128:Int)<=((m:Nat):Int):=by omega
  have bl:=JP (UInt8.ofNat (m%128+128))
  have ap:=JO (k':= .tight) (c:=UInt8.ofNat (m%128+128)) (show cur.length<8796093022208 by omega) hs can.out
  have kq:=ah.mk hq
  have km:=ah.mk hm
  clear hnum hq hm
  repeat' (first|simp(maxSteps:=999999) (disch:=first|exact dZ|fail) only[gW,reduceIte,Nat.reduceEqDiff,beq_self_eq_true,JN,zj,O7,SZ, *] | (refine dX ?_ ?_<;>(intro _;try omega)))
  refine⟨m/128,by omega,j',.free H.tn,cur++[UInt8.ofNat (m%128+128)],1,by omega,?_,?_,by simp;omega,.inl rfl,by trivial,by trivial,by trivial,kG.out.app hn⟩
  ·have:=km.out
   rw[Nat.pow_succ] at this
   omega
  ·rw[List.append_assoc];exact kq.out
theorem Q6:Tryz.f184.results.toList=[.tmp 0]:=kZq
theorem JQ:Tryz.f208.results.toList=[.tmp 4]:=kZq
theorem JR:Tryz.f211.results.toList=[.tmp 4]:=kZq
theorem xG:Tryz.f212.results.toList=[.tmp 5]:=kZq
def fM:AV:= .v .nilFunc
def lM(a:Nat):List AV:=[fM,.func (.func 208) [] [],.func (.func 211) [] [],.func (.func 212) [] [.ptr (.box a) 0]]
theorem Q7:bF Tryz.prog 207=some 1:=kZq
theorem Q8:cZ Tryz.prog 207=some false:=kZq
theorem Q9:cZ Tryz.prog 210=some false:=kZq
theorem Ra:bF Tryz.prog 210=some 1:=kZq
theorem Rb:fj Tryz.prog 237 []=some (.agg [fM,fM,fM,fM]):=kZq
theorem Rc:(ej Tryz.prog 210).bind AV.aC=some [.v (.pointer none)]:=kZq
theorem EB{b n:Nat}{k:IntKind}(hn:n<4):ay Tryz.prog 237 (.ptr (.box b) 0) (.v (.int k (n:Nat)))=some (.ptr (.box b) n):=by
 have h1:Tryz.prog.underlying 237=some (.array 4 209):=Tryz.underlying237
 have sz:bF Tryz.prog 209=some 1:=kZq
 unfold ay
 simp only[h1,sz]
 rw[if_pos ⟨by omega,by omega⟩]
 simp
theorem ixw{b:Nat}:ay Tryz.prog 237 (.ptr (.box b) 0) (.v (.int .i64 1))=some (.ptr (.box b) 1)/\ay Tryz.prog 237 (.ptr (.box b) 0) (.v (.int .i64 2))=some (.ptr (.box b) 2)/\ay Tryz.prog 237 (.ptr (.box b) 0) (.v (.int .i64 3))=some (.ptr (.box b) 3):=⟨EB (n:=1) (by decide),EB (n:=2) (by decide),EB (n:=3) (by decide)⟩
theorem vB{r:Ref}{o:Nat}:aJ Tryz.prog 209 (.ptr r o) 0=some (.ptr r o):=kZq
theorem stw{h:ae}{c q:List AV}{k:Nat}{f:Fn}{a b:List AV}(hc:c.length=4)(hk:k<4):aA Tryz.prog ((h.push c).push q) 207 (.ptr (.box h.boxes.length) k) (.func f a b)=some ((h.push (c.set k (.func f a b))).push q):=by
 rw[aW (xs:=[.func f a b]) rfl Q7 (aj (ak _ _)) rfl (by omega)]
 congr 1
 rw[A5 (by rw[az];omega),gg]
 congr 2
 unfold bI
 rw[List.set_eq_take_append_cons_drop,if_pos (by omega)]
 simp
theorem NG{H:ae}{a b:Nat}(hb:H.boxes[a]?=some [.ptr (.box b) 0]):ai Tryz.prog Gt H 210 (.ptr (.box a) 0)=some (.ptr (.box b) 0):=by rw[dc Q9 hb];rfl
theorem O8{h:ae}{c:List AV}:ai Tryz.prog Gt ((h.push c).push [.ptr (.box h.boxes.length) 0]) 210 (.ptr (.box (h.push [fM,fM,fM,fM]).boxes.length) 0)=some (.ptr (.box h.boxes.length) 0):=by
 refine NG ?_
 rw[az,<-az h c];exact ak _ _
theorem Rd{H:ae}{b:Nat}:aA Tryz.prog (H.push [.v (.pointer none)]) 210 (.ptr (.box H.boxes.length) 0) (.ptr (.box b) 0)=some (H.push [.ptr (.box b) 0]):=cQ rfl Ra rfl rfl
theorem GR(h:ae):W1.call 184 [] h=some (.ret (.ptr (.box h.boxes.length) 0),(h.push (lM (h.boxes.length+1))).push [.ptr (.box h.boxes.length) 0]):=by
 have z:=Rc
 have cs:(AV.agg [fM,fM,fM,fM]).aC=some [fM,fM,fM,fM]:=rfl
 have e:lM (h.boxes.length+1)=(([fM,fM,fM,fM].set 1 (.func (.func 208) [] [])).set 2 (.func (.func 211) [] [])).set 3 (.func (.func 212) [] [.ptr (.box (h.push [fM,fM,fM,fM]).boxes.length) 0]):=by rw[az];rfl
 rw[e]
 have l0:[fM,fM,fM,fM].length=4:=rfl
 have l1:([fM,fM,fM,fM].set 1 (.func (.func 208) [] [])).length=4:=rfl
 have l2:(([fM,fM,fM,fM].set 1 (.func (.func 208) [] [])).set 2 (.func (.func 211) [] [])).length=4:=rfl
 refine ar rfl Tryz.func184 rfl ?_
 repeat' (first|simp(maxSteps:=999999) (disch:=first|exact dZ|fail) only[gW,reduceIte,Nat.reduceEqDiff,beq_self_eq_true,Q6,Rb,Rd,O8,ixw,vB,stw, *] | (refine dX ?_ ?_<;>(intro _;try omega)))
def wfn:Vl->FuncId
 | .int _=>208
 | .text _=>211
 | .list _=>212
def JS(a:Nat):Vl->List AV
 | .list _=>[.ptr (.box a) 0]
 |_=>[]
theorem blk:aN Tryz.prog 28 1 [(0,.v (.int .u8 1))]=some (.list .tight 1 [[u8v 1]])/\aN Tryz.prog 28 1 [(0,.v (.int .u8 2))]=some (.list .tight 1 [[u8v 2]])/\aN Tryz.prog 28 1 [(0,.v (.int .u8 3))]=some (.list .tight 1 [[u8v 3]]):=⟨JP 1,JP 2,JP 3⟩
theorem GS(n:Nat)(hn:n<=4611686018427387903)(es:List UInt8)(k:Tok)(sz n0:Nat)(H:ae)(ho:aZ H=true)(hk:bG n0 H k)(h0:n0<=H.tn)(hs:sz=1∨(es=[]/\k= .nil))(hl:es.length<=1099511627000):
 ∃r' H',W1.call 208 [.list k sz (u8s es),.agg (cE 1 (n:Nat) [] .nil 0 [])] H=some (r',H')/\∃t,r'= .ret (.list t 1 (u8s (es++fB (.int (n:Nat)))))/\Grown n0 H H' t:=by
 have g1:Grown n0 H (H.push (cE 1 (n:Nat) [] .nil 0 [])) k:=(Grown.refl hk ho).push _
 have ap:=JO (H:=H.push (cE 1 (n:Nat) [] .nil 0 [])) (k':= .tight) (c:=1) (show es.length<8796093022208 by omega) hs g1.can
 have g2:=g1.app h0
 have hu:oK ((n:Nat):Int)<18446744073709551616:=by unfold oK;rw[if_pos (by omega)];omega
 obtain⟨r3,H3,c3,t3,rfl,g3⟩:=qE (oK ((n:Nat):Int)) hu (es++[1]) _ 1 n0 _ g2.ok g2.can (Nat.le_trans h0 g2.tn) (.inl rfl) (by simp;omega)
 have kG:=ah.mk (g2.trans g3)
 have ee:es++[1]++jH 9 (oK ((n:Nat):Int))=es++fB (.int (n:Nat)):=by rw[fB];simp
 rw[ee] at c3
 clear g1 g2 g3 ho hk hs ee hu
 refine aL rfl Tryz.func208 rfl ?_
 have cu:=GN n hn
 repeat' (first|simp(maxSteps:=999999) (disch:=first|exact dZ|fail) only[gW,reduceIte,Nat.reduceEqDiff,beq_self_eq_true,JQ,blk,dB,GO,jL,aT, *] | (refine dX ?_ ?_<;>(intro _;try omega)))
 refine bU [(2,4)] Bo kZq (fun p hp=>?_) ?_
 ·simp only[List.mem_singleton] at hp
  subst hp
  refine dI (x:= .ptr (.box H.boxes.length) 1) (v:= .v (.int .i64 (n:Nat))) kZq rfl rfl rfl kZq (by simp[cB,gB]) ?_ ?_<;>(simp only[List.take_succ_cons,List.take_zero];repeat' (first|simp(maxSteps:=999999) (disch:=first|exact dZ|fail) only[gW,reduceIte,Nat.reduceEqDiff,beq_self_eq_true,JQ,blk,dB,GO,jL,aT,and_self, *] | (refine dX ?_ ?_<;>(intro _;try omega))))
 repeat' (first|simp(maxSteps:=999999) (disch:=first|exact dZ|fail) only[gW,reduceIte,Nat.reduceEqDiff,beq_self_eq_true,JQ,blk,dB,GO,jL,aT, *] | (refine dX ?_ ?_<;>(intro _;try omega)))
 exact⟨_,_,rfl,_,rfl,kG.out⟩
theorem JT(H:ae)(s:List UInt8):eH H 1 (.v (.string (bs s)))=some (u8s s):=by
 unfold eH
 simp[bs]
theorem Re{H:ae}{k:Tok}{n0:Nat}{es s:List UInt8}(hl:es.length+s.length<=8796093022208)(hk:bG n0 H k)(ho:aZ H=true)(hn:n0<=H.tn):
 ∃t H',bP Tryz.prog H #[28,9] (.list k 1 (u8s es)) (.v (.string (bs s)))=some (.list t 1 (u8s (es++s)),H')/\Grown n0 H H' t:=by
 by_cases hs:s=[]
 ·subst hs
  obtain⟨i,q1,q2,q3,q4⟩:=in5
  refine⟨k,H,?_,Grown.refl hk ho⟩
  rw[Bb Tryz.underlying28 (.inr Tryz.underlying9) q1 (by omega) (by rw[q2];exact q4) (by rw[q2];exact JT H []) (.inl q2.symm),List.append_nil]
 ·exact⟨_,_,NF (.inr Tryz.underlying9) (JT H s) hs hl (.inl rfl) hk,Grown.one hk ho hn⟩
theorem O9(s:List UInt8):cH Tryz.prog 9 (.v (.string (bs s)))=some (.v (.int .i64 (s.length:Nat))):=by
 rw[uU Tryz.underlying9,np]
theorem DG(s:List UInt8)(hsl:s.length<=1099511620000)(es:List UInt8)(k:Tok)(sz n0:Nat)(H:ae)(ho:aZ H=true)(hk:bG n0 H k)(h0:n0<=H.tn)(hs:sz=1∨(es=[]/\k= .nil))(hl:es.length<=1099511627000):
 ∃r' H',W1.call 211 [.list k sz (u8s es),.agg (cE 2 0 s .nil 0 [])] H=some (r',H')/\∃t,r'= .ret (.list t 1 (u8s (es++fB (.text s))))/\Grown n0 H H' t:=by
 have g1:Grown n0 H (H.push (cE 2 0 s .nil 0 [])) k:=(Grown.refl hk ho).push _
 have ap:=JO (H:=H.push (cE 2 0 s .nil 0 [])) (k':= .tight) (c:=2) (show es.length<8796093022208 by omega) hs g1.can
 have g2:=g1.app h0
 obtain⟨r3,H3,c3,t3,rfl,g3⟩:=qE s.length (by omega) (es++[2]) _ 1 n0 _ g2.ok g2.can (Nat.le_trans h0 g2.tn) (.inl rfl) (by simp;omega)
 have g4:=g2.trans g3
 have nl:=et 9 s.length
 obtain⟨t4,H4,ap4,g5⟩:=Re (es:=es++[2]++jH 9 s.length) (s:=s) (by simp;omega) g3.can g3.ok (Nat.le_trans h0 (Nat.le_trans g2.tn g3.tn))
 have kG:=ah.mk (g4.trans g5)
 have ee:es++[2]++jH 9 s.length++s=es++fB (.text s):=by rw[fB];simp
 rw[ee] at ap4
 have b0:(H.push (cE 2 0 s .nil 0 [])).boxes[H.boxes.length]?=some (cE 2 0 s .nil 0 []):=ak _ _
 have b1:((H.push (cE 2 0 s .nil 0 [])).app k).boxes[H.boxes.length]?=some (cE 2 0 s .nil 0 []):=by rw[aT];exact b0
 have b3:H3.boxes[H.boxes.length]?=some (cE 2 0 s .nil 0 []):=g3.box _ _ b1
 have l1:=GP b1
 have l3:=GP b3
 have l0:=GP b0
 have sl:=O9 s
 have hw:=JG (n:=s.length) (by omega)
 clear g1 g2 g3 g4 g5 ho hk hs ee b0 b1 b3 nl
 refine aL rfl Tryz.func211 rfl ?_
 repeat' (first|simp(maxSteps:=999999) (disch:=first|exact dZ|fail) only[gW,reduceIte,Nat.reduceEqDiff,beq_self_eq_true,JR,blk,dB,jL,jY, *] | (refine dX ?_ ?_<;>(intro _;try omega)))
 refine bU [(2,4),(2,9),(7,9)] Bo kZq (fun p hp=>?_) ?_
 ·simp only[List.mem_cons,List.not_mem_nil,or_false] at hp
  rcases hp with rfl|rfl|rfl
  all_goals
   refine dI (x:= .ptr (.box H.boxes.length) 2) (v:= .v (.string (bs s))) kZq rfl rfl rfl kZq (by simp[cB,gB]) ?_ ?_<;>(simp only[List.take_succ_cons,List.take_zero];repeat' (first|simp(maxSteps:=999999) (disch:=first|exact dZ|fail) only[gW,reduceIte,Nat.reduceEqDiff,beq_self_eq_true,JR,blk,dB,jL,jY,and_self, *] | (refine dX ?_ ?_<;>(intro _;try omega))))
 repeat' (first|simp(maxSteps:=999999) (disch:=first|exact dZ|fail) only[gW,reduceIte,Nat.reduceEqDiff,beq_self_eq_true,JR,blk,dB,jL,jY, *] | (refine dX ?_ ?_<;>(intro _;try omega)))
 exact⟨_,_,rfl,_,rfl,kG.out⟩
def vC:Vl->Nat
 | .int _=>1
 | .text _=>2
 | .list _=>3
theorem ldk{H:ae}{x:Nat}{v:Vl}{r:List AV}(hv:eo v r)(hb:H.boxes[x]?=some r):ai Tryz.prog Gt H 3 (.ptr (.box x) 0)=some (.v (.int .i64 (vC v:Nat))):=by
 cases hv<;>exact MB hb
theorem ixk{b:Nat}{v:Vl}:ay Tryz.prog 237 (.ptr (.box b) 0) (.v (.int .i64 (vC v:Nat)))=some (.ptr (.box b) (vC v)):=by
 exact EB (by cases v<;>simp[vC])
theorem ldf{H:ae}{a b:Nat}{v:Vl}(hb:H.boxes[b]?=some (lM a)):ai Tryz.prog Gt H 207 (.ptr (.box b) (vC v))=some (.func (.func (wfn v)) [] (JS a v)):=by
 rw[dc Q8 hb]
 cases v<;>rfl
theorem GU{l:List Vl}{i:Nat}{v:Vl}(h:l[i]?=some v):jB (l.take (i+1))=jB (l.take i)++fB v:=by
 rw[a9 h,A0];simp[jB]
theorem MC(l:List Vl)(i:Nat):(jB (l.take i)).length<=(jB l).length:=by
 have:=A0 (l.take i) (l.drop i)
 rw[List.take_append_drop] at this
 rw[this,List.length_append];omega
mutual
theorem JU(v:Vl):∀r,eo v r->kL r r=true:=by
 intro r h
 cases h with
 |int n hn=>simp[cE,kL,cB,gB,im,sv,lY,eT]
 |text s hs=>simp[cE,kL,cB,gB,im,sv,lY,eT]
 |list l k sz rows hl hs hm hr=>
  have:=zy l rows hl hr
  simp[cE,kL,cB,gB,im,sv,this]
  cases k<;>simp[lY]
theorem zy(l:List Vl):∀rows:List (List AV),rows.length=l.length->(∀(i:Nat) v r,l[i]?=some v->rows[i]?=some r->eo v r)->eT rows rows=true:=by
 intro rows hl h
 match l,rows,hl,h with
 | [],[],_,_=>rfl
 |v::l,r::rows,hl,h=>
  rw[eT,JU v r (h 0 v r rfl rfl),zy l rows (by simpa using hl) fun i v r hv hr=>h (i+1) v r (by simpa using hv) (by simpa using hr)];rfl
end
theorem JV{v:Vl}{r:List AV}(hv:eo v r):∀(a b:Nat) (es:List UInt8) (k:Tok) (sz n0:Nat) (H:ae),H.boxes[a]?=some [.ptr (.box b) 0]->H.boxes[b]?=some (lM a)->aZ H=true->bG n0 H k->n0<=H.tn->(sz=1∨(es=[]/\k= .nil))->es.length+(fB v).length<=1099511627000->
 ∃r' H',W1.call (wfn v) (.list k sz (u8s es):: .agg r::JS a v) H=some (r',H')/\∃t,r'= .ret (.list t 1 (u8s (es++fB v)))/\Grown n0 H H' t:=by
 induction hv with
 |int n hn=>
  intro a b es k sz n0 H _ _ ho hk h0 hs hl
  obtain⟨m,rfl⟩:∃m:Nat,n=m:=⟨n.toNat,by omega⟩
  exact GS m (by omega) es k sz n0 H ho hk h0 hs (by omega)
 |text s hsl=>
  intro a b es k sz n0 H _ _ ho hk h0 hs hl
  exact DG s hsl es k sz n0 H ho hk h0 hs (by omega)
 |list l kl szl rows hll hsl hm hr ih=>
  intro a b es k sz n0 H ha hb ho hk h0 hs hl
  have sr:=zy l rows hll hr
  have kr:=ah.mk hr
  have kih:=ah.mk ih
  have ksl:=ah.mk hsl
  have kll:=ah.mk hll
  have enc:fB (.list l)=3::(jH 9 l.length++jB l):=by rw[fB]
  rw[enc] at hl ⊢
  have g1:Grown n0 H (H.push (cE 3 0 [] kl szl rows)) k:=(Grown.refl hk ho).push _
  have ap:=JO (H:=H.push (cE 3 0 [] kl szl rows)) (k':= .tight) (c:=3) (show es.length<8796093022208 by omega) hs g1.can
  have g2:=g1.app h0
  simp only[List.length_cons,List.length_append] at hl
  obtain⟨r3,H3,c3,t3,rfl,g3⟩:=qE l.length (by omega) (es++[3]) _ 1 n0 _ g2.ok g2.can (Nat.le_trans h0 g2.tn) (.inl rfl) (by simp;omega)
  have g4:=g2.trans g3
  have b0:(H.push (cE 3 0 [] kl szl rows)).boxes[H.boxes.length]?=some (cE 3 0 [] kl szl rows):=ak _ _
  have b1:((H.push (cE 3 0 [] kl szl rows)).app k).boxes[H.boxes.length]?=some (cE 3 0 [] kl szl rows):=by rw[aT];exact b0
  have b3:H3.boxes[H.boxes.length]?=some (cE 3 0 [] kl szl rows):=g3.box _ _ b1
  have l0:=vy b0
  have l1:=vy b1
  have l3:=vy b3
  have u94:=Tryz.underlying94
  have hw:=JG (n:=l.length) (by omega)
  have hlI:((rows.length:Nat):Int)=((l.length:Nat):Int):=by rw[hll]
  have kG:=ah.mk g4
  have kha:=ah.mk ha
  have khb:=ah.mk hb
  have kl2:=ah.mk hl
  have sv0:cB (.list kl szl rows) (.list kl szl rows)=true:=by
   rw[cB,sr,Bool.and_true]
   cases kl<;>simp[lY]
  clear g1 g2 g3 g4 ho hk hs b0 b1 b3 hr ih hsl hll sr ha hb hl
  show ∃r' H',W1.call 212 [.list k sz (u8s es),.agg (cE 3 0 [] kl szl rows),.ptr (.box a) 0] H=some (r',H')/\_
  refine aL rfl Tryz.func212 rfl ?_
  repeat' (first|simp(maxSteps:=999999) (disch:=first|exact dZ|fail) only[gW,reduceIte,Nat.reduceEqDiff,beq_self_eq_true,xG,blk,dB,jL,jY, *] | (refine dX ?_ ?_<;>(intro _;try omega)))
  refine bU [(2,4)] Bo kZq (fun p hp=>?_) ?_
  ·simp only[List.mem_singleton] at hp
   subst hp
   refine dI (x:= .ptr (.box H.boxes.length) 3) (v:= .list kl szl rows) kZq rfl rfl rfl kZq (sv0) ?_ ?_<;>(simp only[List.take_succ_cons,List.take_zero];repeat' (first|simp(maxSteps:=999999) (disch:=first|exact dZ|fail) only[gW,reduceIte,Nat.reduceEqDiff,beq_self_eq_true,xG,blk,dB,jL,jY,and_self, *] | (refine dX ?_ ?_<;>(intro _;try omega))))
  repeat' (first|simp(maxSteps:=999999) (disch:=first|exact dZ|fail) only[gW,reduceIte,Nat.reduceEqDiff,beq_self_eq_true,xG,blk,dB,jL,jY, *] | (refine dX ?_ ?_<;>(intro _;try omega)))
  refine aD (fun m e H1=>∃(i:Nat) (t:Tok),i<=l.length/\m=l.length - i/\e.get 0= .list t 1 (u8s (es++[3]++jH 9 l.length++jB (l.take i)))/\e.get 2= .ptr (.box a) 0/\e.get 17= .list kl szl rows/\e.get 18= .v (.int .i64 (l.length:Nat))/\e.get 19= .v (.int .i64 i)/\e.defers=[]/\Grown n0 H H1 t) ?_ l.length _ _ ?_
  rotate_left 1
  ·refine⟨0,t3,Nat.zero_le _,rfl,?_,?_,?_,?_,?_,?_,kG.out⟩<;>(first|assumption| (simp only[gW,reduceIte,Nat.reduceEqDiff,beq_self_eq_true,List.take_zero,jB,List.append_nil]<;>first|rfl| (rw[hlI])))
  clear c3 ap l0 l1 l3 kG hw
  rintro m e H1 ⟨i,t,hi,rfl,g0,g2,g17,g18,g19,hd,hG⟩
  have kG:=ah.mk hG
  clear hG
  by_cases hlt:i<l.length
  ·obtain⟨v,hv⟩:∃v,l[i]?=some v:=⟨_,List.getElem?_eq_getElem hlt⟩
   obtain⟨r,hr⟩:∃r,rows[i]?=some r:=⟨_,List.getElem?_eq_getElem (by omega)⟩
   have hrow:=kr.out i v r hv hr
   have h4:szl=4:=ksl.out (by rintro rfl;simp at hr)
   subst h4
   have gp:=kG.out.push r
   have es1:=GU hv
   have el:=MC l (i+1)
   rw[es1,List.length_append] at el
   have hl:=kl2.out
   have nl:=et 9 l.length
   obtain⟨r2,H2,c2,t2,rfl,g3⟩:=kih.out i v r hv hr a b (es++[3]++jH 9 l.length++jB (l.take i)) t 1 n0 (H1.push r) (gp.box _ _ kha.out) (gp.box _ _ khb.out) gp.ok gp.can (Nat.le_trans h0 gp.tn) (.inl rfl) (by simp;omega)
   rw[show es++[3]++jH 9 l.length++jB (l.take i)++fB v=es++[3]++jH 9 l.length++jB (l.take (i+1)) by rw[es1];simp] at c2
   have kG2:=ah.mk (gp.trans g3)
   have ld:=ND (H:=H1) hrow.len hr
   have st:=stv (H:=H1) hrow
   have l2:ai Tryz.prog Gt (H1.push r) 96 (.ptr (.box H1.boxes.length) 0)=some (.agg r):=ldv hrow.len (ak _ _)
   have l5:=ldk hrow (ak H1 r)
   have l6:=NG (gp.box _ _ kha.out)
   have l7:=ldf (v:=v) (gp.box _ _ khb.out)
   have ik:=ixk (b:=b) (v:=v)
   have zz:=JJ
   have s96:=tX
   have hlI2:(i:Int)<(rows.length:Int):=by omega
   generalize wfn v=fv at *
   generalize JS a v=cv at *
   generalize vC v=kv at *
   clear gp g3 es1 el hl nl hv hr hrow kG
   repeat' (first|simp(maxSteps:=999999) (disch:=first|exact dZ|fail) only[gW,reduceIte,Nat.reduceEqDiff,beq_self_eq_true,xG,al,jL,vB, *] | (refine dX ?_ ?_<;>(intro _;try omega)))
   refine bf Bo kZq ?_
   repeat' (first|simp(maxSteps:=999999) (disch:=first|exact dZ|fail) only[gW,reduceIte,Nat.reduceEqDiff,beq_self_eq_true,xG,al,jL,vB,List.nil_append,List.cons_append, *] | (refine dX ?_ ?_<;>(intro _;try omega)))
   exact⟨l.length - (i+1),by omega,i+1,t2,by omega,rfl,by trivial,by trivial,by trivial,by trivial,by simp,by trivial,kG2.out⟩
  ·have:i=l.length:=by omega
   subst this
   rw[List.take_length] at g0
   have ee:es++[3]++jH 9 l.length++jB l=es++3::(jH 9 l.length++jB l):=by simp
   rw[ee] at g0
   repeat' (first|simp(maxSteps:=999999) (disch:=first|exact dZ|fail) only[gW,reduceIte,Nat.reduceEqDiff,beq_self_eq_true,xG, *] | (refine dX ?_ ?_<;>(intro _;try omega)))
   exact⟨_,_,rfl,_,rfl,kG.out⟩
theorem Rf:Tryz.f183.results.toList=[.tmp 2]:=kZq
theorem EC:Tryz.f146.results.toList=[.tmp 2,.tmp 3]:=kZq
theorem JW{v:Vl}{r:List AV}(hv:eo v r)(hd:eD v<=16)(h:ae):∃h',W1.call 183 [.agg r] h=some (.ret (im 0),h')/\Ext h h':=by
 obtain⟨h1,c1,x1⟩:=GQ hv (by omega) (h.push r)
 have cs:=hv.cells
 have ld:=ldv hv.len (ak h r)
 have kx:=ah.mk ((Ext.push h r).trans x1)
 have hle:¬((16:Int)<((eD v:Nat):Int)):=by omega
 clear hv x1 hd
 unfold im
 refine dL rfl Tryz.func183 rfl ?_
 repeat' (first|simp(maxSteps:=999999) (disch:=first|exact dZ|fail) only[gW,reduceIte,Nat.reduceEqDiff,beq_self_eq_true,Rf, *] | (refine dX ?_ ?_<;>(intro _;try omega)))
 exact⟨_,rfl,kx.out⟩
theorem GV{v:Vl}{r:List AV}(hv:eo v r)(hd:eD v<=16)(hl:(fB v).length<=1099511627000)(h:ae)(ho:aZ h=true):
 ∃r' h',W1.call 146 [.agg r] h=some (r',h')/\∃t,r'= .ret (.tuple [.list t 1 (u8s (fB v)),.v (.int .i64 0)])/\Ext h h':=by
 obtain⟨h1,c1,x1⟩:=JW hv hd (h.push r)
 unfold im at c1
 have x2:=(Ext.push h r).trans x1
 have cs:=hv.cells
 have b0:=ak h r
 have b1:=x1.box _ _ b0
 have c2:=GR h1
 have b2:((h1.push (lM (h1.boxes.length+1))).push [.ptr (.box h1.boxes.length) 0]).boxes[h.boxes.length]?=some r:=aj (aj b1)
 have bb:((h1.push (lM (h1.boxes.length+1))).push [.ptr (.box h1.boxes.length) 0]).boxes[h1.boxes.length]?=some (lM (h1.boxes.length+1)):=aj (ak _ _)
 have ba:((h1.push (lM (h1.boxes.length+1))).push [.ptr (.box h1.boxes.length) 0]).boxes[h1.boxes.length+1]?=some [.ptr (.box h1.boxes.length) 0]:=cD (by rw[az])
 have x3:Ext h1 ((h1.push (lM (h1.boxes.length+1))).push [.ptr (.box h1.boxes.length) 0]):=(Ext.push _ _).trans (.push _ _)
 have ok3:=(x2.trans x3).ok ho
 obtain⟨r4,h4,c4,t,rfl,g4⟩:=JV hv (h1.boxes.length+1) h1.boxes.length [] .nil 0 h.tn _ ba bb ok3 (.inl rfl) (x2.trans x3).tn (.inr ⟨rfl,rfl⟩) (by simpa using hl)
 rw[List.nil_append] at c4
 have kX:=ah.mk (g4.ext (x2.trans x3) (Nat.le_refl _))
 have ld0:=ldv hv.len b0
 have ld1:=ldv hv.len b1
 have ld2:=ldv hv.len b2
 have lk1:=ldk hv b1
 have lk2:=ldk hv b2
 have lf:=ldf (v:=v) bb
 have ik:=ixk (b:=h1.boxes.length) (v:=v)
 have hsm:=JU v r hv
 have c4:W1.call (wfn v) (.list .nil 0 []:: .agg r::JS (h1.boxes.length+1) v) ((h1.push (lM (h1.boxes.length+1))).push [.ptr (.box h1.boxes.length) 0])=some (.ret (.list t 1 (u8s (fB v))),h4):=c4
 generalize wfn v=fv at *
 generalize JS (h1.boxes.length+1) v=cv at *
 generalize hkv:vC v=kv at *
 generalize hH3:(h1.push (lM (h1.boxes.length+1))).push [.ptr (.box h1.boxes.length) 0]=H3 at *
 have sv0:cB (.agg r) (.agg r)=true:=by rw[cB,hsm]
 clear hv x1 hd x2 b0 b1 b2 bb ba x3 ok3 g4 ho hl hsm hH3
 refine aL rfl Tryz.func146 rfl ?_
 repeat' (first|simp(maxSteps:=999999) (disch:=first|exact dZ|fail) only[gW,reduceIte,Nat.reduceEqDiff,beq_self_eq_true,EC,jL,vB,List.nil_append,List.cons_append, *] | (refine dX ?_ ?_<;>(intro _;try omega)))
 refine bU [(0,2),(0,7)] Bo kZq (fun p hp=>?_) ?_
 ·simp only[List.mem_cons,List.not_mem_nil,or_false] at hp
  rcases hp with rfl|rfl
  ·refine dI (x:= .ptr (.box h.boxes.length) 0) (v:= .v (.int .i64 (kv:Nat))) kZq rfl rfl rfl kZq (by simp[cB,gB]) ?_ ?_<;>(simp only[List.take_succ_cons,List.take_zero];repeat' (first|simp(maxSteps:=999999) (disch:=first|exact dZ|fail) only[gW,reduceIte,Nat.reduceEqDiff,beq_self_eq_true,EC,jL,vB,and_self, *] | (refine dX ?_ ?_<;>(intro _;try omega))))
  ·refine dI (x:= .ptr (.box h.boxes.length) 0) (v:= .agg r) kZq rfl rfl rfl kZq (sv0) ?_ ?_<;>(simp only[List.take_succ_cons,List.take_zero];repeat' (first|simp(maxSteps:=999999) (disch:=first|exact dZ|fail) only[gW,reduceIte,Nat.reduceEqDiff,beq_self_eq_true,EC,jL,vB,and_self, *] | (refine dX ?_ ?_<;>(intro _;try omega))))
 repeat' (first|simp(maxSteps:=999999) (disch:=first|exact dZ|fail) only[gW,reduceIte,Nat.reduceEqDiff,beq_self_eq_true,EC,jL,vB,List.nil_append,List.cons_append, *] | (refine dX ?_ ?_<;>(intro _;try omega)))
 exact⟨_,_,rfl,_,rfl,kX.out⟩
mutual
theorem eo.hold(v:Vl):∀r,eo v r->eo v (bM r)/\bA 0 0 0 (bM r)=true:=by
 intro r h
 cases h with
 |int n hn=>exact⟨.int n hn,rfl⟩
 |text s hs=>exact⟨.text s hs,rfl⟩
 |list l k sz rows hl hs hm hr=>
  obtain⟨h1,h2⟩:=eo.holds l rows hl hr
  have e:bM (cE 3 0 [] k sz rows)=cE 3 0 [] (di k) sz (eF rows):=rfl
  rw[e]
  refine⟨.list l _ sz _ (by rw[mH];exact hl) (fun q=>hs fun q2=>q (by rw[q2];rfl)) (by rw[mH];exact hm) h1,?_⟩
  unfold cE
  simp[bA,aV,im,sv,bV,h2]
theorem eo.holds(l:List Vl):∀rows:List (List AV),rows.length=l.length->(∀(i:Nat) v r,l[i]?=some v->rows[i]?=some r->eo v r)->(∀(i:Nat) v r,l[i]?=some v->(eF rows)[i]?=some r->eo v r)/\gH 0 0 0 (eF rows)=true:=by
 intro rows hl h
 match l,rows,hl,h with
 | [],[],_,_=>exact⟨fun i v r hv=>by simp at hv,rfl⟩
 |v::l,r::rows,hl,h=>
  obtain⟨h1,h2⟩:=eo.hold v r (h 0 v r rfl rfl)
  obtain⟨h3,h4⟩:=eo.holds l rows (by simpa using hl) fun i v r hv hr=>h (i+1) v r (by simpa using hv) (by simpa using hr)
  refine⟨fun i v' r' hv hr=>?_,by rw[eF,gH,h2,h4];rfl⟩
  cases i with
  |zero=>injection hv with hv;injection hr with hr;subst hv;subst hr;exact h1
  |succ i=>exact h3 i v' r' hv hr
end
end Go.Proofs.YtnfciiiohoafaaaGreatDoor
end
