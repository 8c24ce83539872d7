/-
  Plain arithmetic modulo Q, and linear equations: the table is reduced in two ways, with one outcome.
-/
import Derived.Test.YtnfciiiohoafaaaGreatDoorPF
import Derived.KernelRfl
import Derived.Test.YtnfciiiohoafaaaGreatDoorChecked
set_option maxHeartbeats 64000000
set_option maxRecDepth 100000
set_option linter.unusedSimpArgs false
set_option linter.unusedVariables false
set_option linter.constructorNameAsVariable false
section
namespace Go.NT
def Qi:Int:=1073741789
def fmod(n:Int):Int:=n%Qi
def cN(a b:Int):Int:=(fmod a+fmod b)%Qi
def cq(a b:Int):Int:=fmod a * fmod b%Qi
def eZ(n:Int):Int:=((pg 31 Q (fmod n).toNat (Q - 2) 1:Nat):Int)
def okF(x:Int):Prop:=0<=x/\x<Qi
theorem Dc:(0:Int)<Qi:=by decide
theorem qw:Qi=(Q:Int):=rfl
theorem mJ(n:Int):okF (fmod n):=⟨Int.emod_nonneg _ (by decide),Int.emod_lt_of_pos _ Dc⟩
theorem ph{x:Int}(h:okF x):fmod x=x:=Int.emod_eq_of_lt h.1 h.2
theorem jU(a b:Int):cN a b=(a+b)%Qi:=by unfold cN fmod;rw[<-Int.add_emod]
theorem fR(a b:Int):cq a b=a * b%Qi:=by unfold cq fmod;rw[<-Int.mul_emod]
theorem oI(a b:Int):okF (cN a b):=⟨Int.emod_nonneg _ (by decide),Int.emod_lt_of_pos _ Dc⟩
theorem ru(a b:Int):okF (cq a b):=⟨Int.emod_nonneg _ (by decide),Int.emod_lt_of_pos _ Dc⟩
theorem iJ:okF 0:=by unfold okF;decide
theorem xm{x:Int}(h:okF x):cN x 0=x:=by rw[jU,Int.add_zero,<-fmod];exact ph h
theorem F5(n:Int):cq n 0=0:=by rw[fR,Int.mul_zero];rfl
theorem F7(n:Int):cq 0 n=0:=by rw[fR,Int.zero_mul];rfl
def nw(n x y:Int):Int:=cN x (-(cq n y))
theorem uh(n x y:Int):nw n x y=(x - n * y)%Qi:=by
 unfold nw
 rw[jU,fR,<-Int.sub_eq_add_neg,Int.sub_emod,Int.emod_emod_of_dvd _ (Int.dvd_refl _),<-Int.sub_emod]
theorem I6(n x y:Int):okF (nw n x y):=oI _ _
theorem jG{n x:Int}(h:okF x):nw n x 0=x:=by
 unfold nw;rw[F5,Int.neg_zero];exact xm h
theorem ve{x y:Int}(h:okF x):nw 0 x y=x:=by
 unfold nw;rw[F7,Int.neg_zero];exact xm h
theorem Dd(n y:Int):nw (-n) 0 y=cq y n:=by
 rw[uh,fR,Int.neg_mul,Int.sub_neg,Int.zero_add,Int.mul_comm]
theorem OC{p h a:Nat}(hp:isP p)(hn:p=2 * h+1)(h0:0<a)(h1:a<p):a^(p - 1)%p=1:=by
 have hg:=Nr hp hn (hp.coprime h0 h1)
 have hp2:=hp.1
 have h2:(p:Int)∣(a:Int)^(2 * h) - 1:=by
  obtain⟨c,hc⟩:=hg
  have e:((-1:Int)^mu a p) * ((-1:Int)^mu a p)=1:=by
   rw[<-Int.pow_add,show mu a p+mu a p=2 * mu a p by omega,Int.pow_mul]
   simp[vd]
  have e2:(a:Int)^(2 * h)=(a:Int)^h * (a:Int)^h:=by rw[<-Int.pow_add,show 2 * h=h+h by omega]
  refine⟨c * ((a:Int)^h+(-1)^mu a p),?_⟩
  rw[<-Int.mul_assoc,<-hc,Int.sub_mul,Int.mul_add,Int.mul_add,e2,Int.mul_comm ((-1)^mu a p) ((a:Int)^h),e]
  omega
 rw[show p - 1=2 * h by omega]
 have hpos:0<a^(2 * h):=Nat.pow_pos h0
 have hpow:((a^(2 * h):Nat):Int)=(a:Int)^(2 * h):=by simp
 rw[<-hpow] at h2
 have hd:p∣a^(2 * h) - 1:=by
  have e:((a^(2 * h):Nat):Int) - 1=((a^(2 * h) - 1:Nat):Int):=by omega
  rw[e] at h2
  exact Int.natCast_dvd_natCast.1 h2
 obtain⟨c,hc⟩:=hd
 have:a^(2 * h)=p * c+1:=by omega
 rw[this,Nat.mul_add_mod,Nat.mod_eq_of_lt (by omega)]
theorem AW(n:Int):okF (eZ n):=by
 unfold eZ okF
 rw[nu (by decide) (by decide) (by decide)]
 exact⟨by omega,by rw[qw];exact Int.ofNat_lt.2 (Nat.mod_lt _ (by decide))⟩
theorem sG{x:Int}(h:okF x)(h0:x≠0):cq x (eZ x)=1:=by
 obtain⟨n,rfl⟩:∃n:Nat,x=n:=⟨x.toNat,by have:=h.1;omega⟩
 have hn:n<Q:=by have:=h.2;rw[qw] at this;exact Int.ofNat_lt.1 this
 have hf:=OC (h:=536870894) Mi (by decide) (show 0<n by omega) hn
 unfold eZ
 rw[ph h,Int.toNat_natCast,nu (by decide) (by decide) (by decide),Nat.one_mul,fR,qw,<-Int.natCast_mul,<-Int.natCast_emod,Nat.mul_mod_mod,Nat.mul_comm,<-Nat.pow_succ,
  show(Q - 2).succ=Q - 1 by decide,hf]
 rfl
def at0(l:List Int)(i:Nat):Int:=l.getD i 0
def fH(n:Int)(a b:List Int):List Int:=List.zipWith (nw n) a b
def lE(c:Nat)(a own:List Int):List Int:=if at0 a c=0 then a else a.take c++fH (at0 a c) (a.drop c) (own.drop c)
def da(c:Nat)(a:List Int)(n:Int):List Int:=a.take c++(a.drop c).map (cq · n)
def scaleB(a:List Int)(n:Int):List Int:=fH (-n) (List.replicate a.length 0) a
def lF(t:List (List Int))(r c:Nat):Option Nat:=(List.range t.length).find? fun k=>decide (r<=k)&& !(decide (at0 (t.getD k []) c=0))
def pZ(st:List (List Int) × List Nat)(c:Nat):List (List Int) × List Nat:=
 match lF st.1 st.2.length c with
 |none=>st
 |some k=>
  let own:=da c (st.1.getD k []) (eZ (at0 (st.1.getD k []) c))
  let t1:=(st.1.set k (st.1.getD st.2.length [])).set st.2.length own
  (t1.mapIdx fun i a=>if i=st.2.length then own else lE c a own,st.2++[c])
def nR(st:List (List Int) × List Nat)(c:Nat):List (List Int) × List Nat:=
 match lF st.1 st.2.length c with
 |none=>st
 |some k=>
  let own:=scaleB (st.1.getD k []) (eZ (at0 (st.1.getD k []) c))
  let t1:=st.1.set k (st.1.getD st.2.length [])
  ((t1.map fun a=>fH (at0 a c) a own).set st.2.length own,st.2++[c])
def pj(t:List (List Int))(many:Nat):List (List Int) × List Nat:=(List.range many).foldl pZ (t,[])
def cJ(t:List (List Int))(many:Nat):List (List Int) × List Nat:=(List.range many).foldl nR (t,[])
structure rv(w c:Nat)(st:List (List Int) × List Nat):Prop where
 len:∀a∈st.1,a.length=w
 ok:∀a∈st.1,∀x∈a,okF x
 zero:∀i a,st.2.length<=i->st.1[i]?=some a->∀j,j<c->at0 a j=0
theorem bN{l:List Int}{i:Nat}(h:i<l.length):at0 l i=l[i]:=by
 unfold at0
 rw[List.getD_eq_getElem?_getD,List.getElem?_eq_getElem h];rfl
theorem gU{l:List Int}(h:∀x∈l,okF x)(i:Nat):okF (at0 l i):=by
 unfold at0
 rw[List.getD_eq_getElem?_getD]
 rcases Nat.lt_or_ge i l.length with q|q
 ·rw[List.getElem?_eq_getElem q];exact h _ (List.getElem_mem q)
 ·rw[List.getElem?_eq_none q];exact iJ
theorem jV{a b:List Int}(hl:a.length=b.length)(h:∀i,i<a.length->at0 a i=at0 b i):a=b:=by
 apply List.ext_getElem hl
 intro i h1 h2
 rw[<-bN h1,<-bN h2]
 exact h i h1
theorem iK{n:Int}{a b:List Int}(hl:a.length=b.length){i:Nat}(hi:i<a.length):at0 (fH n a b) i=nw n (at0 a i) (at0 b i):=by
 unfold fH
 have h1:i<(List.zipWith (nw n) a b).length:=by rw[List.length_zipWith];omega
 rw[bN h1,List.getElem_zipWith,bN hi,bN (by omega)]
theorem jz{n:Int}{a b:List Int}(hl:a.length=b.length):(fH n a b).length=a.length:=by
 unfold fH;rw[List.length_zipWith];omega
theorem kJ{a x:List Int}{c:Nat}(hc:c<=a.length)(i:Nat):at0 (a.take c++x) i=if i<c then at0 a i else at0 x (i - c):=by
 unfold at0
 simp only[List.getD_eq_getElem?_getD]
 split
 ·rename_i h
  rw[List.getElem?_append_left (by rw[List.length_take];omega),List.getElem?_take,if_pos h]
 ·rename_i h
  rw[List.getElem?_append_right (by rw[List.length_take];omega),List.length_take,Nat.min_eq_left hc]
theorem ry(a:List Int)(c i:Nat):at0 (a.drop c) i=at0 a (c+i):=by
 unfold at0
 simp only[List.getD_eq_getElem?_getD,List.getElem?_drop]
theorem De{c:Nat}{a own:List Int}(hl:a.length=own.length)(hc:c<a.length)(ha:∀x∈a,okF x)(hz:∀j,j<c->at0 own j=0):lE c a own=fH (at0 a c) a own:=by
 unfold lE
 split
 ·rename_i h
  rw[h]
  refine(jV (jz hl) fun i hi=>?_).symm
  rw[jz hl] at hi
  rw[iK hl hi,ve (gU ha i)]
 ·have hd:(a.drop c).length=(own.drop c).length:=by simp[hl]
  refine jV ?_ fun i hi=>?_
  ·rw[List.length_append,jz hd,jz hl,List.length_take,List.length_drop];omega
  ·have hi2:i<a.length:=by
    rw[List.length_append,jz hd,List.length_take,List.length_drop] at hi;omega
   rw[kJ (by omega),iK hl hi2]
   split
   ·rename_i q
    rw[hz i q,jG (gU ha i)]
   ·rename_i q
    rw[iK hd (by rw[List.length_drop];omega),ry,ry,show c+(i - c)=i by omega]
theorem nx{c:Nat}{a:List Int}{n:Int}(hc:c<=a.length)(hz:∀j,j<c->at0 a j=0):da c a n=scaleB a n:=by
 unfold da scaleB
 have hr:(List.replicate a.length (0:Int)).length=a.length:=by simp
 refine jV ?_ fun i hi=>?_
 ·rw[jz hr,List.length_append,List.length_map,List.length_take,List.length_drop,hr];omega
 ·have hi2:i<a.length:=by
   rw[List.length_append,List.length_map,List.length_take,List.length_drop] at hi;omega
  have h0:at0 (List.replicate a.length (0:Int)) i=0:=by rw[bN (by simpa using hi2)];simp
  rw[kJ hc,iK hr (by rw[hr];exact hi2),h0,Dd]
  split
  ·rename_i q
   rw[hz i q,fR,Int.zero_mul];rfl
  ·rename_i q
   have hm:i - c<((a.drop c).map (cq · n)).length:=by rw[List.length_map,List.length_drop];omega
   rw[bN hm,List.getElem_map,List.getElem_drop,<-bN (show c+(i - c)<a.length by omega),show c+(i - c)=i by omega]
end Go.NT
end
section
namespace Go.NT
theorem jf{t:List (List Int)}{r c k:Nat}(h:lF t r c=some k):k<t.length/\r<=k/\at0 (t.getD k []) c≠0:=by
 unfold lF at h
 have h1:=List.find?_some h
 have h2:=List.mem_of_find?_eq_some h
 rw[List.mem_range] at h2
 simp only[Bool.and_eq_true,decide_eq_true_eq,Bool.not_eq_true',decide_eq_false_iff_not] at h1
 exact⟨h2,h1⟩
theorem vg{t:List (List Int)}{r c:Nat}(h:lF t r c=none){k:Nat}(hk:k<t.length)(hr:r<=k):at0 (t.getD k []) c=0:=by
 unfold lF at h
 rw[List.find?_eq_none] at h
 have:=h k (List.mem_range.2 hk)
 simp only[Bool.and_eq_true,decide_eq_true_eq,Bool.not_eq_true',decide_eq_false_iff_not,not_and,Decidable.not_not] at this
 exact this hr
theorem cU{t:List (List Int)}{k:Nat}(hk:k<t.length):t.getD k []=t[k]:=by
 rw[List.getD_eq_getElem?_getD,List.getElem?_eq_getElem hk];rfl
section
variable {w c:Nat} {st:List (List Int) × List Nat}
structure Own(w c:Nat)(own:List Int):Prop where
 len:own.length=w
 ok:∀x∈own,okF x
 zero:∀j,j<c->at0 own j=0
 one:at0 own c=1
theorem y9{a:List Int}(hl:a.length=w)(hc:c<w)(ha:∀x∈a,okF x)(hz:∀j,j<c->at0 a j=0)(h0:at0 a c≠0):Own w c (da c a (eZ (at0 a c))):=by
 refine⟨?_,?_,?_,?_⟩
 ·unfold da;rw[List.length_append,List.length_map,List.length_take,List.length_drop];omega
 ·intro x hx
  unfold da at hx
  rcases List.mem_append.1 hx with q|q
  ·exact ha x (List.mem_of_mem_take q)
  ·obtain⟨y,-,rfl⟩:=List.mem_map.1 q
   exact ru _ _
 ·intro j hj
  unfold da
  rw[kJ (by omega),if_pos hj]
  exact hz j hj
 ·unfold da
  rw[kJ (by omega),if_neg (by omega)]
  have hm:c - c<((a.drop c).map (cq · (eZ (at0 a c)))).length:=by rw[List.length_map,List.length_drop];omega
  rw[bN hm,List.getElem_map,List.getElem_drop]
  have e:a[c+(c - c)]'(by omega)=at0 a c:=by rw[bN (by omega)];congr 1;omega
  rw[e]
  exact sG (gU ha c) h0
theorem xn(R:rv w c st)(hc:c<w):pZ st c=nR st c:=by
 unfold pZ nR
 cases hf:lF st.1 st.2.length c with
 |none=>rfl
 |some k=>
  obtain⟨k1,k2,k3⟩:=jf hf
  rw[cU k1] at k3
  have hk:=R.len _ (List.getElem_mem k1)
  have hko:=R.ok _ (List.getElem_mem k1)
  have hkz:=R.zero k _ k2 (List.getElem?_eq_getElem k1)
  simp only[cU k1]
  have O:=y9 hk hc hko hkz k3
  rw[<-nx (by omega) hkz]
  generalize da c st.1[k] (eZ (at0 st.1[k] c))=own at *
  congr 1
  apply List.ext_getElem
  ·simp
  ·intro i h1 h2
   rw[List.getElem_mapIdx]
   by_cases hi:i=st.2.length
   ·rw[if_pos hi]
    subst hi
    rw[List.getElem_set_self]
   ·rw[if_neg hi,List.getElem_set_ne (fun q=>hi q.symm),List.getElem_set_ne (fun q=>hi q.symm),List.getElem_map]
    have hlt:i<st.1.length:=by simpa using h1
    have hm:(st.1.set k (st.1.getD st.2.length []))[i]'(by simpa using hlt)∈st.1:=by
     rw[List.getElem_set]
     split
     ·rw[cU (by omega)];exact List.getElem_mem _
     ·exact List.getElem_mem _
    exact De ((R.len _ hm).trans O.len.symm) (by rw[R.len _ hm];exact hc) (R.ok _ hm) O.zero
theorem qx(R:rv w c st)(hc:c<w):rv w (c+1) (nR st c):=by
 unfold nR
 cases hf:lF st.1 st.2.length c with
 |none=>
  refine⟨R.len,R.ok,fun i a hi ha j hj=>?_⟩
  rcases Nat.lt_or_ge j c with q|q
  ·exact R.zero i a hi ha j q
  ·have:j=c:=by omega
   subst this
   have hlt:=(List.getElem?_eq_some_iff.1 ha).1
   have:=vg hf hlt hi
   rw[cU hlt] at this
   rw[<-(List.getElem?_eq_some_iff.1 ha).2];exact this
 |some k=>
  obtain⟨k1,k2,k3⟩:=jf hf
  rw[cU k1] at k3
  have hk:=R.len _ (List.getElem_mem k1)
  have hko:=R.ok _ (List.getElem_mem k1)
  have hkz:=R.zero k _ k2 (List.getElem?_eq_getElem k1)
  simp only[cU k1]
  have O:=y9 hk hc hko hkz k3
  rw[<-nx (by omega) hkz]
  generalize da c st.1[k] (eZ (at0 st.1[k] c))=own at *
  have hrl:st.2.length<st.1.length:=by omega
  have hmem:∀a∈st.1.set k (st.1.getD st.2.length []),a∈st.1:=fun a ha=>by
   rcases List.mem_or_eq_of_mem_set ha with q|q
   ·exact q
   ·rw[q,cU hrl];exact List.getElem_mem _
  refine⟨fun a ha=>?_,fun a ha=>?_,fun i a hi ha j hj=>?_⟩
  ·rcases List.mem_or_eq_of_mem_set ha with q|q
   ·obtain⟨b,hb,rfl⟩:=List.mem_map.1 q
    have:=R.len _ (hmem b hb)
    rw[jz (this.trans O.len.symm)];exact this
   ·rw[q];exact O.len
  ·rcases List.mem_or_eq_of_mem_set ha with q|q
   ·obtain⟨b,hb,rfl⟩:=List.mem_map.1 q
    intro x hx
    unfold fH at hx
    obtain⟨i,h1,rfl⟩:=List.mem_iff_getElem.1 hx
    rw[List.getElem_zipWith];exact I6 _ _ _
   ·rw[q];exact O.ok
  ·simp only[List.length_append,List.length_singleton] at hi
   have hne:st.2.length≠i:=by omega
   rw[List.getElem?_set_ne hne,List.getElem?_map] at ha
   have hlt:i<st.1.length:=by
    rcases Nat.lt_or_ge i st.1.length with q|q
    ·exact q
    ·rw[List.getElem?_eq_none (by simpa using q)] at ha;cases ha
   rw[List.getElem?_eq_getElem (by simpa using hlt),Option.map_some,Option.some.injEq] at ha
   have hb:∃b,(st.1.set k (st.1.getD st.2.length []))[i]'(by simpa using hlt)=b/\b.length=w/\(∀x∈b,okF x)/\∀j,j<c->at0 b j=0:=by
    refine⟨_,rfl,R.len _ (hmem _ (List.getElem_mem _)),R.ok _ (hmem _ (List.getElem_mem _)),fun j hj=>?_⟩
    rw[List.getElem_set]
    split
    ·rw[cU hrl]
     exact R.zero st.2.length _ (Nat.le_refl _) (List.getElem?_eq_getElem hrl) j hj
    ·exact R.zero i _ (by omega) (List.getElem?_eq_getElem hlt) j hj
   obtain⟨b,e,b1,b2,b3⟩:=hb
   rw[e] at ha
   subst ha
   rw[iK (b1.trans O.len.symm) (by omega)]
   rcases Nat.lt_or_ge j c with q|q
   ·rw[b3 j q,O.zero j q,jG iJ]
   ·have:j=c:=by omega
    subst this
    rw[O.one,uh,Int.mul_one,Int.sub_self];rfl
end
theorem AX{t:List (List Int)}{w many:Nat}(hl:∀a∈t,a.length=w)(ho:∀a∈t,∀x∈a,okF x)(hm:many<=w):pj t many=cJ t many:=by
 unfold pj cJ
 have key:∀n,n<=w->(List.range n).foldl pZ (t,[])=(List.range n).foldl nR (t,[])/\rv w n ((List.range n).foldl nR (t,[])):=by
  intro n
  induction n with
  |zero=>intro _;exact⟨rfl,hl,ho,fun _ _ _ _ j hj=>by omega⟩
  |succ n ih=>
   intro hn
   obtain⟨h1,h2⟩:=ih (by omega)
   rw[List.range_succ,List.foldl_append,List.foldl_append,h1]
   simp only[List.foldl_cons,List.foldl_nil]
   exact⟨xn h2 (by omega),qx h2 (by omega)⟩
 exact(key many hm).1
end Go.NT
end
section
namespace Go.NT
def bW:List Int->Int
 | []=>0
 |x::l=>x+bW l
theorem I7(l m:List Int):bW (l++m)=bW l+bW m:=by
 induction l with
 |nil=>simp[bW]
 |cons x l ih=>simp only[List.cons_append,bW,ih];omega
def dot(y row:List Int):Int:=bW ((List.range y.length).map fun i=>at0 y i * at0 row i)
def res(y row:List Int):Int:=dot y row - at0 row y.length
def Sat(y row:List Int):Prop:=Qi∣res y row
theorem Mk{f g q:Nat->Int}{n:Int}:∀{l:List Nat},(∀i∈l,Qi∣f i - (g i - n * q i))->Qi∣bW (l.map f) - (bW (l.map g) - n * bW (l.map q)):=by
 intro l
 induction l with
 |nil=>intro _;simp[bW]
 |cons x l ih=>
  intro h
  have h1:=h x List.mem_cons_self
  have h2:=ih fun i hi=>h i (List.mem_cons_of_mem _ hi)
  simp only[List.map_cons,bW,Int.mul_add]
  have e:f x+bW (l.map f) - (g x+bW (l.map g) - (n * q x+n * bW (l.map q)))=(f x - (g x - n * q x))+(bW (l.map f) - (bW (l.map g) - n * bW (l.map q))):=by omega
  rw[e]
  exact Int.dvd_add h1 h2
theorem AY(n x y:Int):Qi∣nw n x y - (x - n * y):=by
 rw[uh]
 have:=Int.emod_add_mul_ediv (x - n * y) Qi
 refine⟨-((x - n * y)/Qi),?_⟩
 rw[Int.mul_neg];omega
theorem AZ{n:Int}{y a b:List Int}(hl:a.length=b.length)(hy:y.length<a.length):Qi∣res y (fH n a b) - (res y a - n * res y b):=by
 have h1:Qi∣dot y (fH n a b) - (dot y a - n * dot y b):=by
  unfold dot
  refine Mk fun i hi=>?_
  have hi:=List.mem_range.1 hi
  rw[iK hl (by omega)]
  obtain⟨c,hc⟩:=AY n (at0 a i) (at0 b i)
  refine⟨at0 y i * c,?_⟩
  have:at0 y i * nw n (at0 a i) (at0 b i) - (at0 y i * at0 a i - n * (at0 y i * at0 b i))=at0 y i * (nw n (at0 a i) (at0 b i) - (at0 a i - n * at0 b i)):=by
   rw[Int.mul_sub,Int.mul_sub,Int.mul_left_comm n]
  rw[this,hc,Int.mul_left_comm]
 have h2:Qi∣at0 (fH n a b) y.length - (at0 a y.length - n * at0 b y.length):=by
  rw[iK hl hy];exact AY _ _ _
 unfold res
 have e:dot y (fH n a b) - at0 (fH n a b) y.length - (dot y a - at0 a y.length - n * (dot y b - at0 b y.length))=(dot y (fH n a b) - (dot y a - n * dot y b)) - (at0 (fH n a b) y.length - (at0 a y.length - n * at0 b y.length)):=by
  rw[Int.mul_sub];omega
 rw[e]
 exact Int.dvd_sub h1 h2
theorem I8{n:Int}{y a b:List Int}(hl:a.length=b.length)(hy:y.length<a.length)(h1:Sat y (fH n a b))(h2:Sat y b):Sat y a:=by
 unfold Sat at *
 have h3:=AZ (n:=n) hl hy
 have e:res y a=res y (fH n a b) - (res y (fH n a b) - (res y a - n * res y b))+n * res y b:=by omega
 rw[e]
 exact Int.dvd_add (Int.dvd_sub h1 h3) (Int.dvd_mul_of_dvd_right h2)
theorem I9(y:List Int)(n:Nat):res y (List.replicate n 0)=0:=by
 have hz:∀i,at0 (List.replicate n (0:Int)) i=0:=fun i=>by
  unfold at0
  rw[List.getD_eq_getElem?_getD,List.getElem?_replicate]
  split<;>rfl
 unfold res dot
 simp only[hz,Int.mul_zero]
 generalize List.range y.length=l
 induction l with
 |nil=>rfl
 |cons x l ih=>simp only[List.map_cons,bW];omega
theorem F8{y a:List Int}{x:Int}(hy:y.length<a.length)(hx:okF x)(h0:x≠0)(h:Sat y (scaleB a (eZ x))):Sat y a:=by
 unfold Sat scaleB at *
 have h1:=AZ (n:= -(eZ x)) (y:=y) (a:=List.replicate a.length (0:Int)) (b:=a) (by simp) (by simpa using hy)
 rw[I9] at h1
 have h2:Qi∣eZ x * res y a:=by
  have e:eZ x * res y a=res y (fH (-(eZ x)) (List.replicate a.length 0) a) - (res y (fH (-(eZ x)) (List.replicate a.length 0) a) - (0 - -(eZ x) * res y a)):=by
   rw[Int.neg_mul];omega
  rw[e]
  exact Int.dvd_sub h h1
 have h3:Qi∣x * eZ x - 1:=by
  have:=sG hx h0
  rw[fR] at this
  have h4:=Int.emod_add_mul_ediv (x * eZ x) Qi
  rw[this] at h4
  exact⟨x * eZ x/Qi,by omega⟩
 obtain⟨c,hc⟩:=h2
 obtain⟨d,hd⟩:=h3
 refine⟨x * c - d * res y a,?_⟩
 have e1:x * (eZ x * res y a)=x * (Qi * c):=by rw[hc]
 have e2:(x * eZ x - 1) * res y a=Qi * d * res y a:=by rw[hd]
 rw[<-Int.mul_assoc] at e1
 rw[Int.sub_mul,Int.one_mul,e1] at e2
 rw[Int.mul_sub,<-Int.mul_assoc Qi d,Int.mul_left_comm Qi x]
 omega
section
variable {w c:Nat} {st:List (List Int) × List Nat}
theorem Ja{y:List Int}(R:rv w c st)(hc:c<w)(hy:y.length<w)(h:∀a∈(nR st c).1,Sat y a):∀a∈st.1,Sat y a:=by
 unfold nR at h
 cases hf:lF st.1 st.2.length c with
 |none=>rw[hf] at h;exact h
 |some k=>
  rw[hf] at h
  obtain⟨k1,k2,k3⟩:=jf hf
  rw[cU k1] at k3
  simp only[cU k1] at h
  have hk:=R.len _ (List.getElem_mem k1)
  have hko:=R.ok _ (List.getElem_mem k1)
  have hkz:=R.zero k _ k2 (List.getElem?_eq_getElem k1)
  have O:=y9 hk hc hko hkz k3
  have hrl:st.2.length<st.1.length:=by omega
  have hsc:=nx (n:=eZ (at0 st.1[k] c)) (show c<=st.1[k].length by omega) hkz
  rw[cU hrl] at h
  have ho:Sat y (scaleB st.1[k] (eZ (at0 st.1[k] c))):=h _ (List.mem_iff_getElem.2 ⟨st.2.length,by simpa using hrl,by rw[List.getElem_set_self]⟩)
  have hother:∀i (hi:i<st.1.length),i≠st.2.length->Sat y ((st.1.set k st.1[st.2.length])[i]'(by simpa using hi)):=fun i hi hne=>by
   have hm:=h ((((st.1.set k st.1[st.2.length]).map fun a=>fH (at0 a c) a (scaleB st.1[k] (eZ (at0 st.1[k] c)))).set st.2.length (scaleB st.1[k] (eZ (at0 st.1[k] c))))[i]'(by simpa using hi)) (List.getElem_mem _)
   rw[List.getElem_set_ne (fun q=>hne q.symm),List.getElem_map] at hm
   have hml:((st.1.set k st.1[st.2.length])[i]'(by simpa using hi)).length=w:=by
    rw[List.getElem_set]
    split
    ·exact R.len _ (List.getElem_mem _)
    ·exact R.len _ (List.getElem_mem _)
   refine I8 ?_ (by rw[hml];exact hy) hm ho
   rw[hml,<-hsc,O.len]
  intro a ha
  obtain⟨i,hi,rfl⟩:=List.mem_iff_getElem.1 ha
  by_cases e1:i=k
  ·subst e1
   exact F8 (by omega) (gU hko c) k3 ho
  ·by_cases e2:i=st.2.length
   ·subst e2
    have:=hother k k1 (fun q=>e1 q.symm)
    rw[List.getElem_set_self] at this
    exact this
   ·have:=hother i hi e2
    rw[List.getElem_set_ne (fun q=>e1 q.symm)] at this
    exact this
end
end Go.NT
end
section
namespace Go.NT
structure Em(c:Nat)(st:List (List Int) × List Nat):Prop where
 lt:∀k p:Nat,st.2[k]?=some p->p<c
 inc:∀j k p q:Nat,j<k->st.2[j]?=some p->st.2[k]?=some q->p<q
 val:∀k p:Nat,st.2[k]?=some p->∀(i:Nat) (a:List Int),st.1[i]?=some a->at0 a p=if i=k then 1 else 0
 len:st.2.length<=st.1.length
section
variable {w c:Nat} {st:List (List Int) × List Nat}
theorem Jb(R:rv w c st)(V:Em c st)(hc:c<w):Em (c+1) (nR st c):=by
 unfold nR
 cases hf:lF st.1 st.2.length c with
 |none=>exact⟨fun k p h=>by have:=V.lt k p h;omega,V.inc,V.val,V.len⟩
 |some k=>
  obtain⟨k1,k2,k3⟩:=jf hf
  rw[cU k1] at k3
  have hk:=R.len _ (List.getElem_mem k1)
  have hko:=R.ok _ (List.getElem_mem k1)
  have hkz:=R.zero k _ k2 (List.getElem?_eq_getElem k1)
  simp only[cU k1]
  have O:=y9 hk hc hko hkz k3
  have hrl:st.2.length<st.1.length:=by omega
  rw[<-nx (by omega) hkz,cU hrl]
  generalize da c st.1[k] (eZ (at0 st.1[k] c))=own at *
  refine⟨fun j p h=>?_,fun j l p q hjl hp hq=>?_,fun j p hp i a ha=>?_,?_⟩
  ·rcases eO h with h|⟨-,rfl⟩
   ·have:=V.lt j p h;omega
   ·omega
  ·rcases eO hq with hq|⟨rfl,rfl⟩
   ·rcases eO hp with hp|⟨rfl,-⟩
    ·exact V.inc j l p q hjl hp hq
    ·have:=(List.getElem?_eq_some_iff.1 hq).1;omega
   ·rcases eO hp with hp|⟨rfl,-⟩
    ·exact V.lt j p hp
    ·omega
  ·-- the row at i
   have hil:i<st.1.length:=by
    have:=(List.getElem?_eq_some_iff.1 ha).1
    simpa using this
   by_cases hi:i=st.2.length
   ·subst hi
    rw[List.getElem?_eq_getElem (by simpa using hrl),List.getElem_set_self,Option.some.injEq] at ha
    subst ha
    rcases eO hp with hp|⟨rfl,rfl⟩
    ·have h1:=V.lt j p hp
     have h2:=(List.getElem?_eq_some_iff.1 hp).1
     rw[O.zero p h1,if_neg (by omega)]
    ·rw[O.one,if_pos rfl]
   ·rw[List.getElem?_set_ne (fun q=>hi q.symm),List.getElem?_map,List.getElem?_eq_getElem (by simpa using hil),Option.map_some,Option.some.injEq] at ha
    have hb:∃b,(st.1.set k st.1[st.2.length])[i]'(by simpa using hil)=b/\b.length=w/\(∀x∈b,okF x)/\∀j p,st.2[j]?=some p->at0 b p=if i=j then 1 else 0:=by
     refine⟨_,rfl,?_,?_,fun j p hp=>?_⟩
     ·rw[List.getElem_set];split<;>exact R.len _ (List.getElem_mem _)
     ·rw[List.getElem_set];split<;>exact R.ok _ (List.getElem_mem _)
     ·rw[List.getElem_set]
      have hjl:=(List.getElem?_eq_some_iff.1 hp).1
      split
      ·rename_i e
       rw[V.val j p hp st.2.length _ (List.getElem?_eq_getElem hrl),if_neg (by omega),if_neg (by omega)]
      ·exact V.val j p hp i _ (List.getElem?_eq_getElem hil)
    obtain⟨b,e,b1,b2,b3⟩:=hb
    rw[e] at ha
    subst ha
    have hpw:p<w:=by
     rcases eO hp with h|⟨-,rfl⟩
     ·have:=V.lt j p h;omega
     ·exact hc
    rw[iK (b1.trans O.len.symm) (by omega)]
    rcases eO hp with hp|⟨rfl,rfl⟩
    ·rw[O.zero p (V.lt j p hp),jG (gU b2 p)]
     exact b3 j p hp
    ·rw[O.one,uh,Int.mul_one,Int.sub_self,if_neg hi];rfl
  ·simp only[List.length_append,List.length_singleton,List.length_set,List.length_map];omega
where
 eO {l:List Nat} {x i y:Nat} (h:(l++[x])[i]?=some y):l[i]?=some y∨(i=l.length/\y=x):=by
  rcases Nat.lt_trichotomy i l.length with hlt|heq|hgt
  ·rw[List.getElem?_append_left hlt] at h;exact .inl h
  ·subst heq;simp at h;exact .inr ⟨rfl,h.symm⟩
  ·rw[List.getElem?_eq_none (by simp;omega)] at h;cases h
end
theorem pk{t:List (List Int)}{w many:Nat}(hl:∀a∈t,a.length=w)(ho:∀a∈t,∀x∈a,okF x)(hm:many<=w):rv w many (cJ t many)/\Em many (cJ t many):=by
 unfold cJ
 induction many with
 |zero=>exact⟨⟨hl,ho,fun _ _ _ _ j hj=>by omega⟩,⟨fun k p h=>by simp at h,fun j k p q _ h=>by simp at h,fun k p h=>by simp at h,Nat.zero_le _⟩⟩
 |succ n ih=>
  obtain⟨h1,h2⟩:=ih (by omega)
  rw[List.range_succ,List.foldl_append]
  simp only[List.foldl_cons,List.foldl_nil]
  exact⟨qx h1 (by omega),Jb h1 h2 (by omega)⟩
theorem Df{t:List (List Int)}{w many:Nat}{y:List Int}(hl:∀a∈t,a.length=w)(ho:∀a∈t,∀x∈a,okF x)(hm:many<=w)(hy:y.length<w)(h:∀a∈(cJ t many).1,Sat y a):∀a∈t,Sat y a:=by
 induction many with
 |zero=>exact h
 |succ n ih=>
  refine ih (by omega) ?_
  have h1:=(pk hl ho (show n<=w by omega)).1
  have e:cJ t (n+1)=nR (cJ t n) n:=by
   unfold cJ
   rw[List.range_succ,List.foldl_append];rfl
  rw[e] at h
  exact Ja h1 (by omega) hy h
def gF(st:List (List Int) × List Nat)(n:Nat):List Int:=st.2.zipIdx.foldl (fun y p=>y.set p.1 (at0 (st.1.getD p.2 []) n)) (List.replicate n 0)
theorem ui{l:List Int}{i j:Nat}{x:Int}(hi:i<l.length):at0 (l.set i x) j=if j=i then x else at0 l j:=by
 unfold at0
 simp only[List.getD_eq_getElem?_getD,List.getElem?_set]
 by_cases h:i=j
 ·subst h;simp[hi]
 ·rw[if_neg h,if_neg (fun q=>h q.symm)]
theorem oJ(f:Nat × Nat->Int):∀(l:List (Nat × Nat)) (y:List Int),(l.foldl (fun y p=>y.set p.1 (f p)) y).length=y.length:=by
 intro l
 induction l with
 |nil=>intro y;rfl
 |cons p l ih=>intro y;rw[List.foldl_cons,ih];simp
theorem ny(f:Nat × Nat->Int){i:Nat}:∀(l:List (Nat × Nat)) (y:List Int),(∀p∈l,p.1≠i)->at0 (l.foldl (fun y p=>y.set p.1 (f p)) y) i=at0 y i:=by
 intro l
 induction l with
 |nil=>intro y _;rfl
 |cons p l ih=>
  intro y h
  rw[List.foldl_cons,ih _ fun q hq=>h q (List.mem_cons_of_mem _ hq)]
  have:=h p List.mem_cons_self
  unfold at0
  simp only[List.getD_eq_getElem?_getD]
  rw[List.getElem?_set_ne this]
theorem po(st:List (List Int) × List Nat)(n:Nat):(gF st n).length=n:=by
 unfold gF
 rw[oJ (fun p=>at0 (st.1.getD p.2 []) n)];simp
theorem Dg{st:List (List Int) × List Nat}{n i:Nat}(h:i∉st.2):at0 (gF st n) i=0:=by
 unfold gF
 rw[ny (fun p=>at0 (st.1.getD p.2 []) n) _ _ fun p hp q=>?_]
 ·unfold at0
  rw[List.getD_eq_getElem?_getD,List.getElem?_replicate]
  split<;>rfl
 ·have:=List.fst_mem_of_mem_zipIdx hp
  rw[q] at this
  exact h this
theorem Dh{c:Nat}{st:List (List Int) × List Nat}{n k p:Nat}(V:Em c st)(hn:c<=n)(h:st.2[k]?=some p):at0 (gF st n) p=at0 (st.1.getD k []) n:=by
 unfold gF
 obtain⟨hk,hp⟩:=List.getElem?_eq_some_iff.1 h
 have hz:st.2.zipIdx=(st.2.zipIdx.take k)++(p,k)::(st.2.zipIdx.drop (k+1)):=by
  have hk2:k<st.2.zipIdx.length:=by simpa using hk
  have:=(List.take_append_drop k st.2.zipIdx).symm
  rw[List.drop_eq_getElem_cons hk2] at this
  rw[List.getElem_zipIdx,hp] at this
  simpa using this
 rw[hz,List.foldl_append,List.foldl_cons,ny (fun p=>at0 (st.1.getD p.2 []) n) _ _ fun q hq e=>?_]
 ·rw[ui,if_pos rfl]
  rw[oJ (fun p=>at0 (st.1.getD p.2 []) n)]
  have:=V.lt k p h
  simp;omega
 ·obtain⟨i,hi,rfl⟩:=List.mem_iff_getElem.1 hq
  rw[List.getElem_drop,List.getElem_zipIdx] at e
  simp only at e
  have hil:k+1+i<st.2.length:=by simp at hi;omega
  have:=V.inc k (k+1+i) p _ (by omega) h (List.getElem?_eq_getElem hil)
  omega
theorem vh{f:Nat->Int}{p:Nat}:∀n,p<n->(∀i,i<n->i≠p->f i=0)->bW ((List.range n).map f)=f p:=by
 intro n
 induction n with
 |zero=>intro h;omega
 |succ n ih=>
  intro hp h
  rw[List.range_succ,List.map_append,I7]
  simp only[List.map_cons,List.map_nil,bW]
  rcases Nat.lt_or_ge p n with q|q
  ·rw[ih q fun i hi=>h i (by omega),h n (by omega) (by omega)];omega
  ·have:p=n:=by omega
   subst this
   have hz:bW ((List.range p).map f)=0:=by
    have:∀l:List Nat,(∀i∈l,f i=0)->bW (l.map f)=0:=by
     intro l
     induction l with
     |nil=>intro _;rfl
     |cons x l ih2=>intro hl;simp only[List.map_cons,bW];rw[hl x List.mem_cons_self,ih2 fun i hi=>hl i (List.mem_cons_of_mem _ hi)];rfl
    exact this _ fun i hi=>h i (by have:=List.mem_range.1 hi;omega) (by have:=List.mem_range.1 hi;omega)
   rw[hz];omega
theorem F9{t:List (List Int)}{n:Nat}(hl:∀a∈t,a.length=n+1)(ho:∀a∈t,∀x∈a,okF x)(hlast:∀i a,(cJ t n).2.length<=i->(cJ t n).1[i]?=some a->at0 a n=0):
 ∀a∈t,Sat (gF (cJ t n) n) a:=by
 obtain⟨R,V⟩:=pk hl ho (show n<=n+1 by omega)
 refine Df hl ho (show n<=n+1 by omega) (by rw[po];omega) fun a ha=>?_
 obtain⟨k,hk,rfl⟩:=List.mem_iff_getElem.1 ha
 have hka:=List.getElem?_eq_getElem hk
 unfold Sat res dot
 rw[po]
 rcases Nat.lt_or_ge k (cJ t n).2.length with q|q
 ·have hp:=List.getElem?_eq_getElem q
  have hlt:=V.lt k _ hp
  rw[vh (p:=(cJ t n).2[k]) n hlt,Dh V (Nat.le_refl _) hp,V.val k _ hp k _ hka,if_pos rfl,cU hk,Int.mul_one,Int.sub_self]
  ·exact Int.dvd_zero _
  ·intro i hi hne
   by_cases hm:i∈(cJ t n).2
   ·obtain⟨j,hj,rfl⟩:=List.mem_iff_getElem.1 hm
    rw[V.val j _ (List.getElem?_eq_getElem hj) k _ hka,if_neg (fun e=>hne (by subst e;rfl)),Int.mul_zero]
   ·rw[Dg hm,Int.zero_mul]
 ·rw[hlast k _ q hka]
  have hz:∀l:List Nat,(∀i∈l,i<n)->bW (l.map fun i=>at0 (gF (cJ t n) n) i * at0 (cJ t n).1[k] i)=0:=by
   intro l
   induction l with
   |nil=>intro _;rfl
   |cons x l ih=>
    intro h
    simp only[List.map_cons,bW]
    rw[R.zero k _ q hka x (h x List.mem_cons_self),Int.mul_zero,ih fun i hi=>h i (List.mem_cons_of_mem _ hi)];rfl
  rw[hz _ fun i hi=>List.mem_range.1 hi]
  exact Int.dvd_zero _
end Go.NT
end
section
namespace Go.NT
abbrev U32:=BitVec 32
def ror(x:U32)(n:Nat):U32:=(x>>>n) ||| (x<<<(32 - n))
def xo:List Nat:=[
 0x428a2f98,0x71374491,0xb5c0fbcf,0xe9b5dba5,0x3956c25b,0x59f111f1,0x923f82a4,0xab1c5ed5,
 0xd807aa98,0x12835b01,0x243185be,0x550c7dc3,0x72be5d74,0x80deb1fe,0x9bdc06a7,0xc19bf174,
 0xe49b69c1,0xefbe4786,0x0fc19dc6,0x240ca1cc,0x2de92c6f,0x4a7484aa,0x5cb0a9dc,0x76f988da,
 0x983e5152,0xa831c66d,0xb00327c8,0xbf597fc7,0xc6e00bf3,0xd5a79147,0x06ca6351,0x14292967,
 0x27b70a85,0x2e1b2138,0x4d2c6dfc,0x53380d13,0x650a7354,0x766a0abb,0x81c2c92e,0x92722c85,
 0xa2bfe8a1,0xa81a664b,0xc24b8b70,0xc76c51a3,0xd192e819,0xd6990624,0xf40e3585,0x106aa070,
 0x19a4c116,0x1e376c08,0x2748774c,0x34b0bcb5,0x391c0cb3,0x4ed8aa4a,0x5b9cca4f,0x682e6ff3,
 0x748f82ee,0x78a5636f,0x84c87814,0x8cc70208,0x90befffa,0xa4506ceb,0xbef9a3f7,0xc67178f2]
def kAt(t:Nat):U32:=BitVec.ofNat 32 (xo.getD t 0)
def start:List U32:=[0x6a09e667#32,0xbb67ae85#32,0x3c6ef372#32,0xa54ff53a#32,0x510e527f#32,0x9b05688c#32,0x1f83d9ab#32,0x5be0cd19#32]
def bAt(b:List UInt8)(i:Nat):UInt8:=b.getD i 0
def wAt(w:List U32)(i:Nat):U32:=w.getD i 0#32
def rz(b:List UInt8)(i:Nat):U32:=BitVec.ofNat 32 (((bAt b i).toNat * 256+(bAt b (i+1)).toNat) * 256 * 256+(bAt b (i+2)).toNat * 256+(bAt b (i+3)).toNat)
def En(w:List U32)(t:Nat):U32:=
 wAt w (t - 16)+(ror (wAt w (t - 15)) 7^^^ror (wAt w (t - 15)) 18^^^(wAt w (t - 15))>>>3)+wAt w (t - 7)+(ror (wAt w (t - 2)) 17^^^ror (wAt w (t - 2)) 19^^^(wAt w (t - 2))>>>10)
def eP(b:List UInt8):Nat->List U32
 |0=>[]
 |n+1=>eP b n++[if n<16 then rz b (4 * n) else En (eP b n) n]
def zd(w:List U32)(v:List U32)(t:Nat):List U32:=
 let e:=wAt v 4
 let a:=wAt v 0
 let p:=wAt v 7+(ror e 6^^^ror e 11^^^ror e 25)+((e&&&wAt v 5)^^^(~~~e&&&wAt v 6))+kAt t+wAt w t
 let q:=(ror a 2^^^ror a 13^^^ror a 22)+((a&&&wAt v 1)^^^(a&&&wAt v 2)^^^(wAt v 1&&&wAt v 2))
 [p+q,a,wAt v 1,wAt v 2,wAt v 3+p,e,wAt v 5,wAt v 6]
def qy(s:List U32)(b:List UInt8):List U32:=
 let w:=eP b 64
 let v:=(List.range 64).foldl (zd w) s
 List.zipWith (·+·) s v
def Di(n:Nat):Nat:=(119 - n%64)%64
def Ga(n:Nat):List UInt8:=(List.range 8).map fun i=>UInt8.ofNat (n * 8/2^(8 * (7 - i)))
def Ml(b:List UInt8):List UInt8:=b++0x80::List.replicate (Di b.length) 0++Ga b.length
def de:Nat->List U32->List UInt8->List U32
 |0,s,_=>s
 |n+1,s,b=>de n (qy s (b.take 64)) (b.drop 64)
def nZ(s:List U32):List UInt8:=s.flatMap fun x=>[UInt8.ofNat (x.toNat/16777216),UInt8.ofNat (x.toNat/65536),UInt8.ofNat (x.toNat/256),UInt8.ofNat x.toNat]
def jA(b:List UInt8):List UInt8:=nZ (de ((Ml b).length/64) start (Ml b))
def dV(tag b:List UInt8):List UInt8:=jA (jA tag++b)
theorem Qq(e f g:U32):g^^^(e&&&(f^^^g))=(e&&&f)^^^(~~~e&&&g):=by
 apply BitVec.eq_of_getLsbD_eq
 intro i hi
 simp only[BitVec.getLsbD_xor,BitVec.getLsbD_and,BitVec.getLsbD_not,hi,decide_true,Bool.true_and]
 cases e.getLsbD i<;>cases f.getLsbD i<;>cases g.getLsbD i<;>rfl
theorem OD(a b c:U32):(a&&&b) ||| (c&&&(a|||b))=(a&&&b)^^^(a&&&c)^^^(b&&&c):=by
 apply BitVec.eq_of_getLsbD_eq
 intro i hi
 simp only[BitVec.getLsbD_xor,BitVec.getLsbD_and,BitVec.getLsbD_or]
 cases a.getLsbD i<;>cases b.getLsbD i<;>cases c.getLsbD i<;>rfl
end Go.NT
end
section
namespace Go.NT
inductive Vl where
 |int (n:Int)
 |text (s:List UInt8)
 |list (l:List Vl)
def jH:Nat->Nat->List UInt8
 |0,u=>[UInt8.ofNat u]
 |k+1,u=>if u<128 then [UInt8.ofNat u] else UInt8.ofNat (u%128+128)::jH k (u/128)
def oK(n:Int):Nat:=if 0<=n then 2 * n.toNat else 2 * (-(n+1)).toNat+1
mutual
def fB:Vl->List UInt8
 | .int n=>1::jH 9 (oK n)
 | .text s=>2::(jH 9 s.length++s)
 | .list l=>3::(jH 9 l.length++jB l)
def jB:List Vl->List UInt8
 | []=>[]
 |v::l=>fB v++jB l
end
mutual
def eD:Vl->Nat
 | .list l=>dN l+1
 |_=>0
def dN:List Vl->Nat
 | []=>0
 |v::l=>max (eD v) (dN l)
end
theorem A0(l m:List Vl):jB (l++m)=jB l++jB m:=by
 induction l with
 |nil=>simp[jB]
 |cons v l ih=>simp only[List.cons_append,jB,ih,List.append_assoc]
theorem Gb{k u:Nat}(h:128<=u):jH (k+1) u=UInt8.ofNat (u%128+128)::jH k (u/128):=by
 rw[jH,if_neg (by omega)]
theorem Gc{k u:Nat}(h:u<128):jH k u=[UInt8.ofNat u]:=by
 cases k with
 |zero=>rfl
 |succ k=>rw[jH,if_pos h]
end Go.NT
end
section
namespace Go.NT
def inQ(n:Int):Bool:=decide (0<=n)&&decide (n<Qi)
def bC(rows:List (List Int))(owners:List Int):Int:=
 if decide (64<rows.length) ||rows.any (fun r=>decide (64<r.length)) then 2
 else if rows.length≠owners.length then 230
 else if (List.range rows.length).all fun i=> !(rows.getD i []).isEmpty&&decide ((rows.getD i []).length=(rows.getD 0 []).length)&&(decide (0<=at0 owners i)&&decide (at0 owners i<=63))&&(rows.getD i []).all inQ then 0
 else 230
def aK(rows:List (List Int)):Nat:=if rows.length=0 then 1 else (rows.getD 0 []).length
def ct(n:Nat):List Int:=1::List.replicate (n - 1) 0
def cS:Int->List Int->Bool
 |_,[]=>true
 |last,n::l=>decide (last<n)&&decide (n<=63)&&cS n l
def gV(owners who:List Int):List Nat:=(List.range owners.length).filter fun i=>who.contains (at0 owners i)
def cO(rows:List (List Int))(target:List Int):List (List Int):=(List.range target.length).map fun k=>rows.map (fun r=>at0 r k)++[at0 target k]
def gi(rows:List (List Int))(target:List Int):Option (List Int):=
 let st:=cJ (cO rows target) rows.length
 if (st.1.drop st.2.length).all (fun a=>decide (at0 a rows.length=0)) then some (gF st rows.length) else none
def fS(n:Nat)(at_:List Nat)(l:List Int):List Int:=at_.zipIdx.foldl (fun y p=>y.set p.1 (at0 l p.2)) (List.replicate n 0)
def bJ(rows:List (List Int))(owners who:List Int):List Int × Bool × Int:=
 if bC rows owners≠0 then ([],false,bC rows owners)
 else if !cS (-1) who then ([],false,1)
 else match gi ((gV owners who).map fun i=>rows.getD i []) (ct (aK rows)) with
  |none=>([],false,0)
  |some l=>(fS rows.length (gV owners who) l,true,0)
structure Pr where
 ag:Int
 no:Int
 d:Int
 e:Int
def aX(x:Int):Bool:=decide (1<=x)&&elem x.toNat
def Pr.val(p:Pr):Vl:= .list [.int p.ag,.int p.no,.int p.d,.int p.e]
def sH(l:List Pr):Vl:= .list (l.map Pr.val)
def mK(b:List UInt8):Nat:=((b.take 8).foldl (fun n c=>n * 256+c.toNat) 0%9223372036854775808)%Q
def mL(tag:List UInt8)(v:Vl):Nat:=mK (dV tag (fB v))
def Eo:List UInt8:=[98,105,110,100]
def vi:List UInt8:=[115,105,103,110]
def dP(c0:Int)(text:List UInt8)(l:List Pr)(ag:Int):Nat:=mL Eo (.list [.int c0,.text text,sH l,.int ag])
def gX(c0:Int)(text:List UInt8)(l:List Pr)(p:Pr):Nat:=p.d.toNat * y7 p.e.toNat (dP c0 text l p.ag)%P
def dA(c0:Int)(text:List UInt8)(l:List Pr):Nat:=l.foldl (fun x p=>x * gX c0 text l p%P) 1
def tw(point key:Int)(text:List UInt8):Nat:=mL vi (.list [.int point,.int key,.text text])
def dy:Int->List Pr->Bool
 |_,[]=>true
 |last,x::l=>decide (last<x.ag)&&decide (x.ag<64)&&decide (0<=x.no)&&decide (x.no<4096)&&aX x.d&&aX x.e&&dy x.ag l
def cd(rows:List (List Int))(owners:List Int)(epoch:Int)(aa:List Int)(text:List UInt8)(l:List Pr):Int:=
 if bC rows owners≠0 then bC rows owners
 else if !(decide (0<=epoch)&&decide (epoch<=64)&&decide (aa.length=aK rows)&&aa.all aX) then 380
 else if 65536<text.length then 2
 else if 64<l.length then 420
 else if !dy (-1) l then 420
 else match bJ rows owners (l.map Pr.ag) with
  | (_,ok,e)=>if e≠0∨ok=false∨l.length=0 then 420 else 0
end Go.NT
end
section
namespace Go.NT
def aY(x:Nat)(n:Int):Nat:=y7 x (fmod n).toNat
theorem Ep(n:Int):(fmod n).toNat<Q:=by
 have:=mJ n
 obtain⟨h1,h2⟩:=this
 rw[qw] at h2
 omega
theorem jW(x:Nat)(n:Int):aY x n=x^(fmod n).toNat%P:=y8 (Nat.lt_trans (Ep n) (by decide))
theorem A1{x:Nat}(hx:elem x=true)(n:Nat):aY x (n:Int)=x^n%P:=by
 have e:(fmod (n:Int)).toNat=n%Q:=by
  unfold fmod
  rw[qw,<-Int.natCast_emod,Int.toNat_natCast]
 rw[jW,e,I5 hx]
theorem Gd(x:Nat)(n:Int):aY x (fmod n)=aY x n:=by
 unfold aY
 rw[ph (mJ n)]
theorem iq{x:Nat}(hx:elem x=true)(n:Int):elem (aY x n)=true:=by
 rw[jW];exact I4 hx _
theorem mM{x:Nat}{a b:Int}(h:a%Qi=b%Qi):aY x a=aY x b:=by
 unfold aY fmod;rw[h]
theorem mN(n:Int):((fmod n).toNat:Int)=fmod n:=by
 have:=(mJ n).1
 omega
theorem mO{x:Nat}(hx:elem x=true)(a b:Int):aY x (a+b)=aY x a * aY x b%P:=by
 have h:(a+b)%Qi=(((fmod a).toNat+(fmod b).toNat:Nat):Int)%Qi:=by
  rw[Int.natCast_add,mN,mN,Int.add_emod]
  rfl
 rw[mM h,A1 hx,Nat.pow_add,Nat.mul_mod,<-jW,<-jW]
theorem oL{x:Nat}(hx:elem x=true)(a b:Int):aY x (a * b)=aY (aY x a) b:=by
 have h:(a * b)%Qi=(((fmod a).toNat * (fmod b).toNat:Nat):Int)%Qi:=by
  rw[Int.natCast_mul,mN,mN,Int.mul_emod]
  rfl
 rw[mM h,A1 hx,Nat.pow_mul,jW (aY x a) b,jW x a,<-Nat.pow_mod]
theorem xq(x:Nat):aY x 0=1:=by rw[jW];rfl
theorem Jc{x:Nat}(hx:elem x=true):aY x 1=x:=by
 rw[jW]
 show x^1%P=x
 rw[Nat.pow_one,Nat.mod_eq_of_lt (elem_iff.1 hx).2.1]
theorem Jd{x:Nat}(hx:elem x=true)(a:Int):aY x a * aY x (-a)%P=1:=by
 rw[<-mO hx,Int.add_right_neg,xq]
end Go.NT
end
section
namespace Go.Proofs.YtnfciiiohoafaaaGreatDoor
open Go.AE Go.RowKit
def Dj:List AV:=NT.start.map w32
def oM:List AV:=NT.xo.map fun(n:Nat)=>AV.v (.int .u32 (n:Int))
def Gt:Nat->Option (List AV):=fun g=>if g=0 then some Dj else if g=1 then some oM else if g=1022017∨g=1022035∨g=1023037∨g=1023048∨g=1023063∨g=1023125∨g=1094104 then some [] else none
def prims:FuncId->Option (List AV->ae->Option (AV × ae)):=fun _=>none
noncomputable abbrev W:=whole Tryz.prog Gt prims
structure ah(p:Prop):Prop where
 out:p
def im(n:Int):AV:= .v (.int .i64 n)
def nC(n:Int):List AV:=[im n]
def ints(l:List Int):List (List AV):=l.map nC
theorem aU(l:List Int):(ints l).length=l.length:=by simp[ints]
theorem A2(l:List Int)(i:Nat):(ints l)[i]?=(l[i]?).map nC:=by simp[ints]
def i64(n:Int):Prop:= -9223372036854775808<=n/\n<=9223372036854775807
theorem ag3:cZ Tryz.prog 3=some false:=by kernel_rfl
theorem sz3:bF Tryz.prog 3=some 1:=by kernel_rfl
theorem Er{h:ae}{l:List Int}{i:Nat}{x:Int}(hx:l[i]?=some x):ai Tryz.prog Gt h 3 (.elem 1 (ints l) i 0)=some (im x):=by
 have hr:(ints l)[i]?=some (nC x):=by rw[A2,hx];rfl
 rw[ez ag3 hr];rfl
theorem Ge{h:ae}{d:Nat}{ts:Array TypeId}{ty:Nat}{s x:AV}(hne:1000 * ty+d≠22017/\1000 * ty+d≠22035/\1000 * ty+d≠23037/\1000 * ty+d≠23048/\1000 * ty+d≠23063/\1000 * ty+d≠23125/\1000 * ty+d≠94104):eV Tryz.prog Gt (some d) h .append ts ty [s,x]=bP Tryz.prog h ts s x:=by
 refine AK ?_
 unfold uu Gt
 rw[if_neg (by omega),if_neg (by omega),if_neg (by simp only[Option.getD_some];omega)]
 rfl
theorem wD{h:ae}{d:Nat}{ts:Array TypeId}{ty:Nat}{s x:AV}(hy:1000 * ty+d=22017∨1000 * ty+d=22035∨1000 * ty+d=23037∨1000 * ty+d=23048∨1000 * ty+d=23063∨1000 * ty+d=23125∨1000 * ty+d=94104):eV Tryz.prog Gt (some d) h .append ts ty [s,x]=iX Tryz.prog h ts s x:=by
 refine AL ?_
 unfold uu Gt
 rw[if_neg (by omega),if_neg (by omega),if_pos (by simp only[Option.getD_some];omega)]
 rfl
theorem kZq{p:Prop}(h:p:=by kernel_rfl):p:=h
set_option linter.defProp false in
def gW:=And.intro goS (And.intro goT (And.intro goH (And.intro goU (And.intro @Ge (And.intro @wD (And.intro @mz.eq_1 (And.intro @dJ.eq_1 (And.intro @dJ.eq_2 (And.intro @dJ.eq_3 (And.intro @aO.eq_1 (And.intro @aO.eq_2 (And.intro @aO.eq_3 (And.intro @aO.eq_4 (And.intro @aO.eq_5 (And.intro @aO.eq_6 (And.intro @aO.eq_7 (And.intro @aO.eq_8 (And.intro @aO.eq_9 (And.intro @aO.eq_10 (And.intro @aO.eq_11 (And.intro @aO.eq_12 (And.intro @aO.eq_13 (And.intro @aO.eq_14 (And.intro @aO.eq_15 (And.intro @aO.eq_16 (And.intro @aO.eq_17 (And.intro @aO.eq_18 (And.intro @aO.eq_19 (And.intro @aO.eq_20 (And.intro @aO.eq_21 (And.intro @aO.eq_22 @aO.eq_23)))))))))))))))))))))))))))))))
theorem gS{p:Prop}(h:p:=by simp only[gW,reduceIte,Nat.reduceEqDiff,beq_self_eq_true]):p:=h
theorem gR{p:Prop}(h:p:=by simp only[gW,reduceIte,Nat.reduceEqDiff,beq_self_eq_true]<;>rfl):p:=h
theorem gA{p:Prop}(h:p:=by simp only[gW,reduceIte,Nat.reduceEqDiff,beq_self_eq_true]<;>assumption):p:=h
end Go.Proofs.YtnfciiiohoafaaaGreatDoor
end
section
namespace Go.Proofs.YtnfciiiohoafaaaGreatDoor
open Go.AE Go.NT
theorem pq(n:Int):(n.tmod 1073741789<0->fmod n=n.tmod 1073741789+1073741789)/\(¬n.tmod 1073741789<0->fmod n=n.tmod 1073741789)/\ -1073741789<n.tmod 1073741789/\n.tmod 1073741789<1073741789:=by
 unfold fmod Qi
 rcases Int.le_total 0 n with h|h
 ·rw[Int.tmod_eq_emod_of_nonneg h];omega
 ·obtain⟨m,rfl⟩:∃m,n= -m:=⟨-n,by omega⟩
  rw[Int.neg_tmod,Int.tmod_eq_emod_of_nonneg (by omega)];omega
theorem Qr:Tryz.f82.results.toList=[.tmp 2]:=kZq
theorem OE:Tryz.f81.results.toList=[.tmp 2]:=kZq
theorem SF:Tryz.f28.results.toList=[.tmp 4]:=kZq
theorem SG:Tryz.f29.results.toList=[.tmp 4]:=kZq
theorem ze(n:Int)(h:ae):W.call 82 [im n] h=some (.ret (im (fmod n)),h):=by
 obtain⟨m1,m2,m3,m4⟩:=pq n
 unfold im
 refine ar rfl Tryz.func82 rfl ?_
 by_cases c:n.tmod 1073741789<0
 ·have e:=m1 c
  clear m1 m2
  repeat' (first|simp(maxSteps:=999999) (disch:=first|exact dZ|fail) only[gW,reduceIte,Nat.reduceEqDiff,beq_self_eq_true,Qr, *] | (refine dX ?_ ?_<;>(intro _;try omega)) |refine aP kZq ?_)
 ·have e:=m2 c
  clear m1 m2
  repeat' (first|simp(maxSteps:=999999) (disch:=first|exact dZ|fail) only[gW,reduceIte,Nat.reduceEqDiff,beq_self_eq_true,Qr, *] | (refine dX ?_ ?_<;>(intro _;try omega)) |refine aP kZq ?_)
theorem Dk(n:Int):0<=fmod n/\fmod n<1073741789:=mJ n
theorem rC{a:Int}(h:0<=a):a.tmod 1073741789=a%1073741789:=Int.tmod_eq_emod_of_nonneg h
theorem Dl(a b:Int)(h:ae):W.call 29 [im a,im b] h=some (.ret (im (cq a b)),h):=by
 have ca:=ze a
 have cb:=ze b
 obtain⟨a1,a2⟩:=Dk a
 obtain⟨b1,b2⟩:=Dk b
 have p0:0<=fmod a * fmod b:=Int.mul_nonneg a1 b1
 have p1:fmod a * fmod b<=1073741789 * 1073741789:=Int.mul_le_mul (by omega) (by omega) b1 (by omega)
 have e:cq a b=(fmod a * fmod b).tmod 1073741789:=by rw[rC p0];rfl
 rw[e]
 unfold im at *
 refine ar rfl Tryz.func29 rfl ?_
 repeat' (first|simp(maxSteps:=999999) (disch:=first|exact dZ|fail) only[gW,reduceIte,Nat.reduceEqDiff,beq_self_eq_true,SG, *] | (refine dX ?_ ?_<;>(intro _;try omega)) |refine aP kZq ?_)
def tU(l:List Int):Int:=l.foldl cN 0
theorem xr(l:List Int)(x:Int):tU (l++[x])=cN (tU l) x:=by unfold tU;rw[List.foldl_append];rfl
theorem Es(l:List Int):okF (tU l):=by
 rcases List.eq_nil_or_concat l with rfl|⟨l',x,rfl⟩
 ·exact iJ
 ·rw[List.concat_eq_append,xr];exact oI _ _
theorem a9{α:Type}{l:List α}{i:Nat}{x:α}(h:l[i]?=some x):l.take (i+1)=l.take i++[x]:=by
 obtain⟨hi,rfl⟩:=List.getElem?_eq_some_iff.1 h
 rw[List.take_succ_eq_append_getElem hi]
theorem OF(l:List Int)(k:Tok)(hl:l.length<=9223372036854775807)(h:ae):W.call 81 [.list k 1 (ints l)] h=some (.ret (im (tU l)),h):=by
 have u23:=Tryz.underlying23
 have a3:=ag3;have s3:=sz3
 refine ar rfl Tryz.func81 rfl ?_
 repeat' (first|simp(maxSteps:=999999) (disch:=first|exact dZ|fail) only[gW,reduceIte,Nat.reduceEqDiff,beq_self_eq_true,OE,aU, *] | (refine dX ?_ ?_<;>(intro _;try omega)) |refine aP kZq ?_)
 refine aD (fun m e h'=>∃i:Nat,i<=l.length/\m=l.length - i/\e.get 6= .list k 1 (ints l)/\e.get 7= .v (.int .i64 (l.length:Nat))/\e.get 8= .v (.int .i64 i)/\e.get 3= .v (.int .i64 (tU (l.take i)))/\e.defers=[]/\h'=h) ?_ l.length _ _ ?_
 rotate_left 1
 ·refine⟨0,Nat.zero_le _,rfl,?_,?_,?_,?_,?_,rfl⟩<;>(first|assumption| (simp only[gW,reduceIte,Nat.reduceEqDiff,beq_self_eq_true,aU]<;>rfl))
 rintro m e h' ⟨i,hi,rfl,g6,g7,g8,g3,hd,rfl⟩
 by_cases hlt:i<l.length
 ·obtain⟨x,hx⟩:∃x,l[i]?=some x:=⟨_,List.getElem?_eq_getElem hlt⟩
  have hr:(ints l)[i]?=some (nC x):=by rw[A2,hx];rfl
  have hlt3:(i:Int)<((ints l).length:Int):=by rw[aU];omega
  have cx:=ze x
  obtain⟨x1,x2⟩:=Dk x
  obtain⟨s1,s2⟩:=Es (l.take i)
  have s2:tU (l.take i)<1073741789:=s2
  have e1:tU (l.take (i+1))=(tU (l.take i)+fmod x).tmod 1073741789:=by
   rw[a9 hx,xr,rC (by omega)]
   show(fmod (tU (l.take i))+fmod x)%Qi=_
   rw[ph (Es _)];rfl
  unfold im at cx
  generalize tU (l.take i)=s at *
  have hld:=Er (h:=h') hx
  unfold im at hld
  repeat' (first|simp(maxSteps:=999999) (disch:=first|exact dZ|fail) only[gW,reduceIte,Nat.reduceEqDiff,beq_self_eq_true,OE,aU,al, *] | (refine dX ?_ ?_<;>(intro _;try omega)) |refine aP kZq ?_)
  exact⟨l.length - (i+1),by omega,i+1,by omega,rfl,by trivial,by trivial,by simp,by rw[e1],by trivial,by trivial⟩
 ·have:i=l.length:=by omega
  subst this
  rw[List.take_length] at g3
  repeat' (first|simp(maxSteps:=999999) (disch:=first|exact dZ|fail) only[gW,reduceIte,Nat.reduceEqDiff,beq_self_eq_true,OE,aU,im, *] | (refine dX ?_ ?_<;>(intro _;try omega)) |refine aP kZq ?_)
theorem OG(a b:Int)(h:ae):W.call 28 [im a,im b] h=some (.ret (im (cN a b)),h):=by
 have c:=OF [a,b] .tight (by simp) h
 have e:tU [a,b]=cN a b:=by
  show cN (cN 0 a) b=cN a b
  rw[jU,jU,jU,Int.zero_add,Int.emod_add_emod]
 rw[e] at c
 have bl:aN Tryz.prog 23 2 [(0,im a),(1,im b)]=some (.list .tight 1 (ints [a,b])):=kZq
 unfold im at *
 refine ar rfl Tryz.func28 rfl ?_
 repeat' (first|simp(maxSteps:=999999) (disch:=first|exact dZ|fail) only[gW,reduceIte,Nat.reduceEqDiff,beq_self_eq_true,SF, *] | (refine dX ?_ ?_<;>(intro _;try omega)) |refine aP kZq ?_)
theorem Dm(a:Int):∀k:Nat,(a%Qi)^k%Qi=a^k%Qi:=by
 intro k
 induction k with
 |zero=>simp
 |succ k ih=>rw[Int.pow_succ,Int.pow_succ,Int.mul_emod,ih,Int.emod_emod_of_dvd _ (Int.dvd_refl _),<-Int.mul_emod]
theorem Mm(n:Int)(k:Nat):(((fmod n).toNat^k%Q:Nat):Int)=n^k%Qi:=by
 rw[Int.natCast_emod,Int.natCast_pow,mN,<-qw]
 exact Dm n k
def jI(r:Int)(l:Nat)(s x:Int):Prop:=okF x/\(x * s^l)%Qi=r
theorem jI.odd{r s x:Int}{l:Nat}(h:jI r l s x)(ho:l%2=1):jI r (l/2) (cq s s) (cq x s):=by
 refine⟨ru _ _,?_⟩
 rw[<-h.2,fR,fR,Int.mul_emod,Dm,Int.emod_emod_of_dvd _ (Int.dvd_refl _),<-Int.mul_emod,Int.mul_assoc]
 congr 2
 have e:l=2 * (l/2)+1:=by omega
 rw[show s^l=s^(2 * (l/2)+1) by rw[<-e],Int.pow_succ,Int.pow_mul,Int.mul_comm,show s * s=s^2 by rw[Int.pow_succ,Int.pow_succ,Int.pow_zero,Int.one_mul]]
theorem jI.even{r s x:Int}{l:Nat}(h:jI r l s x)(ho:l%2=0):jI r (l/2) (cq s s) x:=by
 refine⟨h.1,?_⟩
 rw[<-h.2,fR,Int.mul_emod,Dm,<-Int.mul_emod]
 congr 2
 have e:l=2 * (l/2):=by omega
 rw[show s^l=s^(2 * (l/2)) by rw[<-e],Int.pow_mul,show s * s=s^2 by rw[Int.pow_succ,Int.pow_succ,Int.pow_zero,Int.one_mul]]
theorem jI.done{r s x:Int}(h:jI r 0 s x):x=r:=by
 rw[<-h.2,Int.pow_zero,Int.mul_one]
 exact(Int.emod_eq_of_lt h.1.1 h.1.2).symm
theorem jI.start(n:Int):jI (eZ n) 1073741787 n 1:=by
 refine⟨by unfold okF;decide,?_⟩
 have e:(eZ n)=(((fmod n).toNat^(Q - 2)%Q:Nat):Int):=by
  unfold eZ
  rw[nu (by decide) (by decide) (by decide),Nat.one_mul]
 rw[e,Mm,Int.one_mul]
 rfl
theorem A3:Tryz.f201.results.toList=[.tmp 2,.tmp 3]:=kZq
theorem Dn(n:Int)(h:ae):W.call 201 [im n] h=some (.ret (.tuple [im (if fmod n=0 then 0 else eZ n),im (if fmod n=0 then 90 else 0)]),h):=by
 have cn:=ze n
 by_cases hz:fmod n=0
 ·rw[if_pos hz,if_pos hz]
  unfold im at *
  refine ar rfl Tryz.func201 rfl ?_
  repeat' (first|simp(maxSteps:=999999) (disch:=first|exact dZ|fail) only[gW,reduceIte,Nat.reduceEqDiff,beq_self_eq_true,A3, *] | (refine dX ?_ ?_<;>(intro _;try omega)) |refine aP kZq ?_)
 ·rw[if_neg hz,if_neg hz]
  have P0:=ah.mk (jI.start n)
  unfold im at *
  refine ar rfl Tryz.func201 rfl ?_
  repeat' (first|simp(maxSteps:=999999) (disch:=first|exact dZ|fail) only[gW,reduceIte,Nat.reduceEqDiff,beq_self_eq_true,A3, *] | (refine dX ?_ ?_<;>(intro _;try omega)) |refine aP kZq ?_)
  refine aD (fun m e h'=>∃(s x:Int),m<=1073741787/\jI (eZ n) m s x/\e.get 4= .v (.int .i64 (m:Nat))/\e.get 5= .v (.int .i64 s)/\e.get 2= .v (.int .i64 x)/\e.defers=[]/\h'=h) ?_ 1073741787 _ _ ?_
  rotate_left 1
  ·exact⟨n,1,Nat.le_refl _,P0.out,by exact gR,by exact gR,by exact gR,by exact gR,rfl⟩
  rintro l e h' ⟨s,x,hl,hI,g4,g5,g2,hd,rfl⟩
  have kI:=ah.mk hI
  have c1:=Dl x s
  have c2:=Dl s s
  unfold im at c1 c2
  by_cases h0:l=0
  ·subst h0
   have hx:=hI.done
   clear hI
   repeat' (first|simp(maxSteps:=999999) (disch:=first|exact dZ|fail) only[gW,reduceIte,Nat.reduceEqDiff,beq_self_eq_true,A3, *] | (refine dX ?_ ?_<;>(intro _;try omega)) |refine aP kZq ?_)
  ·have hdiv:((l:Nat):Int).tdiv 2=((l/2:Nat):Int):=by rw[Int.tdiv_eq_ediv_of_nonneg (by omega)];omega
   have hmod:((l:Nat):Int).tmod 2=((l%2:Nat):Int):=by rw[Int.tmod_eq_emod_of_nonneg (by omega)];omega
   have hz2:¬((l:Nat):Int)=0:=by omega
   clear hI
   rcases Nat.mod_two_eq_zero_or_one l with ho|ho
   ·rw[ho] at hmod
    repeat' (first|simp(maxSteps:=999999) (disch:=first|exact dZ|fail) only[gW,reduceIte,Nat.reduceEqDiff,beq_self_eq_true,A3, *] | (refine dX ?_ ?_<;>(intro _;try omega)) |refine aP kZq ?_)
    exact⟨l/2,by omega,_,_,by omega,kI.out.even ho,by trivial,by trivial,by trivial,by trivial,by trivial⟩
   ·rw[ho] at hmod
    repeat' (first|simp(maxSteps:=999999) (disch:=first|exact dZ|fail) only[gW,reduceIte,Nat.reduceEqDiff,beq_self_eq_true,A3, *] | (refine dX ?_ ?_<;>(intro _;try omega)) |refine aP kZq ?_)
    exact⟨l/2,by omega,_,_,by omega,kI.out.odd ho,by trivial,by trivial,by trivial,by trivial,by trivial⟩
def sgn(b:Bool):Nat:=if b=true then 0 else 1
def rD(x a n:Nat)(sq:Bool):Prop:=1<=a/\n%2=1/\Nat.Coprime a n/\a<=P/\n<=P/\mu x P%2=(mu a n+sgn sq)%2
theorem Et(b:Bool):(sgn (!b)+1)%2=sgn b%2:=by cases b<;>rfl
theorem rD.even{x a n:Nat}{sq:Bool}(h:rD x a n sq)(he:a%2=0):rD x (a/2) n (if n%8=3∨n%8=5 then !sq else sq):=by
 obtain⟨h1,h2,h3,h4,h5,h6⟩:=h
 have e:a=2 * (a/2):=by omega
 have hc:Nat.Coprime (2 * (a/2)) n:=by rw[<-e];exact h3
 have hs:=F4 h2 hc
 rw[<-e] at hs
 refine⟨by omega,h2,Nat.Coprime.coprime_mul_left hc,by omega,h5,?_⟩
 rw[h6]
 have:=Et sq
 split at hs<;>rename_i q
 ·rw[if_pos q];omega
 ·rw[if_neg q];omega
theorem rD.odd{x a n:Nat}{sq:Bool}(h:rD x a n sq)(ho:a%2=1)(hg:1<a):rD x (n%a) a (if a%4=3/\n%4=3 then !sq else sq):=by
 obtain⟨h1,h2,h3,h4,h5,h6⟩:=h
 have hs:=IZ h2 ho h3
 have hl:=Nat.mod_lt n (show 0<a by omega)
 have h0:n%a≠0:=fun q=>by
  have hd:=Nat.dvd_of_mod_eq_zero q
  have:=Nat.dvd_gcd (Nat.dvd_refl a) hd
  rw[h3] at this
  have:=Nat.le_of_dvd (by decide) this
  omega
 refine⟨by omega,ho,y6 h3,by omega,h4,?_⟩
 rw[h6]
 have:=Et sq
 split at hs<;>rename_i q
 ·rw[if_pos q];omega
 ·rw[if_neg q];omega
theorem rD.done{x n:Nat}{sq:Bool}(h0:1<=x)(hx:x<P)(h:rD x 1 n sq):elem x=sq:=by
 obtain⟨-,h2,-,-,-,h6⟩:=h
 rw[Oz (h:=n/2) (by omega)] at h6
 rw[Mj h0 hx]
 cases sq
 ·rw[decide_eq_false]
  rw[h6];decide
 ·rw[decide_eq_true]
  rw[h6];rfl
theorem rD.start{x:Nat}(h0:1<=x)(hx:x<P):rD x x P true:=⟨h0,by decide,El.coprime h0 hx,Nat.le_of_lt hx,Nat.le_refl _,by rw[show sgn true=0 from rfl,Nat.add_zero]⟩
theorem tV:Tryz.f46.results.toList=[.tmp 2]:=kZq
theorem Qs(a b:Nat):((a:Nat):Int).tdiv (b:Nat)=((a/b:Nat):Int):=by rw[Int.tdiv_eq_ediv_of_nonneg (by omega)];simp
theorem rE(a b:Nat):((a:Nat):Int).tmod (b:Nat)=((a%b:Nat):Int):=by rw[Int.tmod_eq_emod_of_nonneg (by omega)];simp
theorem xu{x:Int}(h:x<1∨2147483579<=x):aX x=false:=by
 unfold aX
 rcases h with h|h
 ·rw[decide_eq_false (by omega)];rfl
 ·have:elem x.toNat=false:=by
   rw[Bool.eq_false_iff]
   intro q
   have:=(elem_iff.1 q).2.1
   have hP:P=2147483579:=rfl
   omega
  rw[this,Bool.and_false]
theorem rF(x:Int)(h:ae):W.call 46 [im x] h=some (.ret (.v (.bool (aX x))),h):=by
 by_cases hx:x<1
 ·rw[xu (.inl hx)]
  unfold im
  refine ar rfl Tryz.func46 rfl ?_
  repeat' (first|simp(maxSteps:=999999) (disch:=first|exact dZ|fail) only[gW,reduceIte,Nat.reduceEqDiff,beq_self_eq_true,tV, *] | (refine dX ?_ ?_<;>(intro _;try omega)) |refine aP kZq ?_)
 by_cases hy:2147483579<=x
 ·rw[xu (.inr hy)]
  unfold im
  refine ar rfl Tryz.func46 rfl ?_
  repeat' (first|simp(maxSteps:=999999) (disch:=first|exact dZ|fail) only[gW,reduceIte,Nat.reduceEqDiff,beq_self_eq_true,tV, *] | (refine dX ?_ ?_<;>(intro _;try omega)) |refine aP kZq ?_)
 obtain⟨n0,rfl⟩:∃n:Nat,x=n:=⟨x.toNat,by omega⟩
 have h1:1<=n0:=by omega
 have h2:n0<P:=by have:P=2147483579:=rfl;omega
 have hfin:∀{m:Nat} {sq:Bool},rD n0 1 m sq->aX (n0:Int)=sq:=fun hh=>by
  unfold aX
  rw[decide_eq_true (by omega),Int.toNat_natCast,hh.done h1 h2];rfl
 have k0:=ah.mk (rD.start h1 h2)
 have kf:=ah.mk @hfin
 clear hfin
 unfold im
 generalize aX (n0:Int)=res at *
 have hnP:(n0:Int)<2147483579:=by omega
 clear h2
 refine ar rfl Tryz.func46 rfl ?_
 repeat' (first|simp(maxSteps:=999999) (disch:=first|exact dZ|fail) only[gW,reduceIte,Nat.reduceEqDiff,beq_self_eq_true,tV, *] | (refine dX ?_ ?_<;>(intro _;try omega)) |refine aP kZq ?_)
 refine aD (fun m e h'=>∃(n:Nat) (sq:Bool),rD n0 m n sq/\e.get 0= .v (.int .i64 (m:Nat))/\e.get 3= .v (.int .i64 (n:Nat))/\e.get 4= .v (.bool sq)/\e.defers=[]/\h'=h) ?_ n0 _ _ ?_
 rotate_left 1
 ·exact⟨2147483579,true,k0.out,by exact gR,by exact gR,by exact gR,by exact gR,rfl⟩
 rintro a e h' ⟨n,sq,hI,g0,g3,g4,hd,rfl⟩
 have kI:=ah.mk hI
 have ha1:=hI.1
 have ha4:a<=2147483579:=hI.2.2.2.1
 by_cases hone:a=1
 ·subst hone
  have hr:=kf.out hI
  clear hI
  repeat' (first|simp(maxSteps:=999999) (disch:=first|exact dZ|fail) only[gW,reduceIte,Nat.reduceEqDiff,beq_self_eq_true,tV, *] | (refine dX ?_ ?_<;>(intro _;try omega)) |refine aP kZq ?_)
 have hgt:(1:Int)<(a:Int):=by omega
 clear hI
 repeat' (first|simp(maxSteps:=999999) (disch:=first|exact dZ|fail) only[gW,reduceIte,Nat.reduceEqDiff,beq_self_eq_true,tV, *] | (refine dX ?_ ?_<;>(intro _;try omega)) |refine aP kZq ?_)
 refine aD (fun m e h''=>∃(sq:Bool),m<=a/\rD n0 m n sq/\e.get 0= .v (.int .i64 (m:Nat))/\e.get 3= .v (.int .i64 (n:Nat))/\e.get 4= .v (.bool sq)/\e.defers=[]/\h''=h') ?_ a _ _ ?_
 rotate_left 1
 ·exact⟨sq,Nat.le_refl _,kI.out,by first|assumption| (exact gA),by first|assumption| (exact gA),by first|assumption| (exact gA),by first|assumption| (exact gA),rfl⟩
 clear g0 g3 g4 hd kI sq
 rintro b e h'' ⟨sq,hba,hI,g0,g3,g4,hd,rfl⟩
 have kI:=ah.mk hI
 have hb1:=hI.1
 have hn2:=hI.2.1
 have hnP2:n<=2147483579:=hI.2.2.2.2.1
 clear hI
 have m2:((b:Nat):Int).tmod 2=((b%2:Nat):Int):=rE b 2
 have d2:((b:Nat):Int).tdiv 2=((b/2:Nat):Int):=Qs b 2
 have m8:((n:Nat):Int).tmod 8=((n%8:Nat):Int):=rE n 8
 have mb4:((b:Nat):Int).tmod 4=((b%4:Nat):Int):=rE b 4
 have mn4:((n:Nat):Int).tmod 4=((n%4:Nat):Int):=rE n 4
 have mnb:=rE n b
 rcases Nat.mod_two_eq_zero_or_one b with hb|hb
 ·have hE:=kI.out.even hb
  rw[hb,Int.natCast_zero] at m2
  by_cases c3:n%8=3
  ·rw[if_pos (.inl c3)] at hE
   have m8:((n:Nat):Int).tmod 8=3:=by rw[m8,c3];rfl
   have kE:=ah.mk hE
   clear hE
   repeat' (first|simp(maxSteps:=999999) (disch:=first|exact dZ|fail) only[gW,reduceIte,Nat.reduceEqDiff,beq_self_eq_true,tV, *] | (refine dX ?_ ?_<;>(intro _;try omega)) |refine aP kZq ?_)
   exact⟨b/2,by omega,_,by omega,kE.out,(by first|exact trivial|exact rfl),(by first|exact trivial|exact rfl),(by first|exact trivial|exact rfl),(by first|exact trivial|exact rfl),(by first|exact trivial|exact rfl)⟩
  ·by_cases c5:n%8=5
   ·rw[if_pos (.inr c5)] at hE
    have m8:((n:Nat):Int).tmod 8=5:=by rw[m8,c5];rfl
    have kE:=ah.mk hE
    clear hE
    repeat' (first|simp(maxSteps:=999999) (disch:=first|exact dZ|fail) only[gW,reduceIte,Nat.reduceEqDiff,beq_self_eq_true,tV, *] | (refine dX ?_ ?_<;>(intro _;try omega)) |refine aP kZq ?_)
    exact⟨b/2,by omega,_,by omega,kE.out,(by first|exact trivial|exact rfl),(by first|exact trivial|exact rfl),(by first|exact trivial|exact rfl),(by first|exact trivial|exact rfl),(by first|exact trivial|exact rfl)⟩
   ·rw[if_neg (by omega)] at hE
    have kE:=ah.mk hE
    have c3':¬(((n%8:Nat):Int)=3):=by omega
    have c5':¬(((n%8:Nat):Int)=5):=by omega
    clear hE
    repeat' (first|simp(maxSteps:=999999) (disch:=first|exact dZ|fail) only[gW,reduceIte,Nat.reduceEqDiff,beq_self_eq_true,tV, *] | (refine dX ?_ ?_<;>(intro _;try omega)) |refine aP kZq ?_)
    exact⟨b/2,by omega,_,by omega,kE.out,(by first|exact trivial|exact rfl),(by first|exact trivial|exact rfl),(by first|exact trivial|exact rfl),(by first|exact trivial|exact rfl),(by first|exact trivial|exact rfl)⟩
 ·rw[hb,Int.natCast_one] at m2
  by_cases hb1':b=1
  ·subst hb1'
   have hr:=kf.out kI.out
   repeat' (first|simp(maxSteps:=999999) (disch:=first|exact dZ|fail) only[gW,reduceIte,Nat.reduceEqDiff,beq_self_eq_true,tV, *] | (refine dX ?_ ?_<;>(intro _;try omega)) |refine aP kZq ?_)
  ·have hO:=kI.out.odd hb (by omega)
   have hne:¬((b:Nat):Int)=1:=by omega
   have hnz:¬((b:Nat):Int)=0:=by omega
   have hlt:=Nat.mod_lt n (show 0<b by omega)
   by_cases c4:b%4=3
   ·by_cases c5:n%4=3
    ·rw[if_pos ⟨c4,c5⟩] at hO
     have mb4:((b:Nat):Int).tmod 4=3:=by rw[mb4,c4];rfl
     have mn4:((n:Nat):Int).tmod 4=3:=by rw[mn4,c5];rfl
     have kO:=ah.mk hO
     clear hO
     repeat' (first|simp(maxSteps:=999999) (disch:=first|exact dZ|fail) only[gW,reduceIte,Nat.reduceEqDiff,beq_self_eq_true,tV, *] | (refine dX ?_ ?_<;>(intro _;try omega)) |refine aP kZq ?_)
     exact⟨n%b,by omega,b,_,kO.out,(by first|exact trivial|exact rfl),(by first|exact trivial|exact rfl),(by first|exact trivial|exact rfl),(by first|exact trivial|exact rfl),(by first|exact trivial|exact rfl)⟩
    ·rw[if_neg (by omega)] at hO
     have mb4:((b:Nat):Int).tmod 4=3:=by rw[mb4,c4];rfl
     have c5':¬(((n%4:Nat):Int)=3):=by omega
     have kO:=ah.mk hO
     clear hO
     repeat' (first|simp(maxSteps:=999999) (disch:=first|exact dZ|fail) only[gW,reduceIte,Nat.reduceEqDiff,beq_self_eq_true,tV, *] | (refine dX ?_ ?_<;>(intro _;try omega)) |refine aP kZq ?_)
     exact⟨n%b,by omega,b,_,kO.out,(by first|exact trivial|exact rfl),(by first|exact trivial|exact rfl),(by first|exact trivial|exact rfl),(by first|exact trivial|exact rfl),(by first|exact trivial|exact rfl)⟩
   ·rw[if_neg (by omega)] at hO
    have c4':¬(((b%4:Nat):Int)=3):=by omega
    have kO:=ah.mk hO
    clear hO
    repeat' (first|simp(maxSteps:=999999) (disch:=first|exact dZ|fail) only[gW,reduceIte,Nat.reduceEqDiff,beq_self_eq_true,tV, *] | (refine dX ?_ ?_<;>(intro _;try omega)) |refine aP kZq ?_)
    exact⟨n%b,by omega,b,_,kO.out,(by first|exact trivial|exact rfl),(by first|exact trivial|exact rfl),(by first|exact trivial|exact rfl),(by first|exact trivial|exact rfl),(by first|exact trivial|exact rfl)⟩
def pN(r n a c:Nat):Prop:=c<P/\a<P/\c * a^n%P=r
theorem pN.odd{r n a c:Nat}(h:pN r n a c)(ho:n%2=1):pN r (n/2) (a * a%P) (c * a%P):=by
 refine⟨Nat.mod_lt _ (by decide),Nat.mod_lt _ (by decide),?_⟩
 rw[<-h.2.2,Nat.mod_mul_mod,Nat.mul_mod,<-Nat.pow_mod,<-Nat.mul_mod,Nat.mul_assoc,<-Nat.pow_two,<-Nat.pow_mul,<-Nat.pow_succ',show(2 * (n/2)).succ=n by omega]
theorem pN.even{r n a c:Nat}(h:pN r n a c)(ho:n%2=0):pN r (n/2) (a * a%P) c:=by
 refine⟨h.1,Nat.mod_lt _ (by decide),?_⟩
 rw[<-h.2.2,Nat.mul_mod,<-Nat.pow_mod,<-Nat.mul_mod,<-Nat.pow_two,<-Nat.pow_mul,show 2 * (n/2)=n by omega]
theorem pN.done{r a c:Nat}(h:pN r 0 a c):c=r:=by
 rw[<-h.2.2,Nat.pow_zero,Nat.mul_one,Nat.mod_eq_of_lt h.1]
theorem pN.start{a n:Nat}(ha:a<P)(hn:n<2^31):pN (y7 a n) n a 1:=⟨by decide,ha,by rw[y8 hn,Nat.one_mul]⟩
theorem pN.bound{r n a c:Nat}(h:pN r n a c):c * a<=4611685722074649241/\a * a<=4611685722074649241:=by
 obtain⟨h1,h2,-⟩:=h
 have h1:c<=2147483579:=Nat.le_of_lt h1
 have h2:a<=2147483579:=Nat.le_of_lt h2
 exact⟨Nat.mul_le_mul h1 h2,Nat.mul_le_mul h2 h2⟩
def iL(a n:Int):Int:=if aX a=true then ((aY a.toNat n:Nat):Int) else 0
def lG(a:Int):Int:=if aX a=true then 0 else 100
def pO(a b:Int):Int:=if aX a=true/\aX b=true then ((a.toNat * b.toNat%P:Nat):Int) else 0
def mP(a b:Int):Int:=if aX a=true/\aX b=true then 0 else 100
theorem px{a:Int}(h:aX a=true):∃n:Nat,a=n/\elem n=true/\1<=n/\n<P:=by
 unfold aX at h
 rw[Bool.and_eq_true,decide_eq_true_eq] at h
 have:=elem_iff.1 h.2
 exact⟨a.toNat,by omega,h.2,this.1,this.2.1⟩
theorem OH:Tryz.f69.results.toList=[.tmp 4,.tmp 5]:=kZq
theorem OI:Tryz.f84.results.toList=[.tmp 2]:=kZq
theorem mul_tmod{a b:Nat}(ha:a<P)(hb:b<P):((a:Nat):Int) * (b:Nat)<=4611685722074649241/\(0:Int)<=((a:Nat):Int) * (b:Nat)/\(((a:Nat):Int) * (b:Nat)).tmod 2147483579=((a * b%P:Nat):Int):=by
 have h1:a<=2147483579:=Nat.le_of_lt ha
 have h2:b<=2147483579:=Nat.le_of_lt hb
 have:=Nat.mul_le_mul h1 h2
 have e:((a:Nat):Int) * (b:Nat)=((a * b:Nat):Int):=(Int.natCast_mul _ _).symm
 rw[e]
 exact⟨by omega,by omega,rE (a * b) 2147483579⟩
theorem Mn(a b:Int)(h:ae):W.call 69 [im a,im b] h=some (.ret (.tuple [im (pO a b),im (mP a b)]),h):=by
 have ca:=rF a
 have cb:=rF b
 unfold pO mP
 by_cases ha:aX a=true
 ·by_cases hb:aX b=true
  ·rw[if_pos ⟨ha,hb⟩,if_pos ⟨ha,hb⟩]
   rw[ha] at ca
   rw[hb] at cb
   obtain⟨x,rfl,-,-,x2⟩:=px ha
   obtain⟨y,rfl,-,-,y2⟩:=px hb
   obtain⟨m1,m2,-⟩:=mul_tmod x2 y2
   simp only[Int.toNat_natCast]
   have e1:((x:Nat):Int) * (y:Nat)=((x * y:Nat):Int):=(Int.natCast_mul _ _).symm
   have e3:((x * y:Nat):Int).tmod 2147483579=((x * y%P:Nat):Int):=rE (x * y) 2147483579
   rw[e1] at m1 m2
   have m4:x * y%P<2147483579:=Nat.mod_lt _ (by decide)
   clear ha hb
   unfold im at *
   refine ar rfl Tryz.func69 rfl ?_
   repeat' (first|simp(maxSteps:=999999) (disch:=first|exact dZ|fail) only[gW,reduceIte,Nat.reduceEqDiff,beq_self_eq_true,OH, *] | (refine dX ?_ ?_<;>(intro _;try omega)) |refine aP kZq ?_)
  ·have hb':aX b=false:=by simpa using hb
   rw[if_neg (fun q=>hb q.2),if_neg (fun q=>hb q.2)]
   rw[ha] at ca
   rw[hb'] at cb
   unfold im at *
   refine ar rfl Tryz.func69 rfl ?_
   repeat' (first|simp(maxSteps:=999999) (disch:=first|exact dZ|fail) only[gW,reduceIte,Nat.reduceEqDiff,beq_self_eq_true,OH, *] | (refine dX ?_ ?_<;>(intro _;try omega)) |refine aP kZq ?_)
 ·have ha':aX a=false:=by simpa using ha
  rw[if_neg (fun q=>ha q.1),if_neg (fun q=>ha q.1)]
  rw[ha'] at ca
  unfold im at *
  refine ar rfl Tryz.func69 rfl ?_
  repeat' (first|simp(maxSteps:=999999) (disch:=first|exact dZ|fail) only[gW,reduceIte,Nat.reduceEqDiff,beq_self_eq_true,OH, *] | (refine dX ?_ ?_<;>(intro _;try omega)) |refine aP kZq ?_)
def jJ(l:List Int):Int:=l.foldl (fun a x=>(a * (x.tmod 1073741789+1073741789)).tmod 1073741789) 1
theorem A4(l:List Int)(x:Int):jJ (l++[x])=(jJ l * (x.tmod 1073741789+1073741789)).tmod 1073741789:=by unfold jJ;rw[List.foldl_append];rfl
theorem Dp(n:Int):jJ [n]=fmod n:=by
 obtain⟨m1,m2,m3,m4⟩:=pq n
 show(1 * (n.tmod 1073741789+1073741789)).tmod 1073741789=fmod n
 rw[Int.one_mul,rC (by omega)]
 by_cases c:n.tmod 1073741789<0
 ·rw[m1 c];omega
 ·rw[m2 c];omega
theorem vj{a x:Int}(h:0<=a/\a<1073741789):0<=a * (x.tmod 1073741789+1073741789)/\a * (x.tmod 1073741789+1073741789)<=2305843013508661242/\0<=(a * (x.tmod 1073741789+1073741789)).tmod 1073741789/\(a * (x.tmod 1073741789+1073741789)).tmod 1073741789<1073741789:=by
 obtain⟨-,-,m3,m4⟩:=pq x
 have p0:0<=a * (x.tmod 1073741789+1073741789):=Int.mul_nonneg h.1 (by omega)
 have p1:a * (x.tmod 1073741789+1073741789)<=1073741789 * 2147483578:=Int.mul_le_mul (by omega) (by omega) (by omega) (by omega)
 rw[rC p0]
 omega
theorem Gf(l:List Int):0<=jJ l/\jJ l<1073741789:=by
 unfold jJ
 have key:∀(l:List Int) (a:Int),0<=a/\a<1073741789->0<=l.foldl (fun a x=>(a * (x.tmod 1073741789+1073741789)).tmod 1073741789) a/\l.foldl (fun a x=>(a * (x.tmod 1073741789+1073741789)).tmod 1073741789) a<1073741789:=by
  intro l
  induction l with
  |nil=>intro a h;exact h
  |cons x l ih=>intro a h;exact ih _ (vj h).2.2
 exact key l 1 ⟨by decide,by decide⟩
theorem Je(l:List Int)(k:Tok)(hl:l.length<=9223372036854775807)(h:ae):W.call 84 [.list k 1 (ints l)] h=some (.ret (im (jJ l)),h):=by
 have u23:=Tryz.underlying23
 have a3:=ag3;have s3:=sz3
 refine ar rfl Tryz.func84 rfl ?_
 repeat' (first|simp(maxSteps:=999999) (disch:=first|exact dZ|fail) only[gW,reduceIte,Nat.reduceEqDiff,beq_self_eq_true,OI,aU, *] | (refine dX ?_ ?_<;>(intro _;try omega)) |refine aP kZq ?_)
 refine aD (fun m e h'=>∃i:Nat,i<=l.length/\m=l.length - i/\e.get 6= .list k 1 (ints l)/\e.get 7= .v (.int .i64 (l.length:Nat))/\e.get 8= .v (.int .i64 i)/\e.get 3= .v (.int .i64 (jJ (l.take i)))/\e.defers=[]/\h'=h) ?_ l.length _ _ ?_
 rotate_left 1
 ·refine⟨0,Nat.zero_le _,rfl,?_,?_,?_,?_,?_,rfl⟩<;>(first|assumption| (simp only[gW,reduceIte,Nat.reduceEqDiff,beq_self_eq_true,aU]<;>rfl))
 rintro m e h' ⟨i,hi,rfl,g6,g7,g8,g3,hd,rfl⟩
 by_cases hlt:i<l.length
 ·obtain⟨x,hx⟩:∃x,l[i]?=some x:=⟨_,List.getElem?_eq_getElem hlt⟩
  have hlt3:(i:Int)<((ints l).length:Int):=by rw[aU];omega
  obtain⟨-,-,x1,x2⟩:=pq x
  obtain⟨s1,s2,s3',s4⟩:=vj (x:=x) (Gf (l.take i))
  have e1:jJ (l.take (i+1))=(jJ (l.take i) * (x.tmod 1073741789+1073741789)).tmod 1073741789:=by
   rw[a9 hx,A4]
  generalize jJ (l.take i)=s at *
  have hld:=Er (h:=h') hx
  unfold im at hld
  repeat' (first|simp(maxSteps:=999999) (disch:=first|exact dZ|fail) only[gW,reduceIte,Nat.reduceEqDiff,beq_self_eq_true,OI,aU,al, *] | (refine dX ?_ ?_<;>(intro _;try omega)) |refine aP kZq ?_)
  exact⟨l.length - (i+1),by omega,i+1,by omega,rfl,by trivial,by trivial,by simp,by rw[e1],by trivial,by trivial⟩
 ·have:i=l.length:=by omega
  subst this
  rw[List.take_length] at g3
  repeat' (first|simp(maxSteps:=999999) (disch:=first|exact dZ|fail) only[gW,reduceIte,Nat.reduceEqDiff,beq_self_eq_true,OI,aU,im, *] | (refine dX ?_ ?_<;>(intro _;try omega)) |refine aP kZq ?_)
end Go.Proofs.YtnfciiiohoafaaaGreatDoor
end
