/-
  Part of the proof: PK.
-/
import Derived.Test.YtnfciiiohoafaaaGreatDoorPJ
import Derived.Test.YtnfciiiohoafaaaGreatDoorPI
set_option maxHeartbeats 64000000
set_option maxRecDepth 100000
set_option linter.unusedSimpArgs false
set_option linter.unusedVariables false
set_option linter.constructorNameAsVariable false
section
namespace Go.Proofs.YtnfciiiohoafaaaGreatDoor
open Go.AE Go.NT
theorem _root_.Go.AE.Grown.tS{n0 n1:Nat}{h h':ae}{t:Tok}(g:Grown n1 h h' t)(hn:n0<=n1):Grown n0 h h' t:=⟨g.box,g.loop,g.can.mono hn,g.ok,g.tn,fun n hl hd=>g.dead n (Nat.lt_of_lt_of_le hl hn) hd⟩
theorem _root_.Go.AE.Grown.beside{n0:Nat}{h h':ae}{t k:Tok}(g:Grown h.tn h h' t)(hk:bG n0 h k):bG n0 h' k:=by
 rcases hk with rfl|rfl|⟨m,rfl,hm,ha⟩
 ·exact .inl rfl
 ·exact .inr (.inl rfl)
 ·refine .inr (.inr ⟨m,rfl,hm,?_⟩)
  have hlt:=gG ha
  unfold alive at ha ⊢
  simp only[Bool.and_eq_true,decide_eq_true_eq,Bool.not_eq_true',List.contains_eq_mem,decide_eq_false_iff_not] at ha ⊢
  exact⟨Nat.lt_of_lt_of_le hlt g.tn,fun hd=>ha.2 (g.dead m hlt hd)⟩
def kW:List U32:=(List.range 64).map kAt
theorem bl0:aN Tryz.prog 28 0 []=some (.list .tight 1 []):=kZq
theorem bdi(n:Int):fj Tryz.prog 96 [(0,.v (.int .i64 1)),(1,.v (.int .i64 n))]=some (.agg (cE 1 n [] .nil 0 [])):=kZq
theorem bdt(s:List UInt8):fj Tryz.prog 96 [(0,.v (.int .i64 2)),(2,.v (.string (bs s)))]=some (.agg (cE 2 0 s .nil 0 [])):=kZq
theorem S0{H:ae}{k n:Int}{s:List UInt8}{t:Tok}{sz:Nat}{rows:List (List AV)}:aA Tryz.prog (H.push (cE 0 0 [] .nil 0 [])) 96 (.ptr (.box H.boxes.length) 0) (.agg (cE k n s t sz rows))=some (H.push (cE k n s t sz rows)):=cQ rfl tX rfl rfl
def L2:List FuncId:=[28,29,30,46,65,66,69,78,82,94,118,119,120,121,123,132,138,140,146,194,201]
noncomputable def DH:FuncId->Option (List AV->ae->Option (AV × ae)):=fx W1 L2
noncomputable abbrev W2:=whole Tryz.prog Gt DH
theorem tH:jo DH L2:=nE
section
variable (a b n x:Int)
theorem Rg:∀h,W2.call 28 [im a,im b] h=some (.ret (im (cN a b)),h):=aF (L:=L2) rfl rfl rfl (SX a b _) rfl rfl
theorem Pa:∀h,W2.call 29 [im a,im b] h=some (.ret (im (cq a b)),h):=aF (L:=L2) rfl rfl rfl (SY a b _) rfl rfl
theorem JX:∀h,W2.call 201 [im n] h=some (.ret (.tuple [im (if fmod n=0 then 0 else eZ n),im (if fmod n=0 then 90 else 0)]),h):=aF (L:=L2) rfl rfl rfl (JH n _) rfl rfl
theorem Pb:∀h,W2.call 46 [im x] h=some (.ret (.v (.bool (aX x))),h):=aF (L:=L2) rfl rfl rfl (O2 x _) rfl rfl
theorem Rh:∀h,W2.call 69 [im a,im b] h=some (.ret (.tuple [im (pO a b),im (mP a b)]),h):=aF (L:=L2) rfl rfl rfl (QY a b _) rfl rfl
theorem Ri:∀h,W2.call 30 [im a,im n] h=some (.ret (.tuple [im (iL a n),im (lG a)]),h):=aF (L:=L2) rfl rfl rfl (QZ a n _) rfl rfl
end
theorem ok0:aZ ⟨[],[],0,[]⟩=true:=rfl
theorem Pc(tag b:List UInt8)(k:Tok)(hb:b.length<=1099511620000)(ht:tag.length<=1099511620000):∀h,W2.call 78 [.v (.string (bs tag)),.list k 1 (u8s b)] h=some (.ret (im (mK (dV tag b):Nat)),h):=
 aF (L:=L2) (args':=[.v (.string (bs tag)),.list (di k) 1 (u8s b)]) rfl (by rw[bM,bM,au.eq_1,iQ];rfl) (by simp[bA,aV,bV,fT]) (O4 tag b _ hb ht _) rfl rfl
theorem MD{v:Vl}{r:List AV}(hv:eo v r)(hd:eD v<=16)(hl:(fB v).length<=1099511600000):∃t,∀h,W2.call 146 [.agg r] h=some (.ret (.tuple [.list t 1 (u8s (fB v)),.v (.int .i64 0)]),h):=by
 obtain⟨h1,h2⟩:=eo.hold v r hv
 obtain⟨r',h',hc,t,rfl,-⟩:=GV h1 hd (by omega) ⟨[],[],0,[]⟩ ok0
 exact⟨di t,aF (L:=L2) (args':=[.agg (bM r)]) rfl rfl (by simpa [bA,aV] using h2) hc rfl (by simp[aV,bA,bV,fT])⟩
def oP(l:List Vl)(rows:List (List AV)):Prop:=rows.length=l.length/\∀(i:Nat) v r,l[i]?=some v->rows[i]?=some r->eo v r
theorem Rj:Tryz.f202.results.toList=[.tmp 4]:=kZq
theorem JY:Tryz.f219.results.toList=[]:=kZq
theorem mo:cZ Tryz.prog 23=some false:=kZq
theorem Rk:cZ Tryz.prog 203=some false:=kZq
theorem vD{H:ae}{b:Nat}{x:AV}(hb:H.boxes[b]?=some [x]):ai Tryz.prog Gt H 23 (.ptr (.box b) 0)=some x:=by rw[dc mo hb];rfl
theorem qa{H:ae}{b:Nat}{x:AV}(hb:H.boxes[b]?=some [x]):ai Tryz.prog Gt H 203 (.ptr (.box b) 0)=some x:=by rw[dc Rk hb];rfl
theorem ldc{H:ae}{b k:Nat}{cs:List AV}{x:AV}(hb:H.boxes[b]?=some cs)(hk:cs[k]?=some x):ai Tryz.prog Gt H 3 (.ptr (.box b) k)=some x:=by
 rw[dc ag3 hb,List.head?_drop,hk]
theorem oQ{H:ae}{b k:Nat}{cs:List AV}{x:AV}(hb:H.boxes[b]?=some cs)(hk:cs[k]?=some x):ai Tryz.prog Gt H 23 (.ptr (.box b) k)=some x:=by
 rw[dc mo hb,List.head?_drop,hk]
theorem vE{b len cap n:Nat}{k:IntKind}(hn:n<len):ay Tryz.prog 23 (.arr b 0 len cap) (.v (.int k (n:Nat)))=some (.ptr (.box b) n):=by
 rw[mE Tryz.underlying23 sz3 (by omega) (by omega),Int.toNat_natCast,Nat.mul_one,Nat.zero_add]
theorem xH{b len cap n:Nat}{k:IntKind}(hn:n<len):ay Tryz.prog 203 (.arr b 0 len cap) (.v (.int k (n:Nat)))=some (.ptr (.box b) n):=by
 rw[mE Tryz.underlying203 jC (by omega) (by omega),Int.toNat_natCast,Nat.mul_one,Nat.zero_add]
theorem Bq(xb w c:Nat)(h:ae):W2.call 202 [.arr xb 0 w w,im (c:Nat)] h=some (.ret (.func (.func 219) [] [.ptr (.box (h.boxes.length+1)) 0,.ptr (.box h.boxes.length) 0]),(h.push [.arr xb 0 w w]).push [im (c:Nat)]):=by
 have b1:(AV.arr xb 0 w w).aC=some [.arr xb 0 w w]:=rfl
 have b2:(AV.v (.int .i64 (c:Nat))).aC=some [.v (.int .i64 (c:Nat))]:=rfl
 unfold im
 refine ar rfl Tryz.func202 rfl ?_
 repeat' (first|simp(maxSteps:=999999) (disch:=first|exact dZ|fail) only[gW,reduceIte,Nat.reduceEqDiff,beq_self_eq_true,Rj,aw,az, *] | (refine dX ?_ ?_<;>(intro _;try omega)))
theorem vG(l cb rb xb w c:Nat)(row:List Int)(Inv:Nat->ae->Prop)
 (h1:∀k H,Inv k H->H.boxes[cb]?=some [im (c:Nat)]/\H.boxes[rb]?=some [.arr xb 0 w w]/\(k<w->∃cs,H.boxes[xb]?=some cs/\cs[k]?=some (im (at0 row k))))
 (hR:∀k H,c<=k->k<w->Inv k H->∃H',W2.round l [im (k:Nat),im (at0 row k)] H=some (.ret (.v (.bool true)),H')/\Inv (k+1) H')
 (hc:c<=w) (hwl:w<=1000000) (H0:ae) (h0:Inv c H0):∃H',W2.call 219 [.yield l,.ptr (.box cb) 0,.ptr (.box rb) 0] H0=some (.ret (.tuple []),H')/\Inv w H':=by
 have k1:=ah.mk h1
 have kR:=ah.mk hR
 have k0:=ah.mk h0
 obtain⟨b1,b2,-⟩:=h1 c H0 h0
 have l1:=ld3 b1
 unfold im at l1
 have u23:=Tryz.underlying23
 clear h1 hR h0 b1 b2
 refine dL rfl Tryz.func219 rfl ?_
 repeat' (first|simp(maxSteps:=999999) (disch:=first|exact dZ|fail) only[gW,reduceIte,Nat.reduceEqDiff,beq_self_eq_true,JY, *] | (refine dX ?_ ?_<;>(intro _;try omega)))
 refine aD (fun m e H=>∃k:Nat,c<=k/\k<=w/\m=w - k/\e.get 0= .yield l/\e.get 1= .ptr (.box cb) 0/\e.get 2= .ptr (.box rb) 0/\e.get 4= .v (.int .i64 k)/\e.defers=[]/\Inv k H) ?_ (w - c) _ _ ?_
 rotate_left 1
 ·refine⟨c,Nat.le_refl _,hc,rfl,?_,?_,?_,?_,?_,k0.out⟩<;>(first|assumption| (exact gR))
 clear l1 k0
 rintro m e H ⟨k,hk1,hk2,rfl,g0,g1,g2,g4,hd,hI⟩
 obtain⟨b1,b2,b3⟩:=k1.out k H hI
 have l2:=vD b2
 have kI:=ah.mk hI
 clear b1 hI
 by_cases hlt:k<w
 ·obtain⟨cs,b4,b5⟩:=b3 hlt
  obtain⟨H',r1,r2⟩:=kR.out k H hk1 hlt kI.out
  have ix:=vE (b:=xb) (len:=w) (cap:=w) (k:= .i64) hlt
  have l3:=ldc b4 b5
  have kI2:=ah.mk r2
  have hltI:((k:Nat):Int)<((w:Nat):Int):=by omega
  unfold im at *
  clear b2 b3 b4 b5 r2 kI
  repeat' (first|simp(maxSteps:=999999) (disch:=first|exact dZ|fail) only[gW,reduceIte,Nat.reduceEqDiff,beq_self_eq_true,JY,gY, *] | (refine dX ?_ ?_<;>(intro _;try omega)))
  exact⟨w - (k+1),by omega,k+1,by omega,by omega,rfl,by trivial,by trivial,by trivial,by simp,by trivial,kI2.out⟩
 ·have:k=w:=by omega
  subst this
  clear b2 b3
  repeat' (first|simp(maxSteps:=999999) (disch:=first|exact dZ|fail) only[gW,reduceIte,Nat.reduceEqDiff,beq_self_eq_true,JY, *] | (refine dX ?_ ?_<;>(intro _;try omega)))
  exact⟨_,rfl,kI.out⟩
theorem JZ:Tryz.f203.results.toList=[]:=kZq
structure Tab(H:ae)(tb:Nat)(B:List Nat)(t:List (List Int))(w:Nat):Prop where
 hdr:H.boxes[tb]?=some (B.map fun b=>AV.arr b 0 w w)
 len:B.length=t.length
 nd:B.Nodup
 row:∀(i b:Nat) (r:List Int),B[i]?=some b->t[i]?=some r->H.boxes[b]?=some (r.map im)
 wid:∀r∈t,r.length=w
 out:tb∉B
theorem J0{l:List Nat}(h:l.Nodup){i j x:Nat}(hi:l[i]?=some x)(hj:l[j]?=some x):i=j:=by
 obtain⟨h1,e1⟩:=List.getElem?_eq_some_iff.1 hi
 obtain⟨h2,e2⟩:=List.getElem?_eq_some_iff.1 hj
 exact(List.getElem_inj h).1 (e1.trans e2.symm)
theorem Tab.set{H:ae}{tb w i b:Nat}{B:List Nat}{t:List (List Int)}(T:Tab H tb B t w)(hi:B[i]?=some b){r:List Int}(hr:r.length=w):Tab (H.put b (r.map im)) tb B (t.set i r) w:=by
 have hil:=(List.getElem?_eq_some_iff.1 hi).1
 have hbm:=List.mem_of_getElem? hi
 refine⟨?_,by rw[List.length_set];exact T.len,T.nd,fun j b' r' hj hr'=>?_,fun r' hr'=>?_,T.out⟩
 ·rw[av (fun e=>T.out (by rw[e];exact hbm))];exact T.hdr
 ·by_cases hji:j=i
  ·subst hji
   rw[hi] at hj
   injection hj with hj
   subst hj
   rw[List.getElem?_set_self (by rw[<-T.len];exact hil)] at hr'
   injection hr' with hr'
   subst hr'
   have hl2:j<t.length:=by rw[<-T.len];exact hil
   exact aS (List.getElem?_eq_some_iff.1 (T.row j b _ hi (List.getElem?_eq_getElem hl2))).1
  ·have hne:b'≠b:=fun e=>hji (J0 T.nd (by rw[<-e];exact hj) hi)
   rw[av hne]
   rw[List.getElem?_set_ne (fun e=>hji e.symm)] at hr'
   exact T.row j b' r' hj hr'
 ·rcases List.mem_or_eq_of_mem_set hr' with q|q
  ·exact T.wid r' q
  ·rw[q];exact hr
theorem Tab.mono{H H':ae}{tb w:Nat}{B:List Nat}{t:List (List Int)}(T:Tab H tb B t w)(m:∀(c:Nat) cs,H.boxes[c]?=some cs->H'.boxes[c]?=some cs):Tab H' tb B t w:=
 ⟨m _ _ T.hdr,T.len,T.nd,fun i b r hi hr=>m _ _ (T.row i b r hi hr),T.wid,T.out⟩
def lV(n:Int)(a own:List Int)(c k:Nat):List Int:=(List.range a.length).map fun j=>if c<=j/\j<k then nw n (at0 a j) (at0 own j) else at0 a j
theorem fK{n:Int}{a own:List Int}{c k:Nat}:(lV n a own c k).length=a.length:=by unfold lV;simp
theorem rP{n:Int}{a own:List Int}{c k j:Nat}(hj:j<a.length):at0 (lV n a own c k) j=if c<=j/\j<k then nw n (at0 a j) (at0 own j) else at0 a j:=by
 rw[bN (by rw[fK];exact hj)]
 unfold lV
 rw[List.getElem_map,List.getElem_range]
theorem GW{n:Int}{a own:List Int}{c:Nat}:lV n a own c c=a:=by
 refine jV fK fun j hj=>?_
 rw[fK] at hj
 rw[rP hj,if_neg (by omega)]
theorem GX{n:Int}{a own:List Int}{c k:Nat}(hc:c<=k)(hk:k<a.length):(lV n a own c k).set k (nw n (at0 a k) (at0 own k))=lV n a own c (k+1):=by
 refine jV (by rw[List.length_set,fK,fK]) fun j hj=>?_
 rw[List.length_set,fK] at hj
 rw[ui (by rw[fK];exact hk),rP hj,rP hj]
 by_cases hjk:j=k
 ·subst hjk;rw[if_pos rfl,if_pos (by omega)]
 ·rw[if_neg hjk]
  by_cases q:c<=j/\j<k
  ·rw[if_pos q,if_pos (by omega)]
  ·rw[if_neg q,if_neg (by omega)]
theorem J2{n:Int}{a own:List Int}{c:Nat}(hl:a.length=own.length)(hc:c<=a.length):lV n a own c a.length=a.take c++fH n (a.drop c) (own.drop c):=by
 have hd:(a.drop c).length=(own.drop c).length:=by simp[hl]
 refine jV (by rw[fK,List.length_append,jz hd,List.length_take,List.length_drop];omega) fun j hj=>?_
 rw[fK] at hj
 rw[rP hj,kJ hc]
 by_cases q:j<c
 ·rw[if_neg (by omega),if_pos q]
 ·rw[if_pos (by omega),if_neg q,iK hd (by rw[List.length_drop];omega),ry,ry,show c+(j - c)=j by omega]
theorem gv{r:List Int}{k:Nat}(hk:k<r.length):(r.map im)[k]?=some (im (at0 r k)):=by
 rw[List.getElem?_map,List.getElem?_eq_getElem hk,bN hk];rfl
theorem J3{H:ae}{b k:Nat}{r:List Int}{x:Int}(hb:H.boxes[b]?=some (r.map im))(hk:k<r.length):aA Tryz.prog H 3 (.ptr (.box b) k) (.v (.int .i64 x))=some (H.put b ((r.set k x).map im)):=by
 rw[aW (xs:=[im x]) rfl sz3 hb rfl (by rw[List.length_map];exact hk)]
 congr 2
 unfold bI
 rw[List.map_set,List.set_eq_take_append_cons_drop,if_pos (by rw[List.length_map];exact hk)]
 simp
theorem nI{x:Int}(h:okF x):0<=x/\x<=9223372036854775807:=by
 obtain⟨h1,h2⟩:=h
 have:Qi=1073741789:=rfl
 omega
theorem J4(h:ae)(tb:Nat)(B:List Nat)(t:List (List Int))(w i y c:Nat)(a own:List Int)(T:Tab h tb B t w)(hi:t[i]?=some a)(hy:t[y]?=some own)(hne:i≠y)(hc:c<w)(hw:w<=1000000)(hok:∀r∈t,∀x∈r,okF x):
 ∃h',W2.call 203 [.arr tb 0 B.length B.length,im (i:Nat),im (y:Nat),im (c:Nat)] h=some (.ret (.tuple []),h')/\Tab h' tb B (t.set i (lE c a own)) w/\∀n0,fi B n0 h h':=by
 have hil:=(List.getElem?_eq_some_iff.1 hi).1
 have hyl:=(List.getElem?_eq_some_iff.1 hy).1
 obtain⟨bi,hbi⟩:∃b,B[i]?=some b:=⟨_,List.getElem?_eq_getElem (by rw[T.len];exact hil)⟩
 obtain⟨bY,hby⟩:∃b,B[y]?=some b:=⟨_,List.getElem?_eq_getElem (by rw[T.len];exact hyl)⟩
 have ra:=T.row i bi a hbi hi
 have ro:=T.row y bY own hby hy
 have wa:=T.wid a (List.mem_of_getElem? hi)
 have wo:=T.wid own (List.mem_of_getElem? hy)
 have hbb:bi≠bY:=fun e=>hne (J0 T.nd (by rw[e] at hbi;exact hbi) hby)
 have hdl:=(List.getElem?_eq_some_iff.1 T.hdr).1
 have hbil:=(List.getElem?_eq_some_iff.1 ra).1
 have hbyl:=(List.getElem?_eq_some_iff.1 ro).1
 have htbi:tb≠bi:=fun e=>T.out (by rw[e];exact List.mem_of_getElem? hbi)
 have hdi:(B.map fun b=>AV.arr b 0 w w)[i]?=some (.arr bi 0 w w):=by rw[List.getElem?_map,hbi];rfl
 have hdy:(B.map fun b=>AV.arr b 0 w w)[y]?=some (.arr bY 0 w w):=by rw[List.getElem?_map,hby];rfl
 have oka:=hok a (List.mem_of_getElem? hi)
 have oko:=hok own (List.mem_of_getElem? hy)
 have hiB:i<B.length:=by rw[T.len];exact hil
 have hyB:y<B.length:=by rw[T.len];exact hyl
 have z3:=zc3
 have bx1:∀b n m:Nat,(AV.arr b 0 n m).aC=some [.arr b 0 n m]:=fun _ _ _=>rfl
 have bx2:∀n:Int,(AV.v (.int .i64 n)).aC=some [.v (.int .i64 n)]:=fun _=>rfl
 have ixi:=xH (b:=tb) (len:=B.length) (cap:=B.length) (k:= .i64) hiB
 have ixy:=xH (b:=tb) (len:=B.length) (cap:=B.length) (k:= .i64) hyB
 have ixc:=vE (b:=bi) (len:=w) (cap:=w) (k:= .i64) hc
 have n0:=nI (gU oka c)
 have unf:lE c a own=if at0 a c=0 then a else lV (at0 a c) a own c w:=by
  unfold lE
  rw[<-wa,J2 (by omega) (by omega)]
 rw[unf]
 clear unf
 generalize hn:at0 a c=n at *
 have hbase:∀(z:AV) (cs ds:List AV),((h.push cs).push ds).boxes[tb]?=some (B.map fun b=>AV.arr b 0 w w)/\((h.push cs).push ds).boxes[bi]?=some (a.map im):=fun z cs ds=>⟨aj (aj T.hdr),aj (aj ra)⟩
 generalize hH2:(h.push [.arr tb 0 B.length B.length]).push [im (i:Nat)]=H2
 have l1:∀cs,ai Tryz.prog Gt (H2.push cs) 203 (.ptr (.box h.boxes.length) 0)=some (.arr tb 0 B.length B.length):=fun cs=>qa (by rw[<-hH2];exact aj (aj (ak _ _)))
 have l1':ai Tryz.prog Gt H2 203 (.ptr (.box h.boxes.length) 0)=some (.arr tb 0 B.length B.length):=qa (by rw[<-hH2];exact aj (ak _ _))
 have l2:ai Tryz.prog Gt H2 3 (.ptr (.box (h.boxes.length+1)) 0)=some (.v (.int .i64 (i:Nat))):=ld3 (by rw[<-hH2];exact cD (by rw[az]))
 have l3:ai Tryz.prog Gt H2 23 (.ptr (.box tb) i)=some (.arr bi 0 w w):=oQ (by rw[<-hH2];exact aj (aj T.hdr)) hdi
 have l4:ai Tryz.prog Gt H2 3 (.ptr (.box bi) c)=some (.v (.int .i64 n)):=by
  have:=ldc (k:=c) (x:=im (at0 a c)) (show H2.boxes[bi]?=some (a.map im) by rw[<-hH2];exact aj (aj ra)) (gv (by omega))
  rw[hn] at this;exact this
 have l5:ai Tryz.prog Gt (H2.push [.v (.int .i64 n)]) 3 (.ptr (.box H2.boxes.length) 0)=some (.v (.int .i64 n)):=ld3 (ak _ _)
 have s5:aA Tryz.prog (H2.push [im 0]) 3 (.ptr (.box H2.boxes.length) 0) (.v (.int .i64 n))=some (H2.push [.v (.int .i64 n)]):=cQ rfl sz3 rfl rfl
 have l6:∀cs,ai Tryz.prog Gt (H2.push cs) 23 (.ptr (.box tb) y)=some (.arr bY 0 w w):=fun cs=>oQ (by rw[<-hH2];exact aj (aj (aj T.hdr))) hdy
 have kH2l:ah (H2.boxes.length=h.boxes.length+2):=⟨by rw[<-hH2,az,az]⟩
 have kM2:ah (∀n0,fi B n0 h H2):=⟨fun n0=>by rw[<-hH2];exact(fi.refl.push _).push _⟩
 have kT2:ah (Tab H2 tb B t w):=⟨T.mono fun cc cs q=>by rw[<-hH2];exact aj (aj q)⟩
 have e0:(h.push [AV.arr tb 0 B.length B.length]).push [.v (.int .i64 (i:Nat))]=H2:=hH2
 have kL2:ah (H2.loops=h.loops):=⟨by rw[<-hH2];rfl⟩
 have kb0:ah (H2.boxes[h.boxes.length]?=some [.arr tb 0 B.length B.length]):=⟨by rw[<-hH2];exact aj (ak _ _)⟩
 have kb1:ah (H2.boxes[h.boxes.length+1]?=some [im (i:Nat)]):=⟨by rw[<-hH2];exact cD (by rw[az])⟩
 have e1:(h.push [AV.arr tb 0 B.length B.length]).boxes.length=h.boxes.length+1:=az _ _
 have kT:=ah.mk T
 have ko:=ah.mk (And.intro oka oko)
 clear hbase hdl T ra ro hok oka oko hH2
 unfold im at *
 refine dL rfl Tryz.func203 rfl ?_
 by_cases hz:n=0
 ·subst hz
  rw[if_pos rfl]
  repeat' (first|simp(maxSteps:=999999) (disch:=first|exact dZ|fail) only[gW,reduceIte,Nat.reduceEqDiff,beq_self_eq_true,JZ,aw, *] | (refine dX ?_ ?_<;>(intro _;try omega)))
  exact⟨_,rfl,by
   have e:t.set i a=t:=by
    apply List.ext_getElem?
    intro j
    rw[List.getElem?_set]
    split
    ·rename_i q;subst q;exact hi.symm
    ·rfl
   rw[e]
   exact kT2.out.mono fun cc cs q=>aj q,fun n0=>(kM2.out n0).push _⟩
 ·rw[if_neg hz]
  have af:=Bq bY w c (H2.push [.v (.int .i64 n)])
  unfold im at af
  repeat' (first|simp(maxSteps:=999999) (disch:=first|exact dZ|fail) only[gW,reduceIte,Nat.reduceEqDiff,beq_self_eq_true,JZ,aw, *] | (refine dX ?_ ?_<;>(intro _;try omega)))
  refine Run.gen fun e he hd hp hro=>?_
  have g4:e.get 4= .ptr (.box h.boxes.length) 0:=by rw[he];exact gS
  have g5:e.get 5= .ptr (.box (h.boxes.length+1)) 0:=by rw[he];exact gS
  have g8:e.get 8= .ptr (.box H2.boxes.length) 0:=by rw[he];exact gS
  have g25:e.get 25= .func (.func 219) [] [.ptr (.box (H2.boxes.length+1+1)) 0,.ptr (.box (H2.boxes.length+1)) 0]:=by rw[he];simp only[gW,reduceIte,Nat.reduceEqDiff,beq_self_eq_true];simp only[az]
  have hdf:e.defers=[]:=by rw[hd];exact gS
  clear he hd hp hro
  refine kD (by rw[lv];exact g25) fun rec w1 w2 w3 w4 w5 w6=>?_
  have hkk:=kH2l.out
  have hT2:=kT2.out
  have hok:=ko.out
  have hM3:∀n0,fi B n0 h (((H2.push [.v (.int .i64 n)]).push [.arr bY 0 w w]).push [.v (.int .i64 c)]):=fun n0=>(((kM2.out n0).push _).push _).push _
  have hT3:Tab (((H2.push [.v (.int .i64 n)]).push [.arr bY 0 w w]).push [.v (.int .i64 c)]) tb B t w:=hT2.mono fun cc cs q=>aj (aj (aj q))
  have p0:(((H2.push [.v (.int .i64 n)]).push [.arr bY 0 w w]).push [.v (.int .i64 c)]).boxes[H2.boxes.length]?=some [.v (.int .i64 n)]:=aj (aj (ak _ _))
  have p1:(((H2.push [.v (.int .i64 n)]).push [.arr bY 0 w w]).push [.v (.int .i64 c)]).boxes[H2.boxes.length+1]?=some [.arr bY 0 w w]:=aj (cD (by rw[az]))
  have p2:(((H2.push [.v (.int .i64 n)]).push [.arr bY 0 w w]).push [.v (.int .i64 c)]).boxes[H2.boxes.length+1+1]?=some [.v (.int .i64 c)]:=cD (by rw[az,az])
  have p3:(((H2.push [.v (.int .i64 n)]).push [.arr bY 0 w w]).push [.v (.int .i64 c)]).boxes[h.boxes.length]?=some [.arr tb 0 B.length B.length]:=aj (aj (aj kb0.out))
  have p4:(((H2.push [.v (.int .i64 n)]).push [.arr bY 0 w w]).push [.v (.int .i64 c)]).boxes[h.boxes.length+1]?=some [.v (.int .i64 i)]:=aj (aj (aj kb1.out))
  have pL:(((H2.push [.v (.int .i64 n)]).push [.arr bY 0 w w]).push [.v (.int .i64 c)]).loops=h.loops:=kL2.out
  generalize ((H2.push [.v (.int .i64 n)]).push [.arr bY 0 w w]).push [.v (.int .i64 c)]=H3 at *
  have hLL:H3.loops.length=h.loops.length:=congrArg List.length pL
  rw[hLL]
  clear pL
  clear l1 l1' l2 l3 l4 l5 s5 l6 e0 e1 af hT2 kb0 kb1
  have hrow:=hT3.row i bi a hbi hi
  have hrow2:=hT3.row y bY own hby hy
  have hbl:=(List.getElem?_eq_some_iff.1 hrow).1
  have htl:=(List.getElem?_eq_some_iff.1 (kT.out.hdr)).1
  have hblh:=(List.getElem?_eq_some_iff.1 (kT.out.row i bi a hbi hi)).1
  have hlr:(H3.loop rec).loops[h.loops.length]?=some rec:=by rw[<-hLL];exact @kC H3 rec
  have I1:∀(k:Nat) (H:ae),H=(H3.loop rec).put bi ((lV n a own c k).map im)->H.boxes[H2.boxes.length+1+1]?=some [im (c:Nat)]/\H.boxes[H2.boxes.length+1]?=some [.arr bY 0 w w]/\(k<w->∃cs,H.boxes[bY]?=some cs/\cs[k]?=some (im (at0 own k))):=by
   rintro k H rfl
   refine⟨?_,?_,fun hk=>⟨_,?_,gv (by omega)⟩⟩
   ·rw[av (by omega)];exact p2
   ·rw[av (by omega)];exact p1
   ·rw[av (Ne.symm hbb)];exact hrow2
  have I2:∀(k:Nat) (H:ae),c<=k->k<w->H=(H3.loop rec).put bi ((lV n a own c k).map im)->∃H',W2.round h.loops.length [im (k:Nat),im (at0 own k)] H=some (.ret (.v (.bool true)),H')/\H'=(H3.loop rec).put bi ((lV n a own c (k+1)).map im):=by
   rintro k H hk1 hk2 rfl
   refine pC (Post:=fun H=>H=(H3.loop rec).put bi ((lV n a own c (k+1)).map im)) hlr (by rw[w2];rfl) w5 w6 ?_
   have kq:=GX (n:=n) (own:=own) hk1 (show k<a.length by omega)
   have cat:at0 (lV n a own c k) k=at0 a k:=by rw[rP (by omega),if_neg (by omega)]
   have r1:∀t,(dD h.loops.length rec [im (k:Nat),im (at0 own k)]).get t=if 27=t then im (at0 own k) else if 26=t then im (k:Nat) else e.get t:=fun t=>jn w2 w1
   have d1:(dD h.loops.length rec [im (k:Nat),im (at0 own k)]).defers=[]:=rfl
   obtain⟨K,hK⟩:∃K,((H3.loop rec).put bi ((lV n a own c k).map im)).busy h.loops.length rec=K:=⟨_,rfl⟩
   rw[hK]
   have b1:K.boxes[bi]?=some ((lV n a own c k).map im):=by rw[<-hK];exact aS hbl
   have b2:K.boxes[h.boxes.length]?=some [.arr tb 0 B.length B.length]:=by rw[<-hK];exact(av (by omega)).trans p3
   have b3:K.boxes[h.boxes.length+1]?=some [im (i:Nat)]:=by rw[<-hK];exact(av (by omega)).trans p4
   have b4:K.boxes[H2.boxes.length]?=some [im n]:=by rw[<-hK];exact(av (by omega)).trans p0
   have b5:K.boxes[tb]?=some (B.map fun b=>AV.arr b 0 w w):=by rw[<-hK];exact(av htbi).trans hT3.hdr
   have m1:=ldc b1 (gv (r:=lV n a own c k) (k:=k) (by rw[fK];omega))
   rw[cat] at m1
   have m2:=qa b2
   have m3:=ld3 b3
   have m4:=ld3 b4
   have m5:=oQ b5 hdi
   have ixk:=vE (b:=bi) (len:=w) (cap:=w) (k:= .i64) hk2
   have sk:=J3 (r:=lV n a own c k) (k:=k) (x:=nw n (at0 a k) (at0 own k)) b1 (by rw[fK];omega)
   rw[kq] at sk
   have ok1:=nI (gU hok.1 k)
   have ok2:=nI (gU hok.2 k)
   have f1:=fun h=>Pa n (at0 own k) h
   have f2:=fun h=>Rg (at0 a k) (0 - cq n (at0 own k)) h
   have f3:=nI (ru n (at0 own k))
   have fl:nw n (at0 a k) (at0 own k)=cN (at0 a k) (0 - cq n (at0 own k)):=by rw[Int.zero_sub];rfl
   rw[fl] at sk
   generalize cq n (at0 own k)=z at *
   generalize at0 a k=z1 at *
   generalize at0 own k=z2 at *
   clear hkk g25 hrow hrow2 p0 p1 p2 p3 p4 kH2l kM2 kT2 kT ko cat hM3 hT3 b1 b2 b3 b4 b5 kq fl hok
   unfold im at *
   rw[w3,w4]
   repeat' (first|simp(maxSteps:=999999) (disch:=first|exact dZ|fail) only[gW,reduceIte,Nat.reduceEqDiff,beq_self_eq_true, *] | (refine dX ?_ ?_<;>(intro _;try omega)))
   refine⟨trivial,trivial,?_⟩
   refine Run.gen fun e2 he2 hd2 hp2 hro2=>?_
   have q4:e2.get 4= .ptr (.box h.boxes.length) 0:=by rw[he2];simp only[gW,reduceIte,Nat.reduceEqDiff,beq_self_eq_true,r1];exact g4
   have q5:e2.get 5= .ptr (.box (h.boxes.length+1)) 0:=by rw[he2];simp only[gW,reduceIte,Nat.reduceEqDiff,beq_self_eq_true,r1];exact g5
   have q8:e2.get 8= .ptr (.box H2.boxes.length) 0:=by rw[he2];simp only[gW,reduceIte,Nat.reduceEqDiff,beq_self_eq_true,r1];exact g8
   have q9:e2.get 9= .v (.int .i64 k):=by rw[he2];simp only[gW,reduceIte,Nat.reduceEqDiff,beq_self_eq_true,r1]
   have q10:e2.get 10= .v (.int .i64 z2):=by rw[he2];simp only[gW,reduceIte,Nat.reduceEqDiff,beq_self_eq_true,r1]
   clear he2 hd2 hp2 hro2 r1 d1
   repeat' (first|simp(maxSteps:=999999) (disch:=first|exact dZ|fail) only[gW,reduceIte,Nat.reduceEqDiff,beq_self_eq_true, *] | (refine dX ?_ ?_<;>(intro _;try omega)) |refine bf tH kZq ?_)
   rw[<-hK]
   simp only[ae.put,ae.busy,ae.loop,List.set_set]
   exact⟨trivial,trivial,trivial⟩
  obtain⟨h',c1,c2⟩:=vG h.loops.length (H2.boxes.length+1+1) (H2.boxes.length+1) bY w c own (fun k H=>H=(H3.loop rec).put bi ((lV n a own c k).map im)) I1 I2 (by omega) hw ((H3.loop rec).put bi ((lV n a own c c).map im)) rfl
  have e3:H3.loop rec=(H3.loop rec).put bi ((lV n a own c c).map im):=by
   rw[GW];exact(ec (h:=H3.loop rec) hrow).symm
  rw[<-e3] at c1
  subst c2
  clear e3
  refine⟨_,_,c1,rec,hlr,by rw[w5];decide,.inl ⟨w6,?_⟩⟩
  clear c1 w1 w2 w3 w4 w5 w6 hlr hrow hrow2 p0 p1 p2 p3 p4 kH2l kM2 kT2 kT ko
  repeat' (first|simp(maxSteps:=999999) (disch:=first|exact dZ|fail) only[gW,reduceIte,Nat.reduceEqDiff,beq_self_eq_true,JZ, *] | (refine dX ?_ ?_<;>(intro _;try omega)))
  refine⟨_,rfl,?_,fun n0=>(((hM3 n0).lD _).trans (.put (List.mem_of_getElem? hbi) _)).bh (Nat.le_refl _) _⟩
  have T5:=Tab.set (H:=H3.loop rec) (hT3.mono fun _ _ q=>q) hbi (r:=lV n a own c w) (by rw[fK];exact wa)
  exact T5.mono fun _ _ q=>q
end Go.Proofs.YtnfciiiohoafaaaGreatDoor
end
