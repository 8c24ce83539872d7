/-
  Part of the proof: PO.
-/
import Derived.Test.YtnfciiiohoafaaaGreatDoorPN
set_option maxHeartbeats 64000000
set_option maxRecDepth 100000
set_option linter.unusedSimpArgs false
set_option linter.unusedVariables false
set_option linter.constructorNameAsVariable false
section
namespace Go.Proofs.YtnfciiiohoafaaaGreatDoor
open Go.AE Go.NT
theorem Kz(x y:AV)(rows:List (List Int))(owners:List Int)(hx:RL x rows)(hy:IL y owners):∀h,W4.call 97 [.agg [x,y]] h=some (.ret (.v (.int .i64 (bC rows owners))),h):=by
 obtain⟨h1,h2⟩:=hx.xS
 obtain⟨h3,h4⟩:=hy.hold
 exact aF (L:=L4) (args':=[.agg [au x,au y]]) rfl rfl (by simp[bA,aV,h2,h4]) (Po (au x) (au y) rows owners h1 h3 _) rfl rfl
theorem zE{b:Nat}:aJ Tryz.prog 81 (.ptr (.box b) 0) 0=some (.ptr (.box b) 0):=kZq
theorem zF{b:Nat}:aJ Tryz.prog 81 (.ptr (.box b) 0) 1=some (.ptr (.box b) 1):=kZq
theorem Pu{H:ae}{b:Nat}{x y:AV}(hb:H.boxes[b]?=some [x,y]):ai Tryz.prog Gt H 3 (.ptr (.box b) 0)=some x:=by rw[dc ag3 hb];rfl
theorem Pv{H:ae}{b:Nat}{x y:AV}(hb:H.boxes[b]?=some [x,y]):ai Tryz.prog Gt H 3 (.ptr (.box b) 1)=some y:=by rw[dc ag3 hb];rfl
theorem RL.aC{x:AV}{rows:List (List Int)}(h:RL x rows):x.aC=some [x]:=by obtain⟨k,s,xs,rfl,-⟩:=h.form;rfl
theorem IL.aC{x:AV}{l:List Int}(h:IL x l):x.aC=some [x]:=by obtain⟨k,s,rfl,-⟩:=h;rfl
theorem ff{x y:AV}{rows:List (List Int)}{owners:List Int}(hx:RL x rows)(hy:IL y owners):(AV.agg [x,y]).aC=some [x,y]:=by
 obtain⟨k,s,xs,rfl,-⟩:=hx.form
 obtain⟨ky,sy,rfl,-⟩:=hy
 rfl
theorem RL.cH{x:AV}{rows:List (List Int)}(h:RL x rows):cH Tryz.prog 22 x=some (.v (.int .i64 (rows.length:Nat))):=by
 obtain⟨k,s,xs,rfl,hl⟩:=h.form
 have u22:=Tryz.underlying22
 unfold Go.AE.cH
 rw[u22]
 simp only[List.length_map,hl]
theorem IL.cH{x:AV}{l:List Int}(h:IL x l):cH Tryz.prog 23 x=some (.v (.int .i64 (l.length:Nat))):=by
 obtain⟨k,s,rfl,-⟩:=h
 have u23:=Tryz.underlying23
 unfold Go.AE.cH
 rw[u23]
 simp only[aU]
def dx(rows:List (List Int))(owners aa:List Int):Int:=if bC rows owners≠0 then bC rows owners else if decide (aa.length=aK rows)&&aa.all aX then 0 else 340
theorem Hm(h:ae)(x y z:AV)(rows:List (List Int))(owners aa:List Int)(hx:RL x rows)(hy:IL y owners)(hz:IL z aa)(hl:aa.length<=1000000):
 ∃r h',W4.call 129 [.agg [x,y],z] h=some (r,h')/\Ext h h'/\r= .ret (.v (.int .i64 (dx rows owners aa))):=by
 have bx:=ff hx hy
 have c1:=Kz x y rows owners hx hy
 obtain⟨_,c2,rfl⟩:=vL (h.push [x,y]) x y rows owners hx hy
 have c3:=pD (pr:=sP) rfl rfl 168 [] (fun n=> !aX n) ((h.push [x,y]).push [x,y]) z aa hz hl (fun n _=>Kw n _)
 have l0:=ma (ak h [x,y])
 have ln:=hz.cH
 have hp:∀q,q≠0->bC rows owners=q->dx rows owners aa=q:=fun q h1 h2=>by unfold dx;rw[if_pos (by rw[h2];exact h1),h2]
 have hp0:bC rows owners=0->dx rows owners aa=if decide (aa.length=aK rows)&&aa.all aX then 0 else 340:=fun h2=>by unfold dx;rw[if_neg (by simp[h2])]
 have kp:=ah.mk (And.intro hp hp0)
 clear hp hp0 hx hy hz
 rw[EP] at c3
 generalize dx rows owners aa=res at *
 refine aL rfl Tryz.func129 rfl ?_
 by_cases h0:bC rows owners=0
 ·rw[h0] at c1
  have k0:=kp.out.2 h0
  clear h0
  by_cases h1:aa.length=aK rows
  ·have hq:decide ((aa.length:Int)=((aK rows:Nat):Int))=true:=decide_eq_true (by omega)
   rw[decide_eq_true h1,Bool.true_and] at k0
   clear h1
   cases h2:aa.all aX with
   |true=>
    rw[h2] at c3 k0
    have kr:=ah.mk k0
    clear h2 k0
    repeat' (first|simp(maxSteps:=999999) (disch:=first|exact dZ|fail) only[gW,reduceIte,Nat.reduceEqDiff,beq_self_eq_true,EN,aw, *] | (refine dX ?_ ?_<;>(intro _;try omega)))
    exact⟨_,_,rfl,(Ext.push _ _).trans (Ext.push _ _),by rw[kr.out];rfl⟩
   |false=>
    rw[h2] at c3 k0
    have kr:=ah.mk k0
    clear h2 k0
    repeat' (first|simp(maxSteps:=999999) (disch:=first|exact dZ|fail) only[gW,reduceIte,Nat.reduceEqDiff,beq_self_eq_true,EN,aw, *] | (refine dX ?_ ?_<;>(intro _;try omega)))
    exact⟨_,_,rfl,(Ext.push _ _).trans (Ext.push _ _),by rw[kr.out];rfl⟩
  ·have hq:decide ((aa.length:Int)=((aK rows:Nat):Int))=false:=decide_eq_false (by omega)
   rw[decide_eq_false h1,Bool.false_and] at k0
   have kr:=ah.mk k0
   clear h1 k0
   repeat' (first|simp(maxSteps:=999999) (disch:=first|exact dZ|fail) only[gW,reduceIte,Nat.reduceEqDiff,beq_self_eq_true,EN,aw, *] | (refine dX ?_ ?_<;>(intro _;try omega)))
   exact⟨_,_,rfl,(Ext.push _ _).trans (Ext.push _ _),by rw[kr.out];rfl⟩
 ·have kr:=ah.mk (kp.out.1 _ h0 rfl)
  clear kp c2 c3
  generalize bC rows owners=q at *
  repeat' (first|simp(maxSteps:=999999) (disch:=first|exact dZ|fail) only[gW,reduceIte,Nat.reduceEqDiff,beq_self_eq_true,EN,aw, *] | (refine dX ?_ ?_<;>(intro _;try omega)))
  exact⟨_,_,rfl,Ext.push _ _,by rw[kr.out]⟩
def lO(rows:List (List Int))(p:Int × Int):Bool:=decide (0<=p.1)&&decide (p.1<rows.length)&&inQ p.2
theorem zG(n:Int):IL (.list .tight 1 [[.v (.int .i64 n)]]) [n]:=⟨.tight,1,rfl,fun _=>rfl⟩
theorem KA(h:ae)(x y:AV)(rows:List (List Int))(owners:List Int)(hx:RL x rows)(hy:IL y owners)(a v:Int):
 ∃r h',W4.call 130 [.agg [x,y],.agg [im a,im v]] h=some (r,h')/\Ext h h'/\r= .ret (.v (.bool (lO rows (a,v)))):=by
 have bx:=ff hx hy
 have b2:(AV.agg [im a,im v]).aC=some [im a,im v]:=rfl
 have l0:ai Tryz.prog Gt ((h.push [x,y]).push [im a,im v]) 22 (.ptr (.box h.boxes.length) 0)=some x:=tY (aj (ak h [x,y]))
 have l1:=Pu (ak (h.push [x,y]) [im a,im v])
 have l2:=Pv (ak (h.push [x,y]) [im a,im v])
 have c:=vK (.list .tight 1 [[.v (.int .i64 v)]]) [v] (zG v) (by simp) ((h.push [x,y]).push [im a,im v])
 rw[show[v].all inQ=inQ v by simp] at c
 have bl:=pQ v
 have ln:=hx.cH
 clear hx hy
 unfold lO
 simp only
 refine aL rfl Tryz.func130 rfl ?_
 unfold im at *
 by_cases h1:0<=a
 ·have d1:decide (0<=a)=true:=decide_eq_true h1
  by_cases h2:a<rows.length
  ·have d2:decide (a<(rows.length:Int))=true:=decide_eq_true h2
   rw[d1,d2]
   clear h1 h2
   repeat' (first|simp(maxSteps:=999999) (disch:=first|exact dZ|fail) only[gW,reduceIte,Nat.reduceEqDiff,beq_self_eq_true,Kt,aw,bH,zE,zF, *] | (refine dX ?_ ?_<;>(intro _;try omega)))
   exact⟨_,_,rfl,(Ext.push _ _).trans (Ext.push _ _),rfl⟩
  ·have d2:decide (a<(rows.length:Int))=false:=decide_eq_false h2
   rw[d1,d2]
   clear h1 h2
   repeat' (first|simp(maxSteps:=999999) (disch:=first|exact dZ|fail) only[gW,reduceIte,Nat.reduceEqDiff,beq_self_eq_true,Kt,aw,bH,zE,zF, *] | (refine dX ?_ ?_<;>(intro _;try omega)))
   exact⟨_,_,rfl,(Ext.push _ _).trans (Ext.push _ _),rfl⟩
 ·have d1:decide (0<=a)=false:=decide_eq_false h1
  rw[d1]
  clear h1
  repeat' (first|simp(maxSteps:=999999) (disch:=first|exact dZ|fail) only[gW,reduceIte,Nat.reduceEqDiff,beq_self_eq_true,Kt,aw,bH,zE,zF, *] | (refine dX ?_ ?_<;>(intro _;try omega)))
  exact⟨_,_,rfl,(Ext.push _ _).trans (Ext.push _ _),rfl⟩
theorem Pw(tag b:List UInt8)(k:Tok)(hb:b.length<=1099511620000)(ht:tag.length<=1099511620000):∀h,W3.call 78 [.v (.string (bs tag)),.list k 1 (u8s b)] h=some (.ret (im (mK (dV tag b):Nat)),h):=
 aF (L:=L3) (args':=[.v (.string (bs tag)),.list (di k) 1 (u8s b)]) rfl (by rw[bM,bM,au.eq_1,iQ];rfl) (by simp[bA,aV,bV,fT]) (Pc tag b _ hb ht _) rfl rfl
theorem KB(tag b:List UInt8)(k:Tok)(hb:b.length<=1099511620000)(ht:tag.length<=1099511620000):∀h,W4.call 78 [.v (.string (bs tag)),.list k 1 (u8s b)] h=some (.ret (im (mK (dV tag b):Nat)),h):=
 aF (L:=L4) (args':=[.v (.string (bs tag)),.list (di k) 1 (u8s b)]) rfl (by rw[bM,bM,au.eq_1,iQ];rfl) (by simp[bA,aV,bV,fT]) (Pw tag b _ hb ht _) rfl rfl
theorem MO{v:Vl}{r:List AV}(hv:eo v r)(hd:eD v<=16)(hl:(fB v).length<=1099511600000):∃t,∀h,W3.call 146 [.agg r] h=some (.ret (.tuple [.list t 1 (u8s (fB v)),.v (.int .i64 0)]),h):=by
 obtain⟨h1,h2⟩:=eo.hold v r hv
 obtain⟨t,hc⟩:=MD h1 hd hl
 exact⟨di t,aF (L:=L3) (args':=[.agg (bM r)]) rfl rfl (by simpa [bA,aV] using h2) (hc _) rfl (by simp[aV,bA,bV,fT])⟩
theorem ES{v:Vl}{r:List AV}(hv:eo v r)(hd:eD v<=16)(hl:(fB v).length<=1099511600000):∃t,∀h,W4.call 146 [.agg r] h=some (.ret (.tuple [.list t 1 (u8s (fB v)),.v (.int .i64 0)]),h):=by
 obtain⟨h1,h2⟩:=eo.hold v r hv
 obtain⟨t,hc⟩:=MO h1 hd hl
 exact⟨di t,aF (L:=L4) (args':=[.agg (bM r)]) rfl rfl (by simpa [bA,aV] using h2) (hc _) rfl (by simp[aV,bA,bV,fT])⟩
theorem BE:Tryz.f112.results.toList=[.cell 2 96]:=kZq
theorem RM:Tryz.f114.results.toList=[.tmp 4]:=kZq
theorem MP:Tryz.f79.results.toList=[.tmp 2]:=kZq
inductive oS:AV->Vl->Prop
 |int (n:Int) (hn:0<=n/\n<=4611686018427387903):oS (.iface 3 (.v (.int .i64 n))) (.int n)
 |text (k:Tok) (s:Nat) (b:List UInt8) (hs:b≠[]->s=1) (hb:b.length<=1099511620000):oS (.iface 28 (.list k s (u8s b))) (.text b)
 |val (v:Vl) (r:List AV) (h:eo v r):oS (.iface 96 (.agg r)) v
def jM(xs:List AV)(vs:List Vl):Prop:=xs.length=vs.length/\∀(i:Nat) x v,xs[i]?=some x->vs[i]?=some v->oS x v
theorem jM.nil:jM [] []:=⟨rfl,fun i x v h=>by simp at h⟩
theorem jM.cons{x:AV}{v:Vl}{xs:List AV}{vs:List Vl}(h:oS x v)(hs:jM xs vs):jM (x::xs) (v::vs):=by
 refine⟨by simp[hs.1],fun i y w hy hw=>?_⟩
 cases i with
 |zero=>simp at hy hw;subst hy;subst hw;exact h
 |succ i=>simp at hy hw;exact hs.2 i y w hy hw
theorem RN(x:AV):iz Tryz.prog (.iface 3 x) 3 true=some (.tuple [x,.v (.bool true)]):=kZq
theorem KC(x:AV):iz Tryz.prog (.iface 28 x) 3 true=some (.tuple [.v (.int .i64 0),.v (.bool false)]):=kZq
theorem ET(x:AV):iz Tryz.prog (.iface 28 x) 28 true=some (.tuple [x,.v (.bool true)]):=kZq
theorem Px(x:AV):iz Tryz.prog (.iface 96 x) 3 true=some (.tuple [.v (.int .i64 0),.v (.bool false)]):=kZq
theorem MQ(x:AV):iz Tryz.prog (.iface 96 x) 28 true=some (.tuple [.list .nil 0 [],.v (.bool false)]):=kZq
theorem MR(x:AV):iz Tryz.prog (.iface 96 x) 96 true=some (.tuple [x,.v (.bool true)]):=kZq
theorem KD{k:Tok}{s:Nat}{b:List UInt8}(hs:b≠[]->s=1)(h:ae):fm Tryz.prog h 28 9 (.list k s (u8s b))=some (.v (.string (bs b)),h):=by
 have h1:Tryz.prog.underlying 9=some .string:=Tryz.underlying9
 have h2:Tryz.prog.underlying 28=some (.slice 5):=Tryz.underlying28
 have h3:Tryz.prog.underlying 5=some (.int .u8):=Tryz.underlying5
 unfold fm
 simp only[h1,h2,h3,rowsOf]
 rw[if_pos (by
  by_cases hb:b=[]
  ·exact .inr (by rw[hb];rfl)
  ·exact .inl (hs hb))]
 have hbo:∀l:List UInt8,bytesOf (u8s l)=some l:=by
  intro l
  induction l with
  |nil=>rfl
  |cons a l ih=>
   show(match Go.AE.byteOf (dp a),bytesOf (u8s l) with|some b,some l=>some (b::l) |_,_=>none)=_
   rw[ih]
   simp[Go.AE.byteOf,dp]
 simp only[hbo,Option.map_some]
 rfl
theorem blv{r:List AV}(hr:r.length=4)(hc:(AV.agg r).aC=some r):aN Tryz.prog 94 1 [(0,.agg r)]=some (.list .tight 4 [r]):=by
 have h1:Tryz.prog.underlying 94=some (.slice 96):=Tryz.underlying94
 unfold aN
 simp only[h1,tX,JJ]
 rw[if_pos ⟨by decide,rfl,by decide⟩]
 simp[my,hc,hr]
theorem RO:∃i,Tryz.prog.info? 96=some i/\i.size=4/\i.bytes<=64/\(i.zero.map fun z=>z.cells.size)=some 4:=by
 have h:(match Tryz.prog.info? 96 with|some i=>Nat.beq i.size 4&&Nat.ble i.bytes 64&&decide ((i.zero.map fun z=>z.cells.size)=some 4) |none=>false)=true:=kZq
 cases hi:Tryz.prog.info? 96 with
 |none=>rw[hi] at h;cases h
 |some i=>
  rw[hi] at h
  simp only[Bool.and_eq_true,decide_eq_true_eq] at h
  exact⟨i,rfl,Nat.eq_of_beq_eq_true h.1.1,Nat.le_of_ble_eq_true h.1.2,h.2⟩
theorem KE{H:ae}{k:Tok}{n0 sz:Nat}{es:List (List AV)}{r:List AV}(hl:es.length<1000000)(hs:es≠[]->sz=4)(h0:es=[]->sz=4∨k= .nil)(hk:bG n0 H k):
 bP Tryz.prog H #[94,94] (.list k sz es) (.list .tight 4 [r])=some (.list (.free H.tn) 4 (es++[r]),H.app k):=by
 obtain⟨i,h1,q2,q3,h4⟩:=RO
 have hb:=Nat.mul_le_mul (show es.length+1<=1000000 by omega) q3
 have:=lI (P:=Tryz.prog) (h:=H) (n0:=n0) (k:=k) (sz:=sz) (es:=es) (new:=[r]) (x:= .list .tight 4 [r]) (t1:=94) Tryz.underlying94 (.inl ⟨96,Tryz.underlying94⟩) h1 (by omega) (by rw[q2];exact h4) (by rw[q2];rfl) (by simp) (by simp;omega) (by simp;omega) (by
  rw[q2]
  by_cases he:es=[]
  ·rcases h0 he with q|q
   ·exact .inl q
   ·exact .inr ⟨he,q⟩
  ·exact .inl (hs he)) hk
 rwa [q2] at this
structure qg(h H:ae)(c:Nat)(vs:List Vl)(t:Tok)(sz:Nat)(rows:List (List AV)):Prop where
 box:H.boxes[c]?=some (cE 3 0 [] t sz rows)
 can:bG h.tn H t
 ok:aZ H=true
 ext:Ext h H
 out:h.boxes.length<=c
 rel:oP vs rows
 four:rows≠[]->sz=4
 nil:rows=[]->sz=4∨t= .nil
 fit:gH 0 0 0 rows=true
theorem xU:∀(rows:List (List AV)) (r:List AV),gH 0 0 0 rows=true->bA 0 0 0 r=true->gH 0 0 0 (rows++[r])=true
 | [],r,_,h=>by rw[List.nil_append,gH,h];rfl
 |a::rows,r,h1,h2=>by
  rw[gH,Bool.and_eq_true] at h1
  rw[List.cons_append,gH,h1.1,xU rows r h1.2 h2];rfl
theorem qg.push{h H:ae}{c:Nat}{vs:List Vl}{t:Tok}{sz:Nat}{rows:List (List AV)}(g:qg h H c vs t sz rows)(cs:List AV):qg h (H.push cs) c vs t sz rows:=
 ⟨aj g.box,by rw[ij];exact g.can,g.ok,g.ext.trans (.push _ _),g.out,g.rel,g.four,g.nil,g.fit⟩
theorem qg.put{h H:ae}{c:Nat}{vs:List Vl}{t:Tok}{sz:Nat}{rows:List (List AV)}(g:qg h H c vs t sz rows){v:Vl}{r:List AV}(hv:eo v r)(hf:bA 0 0 0 r=true):
 qg h ((H.app t).put c (cE 3 0 [] (.free H.tn) 4 (rows++[r]))) c (vs++[v]) (.free H.tn) 4 (rows++[r]):=by
 have hc:=(List.getElem?_eq_some_iff.1 g.box).1
 have gr:=Grown.one g.can g.ok g.ext.tn
 refine⟨aS (by rw[aT];exact hc),by rw[jd];exact gr.can,gr.ok,(gr.ext g.ext (Nat.le_refl _)).bZ g.out _,g.out,⟨by simp[g.rel.1],fun i w x hw hx=>?_⟩,fun _=>rfl,fun _=> .inl rfl,xU _ _ g.fit hf⟩
 rcases Nat.lt_or_ge i rows.length with hlt|hge
 ·rw[List.getElem?_append_left hlt] at hx
  rw[List.getElem?_append_left (by rw[<-g.rel.1];exact hlt)] at hw
  exact g.rel.2 i w x hw hx
 ·have:=(List.getElem?_eq_some_iff.1 hx).1
  rw[List.length_append] at this
  have he:i=rows.length:=by simp at this;omega
  subst he
  rw[List.getElem?_concat_length] at hx
  rw[g.rel.1,List.getElem?_concat_length] at hw
  injection hx with hx;injection hw with hw
  subst hx;subst hw
  exact hv
theorem BF{H:ae}{c:Nat}{t t2:Tok}{sz sz2:Nat}{rows rows2:List (List AV)}(hb:H.boxes[c]?=some (cE 3 0 [] t sz rows)):aA Tryz.prog H 94 (.ptr (.box c) 3) (.list t2 sz2 rows2)=some (H.put c (cE 3 0 [] t2 sz2 rows2)):=
 aW (off:=3) (cs:=cE 3 0 [] t sz rows) (xs:=[.list t2 sz2 rows2]) rfl kZq hb rfl (Nat.le_refl 4)
theorem RP{H:ae}:aA Tryz.prog (H.push (cE 0 0 [] .nil 0 [])) 3 (.ptr (.box H.boxes.length) 0) (.v (.int .i64 3))=some (H.push (cE 3 0 [] .nil 0 [])):=by
 rw[aW (off:=0) (cs:=cE 0 0 [] .nil 0 []) (xs:=[.v (.int .i64 3)]) rfl sz3 (ak _ _) rfl (by decide)]
 congr 1
 exact gg _ _ _
theorem RQ{H:ae}{xs:List AV}{i s:Nat}{x:AV}(h:xs[i]?=some x):ai Tryz.prog Gt H 20 (.elem s (xs.map fun a=>[a]) i 0)=some x:=by
 rw[ez kZq (row:=[x]) (by rw[List.getElem?_map,h];rfl)];rfl
theorem RR:bF Tryz.prog 20=some 1:=kZq
theorem oS.Py{x:AV}{v:Vl}(h:oS x v):(∃n,x= .iface 3 (.v (.int .i64 n))/\v= .int n/\0<=n/\n<=4611686018427387903)∨(∃k s b,x= .iface 28 (.list k s (u8s b))/\v= .text b/\(b≠[]->s=1)/\b.length<=1099511620000)∨∃r,x= .iface 96 (.agg r)/\eo v r:=by
 cases h with
 |int n hn=>exact .inl ⟨n,rfl,rfl,hn.1,hn.2⟩
 |text k s b hs hb=>exact .inr (.inl ⟨k,s,b,rfl,rfl,hs,hb⟩)
 |val v r h=>exact .inr (.inr ⟨r,rfl,h⟩)
theorem zH(h:ae)(hok:aZ h=true)(k:Tok)(s:Nat)(xs:List AV)(vs:List Vl)(hr:jM xs vs)(hs:xs≠[]->s=1)(hl:xs.length<=1000)(hf:∀a∈xs,aV 0 0 0 a=true):
 ∃r h',W4.call 112 [.list k s (xs.map fun a=>[a])] h=some (r,h')/\Ext h h'/\∃t sz rows,r= .ret (.agg (cE 3 0 [] t sz rows))/\eo (.list vs) (cE 3 0 [] t sz rows)/\gH 0 0 0 rows=true/\(xs.length=0->t= .nil/\sz=0/\rows=[]):=by
 have kr:=ah.mk (And.intro hr (And.intro hs hf))
 clear hr hs hf
 have z:=JJ
 have u180:=Tryz.underlying180
 have u94:=Tryz.underlying94
 have z20:=RR
 have hil:(xs.map fun a=>[a]).length=xs.length:=List.length_map _
 have G0:qg h (h.push (cE 3 0 [] .nil 0 [])) h.boxes.length (vs.take 0) .nil 0 []:=⟨ak _ _,.inl rfl,hok,.push _ _,Nat.le_refl _,⟨rfl,fun i v r q=>by simp at q⟩,fun q=>absurd rfl q,fun _=> .inr rfl,rfl⟩
 refine aL rfl Tryz.func112 rfl ?_
 repeat' (first|simp(maxSteps:=999999) (disch:=first|exact dZ|fail) only[gW,reduceIte,Nat.reduceEqDiff,beq_self_eq_true,BE,jL,RP,dB, *] | (refine dX ?_ ?_<;>(intro _;try omega)))
 refine Run.gen fun e0 he0 hd0 hp0 hr0=>?_
 have f2:e0.get 2= .ptr (.box h.boxes.length) 0:=by rw[he0];exact gS
 have f9:e0.get 9= .list k s (xs.map fun a=>[a]):=by rw[he0];exact gS
 have f10:e0.get 10= .v (.int .i64 (xs.length:Nat)):=by rw[he0];exact gS
 have f11:e0.get 11= .v (.int .i64 (0:Nat)):=by rw[he0];exact gR
 have fd:e0.defers=[]:=by rw[hd0];exact gS
 clear he0 hd0 hp0 hr0
 refine aD (fun m e H=>∃(i:Nat) (t:Tok) (sz:Nat) (rows:List (List AV)),i<=xs.length/\m=xs.length - i/\ah (qg h H h.boxes.length (vs.take i) t sz rows)/\ah (i=0->t= .nil/\sz=0/\rows=[])/\e.get 2= .ptr (.box h.boxes.length) 0/\e.get 9= .list k s (xs.map fun a=>[a])/\e.get 10= .v (.int .i64 (xs.length:Nat))/\e.get 11= .v (.int .i64 (i:Nat))/\e.defers=[]) ?_ xs.length _ _ ?_
 rotate_left 1
 ·exact⟨0,.nil,0,[],Nat.zero_le _,rfl,⟨G0⟩,⟨fun _=>⟨rfl,rfl,rfl⟩⟩,f2,f9,f10,f11,fd⟩
 clear f2 f9 f10 f11 fd G0
 rintro m e H ⟨i,t,sz,rows,hi,rfl,kG,kN,g2,g9,g10,g11,hd⟩
 by_cases hlt:i<xs.length
 ·have hs1:s=1:=kr.out.2.1 (by intro q;rw[q] at hlt;simp at hlt)
  subst hs1
  obtain⟨x,hx⟩:∃x,xs[i]?=some x:=⟨_,List.getElem?_eq_getElem hlt⟩
  obtain⟨v,hv⟩:∃v,vs[i]?=some v:=⟨_,List.getElem?_eq_getElem (by have:=kr.out.1.1;omega)⟩
  have hxv:=kr.out.1.2 i x v hx hv
  have hfx:=kr.out.2.2 x (List.mem_of_getElem? hx)
  have ld:=RQ (H:=H) (s:=1) hx
  have kst:=ah.mk (a9 hv)
  have hrl:rows.length<1000000:=by
   have:=kG.out.rel.1
   rw[List.length_take] at this;omega
  have hltI:(i:Int)<(xs.length:Int):=by omega
  clear hx hv
  rcases hxv.Py with⟨n,rfl,rfl,hn1,hn2⟩|⟨kb,sb,b,rfl,rfl,hb1,hb2⟩|⟨r,rfl,hvr⟩
  ·have hvr:eo (.int n) (cE 1 n [] .nil 0 []):= .int n ⟨hn1,hn2⟩
   have kG2:=ah.mk (kG.out.put hvr rfl)
   have l3:=vy kG.out.box
   have ap:=KE (r:=cE 1 n [] .nil 0 []) hrl kG.out.four kG.out.nil kG.out.can
   have bl:=blv (r:=cE 1 n [] .nil 0 []) rfl rfl
   have st:=BF (H:=H.app t) (t2:= .free H.tn) (sz2:=4) (rows2:=rows++[cE 1 n [] .nil 0 []]) (by rw[aT];exact kG.out.box)
   rw[<-kst.out] at kG2
   clear hvr hn1 hn2 hxv hfx
   repeat' (first|simp(maxSteps:=999999) (disch:=first|exact dZ|fail) only[gW,reduceIte,Nat.reduceEqDiff,beq_self_eq_true,BE,jL,al,RN,bdi, *] | (refine dX ?_ ?_<;>(intro _;try omega)))
   exact⟨xs.length - (i+1),by omega,i+1,_,_,_,by omega,rfl,kG2,⟨fun q=>absurd q (Nat.succ_ne_zero _)⟩,by simp⟩
  ·have hvr:eo (.text b) (cE 2 0 b .nil 0 []):= .text b hb2
   have kG2:=ah.mk (kG.out.put hvr rfl)
   have l3:=vy kG.out.box
   have ap:=KE (r:=cE 2 0 b .nil 0 []) hrl kG.out.four kG.out.nil kG.out.can
   have bl:=blv (r:=cE 2 0 b .nil 0 []) rfl rfl
   have cv:=KD (k:=kb) hb1
   have st:=BF (H:=H.app t) (t2:= .free H.tn) (sz2:=4) (rows2:=rows++[cE 2 0 b .nil 0 []]) (by rw[aT];exact kG.out.box)
   rw[<-kst.out] at kG2
   clear hvr hb1 hb2 hxv hfx
   repeat' (first|simp(maxSteps:=999999) (disch:=first|exact dZ|fail) only[gW,reduceIte,Nat.reduceEqDiff,beq_self_eq_true,BE,jL,al,KC,ET,bdt, *] | (refine dX ?_ ?_<;>(intro _;try omega)))
   exact⟨xs.length - (i+1),by omega,i+1,_,_,_,by omega,rfl,kG2,⟨fun q=>absurd q (Nat.succ_ne_zero _)⟩,by simp⟩
  ·have hfr:bA 0 0 0 r=true:=by simpa [aV] using hfx
   have kG1:=kG.out.push r
   have kG2:=ah.mk (kG1.put hvr hfr)
   have l3:=vy kG1.box
   have l4:=ldv hvr.len (ak H r)
   have ap:=KE (r:=r) hrl kG1.four kG1.nil kG1.can
   have bl:=blv (r:=r) hvr.len hvr.cells
   have st0:=stv (H:=H) hvr
   have st:=BF (H:=(H.push r).app t) (t2:= .free (H.push r).tn) (sz2:=4) (rows2:=rows++[r]) (by rw[aT];exact kG1.box)
   rw[<-kst.out] at kG2
   clear hvr hxv kG1 hfx hfr
   repeat' (first|simp(maxSteps:=999999) (disch:=first|exact dZ|fail) only[gW,reduceIte,Nat.reduceEqDiff,beq_self_eq_true,BE,jL,al,Px,MQ,MR, *] | (refine dX ?_ ?_<;>(intro _;try omega)))
   exact⟨xs.length - (i+1),by omega,i+1,_,_,_,by omega,rfl,kG2,⟨fun q=>absurd q (Nat.succ_ne_zero _)⟩,by simp⟩
 ·have hie:i=xs.length:=by omega
  subst hie
  have hG:=kG.out
  rw[List.take_of_length_le (by rw[kr.out.1.1];exact Nat.le_refl _)] at hG
  have hv:eo (.list vs) (cE 3 0 [] t sz rows):= .list vs t sz rows hG.rel.1 hG.four (by have:=hG.rel.1;have:=kr.out.1.1;omega) hG.rel.2
  have ld:=ldv hv.len hG.box
  have st:aA Tryz.prog H 96 (.ptr (.box h.boxes.length) 0) (.agg (cE 3 0 [] t sz rows))=some H:=by
   rw[aW dB tX hG.box rfl (Nat.le_refl 4),jc rfl]
   rw[ec hG.box]
  have kv:=ah.mk (And.intro hv (And.intro hG.ext hG.fit))
  clear hv hG
  repeat' (first|simp(maxSteps:=999999) (disch:=first|exact dZ|fail) only[gW,reduceIte,Nat.reduceEqDiff,beq_self_eq_true,BE, *] | (refine dX ?_ ?_<;>(intro _;try omega)))
  exact⟨_,_,rfl,kv.out.2.1,_,_,_,rfl,kv.out.1,kv.out.2.2,kN.out⟩
theorem bd3:fj Tryz.prog 96 [(0,.v (.int .i64 3))]=some (.agg (cE 3 0 [] .nil 0 [])):=kZq
inductive j8:AV->Vl->Prop
 |int (n:Int) (hn:0<=n/\n<=4611686018427387903):j8 (.iface 3 (.v (.int .i64 n))) (.int n)
 |text (k:Tok) (s:Nat) (b:List UInt8) (hs:b≠[]->s=1) (hb:b.length<=1099511620000):j8 (.iface 28 (.list k s (u8s b))) (.text b)
def mq(xs:List AV)(vs:List Vl):Prop:=xs.length=vs.length/\∀(i:Nat) x v,xs[i]?=some x->vs[i]?=some v->j8 x v
theorem mq.nil:mq [] []:=⟨rfl,fun i x v h=>by simp at h⟩
theorem mq.cons{x:AV}{v:Vl}{xs:List AV}{vs:List Vl}(h:j8 x v)(hs:mq xs vs):mq (x::xs) (v::vs):=by
 refine⟨by simp[hs.1],fun i y w hy hw=>?_⟩
 cases i with
 |zero=>simp at hy hw;subst hy;subst hw;exact h
 |succ i=>simp at hy hw;exact hs.2 i y w hy hw
theorem j8.Pz{x:AV}{v:Vl}(h:j8 x v):(∃n,x= .iface 3 (.v (.int .i64 n))/\v= .int n/\0<=n/\n<=4611686018427387903)∨(∃k s b,x= .iface 28 (.list k s (u8s b))/\v= .text b/\(b≠[]->s=1)/\b.length<=1099511620000):=by
 cases h with
 |int n hn=>exact .inl ⟨n,rfl,rfl,hn.1,hn.2⟩
 |text k s b hs hb=>exact .inr ⟨k,s,b,rfl,rfl,hs,hb⟩
theorem PA(h:ae)(hok:aZ h=true)(k:Tok)(s:Nat)(xs:List AV)(vs:List Vl)(hr:mq xs vs)(hs:xs≠[]->s=1)(hl:xs.length<=1000)(hdp:eD (.list vs)<=16)(hen:(fB (.list vs)).length<=1099511600000):
 ∃r h',W4.call 79 [.list k s (xs.map fun a=>[a])] h=some (r,h')/\∃t,r= .ret (.list t 1 (u8s (fB (.list vs)))):=by
 have kr:=ah.mk (And.intro hr (And.intro hs (And.intro hdp hen)))
 clear hr hs hdp hen
 have z:=JJ
 have u180:=Tryz.underlying180
 have u94:=Tryz.underlying94
 have z20:=RR
 have hil:(xs.map fun a=>[a]).length=xs.length:=List.length_map _
 have G0:qg h (h.push (cE 3 0 [] .nil 0 [])) h.boxes.length (vs.take 0) .nil 0 []:=⟨ak _ _,.inl rfl,hok,.push _ _,Nat.le_refl _,⟨rfl,fun i v r q=>by simp at q⟩,fun q=>absurd rfl q,fun _=> .inr rfl,rfl⟩
 refine aL rfl Tryz.func79 rfl ?_
 repeat' (first|simp(maxSteps:=999999) (disch:=first|exact dZ|fail) only[gW,reduceIte,Nat.reduceEqDiff,beq_self_eq_true,MP,jL,bd3,S0,dB, *] | (refine dX ?_ ?_<;>(intro _;try omega)))
 refine Run.gen fun e0 he0 hd0 hp0 hr0=>?_
 have f2:e0.get 3= .ptr (.box h.boxes.length) 0:=by rw[he0];exact gS
 have f9:e0.get 11= .list k s (xs.map fun a=>[a]):=by rw[he0];exact gS
 have f10:e0.get 12= .v (.int .i64 (xs.length:Nat)):=by rw[he0];exact gS
 have f11:e0.get 13= .v (.int .i64 (0:Nat)):=by rw[he0];exact gR
 have fd:e0.defers=[]:=by rw[hd0];exact gS
 clear he0 hd0 hp0 hr0
 refine aD (fun m e H=>∃(i:Nat) (t:Tok) (sz:Nat) (rows:List (List AV)),i<=xs.length/\m=xs.length - i/\ah (qg h H h.boxes.length (vs.take i) t sz rows)/\e.get 3= .ptr (.box h.boxes.length) 0/\e.get 11= .list k s (xs.map fun a=>[a])/\e.get 12= .v (.int .i64 (xs.length:Nat))/\e.get 13= .v (.int .i64 (i:Nat))/\e.defers=[]) ?_ xs.length _ _ ?_
 rotate_left 1
 ·exact⟨0,.nil,0,[],Nat.zero_le _,rfl,⟨G0⟩,f2,f9,f10,f11,fd⟩
 clear f2 f9 f10 f11 fd G0
 rintro m e H ⟨i,t,sz,rows,hi,rfl,kG,g3,g11,g12,g13,hd⟩
 by_cases hlt:i<xs.length
 ·have hs1:s=1:=kr.out.2.1 (by intro q;rw[q] at hlt;simp at hlt)
  subst hs1
  obtain⟨x,hx⟩:∃x,xs[i]?=some x:=⟨_,List.getElem?_eq_getElem hlt⟩
  obtain⟨v,hv⟩:∃v,vs[i]?=some v:=⟨_,List.getElem?_eq_getElem (by have:=kr.out.1.1;omega)⟩
  have hxv:=kr.out.1.2 i x v hx hv
  have ld:=RQ (H:=H) (s:=1) hx
  have kst:=ah.mk (a9 hv)
  have hrl:rows.length<1000000:=by
   have:=kG.out.rel.1
   rw[List.length_take] at this;omega
  have hltI:(i:Int)<(xs.length:Int):=by omega
  clear hx hv
  rcases hxv.Pz with⟨n,rfl,rfl,hn1,hn2⟩|⟨kb,sb,b,rfl,rfl,hb1,hb2⟩
  ·have hvr:eo (.int n) (cE 1 n [] .nil 0 []):= .int n ⟨hn1,hn2⟩
   have kG2:=ah.mk (kG.out.put hvr rfl)
   have l3:=vy kG.out.box
   have ap:=KE (r:=cE 1 n [] .nil 0 []) hrl kG.out.four kG.out.nil kG.out.can
   have bl:=blv (r:=cE 1 n [] .nil 0 []) rfl rfl
   have st:=BF (H:=H.app t) (t2:= .free H.tn) (sz2:=4) (rows2:=rows++[cE 1 n [] .nil 0 []]) (by rw[aT];exact kG.out.box)
   rw[<-kst.out] at kG2
   clear hvr hn1 hn2 hxv
   repeat' (first|simp(maxSteps:=999999) (disch:=first|exact dZ|fail) only[gW,reduceIte,Nat.reduceEqDiff,beq_self_eq_true,MP,jL,al,RN,bdi, *] | (refine dX ?_ ?_<;>(intro _;try omega)))
   exact⟨xs.length - (i+1),by omega,i+1,_,_,_,by omega,rfl,kG2,by simp⟩
  ·have hvr:eo (.text b) (cE 2 0 b .nil 0 []):= .text b hb2
   have kG2:=ah.mk (kG.out.put hvr rfl)
   have l3:=vy kG.out.box
   have ap:=KE (r:=cE 2 0 b .nil 0 []) hrl kG.out.four kG.out.nil kG.out.can
   have bl:=blv (r:=cE 2 0 b .nil 0 []) rfl rfl
   have cv:=KD (k:=kb) hb1
   have st:=BF (H:=H.app t) (t2:= .free H.tn) (sz2:=4) (rows2:=rows++[cE 2 0 b .nil 0 []]) (by rw[aT];exact kG.out.box)
   rw[<-kst.out] at kG2
   clear hvr hb1 hb2 hxv
   repeat' (first|simp(maxSteps:=999999) (disch:=first|exact dZ|fail) only[gW,reduceIte,Nat.reduceEqDiff,beq_self_eq_true,MP,jL,al,KC,ET,bdt, *] | (refine dX ?_ ?_<;>(intro _;try omega)))
   exact⟨xs.length - (i+1),by omega,i+1,_,_,_,by omega,rfl,kG2,by simp⟩
 ·have hie:i=xs.length:=by omega
  subst hie
  have hG:=kG.out
  rw[List.take_of_length_le (by rw[kr.out.1.1];exact Nat.le_refl _)] at hG
  have hv:eo (.list vs) (cE 3 0 [] t sz rows):= .list vs t sz rows hG.rel.1 hG.four (by have:=hG.rel.1;have:=kr.out.1.1;omega) hG.rel.2
  have ld:=ldv hv.len hG.box
  obtain⟨te,ce⟩:=ES hv kr.out.2.2.1 kr.out.2.2.2
  clear hv hG
  repeat' (first|simp(maxSteps:=999999) (disch:=first|exact dZ|fail) only[gW,reduceIte,Nat.reduceEqDiff,beq_self_eq_true,MP, *] | (refine dX ?_ ?_<;>(intro _;try omega)))
  exact⟨_,_,rfl,_,rfl⟩
theorem MS(h:ae)(hok:aZ h=true)(tag:List UInt8)(k:Tok)(s:Nat)(xs:List AV)(vs:List Vl)(hr:jM xs vs)(hs:xs≠[]->s=1)(hl:xs.length<=1000)(hf:∀a∈xs,aV 0 0 0 a=true)(ht:tag.length<=1099511620000)(hdp:eD (.list vs)<=16)(hen:(fB (.list vs)).length<=1099511600000):
 ∃r h',W4.call 114 [.v (.string (bs tag)),.list k s (xs.map fun a=>[a])] h=some (r,h')/\r= .ret (im ((mL tag (.list vs):Nat):Int)):=by
 obtain⟨_,h1,c1,-,t,sz,rows,rfl,hv,-,-⟩:=zH h hok k s xs vs hr hs hl hf
 obtain⟨te,ce⟩:=ES hv hdp hen
 have cg:=KB tag (fB (.list vs)) te (by omega) ht
 have e:mK (dV tag (fB (.list vs)))=mL tag (.list vs):=rfl
 rw[e] at cg
 generalize mL tag (.list vs)=n at *
 unfold im at *
 clear hr hs hl hv hf e
 refine aL rfl Tryz.func114 rfl ?_
 repeat' (first|simp(maxSteps:=999999) (disch:=first|exact dZ|fail) only[gW,reduceIte,Nat.reduceEqDiff,beq_self_eq_true,RM, *] | (refine dX ?_ ?_<;>(intro _;try omega)))
 exact⟨_,_,rfl,rfl⟩
theorem KF(n:Nat)(h0:0<n)(hn:n<=1099511627776)(H:ae):W4.call 158 [.list .nil 0 [],.v (.int .i64 (n:Nat))] H=some (.ret (.arr H.boxes.length 0 0 n),H.push (List.replicate n [im 0]).flatten):=by
 have u23:=Tryz.underlying23
 have a:=SS (H:=H) h0 hn
 have e1:IntKind.i64.wrap ((0:Int) - 0)=0:=by rfl
 have e2:IntKind.i64.wrap (((n:Nat):Int) - 0)=((n:Nat):Int):=by rw[Int.sub_zero,bT (by omega) (by omega)]
 have s2:ck Tryz.prog 23 (.arr H.boxes.length 0 n n) none (some (.v (.int .i64 (0:Nat)))) none=some (.arr H.boxes.length 0 0 n):=rn u23 sz3 (by decide) (by decide) (by omega) h0
 have s2:ck Tryz.prog 23 (.arr H.boxes.length 0 n n) none (some (.v (.int .i64 0))) none=some (.arr H.boxes.length 0 0 n):=s2
 have hlt:(0:Int)<(n:Nat):=by omega
 refine ar rfl Tryz.func158 rfl ?_
 repeat' (first|simp(maxSteps:=999999) (disch:=first|exact dZ|fail) only[gW,reduceIte,Nat.reduceEqDiff,beq_self_eq_true,NA,u6,NB,QH,List.length_nil,Int.natCast_zero,Int.sub_zero, *] | (refine dX ?_ ?_<;>(intro _;try omega)) |refine aP kZq ?_)
theorem KG(H:ae):W4.call 158 [.list .nil 0 [],.v (.int .i64 (0:Nat))] H=some (.ret (.list .nil 0 []),H):=by
 have u23:=Tryz.underlying23
 refine ar rfl Tryz.func158 rfl ?_
 have e1:IntKind.i64.wrap ((0:Int) - 0)=0:=by rfl
 have e2:IntKind.i64.wrap (((0:Nat):Int) - 0)=0:=by rfl
 repeat' (first|simp(maxSteps:=999999) (disch:=first|exact dZ|fail) only[gW,reduceIte,Nat.reduceEqDiff,beq_self_eq_true,NA,u6,NB,QH,List.length_nil,Int.natCast_zero,Int.sub_zero, *] | (refine dX ?_ ?_<;>(intro _;try omega)) |refine aP kZq ?_)
theorem DQ(k:Tok)(xs:List AV)(rss:List (List (List AV)))(hl:xs.length=rss.length)(H:ae)(hs:∀(i:Nat) x rs,xs[i]?=some x->rss[i]?=some rs->b9 1 H x rs)(hb:rss.flatten.length<=1099511627776)(hxl:xs.length<=1000):
 ∃r H',W4.call 109 [.list k 1 (xs.map fun x=>[x])] H=some (r,H')/\∃y,r= .ret y/\Ext H H'/\b9 1 H' y rss.flatten:=by
 have u23:=Tryz.underlying23;have u22:=Tryz.underlying22
 have aE:=QI;have sE:=jC
 have hr:∀(i:Nat) x,xs[i]?=some x->(xs.map fun x=>[x])[i]?=some [x]:=fun i x hx=>by rw[List.getElem?_map,hx];rfl
 have hle:∀i,(rss.take i).flatten.length<=1099511627776:=fun i=>by
  refine Nat.le_trans ?_ hb
  conv=>rhs;rw[<-List.take_append_drop i rss,List.flatten_append,List.length_append]
  omega
 have hstep:∀(i:Nat) rs,rss[i]?=some rs->(rss.take (i+1)).flatten=(rss.take i).flatten++rs:=fun i rs hi=>by rw[a9 hi,List.flatten_append];simp
 have kS:=ah.mk hs
 have kl:=ah.mk hl
 have kr:=ah.mk hr
 have kst:=ah.mk hstep
 have kle:=ah.mk hle
 have hml:(xs.map fun x=>[x]).length=xs.length:=by simp
 clear hs hr hstep hle hl
 generalize hM:(xs.map fun x=>[x])=M at *
 refine aL rfl Tryz.func109 rfl ?_
 repeat' (first|simp(maxSteps:=999999) (disch:=first|exact dZ|fail) only[gW,reduceIte,Nat.reduceEqDiff,beq_self_eq_true,tD, *] | (refine dX ?_ ?_<;>(intro _;try omega)))
 refine aD (fun m e h'=>∃i:Nat,i<=xs.length/\m=xs.length - i/\e.get 0= .list k 1 M/\e.get 9= .list k 1 M/\e.get 10= .v (.int .i64 (xs.length:Nat))/\e.get 11= .v (.int .i64 i)/\e.get 3= .v (.int .i64 ((rss.take i).flatten.length:Nat))/\e.get 2= .list .nil 0 []/\e.defers=[]/\h'=H) ?_ xs.length _ _ ?_
 rotate_left 1
 ·refine⟨0,Nat.zero_le _,rfl,?_,?_,?_,?_,?_,?_,?_,rfl⟩<;>(first|assumption| (simp only[gW,reduceIte,Nat.reduceEqDiff,beq_self_eq_true,hml]<;>rfl))
 rintro m e h' ⟨i,hi,rfl,g0,g9,g10,g11,g3,g2,hd,rfl⟩
 by_cases hlt:i<xs.length
 ·obtain⟨x,hx⟩:∃x,xs[i]?=some x:=⟨_,List.getElem?_eq_getElem hlt⟩
  obtain⟨rs,hrs⟩:∃rs,rss[i]?=some rs:=⟨_,List.getElem?_eq_getElem (by have:=kl.out;omega)⟩
  have s1:=kS.out i x rs hx hrs
  have ls:=s1.len u23
  have hmi:=kr.out i x hx
  have hlm:(i:Int)<(M.length:Int):=by omega
  have q:=kst.out i rs hrs
  have q1:=kle.out (i+1)
  rw[q,List.length_append] at q1
  have ksum:=ah.mk (show(rss.take (i+1)).flatten.length=(rss.take i).flatten.length+rs.length by rw[q,List.length_append])
  generalize (rss.take i).flatten.length=n1 at *
  have e1:IntKind.i64.wrap (((n1:Nat):Int)+((rs.length:Nat):Int))=((n1+rs.length:Nat):Int):=by rw[bT (by omega) (by omega)];omega
  have nn:¬(((n1+rs.length:Nat):Int)<0):=by omega
  have ld:ai Tryz.prog Gt h' 23 (.elem 1 M i 0)=some x:=by rw[ez aE hmi];rfl
  clear q q1 s1
  repeat' (first|simp(maxSteps:=999999) (disch:=first|exact dZ|fail) only[gW,reduceIte,Nat.reduceEqDiff,beq_self_eq_true,tD,al, *] | (refine dX ?_ ?_<;>(intro _;try omega)))
  exact⟨xs.length - (i+1),by omega,i+1,by omega,rfl,by trivial,by trivial,by trivial,by simp,by rw[ksum.out],by trivial,by trivial,by trivial⟩
 have:i=xs.length:=by omega
 subst this
 rw[show rss.take xs.length=rss by rw[kl.out];exact List.take_length] at g3
 have hn:=kle.out xs.length
 rw[show rss.take xs.length=rss by rw[kl.out];exact List.take_length] at hn
 generalize hN:rss.flatten.length=n at *
 rcases Nat.eq_zero_or_pos n with h0|h0
 ·subst h0
  have gn:=KG h'
  have hnil:rss.flatten=[]:=List.eq_nil_of_length_eq_zero hN
  repeat' (first|simp(maxSteps:=999999) (disch:=first|exact dZ|fail) only[gW,reduceIte,Nat.reduceEqDiff,beq_self_eq_true,tD, *] | (refine dX ?_ ?_<;>(intro _;try omega)))
  refine aD (fun m e H1=>∃i:Nat,i<=xs.length/\m=xs.length - i/\e.get 25= .list k 1 M/\e.get 26= .v (.int .i64 (xs.length:Nat))/\e.get 27= .v (.int .i64 i)/\e.get 6= .list .nil 0 []/\e.defers=[]/\H1=h') ?_ xs.length _ _ ?_
  rotate_left 1
  ·refine⟨0,Nat.zero_le _,rfl,?_,?_,?_,?_,?_,rfl⟩<;>(first|assumption| (simp only[gW,reduceIte,Nat.reduceEqDiff,beq_self_eq_true,hml]<;>rfl))
  clear g0 g9 g10 g11 g3 g2 hd gn
  rintro m e H1 ⟨i,hi,rfl,g25,g26,g27,g6,hd,rfl⟩
  by_cases hlt:i<xs.length
  ·obtain⟨x,hx⟩:∃x,xs[i]?=some x:=⟨_,List.getElem?_eq_getElem hlt⟩
   obtain⟨rs,hrs⟩:∃rs,rss[i]?=some rs:=⟨_,List.getElem?_eq_getElem (by have:=kl.out;omega)⟩
   have s1:=kS.out i x rs hx hrs
   have hrs0:rs=[]:=by
    have:=List.mem_of_getElem? hrs
    cases rs with
    |nil=>rfl
    |cons a l=>exact absurd (List.mem_flatten.2 ⟨_,this,List.mem_cons_self⟩) (by rw[hnil];exact List.not_mem_nil)
   subst hrs0
   have an:=SV s1
   have hmi:=kr.out i x hx
   have hlm:(i:Int)<(M.length:Int):=by omega
   have ld:ai Tryz.prog Gt H1 23 (.elem 1 M i 0)=some x:=by rw[ez aE hmi];rfl
   clear s1
   repeat' (first|simp(maxSteps:=999999) (disch:=first|exact dZ|fail) only[gW,reduceIte,Nat.reduceEqDiff,beq_self_eq_true,tD,al, *] | (refine dX ?_ ?_<;>(intro _;try omega)))
   exact⟨xs.length - (i+1),by omega,i+1,by omega,rfl,by trivial,by trivial,by simp,by trivial,by trivial,by trivial⟩
  ·have:i=xs.length:=by omega
   subst this
   repeat' (first|simp(maxSteps:=999999) (disch:=first|exact dZ|fail) only[gW,reduceIte,Nat.reduceEqDiff,beq_self_eq_true,tD, *] | (refine dX ?_ ?_<;>(intro _;try omega)))
   exact⟨_,_,rfl,_,rfl,Ext.refl _,by(try rw[hnil]);exact b9.list (fun r hr=>by cases hr) (fun q=>absurd rfl q)⟩
 ·have gn:=KF n h0 hn h'
  repeat' (first|simp(maxSteps:=999999) (disch:=first|exact dZ|fail) only[gW,reduceIte,Nat.reduceEqDiff,beq_self_eq_true,tD, *] | (refine dX ?_ ?_<;>(intro _;try omega)))
  rw[vm]
  have hr1:∀(i:Nat) rs,rss[i]?=some rs->∀r∈rs,r.length=1:=fun i rs hi=>by
   obtain⟨x,hx⟩:∃x,xs[i]?=some x:=⟨_,List.getElem?_eq_getElem (by rw[kl.out];exact(List.getElem?_eq_some_iff.1 hi).1)⟩
   exact(kS.out i x rs hx hi).1
  have hr2:∀i,∀r∈(rss.take i).flatten,r.length=1:=fun i r hr=>by
   obtain⟨rs,h1,h2⟩:=List.mem_flatten.1 hr
   obtain⟨j,hj⟩:=List.mem_iff_getElem?.1 (List.mem_of_mem_take h1)
   exact hr1 j rs hj r h2
  have hfl:∀i,(rss.take i).flatten.flatten.length=(rss.take i).flatten.length:=fun i=>by rw[a8 (hr2 i),Nat.mul_one]
  have hmono:∀i,(rss.take i).flatten.length<=n:=fun i=>by
   rw[<-hN]
   conv=>rhs;rw[<-List.take_append_drop i rss,List.flatten_append,List.length_append]
   omega
  have kfl:=ah.mk hfl
  have kmo:=ah.mk hmono
  have kr2:=ah.mk hr2
  clear hr1 hfl hmono hr2 gn
  refine aD (fun m e H1=>∃i:Nat,i<=xs.length/\m=xs.length - i/\e.get 25= .list k 1 M/\e.get 26= .v (.int .i64 (xs.length:Nat))/\e.get 27= .v (.int .i64 i)/\e.get 6= .arr h'.boxes.length 0 (rss.take i).flatten.length n/\e.defers=[]/\H1.boxes[h'.boxes.length]?=some ((rss.take i).flatten.flatten++List.replicate (n - (rss.take i).flatten.length) (im 0))/\Ext h' H1) ?_ xs.length _ _ ?_
  rotate_left 1
  ·refine⟨0,Nat.zero_le _,rfl,?_,?_,?_,?_,?_,?_,Ext.push _ _⟩<;>(first|assumption|exact ak _ _| (simp only[gW,reduceIte,Nat.reduceEqDiff,beq_self_eq_true,hml]<;>rfl))
  clear g0 g9 g10 g11 g3 g2 hd
  rintro m e H1 ⟨i,hi,rfl,g25,g26,g27,g6,hd,hB,hX⟩
  by_cases hlt:i<xs.length
  ·obtain⟨x,hx⟩:∃x,xs[i]?=some x:=⟨_,List.getElem?_eq_getElem hlt⟩
   obtain⟨rs,hrs⟩:∃rs,rss[i]?=some rs:=⟨_,List.getElem?_eq_getElem (by have:=kl.out;omega)⟩
   have s1:=(kS.out i x rs hx hrs).ext hX
   have q:=kst.out i rs hrs
   have m1:=kmo.out (i+1)
   have f0:=kfl.out i
   have hsum:(rss.take (i+1)).flatten.length=(rss.take i).flatten.length+rs.length:=by rw[q,List.length_append]
   rw[hsum] at m1
   have hrsl:rs.flatten.length=rs.length:=by rw[a8 s1.1,Nat.mul_one]
   have ap:=SU s1 hB m1 (by rw[List.length_append,List.length_replicate,f0];omega)
   have hsp:bI ((rss.take i).flatten.flatten++List.replicate (n - (rss.take i).flatten.length) (im 0)) (rss.take i).flatten.length rs.flatten=(rss.take (i+1)).flatten.flatten++List.replicate (n - (rss.take (i+1)).flatten.length) (im 0):=by
    unfold bI
    rw[List.take_left' f0,List.drop_append,List.drop_of_length_le (by rw[f0];omega),List.nil_append,f0,List.drop_replicate,q,List.flatten_append,List.length_append,hrsl]
    congr 2
    omega
   rw[hsp] at ap
   have hmi:=kr.out i x hx
   have hlm:(i:Int)<(M.length:Int):=by omega
   have ld:ai Tryz.prog Gt H1 23 (.elem 1 M i 0)=some x:=by rw[ez aE hmi];rfl
   have kX:=ah.mk hX
   have hlb:=(List.getElem?_eq_some_iff.1 hB).1
   have ks:=ah.mk hsum
   clear s1 hX hB hsp q f0 hsum
   repeat' (first|simp(maxSteps:=999999) (disch:=first|exact dZ|fail) only[gW,reduceIte,Nat.reduceEqDiff,beq_self_eq_true,tD,al, *] | (refine dX ?_ ?_<;>(intro _;try omega)))
   refine⟨xs.length - (i+1),by omega,i+1,by omega,rfl,by trivial,by trivial,by simp,by rw[ks.out],by trivial,?_,kX.out.bZ (Nat.le_refl _) _⟩
   exact aS hlb
  ·have:i=xs.length:=by omega
   subst this
   have ht:rss.take xs.length=rss:=by rw[kl.out];exact List.take_length
   have f0:=kfl.out xs.length
   have hr2:=kr2.out xs.length
   rw[ht] at hB g6 f0 hr2
   rw[hN] at hB g6
   rw[Nat.sub_self,List.replicate_zero,List.append_nil] at hB
   have kB:=ah.mk hB
   have kX:=ah.mk hX
   clear hB hX
   repeat' (first|simp(maxSteps:=999999) (disch:=first|exact dZ|fail) only[gW,reduceIte,Nat.reduceEqDiff,beq_self_eq_true,tD, *] | (refine dX ?_ ?_<;>(intro _;try omega)))
   exact⟨_,_,rfl,_,rfl,kX.out,b9.box hr2 hN.symm kB.out⟩
def L5:List FuncId:=[28,29,30,42,46,57,59,65,66,69,76,77,78,79,82,92,93,94,97,107,108,109,110,112,115,118,119,120,121,123,129,130,132,135,136,137,138,140,146,172,194,195,196,201]
noncomputable def sQ:FuncId->Option (List AV->ae->Option (AV × ae)):=jE 4 W4 L5 [114]
noncomputable abbrev W5:=whole Tryz.prog Gt sQ
theorem gM:jo sQ L5:=fun g hg=>⟨xA W4 g,by
 unfold sQ jE
 rw[if_pos (by simpa using hg)]
 rfl⟩
section
variable (a b n x:Int)
theorem MT:∀h,W5.call 28 [im a,im b] h=some (.ret (im (cN a b)),h):=dm (L:=L5) rfl rfl rfl (RD a b _) rfl rfl
theorem KH:∀h,W5.call 29 [im a,im b] h=some (.ret (im (cq a b)),h):=dm (L:=L5) rfl rfl rfl (RE a b _) rfl rfl
theorem vN:∀h,W5.call 46 [im x] h=some (.ret (.v (.bool (aX x))),h):=dm (L:=L5) rfl rfl rfl (Kp x _) rfl rfl
theorem xV:∀h,W5.call 69 [im a,im b] h=some (.ret (.tuple [im (pO a b),im (mP a b)]),h):=dm (L:=L5) rfl rfl rfl (RF a b _) rfl rfl
theorem BG:∀h,W5.call 30 [im a,im n] h=some (.ret (.tuple [im (iL a n),im (lG a)]),h):=dm (L:=L5) rfl rfl rfl (Kq a n _) rfl rfl
end
theorem mV(x n:Int):∀h,W5.call 57 [im x,im n] h=some (.ret (im (iL x n)),h):=dm (L:=L5) rfl rfl rfl (ML x n _) rfl rfl
theorem xW(x n:Int):∀h,W5.call 77 [im x,im n] h=some (.ret (im (iL x n)),h):=dm (L:=L5) rfl rfl rfl (MM x n _) rfl rfl
theorem fA{x y:AV}{rows:List (List Int)}{owners:List Int}(hx:RL x rows)(hy:IL y owners):RL (au x) rows/\IL (au y) owners/\aV 0 0 0 (au x)=true/\aV 0 0 0 (au y)=true:=
 ⟨hx.xS.1,hy.hold.1,hx.xS.2,hy.hold.2⟩
theorem KI(x y:AV)(rows:List (List Int))(owners:List Int)(hx:RL x rows)(hy:IL y owners):∀h,W5.call 97 [.agg [x,y]] h=some (.ret (im (bC rows owners)),h):=by
 obtain⟨h1,h2,h3,h4⟩:=fA hx hy
 exact dm (L:=L5) (args':=[.agg [au x,au y]]) rfl rfl (by simp[bA,aV,h3,h4]) (Kz (au x) (au y) rows owners h1 h2 _) rfl rfl
theorem zI(x y:AV)(rows:List (List Int))(owners:List Int)(hx:RL x rows)(hy:IL y owners):∀h,W5.call 108 [.agg [x,y]] h=some (.ret (im (aK rows:Nat)),h):=by
 obtain⟨h1,h2,h3,h4⟩:=fA hx hy
 obtain⟨h',c,-⟩:=vL ⟨[],[],0,[]⟩ (au x) (au y) rows owners h1 h2
 exact dm (L:=L5) (args':=[.agg [au x,au y]]) rfl rfl (by simp[bA,aV,h3,h4]) c rfl rfl
theorem tM(x y:AV)(rows:List (List Int))(owners:List Int)(hx:RL x rows)(hy:IL y owners):∀h,W5.call 42 [.agg [x,y]] h=some (.ret (im (aK rows:Nat)),h):=by
 obtain⟨h1,h2,h3,h4⟩:=fA hx hy
 obtain⟨h',c,-⟩:=Hl ⟨[],[],0,[]⟩ (au x) (au y) rows owners h1 h2
 exact dm (L:=L5) (args':=[.agg [au x,au y]]) rfl rfl (by simp[bA,aV,h3,h4]) c rfl rfl
theorem MU(x y:AV)(rows:List (List Int))(owners:List Int)(hx:RL x rows)(hy:IL y owners)(hl:rows.length<=1000000):∀h,W5.call 115 [.agg [x,y]] h=some (.ret (im (bC rows owners)),h):=by
 obtain⟨h1,h2,h3,h4⟩:=fA hx hy
 obtain⟨r,h',c,-,rfl⟩:=Hj ⟨[],[],0,[]⟩ (au x) (au y) rows owners h1 h2 hl
 exact dm (L:=L5) (args':=[.agg [au x,au y]]) rfl rfl (by simp[bA,aV,h3,h4]) c rfl rfl
theorem rQ(x:AV)(l:List Int)(hx:IL x l)(hl:l.length<=1000000):∀h,W5.call 107 [x] h=some (.ret (.v (.bool (l.all inQ))),h):=by
 obtain⟨h1,h2⟩:=hx.hold
 exact dm (L:=L5) (args':=[au x]) rfl rfl (by simp[bA,h2]) (vK (au x) l h1 hl _) rfl rfl
theorem U3(x:AV)(l:List Int)(hx:IL x l)(hl:l.length<=9223372036854775807):∀h,W5.call 92 [x] h=some (.ret (.v (.bool (l.all inQ))),h):=by
 obtain⟨h1,h2⟩:=hx.hold
 obtain⟨r,h',c,-,rfl⟩:=VC ⟨[],[],0,[]⟩ (au x) l h1 hl
 exact dm (L:=L5) (args':=[au x]) rfl rfl (by simp[bA,h2]) c rfl rfl
theorem Vh(x:AV)(l:List Int)(hx:IL x l)(hl:l.length<=9223372036854775807):∀h,W5.call 93 [x] h=some (.ret (.v (.bool (cS (-1) l))),h):=by
 obtain⟨h1,h2⟩:=hx.hold
 obtain⟨r,h',c,-,rfl⟩:=V0 ⟨[],[],0,[]⟩ (au x) l h1 hl
 exact dm (L:=L5) (args':=[au x]) rfl rfl (by simp[bA,h2]) c rfl rfl
theorem DR(x y:AV)(a b:List Int)(hx:IL x a)(hy:IL y b)(hl:a.length<=1000000)(hab:a.length<=b.length):∀h,W5.call 110 [x,y] h=some (.ret (im (oa a b)),h):=by
 obtain⟨h1,h2⟩:=hx.hold
 obtain⟨h3,h4⟩:=hy.hold
 obtain⟨h',c,-⟩:=Kv ⟨[],[],0,[]⟩ (au x) (au y) a b h1 h3 hl hab
 exact dm (L:=L5) (args':=[au x,au y]) rfl rfl (by simp[bA,h2,h4]) c rfl rfl
theorem tN(x y z:AV)(rows:List (List Int))(owners aa:List Int)(hx:RL x rows)(hy:IL y owners)(hz:IL z aa)(hl:aa.length<=1000000):∀h,W5.call 129 [.agg [x,y],z] h=some (.ret (im (dx rows owners aa)),h):=by
 obtain⟨h1,h2,h3,h4⟩:=fA hx hy
 obtain⟨h5,h6⟩:=hz.hold
 obtain⟨r,h',c,-,rfl⟩:=Hm ⟨[],[],0,[]⟩ (au x) (au y) (au z) rows owners aa h1 h2 h5 hl
 exact dm (L:=L5) (args':=[.agg [au x,au y],au z]) rfl rfl (by simp[bA,aV,h3,h4,h6]) c rfl rfl
theorem DS(x y:AV)(rows:List (List Int))(owners:List Int)(hx:RL x rows)(hy:IL y owners)(a v:Int):∀h,W5.call 130 [.agg [x,y],.agg [im a,im v]] h=some (.ret (.v (.bool (lO rows (a,v)))),h):=by
 obtain⟨h1,h2,h3,h4⟩:=fA hx hy
 obtain⟨r,h',c,-,rfl⟩:=KA ⟨[],[],0,[]⟩ (au x) (au y) rows owners h1 h2 a v
 exact dm (L:=L5) (args':=[.agg [au x,au y],.agg [im a,im v]]) rfl rfl (by simp[bA,aV,h3,h4,im]) c rfl rfl
theorem xX:∀l:List Int,(ints l).flatten=l.map im
 | []=>rfl
 |a::l=>by
  show(nC a::ints l).flatten=im a::l.map im
  rw[List.flatten_cons,xX l];rfl
theorem MV{h:ae}{y:AV}{l:List Int}(s:b9 1 h y (ints l)):IL (jK h y) l/\aV 0 0 0 (jK h y)=true:=by
 rcases s.2 with⟨k,s',rfl,hs⟩|⟨b,off,cap,cs,rfl,-,hb,h1,h2⟩
 ·rw[jK]
  exact⟨⟨_,_,rfl,fun q=>hs (by unfold ints;simpa using q)⟩,by rw[aV,bV,fJ];rfl⟩
 ·rw[jK,hb]
  simp only
  rw[Nat.mul_one] at h1 h2
  have e:(ints l).flatten.map (fun c=>[c])=ints l:=by
   have this:(ints l).flatten=l.map im:=xX l
   rw[this,EL]
  rw[if_pos h2,h1,e]
  exact⟨⟨_,_,rfl,fun _=>rfl⟩,by rw[aV,fJ];rfl⟩
theorem MW(x y:AV)(a b:List Int)(hx:IL x a)(hy:IL y b)(hl:a.length+b.length<=1000000):∃z,IL z (a++b)/\∀h,W5.call 109 [.list .tight 1 [[x],[y]]] h=some (.ret z,h):=by
 obtain⟨h1,h2⟩:=hx.hold
 obtain⟨h3,h4⟩:=hy.hold
 obtain⟨r,h',c,z,rfl,-,sz⟩:=DQ .tight [au x,au y] [ints a,ints b] rfl ⟨[],[],0,[]⟩ (fun i w rs hw hrs=>by
  have sa:∀{w:AV} {l:List Int},IL w l->b9 1 ⟨[],[],0,[]⟩ w (ints l):=fun{w l} hw=>by
   obtain⟨k,s,rfl,hs⟩:=hw
   exact b9.list (fun r hr=>by obtain⟨n,-,rfl⟩:=List.mem_map.1 hr;rfl) fun q=>hs fun e=>q (by rw[e];rfl)
  rcases i with _|_|i
  ·injection hw with hw;injection hrs with hrs;subst hw;subst hrs;exact sa h1
  ·injection hw with hw;injection hrs with hrs;subst hw;subst hrs;exact sa h3
  ·cases hw) (by simp[aU];omega) (by simp)
 have e:[ints a,ints b].flatten=ints (a++b):=by simp[ints]
 rw[e] at sz
 obtain⟨i1,i2⟩:=MV sz
 exact⟨_,i1,dm (L:=L5) (args':=[.list .tight 1 [[au x],[au y]]]) rfl rfl (by simp[bA,aV,gH,h2,h4,oF]) c rfl i2⟩
theorem PB(tag b:List UInt8)(k:Tok)(hb:b.length<=1099511620000)(ht:tag.length<=1099511620000):∀h,W5.call 78 [.v (.string (bs tag)),.list k 1 (u8s b)] h=some (.ret (im (mK (dV tag b):Nat)),h):=
 dm (L:=L5) (args':=[.v (.string (bs tag)),.list (di k) 1 (u8s b)]) rfl (by rw[bM,bM,au.eq_1,iQ];rfl) (by simp[bA,aV,bV,fT]) (KB tag b _ hb ht _) rfl rfl
theorem oS.hold{x:AV}{v:Vl}(h:oS x v):oS (au x) v/\aV 0 0 0 (au x)=true:=by
 cases h with
 |int n hn=>exact⟨.int n hn,rfl⟩
 |text k s b hs hb=>
  rw[au,au,iQ]
  exact⟨.text _ s b hs hb,by simp[aV,bV,fT]⟩
 |val v r h=>
  obtain⟨h1,h2⟩:=eo.hold v r h
  rw[au,au]
  exact⟨.val v _ h1,by simpa [aV] using h2⟩
theorem jM.hold{xs:List AV}{vs:List Vl}(h:jM xs vs):jM (xs.map au) vs/\∀a∈xs.map au,aV 0 0 0 a=true:=by
 refine⟨⟨by simp[h.1],fun i x v hx hv=>?_⟩,fun a ha=>?_⟩
 ·rw[List.getElem?_map] at hx
  cases hy:xs[i]? with
  |none=>rw[hy] at hx;cases hx
  |some y=>
   rw[hy] at hx
   injection hx with hx
   subst hx
   exact(h.2 i y v hy hv).hold.1
 ·obtain⟨y,hy,rfl⟩:=List.mem_map.1 ha
  obtain⟨i,hi⟩:=List.getElem?_of_mem hy
  have hil:=(List.getElem?_eq_some_iff.1 hi).1
  exact(h.2 i y _ hi (List.getElem?_eq_getElem (by rw[<-h.1];exact hil))).hold.2
theorem eo.tok{vs:List Vl}{t:Tok}{sz:Nat}{rows:List (List AV)}(h:eo (.list vs) (cE 3 0 [] t sz rows))(t2:Tok):eo (.list vs) (cE 3 0 [] t2 sz rows):=by
 generalize hr:cE 3 0 [] t sz rows=r at h
 cases h with
 |list l k z rs a b c d=>
  unfold cE at hr
  injection hr with _ hr
  injection hr with _ hr
  injection hr with _ hr
  injection hr with hr
  injection hr with q1 q2 q3
  subst q2;subst q3
  exact .list vs t2 sz rows a b c d
theorem Hn(k:Tok)(s:Nat)(xs:List AV)(vs:List Vl)(hr:jM xs vs)(hs:xs≠[]->s=1)(hl:xs.length<=1000):
 ∃row,eo (.list vs) row/\∀h,W5.call 112 [.list k s (xs.map fun a=>[a])] h=some (.ret (.agg row),h):=by
 obtain⟨h1,h2⟩:=hr.hold
 obtain⟨r,h',c,-,t,sz,rows,rfl,hv,hf,-⟩:=zH ⟨[],[],0,[]⟩ ok0 (di k) s (xs.map au) vs h1 (fun q=>hs (by simpa using q)) (by simpa using hl) h2
 refine⟨cE 3 0 [] (di t) sz rows,hv.tok _,dm (L:=L5) (args':=[.list (di k) s ((xs.map au).map fun a=>[a])]) rfl (by rw[bM,bM,au,hD]) (by rw[bA,bA,aV,bV,gx _ h2];rfl) c rfl ?_⟩
 rw[aV,cE,bA,bA,bA,bA,bA,aV,bV,hf];rfl
theorem xY{z:Nat}{h:ae}:∀xs:List AV,qG z h (xs.map fun a=>[a])=(xs.map (jh z h)).map fun a=>[a]
 | []=>rfl
 |x::xs=>by rw[List.map_cons,qG,xY xs];rfl
theorem EU{z:Nat}{h:ae}:∀b:List UInt8,qG z h (u8s b)=u8s b
 | []=>rfl
 |a::b=>by
  show qG z h (dp a::u8s b)=_
  rw[qG,EU b];rfl
def qh(h:ae)(x:AV)(v:Vl):Prop:=oS (jh 4 h x) v/\aV 0 0 0 (jh 4 h x)=true
def oT(h:ae)(xs:List AV)(vs:List Vl):Prop:=xs.length=vs.length/\∀(i:Nat) x v,xs[i]?=some x->vs[i]?=some v->qh h x v
theorem oT.nil{h:ae}:oT h [] []:=⟨rfl,fun i x v q=>by simp at q⟩
theorem oT.cons{h:ae}{x:AV}{v:Vl}{xs:List AV}{vs:List Vl}(q:qh h x v)(hs:oT h xs vs):oT h (x::xs) (v::vs):=by
 refine⟨by simp[hs.1],fun i y w hy hw=>?_⟩
 cases i with
 |zero=>simp at hy hw;subst hy;subst hw;exact q
 |succ i=>simp at hy hw;exact hs.2 i y w hy hw
theorem qh.int{h:ae}(n:Int)(hn:0<=n/\n<=4611686018427387903):qh h (.iface 3 (.v (.int .i64 n))) (.int n):=⟨.int n hn,rfl⟩
theorem qh.text{h:ae}(k:Tok)(s:Nat)(b:List UInt8)(hs:b≠[]->s=1)(hb:b.length<=1099511620000):qh h (.iface 28 (.list k s (u8s b))) (.text b):=by
 unfold qh
 rw[jh,jh,EU]
 exact⟨.text _ s b hs hb,by simp[aV,bV,fT]⟩
theorem PC{z:Nat}{rows:List (List AV)}(hr:∀r∈rows,r.length=z){i:Nat}{r:List AV}(h:rows[i]?=some r):(rows.flatten.drop (i * z)).take z=r:=by
 have hl:=hr r (List.mem_of_getElem? h)
 refine List.ext_getElem? fun j=>?_
 rw[List.getElem?_take]
 split
 ·rename_i hj
  rw[List.getElem?_drop,AD hr i j hj,h];rfl
 ·rename_i hj
  rw[List.getElem?_eq_none (by omega)]
theorem BH{z:Nat}(hz:0<z):∀rows:List (List AV),(∀r∈rows,r.length=z)->qc z rows.flatten 0 rows.length=rows:=by
 intro rows hr
 refine List.ext_getElem? fun i=>?_
 unfold qc
 rw[List.getElem?_map]
 rcases Nat.lt_or_ge i rows.length with hi|hi
 ·rw[List.getElem?_range hi,Option.map_some,Nat.zero_add,PC hr (List.getElem?_eq_getElem hi),List.getElem?_eq_getElem hi]
 ·rw[List.getElem?_eq_none (by simpa using hi),List.getElem?_eq_none hi];rfl
theorem qh.list{h:ae}{vs:List Vl}{rows:List (List AV)}{b:Nat}(hb:h.boxes[b]?=some rows.flatten)(hr:oP vs rows)(hm:rows.length<=1000000):qh h (.iface 96 (.agg (im 3::im 0::sv []::[.arr b 0 rows.length rows.length]))) (.list vs):=by
 have hl:∀r∈rows,r.length=4:=fun r hr'=>by
  obtain⟨i,hi⟩:=List.getElem?_of_mem hr'
  have hil:=(List.getElem?_eq_some_iff.1 hi).1
  exact(hr.2 i _ r (List.getElem?_eq_getElem (by rw[<-hr.1];exact hil)) hi).len
 have e:jh 4 h (.iface 96 (.agg (im 3::im 0::sv []::[.arr b 0 rows.length rows.length])))= .iface 96 (.agg (cE 3 0 [] .held 4 (eF rows))):=by
  unfold im sv cE
  simp only[jh,j3,hb]
  rw[if_pos ⟨by rw[a8 hl];omega,by decide⟩,BH (by decide) rows hl]
  rfl
 have hv:eo (.list vs) (cE 3 0 [] .held 4 rows):= .list vs .held 4 rows hr.1 (fun _=>rfl) hm hr.2
 obtain⟨h1,h2⟩:=eo.hold _ _ hv
 have e2:bM (cE 3 0 [] .held 4 rows)=cE 3 0 [] .held 4 (eF rows):=rfl
 rw[e2] at h1 h2
 unfold qh
 rw[e]
 exact⟨.val _ _ h1,by simpa [aV] using h2⟩
theorem oT.frz{h:ae}{xs:List AV}{vs:List Vl}(q:oT h xs vs):jM (xs.map (jh 4 h)) vs/\∀a∈xs.map (jh 4 h),aV 0 0 0 a=true:=by
 refine⟨⟨by simp[q.1],fun i x v hx hv=>?_⟩,fun a ha=>?_⟩
 ·rw[List.getElem?_map] at hx
  cases hy:xs[i]? with
  |none=>rw[hy] at hx;cases hx
  |some y=>
   rw[hy] at hx
   injection hx with hx
   subst hx
   exact(q.2 i y v hy hv).1
 ·obtain⟨y,hy,rfl⟩:=List.mem_map.1 ha
  obtain⟨i,hi⟩:=List.getElem?_of_mem hy
  have hil:=(List.getElem?_eq_some_iff.1 hi).1
  exact(q.2 i y _ hi (List.getElem?_eq_getElem (by rw[<-q.1];exact hil))).2
theorem xZ(h:ae)(tag:List UInt8)(k:Tok)(s:Nat)(xs:List AV)(vs:List Vl)(hr:oT h xs vs)(hs:xs≠[]->s=1)(hl:xs.length<=1000)(ht:tag.length<=1099511620000)(hdp:eD (.list vs)<=16)(hen:(fB (.list vs)).length<=1099511600000):
 W5.call 114 [.v (.string (bs tag)),.list k s (xs.map fun a=>[a])] h=some (.ret (im ((mL tag (.list vs):Nat):Int)),h):=by
 obtain⟨h1,h2⟩:=hr.frz
 obtain⟨r,h',c,rfl⟩:=MS ⟨[],[],0,[]⟩ ok0 tag (di k) s (xs.map (jh 4 h)) vs h1 (fun q=>hs (by simpa using q)) (by simpa using hl) h2 ht hdp hen
 refine Ky (args':=[.v (.string (bs tag)),.list (di k) s ((xs.map (jh 4 h)).map fun a=>[a])]) rfl rfl ?_ ?_ c
 ·rw[j3,j3,j3,jh,xY]
  rfl
 ·simp only[bA,aV,bV,gx _ h2,Bool.and_self]
theorem j8.hold{x:AV}{v:Vl}(h:j8 x v):j8 (au x) v/\aV 0 0 0 (au x)=true:=by
 cases h with
 |int n hn=>exact⟨.int n hn,rfl⟩
 |text k s b hs hb=>
  rw[au,au,iQ]
  exact⟨.text _ s b hs hb,by simp[aV,bV,fT]⟩
theorem mq.hold{xs:List AV}{vs:List Vl}(h:mq xs vs):mq (xs.map au) vs/\∀a∈xs.map au,aV 0 0 0 a=true:=by
 refine⟨⟨by simp[h.1],fun i x v hx hv=>?_⟩,fun a ha=>?_⟩
 ·rw[List.getElem?_map] at hx
  cases hy:xs[i]? with
  |none=>rw[hy] at hx;cases hx
  |some y=>
   rw[hy] at hx
   injection hx with hx
   subst hx
   exact(h.2 i y v hy hv).hold.1
 ·obtain⟨y,hy,rfl⟩:=List.mem_map.1 ha
  obtain⟨i,hi⟩:=List.getElem?_of_mem hy
  have hil:=(List.getElem?_eq_some_iff.1 hi).1
  exact(h.2 i y _ hi (List.getElem?_eq_getElem (by rw[<-h.1];exact hil))).hold.2
theorem KJ(k:Tok)(s:Nat)(xs:List AV)(vs:List Vl)(hr:mq xs vs)(hs:xs≠[]->s=1)(hl:xs.length<=1000)(hdp:eD (.list vs)<=16)(hen:(fB (.list vs)).length<=1099511600000):
 ∃t,∀h,W5.call 79 [.list k s (xs.map fun a=>[a])] h=some (.ret (.list t 1 (u8s (fB (.list vs)))),h):=by
 obtain⟨h1,h2⟩:=hr.hold
 obtain⟨r,h',c,t,rfl⟩:=PA ⟨[],[],0,[]⟩ ok0 (di k) s (xs.map au) vs h1 (fun q=>hs (by simpa using q)) (by simpa using hl) hdp hen
 exact⟨di t,dm (L:=L5) (args':=[.list (di k) s ((xs.map au).map fun a=>[a])]) rfl (by rw[bM,bM,au,hD]) (by rw[bA,bA,aV,bV,gx _ h2];rfl) c rfl (by simp[aV,bV,fT])⟩
theorem BJ(k0:Tok)(s0:Nat)(xs:List AV)(y z:AV)(rows:List (List Int))(owners who:List Int)(hx:RL (.list k0 s0 (xs.map fun a=>[a])) rows)(hy:IL y owners)(hz:IL z who)(hwl:who.length<=1099511627776):
 (∃e,bJ rows owners who=([],false,e)/\∀h,W5.call 76 [.agg [.list k0 s0 (xs.map fun a=>[a]),y],z] h=some (.ret (.tuple [.list .nil 0 [],.v (.bool false),.v (.int .i64 e)]),h))∨
 ∃l,bJ rows owners who=(l,true,0)/\l.length=rows.length/\∀h,W5.call 76 [.agg [.list k0 s0 (xs.map fun a=>[a]),y],z] h=some (.ret (.tuple [.list .held 1 (ints l),.v (.bool true),.v (.int .i64 0)]),h):=by
 obtain⟨h1,h2⟩:=hx.hold
 obtain⟨h3,h4⟩:=hy.hold
 obtain⟨h5,h6⟩:=hz.hold
 have ea:bM [.agg [.list k0 s0 (xs.map fun a=>[a]),y],z]=[.agg [.list (di k0) s0 ((xs.map au).map fun a=>[a]),au y],au z]:=by
  rw[bM,au,bM,bM,bM,au,hD];rfl
 have ef:bA 0 0 0 [.agg [.list (di k0) s0 ((xs.map au).map fun a=>[a]),au y],au z]=true:=by
  have hf:=gx _ h2
  rw[bA,aV,bA,bA,bA,bA,aV,bV,hf,h4,h6];rfl
 rcases Kr (di k0) s0 (xs.map au) (au y) (au z) rows owners who h1 h3 h5 hwl with⟨e,e1,hc⟩|⟨l,e1,e2,hc⟩
 ·exact .inl ⟨e,e1,dm (L:=L5) rfl ea ef (hc _) rfl rfl⟩
 ·exact .inr ⟨l,e1,e2,dm (L:=L5) rfl ea ef (hc _) rfl (by simp[aV,bA,fJ,oF])⟩
theorem Ho:Tryz.f26.results.toList=[.tmp 6]:=kZq
theorem sR{b:Nat}:aJ Tryz.prog 50 (.ptr (.box b) 0) 0=some (.ptr (.box b) 0):=kZq
theorem sS{b:Nat}:aJ Tryz.prog 50 (.ptr (.box b) 0) 1=some (.ptr (.box b) 1):=kZq
theorem if3:isIface Tryz.prog 3=some false:=kZq
theorem PD:isIface Tryz.prog 28=some false:=kZq
theorem Td:isIface Tryz.prog 96=some false:=kZq
theorem bp3(t u v:TypeId)(x y z:AV):aN Tryz.prog 180 3 [(0,.iface t x),(1,.iface u y),(2,.iface v z)]=some (.list .tight 1 [[.iface t x],[.iface u y],[.iface v z]]):=kZq
theorem BK(a b:Int)(t:List UInt8):(fB (.list [.int a,.int b,.text t])).length<=60+t.length:=by
 have h1:=et 9 (0+1+1+1)
 have h2:=et 9 (oK a)
 have h3:=et 9 (oK b)
 have h4:=et 9 t.length
 simp only[fB,jB,List.length_cons,List.length_append,List.length_nil] at *
 omega
theorem oU:aX 4=true:=by decide+kernel
theorem iS{a:Int}(h:aX a=true)(n:Int):iL a n=((aY a.toNat n:Nat):Int):=by unfold iL;rw[if_pos h]
theorem gq{a:Nat}(h:elem a=true):aX ((a:Nat):Int)=true:=by
 unfold aX
 rw[Int.toNat_natCast,h,Bool.and_true]
 have:=(elem_iff.1 h).1
 exact decide_eq_true (by omega)
theorem ji{a:Int}(h:aX a=true):elem a.toNat=true:=by
 unfold aX at h
 rw[Bool.and_eq_true] at h
 exact h.2
theorem ir{a:Int}(h:aX a=true):1<=a/\a<=2147483578:=by
 obtain⟨n,rfl,h1,h2,h3⟩:=px h
 have:P=2147483579:=rfl
 omega
theorem Hq{a:Int}(h:aX a=true)(n:Int):aX ((aY a.toNat n:Nat):Int)=true:=gq (iq (ji h) n)
theorem hJ{a:Int}(h:aX a=true)(n:Int):aX (iL a n)=true:=by rw[iS h];exact Hq h n
theorem rR{a b:Int}(h:aX a=true)(k:aX b=true):pO a b=((a.toNat * b.toNat%P:Nat):Int):=by unfold pO;rw[if_pos ⟨h,k⟩]
theorem DT{a b:Int}(h:aX a=true)(k:aX b=true):aX (pO a b)=true:=by rw[rR h k];exact gq (oH (ji h) (ji k))
theorem KK(h:ae)(key e s:Int)(kt:Tok)(st:Nat)(text:List UInt8)(hst:text≠[]->st=1)(hl:text.length<=1000000):
 ∃r h',W5.call 26 [im key,.list kt st (u8s text),.agg [im e,im s]] h=some (r,h')/\r= .ret (.v (.bool (iO key text e s)))/\Ext h h':=by
 have c1:=vN key
 have bx:(AV.agg [im e,im s]).aC=some [im e,im s]:=rfl
 have l0:=Pu (ak h [im e,im s])
 have l1:=Pv (ak h [im e,im s])
 have kv:ah (iO key text e s=(aX key&&inQ e&&inQ s&&decide (e=((tw ((aY Gn s * aY key.toNat (0 - e)%P:Nat):Int) key text:Nat):Int)))):=⟨by rw[Int.zero_sub];rfl⟩
 generalize iO key text e s=res at *
 refine aL rfl Tryz.func26 rfl ?_
 unfold im at *
 by_cases hA:e<0∨s<0
 ·have d1:decide ((if s<e then s else e)<0)=true:=decide_eq_true (by split<;>omega)
  have kr:ah (res=false):=⟨by
   rw[kv.out]
   unfold inQ
   rcases hA with q|q
   ·rw[decide_eq_false (show ¬0<=e by omega)];simp
   ·rw[decide_eq_false (show ¬0<=s by omega)];simp⟩
  clear hA
  repeat' (first|simp(maxSteps:=999999) (disch:=first|exact dZ|fail) only[gW,reduceIte,Nat.reduceEqDiff,beq_self_eq_true,Ho,sR,sS,aw,ri,pc, *] | (refine dX ?_ ?_<;>(intro _;try omega)))
  exact⟨_,_,rfl,by rw[kr.out],.push _ _⟩
 have d1:decide ((if s<e then s else e)<0)=false:=decide_eq_false (by split<;>omega)
 by_cases hB:1073741789<=e∨1073741789<=s
 ·have d2:decide (1073741789<=(if e<s then s else e))=true:=decide_eq_true (by split<;>omega)
  have kr:ah (res=false):=⟨by
   rw[kv.out]
   unfold inQ Qi
   rcases hB with q|q
   ·rw[decide_eq_false (show ¬e<1073741789 by omega)];simp
   ·rw[decide_eq_false (show ¬s<1073741789 by omega)];simp⟩
  clear hA hB
  repeat' (first|simp(maxSteps:=999999) (disch:=first|exact dZ|fail) only[gW,reduceIte,Nat.reduceEqDiff,beq_self_eq_true,Ho,sR,sS,aw,ri,pc, *] | (refine dX ?_ ?_<;>(intro _;try omega)))
  exact⟨_,_,rfl,by rw[kr.out],.push _ _⟩
 have d2:decide (1073741789<=(if e<s then s else e))=false:=decide_eq_false (by split<;>omega)
 have he0:0<=e:=by omega
 have he1:e<1073741789:=by omega
 have hs0:0<=s:=by omega
 have hs1:s<1073741789:=by omega
 clear hA hB
 cases hC:aX key with
 |false=>
  rw[hC] at c1
  have kr:ah (res=false):=⟨by rw[kv.out,hC];rfl⟩
  clear hC
  repeat' (first|simp(maxSteps:=999999) (disch:=first|exact dZ|fail) only[gW,reduceIte,Nat.reduceEqDiff,beq_self_eq_true,Ho,sR,sS,aw,ri,pc, *] | (refine dX ?_ ?_<;>(intro _;try omega)))
  exact⟨_,_,rfl,by rw[kr.out],.push _ _⟩
 |true=>
  rw[hC] at c1
  have c2:=xW 4 s
  have c3:=xW key (0 - e)
  have c4:=xV (iL 4 s) (iL key (0 - e))
  have hr:=DT (hJ oU s) (hJ hC (0 - e))
  have hR:pO (iL 4 s) (iL key (0 - e))=((aY Gn s * aY key.toNat (0 - e)%P:Nat):Int):=by
   rw[rR (hJ oU s) (hJ hC (0 - e)),iS oU,iS hC,Int.toNat_natCast,Int.toNat_natCast];rfl
  have kr:ah (res=decide (e=((tw (pO (iL 4 s) (iL key (0 - e))) key text:Nat):Int))):=⟨by
   rw[kv.out,hC,hR,iP.2 (show okF e from⟨he0,he1⟩),iP.2 (show okF s from⟨hs0,hs1⟩)];rfl⟩
  have hk:=ir hC
  have hrr:=ir hr
  clear hC hR hr
  generalize pO (iL 4 s) (iL key (0 - e))=R at *
  have hlen:=BK R key text
  obtain⟨te,c5⟩:=KJ .tight 1 [.iface 3 (.v (.int .i64 R)),.iface 3 (.v (.int .i64 key)),.iface 28 (.list kt st (u8s text))] [.int R,.int key,.text text]
   (.cons (.int R ⟨by omega,by omega⟩) (.cons (.int key ⟨by omega,by omega⟩) (.cons (.text kt st text hst (by omega)) .nil))) (fun _=>rfl) (by simp) (by simp[eD,dN]) (by omega)
  have c6:=PB vi (fB (.list [.int R,.int key,.text text])) te (by omega) (by decide)
  have hh:mK (dV vi (fB (.list [.int R,.int key,.text text])))=tw R key text:=rfl
  rw[hh] at c6
  simp only[List.map_cons,List.map_nil] at c5
  generalize tw R key text=n at *
  rw[show vi=[115,105,103,110] from rfl] at c6
  have wn:IntKind.i64.wrap (0 - e)=0 - e:=bT (by omega) (by omega)
  unfold im at *
  clear hlen hh hk hrr
  repeat' (first|simp(maxSteps:=999999) (disch:=first|exact dZ|fail) only[gW,reduceIte,Nat.reduceEqDiff,beq_self_eq_true,Ho,sR,sS,aw,ri,pc, *] | (refine dX ?_ ?_<;>(intro _;try omega)))
  refine bf gM kZq ?_
  repeat' (first|simp(maxSteps:=999999) (disch:=first|exact dZ|fail) only[gW,reduceIte,Nat.reduceEqDiff,beq_self_eq_true,Ho,sR,sS, *] | (refine dX ?_ ?_<;>(intro _;try omega)))
  refine bf gM kZq ?_
  repeat' (first|simp(maxSteps:=999999) (disch:=first|exact dZ|fail) only[gW,reduceIte,Nat.reduceEqDiff,beq_self_eq_true,Ho,sR,sS,if3,PD,bp3, *] | (refine dX ?_ ?_<;>(intro _;try omega)))
  exact⟨_,_,rfl,by rw[kr.out],.push _ _⟩
theorem Hr:Tryz.f68.results.toList=[.tmp 6,.tmp 7]:=kZq
theorem PE:Tryz.f56.results.toList=[.tmp 6,.tmp 7]:=kZq
def wL(aa row:List Int)(k:Nat):Nat:=(List.range k).foldl (fun x j=>x * aY (at0 aa j).toNat (at0 row j)%P) 1
theorem x7(aa row:List Int)(k:Nat):wL aa row (k+1)=wL aa row k * aY (at0 aa k).toNat (at0 row k)%P:=by
 unfold wL
 rw[List.range_succ,List.foldl_append];rfl
theorem sT{aa row:List Int}(h:aa.all aX=true):∀k,k<=aa.length->elem (wL aa row k)=true
 |0,_=>mI
 |k+1,hk=>by
  rw[x7]
  refine oH (sT h k (by omega)) (iq (ji ?_) _)
  rw[List.all_eq_true] at h
  exact h _ (by rw[bN (by omega)];exact List.getElem_mem _)
def gy(rows:List (List Int))(owners aa:List Int)(row:Int):Int × Int:=
 if dx rows owners aa≠0 then (0,dx rows owners aa) else if decide (row<0) ||decide ((rows.length:Int)<=row) then (0,1) else (((lU aa (rows.getD row.toNat []):Nat):Int),0)
theorem ya{rows:List (List Int)}{owners aa:List Int}(h:dx rows owners aa=0):bC rows owners=0/\aa.length=aK rows/\aa.all aX=true:=by
 unfold dx at h
 split at h
 ·rename_i q;exact absurd h q
 ·rename_i q
  split at h
  ·rename_i q2
   rw[Bool.and_eq_true,decide_eq_true_eq] at q2
   exact⟨by simpa using q,q2.1,q2.2⟩
  ·cases h
theorem BM(h:ae)(x y z:AV)(rows:List (List Int))(owners aa:List Int)(hx:RL x rows)(hy:IL y owners)(hz:IL z aa)(hl:aa.length<=1000000)(row:Int):
 ∃r h',W5.call 68 [.agg [x,y],z,im row] h=some (r,h')/\r= .ret (.tuple [im (gy rows owners aa row).1,im (gy rows owners aa row).2])/\Ext h h':=by
 have bx:=ff hx hy
 have c1:=tN x y z rows owners aa hx hy hz hl
 have b0:=ak h [x,y]
 have l0:=ma b0
 have l1:=tY b0
 have ln:=hx.cH
 have kx:=ah.mk (And.intro hx hz)
 clear hx hy b0
 have hp1:ah (dx rows owners aa≠0->gy rows owners aa row=(0,dx rows owners aa)):=⟨fun q=>by unfold gy;rw[if_pos q]⟩
 have hp2:ah (dx rows owners aa=0->row<0∨(rows.length:Int)<=row->gy rows owners aa row=(0,1)):=⟨fun q p=>by
  unfold gy
  rw[if_neg (by simp[q]),if_pos]
  rcases p with p|p
  ·rw[decide_eq_true p];rfl
  ·rw[decide_eq_true p];simp⟩
 have hp3:ah (dx rows owners aa=0->¬row<0->¬(rows.length:Int)<=row->gy rows owners aa row=(((lU aa (rows.getD row.toNat []):Nat):Int),0)):=⟨fun q p1 p2=>by
  unfold gy
  rw[if_neg (by simp[q]),if_neg (by rw[decide_eq_false p1,decide_eq_false p2];simp)]⟩
 have hck:=fun q=>@ya rows owners aa q
 have kck:=ah.mk hck
 clear hck
 generalize gy rows owners aa row=res at *
 unfold im at *
 refine aL rfl Tryz.func68 rfl ?_
 by_cases h0:dx rows owners aa=0
 rotate_left 1
 ·have kr:=ah.mk (hp1.out h0)
  generalize dx rows owners aa=q at *
  repeat' (first|simp(maxSteps:=999999) (disch:=first|exact dZ|fail) only[gW,reduceIte,Nat.reduceEqDiff,beq_self_eq_true,Hr,aw, *] | (refine dX ?_ ?_<;>(intro _;try omega)))
  exact⟨_,_,rfl,by rw[kr.out],.push _ _⟩
 rw[h0] at c1
 by_cases h1:row<0
 ·have d1:decide (row<0)=true:=decide_eq_true h1
  have kr:=ah.mk (hp2.out h0 (.inl h1))
  clear h1 h0
  repeat' (first|simp(maxSteps:=999999) (disch:=first|exact dZ|fail) only[gW,reduceIte,Nat.reduceEqDiff,beq_self_eq_true,Hr,aw,bH, *] | (refine dX ?_ ?_<;>(intro _;try omega)))
  exact⟨_,_,rfl,by rw[kr.out],.push _ _⟩
 have d1:decide (row<0)=false:=decide_eq_false h1
 by_cases h2:(rows.length:Int)<=row
 ·have d2:decide ((rows.length:Int)<=row)=true:=decide_eq_true h2
  have kr:=ah.mk (hp2.out h0 (.inr h2))
  clear h1 h0 h2
  repeat' (first|simp(maxSteps:=999999) (disch:=first|exact dZ|fail) only[gW,reduceIte,Nat.reduceEqDiff,beq_self_eq_true,Hr,aw,bH, *] | (refine dX ?_ ?_<;>(intro _;try omega)))
  exact⟨_,_,rfl,by rw[kr.out],.push _ _⟩
 have d2:decide ((rows.length:Int)<=row)=false:=decide_eq_false h2
 have kr:=ah.mk (hp3.out h0 h1 h2)
 obtain⟨q1,q2,q3⟩:=kck.out h0
 obtain⟨w1,w2,w3,w4⟩:=fk q1
 have hrow:row.toNat<rows.length:=by omega
 have hrw:=w3 _ (List.getElem_mem hrow)
 rw[<-cU (t:=rows) hrow] at hrw
 generalize hR:rows.getD row.toNat []=R at *
 have hRL:R.length=aa.length:=by rw[hrw.1,q2]
 have hcl:aa.length<=64:=by rw[<-hRL];exact hrw.2.2.1
 obtain⟨k,s,xs,rfl,hs,hxl,hxr⟩:=kx.out.1
 obtain⟨kz,sz,rfl,hsz⟩:=kx.out.2
 have hs1:s=1:=hs (by intro q;rw[q] at hrow;simp at hrow)
 subst hs1
 obtain⟨a,hav⟩:∃a,xs[row.toNat]?=some a:=⟨_,List.getElem?_eq_getElem (by omega)⟩
 have hv:rows[row.toNat]?=some R:=by rw[<-hR,List.getD_eq_getElem?_getD,List.getElem?_eq_getElem hrow];rfl
 obtain⟨ka,sa,rfl,hsa⟩:=hxr _ a R hav hv
 have ld:=ldr (H:=h.push [.list k 1 (xs.map fun a=>[a]),y]) (s:=1) hav
 have kk:=ah.mk (And.intro hsz (And.intro hsa q3))
 have h1':0<=row:=by omega
 have h2':row<(rows.length:Int):=by omega
 have hil:(xs.map fun a=>[a]).length=rows.length:=by rw[List.length_map];exact hxl
 have hil2:=aU R
 have hil3:=aU aa
 have u23:=Tryz.underlying23
 have u22:=Tryz.underlying22
 have z23:=jC
 have z3:=sz3
 clear hs hxr hsz hsa hav hv hR hrw w1 w2 w3 w4 q1 q2 q3 hp1 hp2 hp3 h0 kx kck hz h1 h2
 repeat' (first|simp(maxSteps:=999999) (disch:=first|exact dZ|fail) only[gW,reduceIte,Nat.reduceEqDiff,beq_self_eq_true,Hr,aw,bH, *] | (refine dX ?_ ?_<;>(intro _;try omega)))
 refine aD (fun m e H=>∃j:Nat,j<=aa.length/\m=aa.length - j/\e.get 2= .v (.int .i64 row)/\e.get 3= .ptr (.box h.boxes.length) 0/\e.get 6= .v (.int .i64 (wL aa R j:Nat))/\e.get 28= .list kz sz (ints aa)/\e.get 29= .v (.int .i64 (aa.length:Nat))/\e.get 30= .v (.int .i64 (j:Nat))/\e.defers=[]/\H=h.push [.list k 1 (xs.map fun a=>[a]),y]) ?_ aa.length _ _ ?_
 rotate_left 1
 ·refine⟨0,Nat.zero_le _,rfl,?_,?_,?_,?_,?_,?_,?_,rfl⟩<;>exact gR
 rintro m e H ⟨j,hj,rfl,g2,g3,g6,g28,g29,g30,hd,rfl⟩
 by_cases hlt:j<aa.length
 ·have hz1:sz=1:=kk.out.1 (by intro q;rw[q] at hlt;simp at hlt)
  subst hz1
  have ha1:sa=1:=kk.out.2.1 (by intro q;rw[q] at hRL;simp at hRL;omega)
  subst ha1
  have hltI:(j:Int)<(aa.length:Int):=by omega
  have hltR:(j:Int)<(R.length:Int):=by omega
  have lc:=ldi (H:=h.push [.list k 1 (xs.map fun a=>[a]),y]) (l:=aa) (i:=j) (s:=1) hlt
  have lr:=ldi (H:=h.push [.list k 1 (xs.map fun a=>[a]),y]) (l:=R) (i:=j) (s:=1) (by omega)
  have he:aX (at0 aa j)=true:=by
   have:=kk.out.2.2
   rw[List.all_eq_true] at this
   exact this _ (by rw[bN hlt];exact List.getElem_mem _)
  have c2:=BG (at0 aa j) (at0 R j)
  have c3:=xV ((wL aa R j:Nat):Int) (iL (at0 aa j) (at0 R j))
  have hK:=gq (sT (row:=R) kk.out.2.2 j hj)
  have e3:pO ((wL aa R j:Nat):Int) (iL (at0 aa j) (at0 R j))=((wL aa R (j+1):Nat):Int):=by
   rw[rR hK (hJ he _),iS he,x7,Int.toNat_natCast,Int.toNat_natCast]
  have e4:lG (at0 aa j)=0:=by unfold lG;rw[if_pos he]
  have e5:mP ((wL aa R j:Nat):Int) (iL (at0 aa j) (at0 R j))=0:=by unfold mP;rw[if_pos ⟨hK,hJ he _⟩]
  rw[e4] at c2
  rw[e3,e5] at c3
  clear he hK e3 e4 e5
  generalize iL (at0 aa j) (at0 R j)=pw at *
  generalize at0 aa j=cj at *
  generalize at0 R j=rj at *
  unfold im at *
  repeat' (first|simp(maxSteps:=999999) (disch:=first|exact dZ|fail) only[gW,reduceIte,Nat.reduceEqDiff,beq_self_eq_true,Hr,bH,al, *] | (refine dX ?_ ?_<;>(intro _;try omega)))
  exact⟨aa.length - (j+1),by omega,j+1,by omega,rfl,by simp⟩
 ·have:j=aa.length:=by omega
  subst this
  have e:wL aa R aa.length=lU aa R:=rfl
  repeat' (first|simp(maxSteps:=999999) (disch:=first|exact dZ|fail) only[gW,reduceIte,Nat.reduceEqDiff,beq_self_eq_true,Hr, *] | (refine dX ?_ ?_<;>(intro _;try omega)))
  exact⟨_,_,rfl,by rw[kr.out,<-e],.push _ _⟩
def mW(rows:List (List Int))(owners aa:List Int)(p:Int × Int):Bool × Int:=
 if dx rows owners aa≠0 then (false,dx rows owners aa) else if lO rows p=false then (false,340) else (decide (aY Gn p.2=lU aa (rows.getD p.1.toNat [])),0)
theorem PF(h:ae)(x y z:AV)(rows:List (List Int))(owners aa:List Int)(hx:RL x rows)(hy:IL y owners)(hz:IL z aa)(hl:aa.length<=1000000)(a v:Int):
 ∃r h',W5.call 56 [.agg [x,y],z,.agg [im a,im v]] h=some (r,h')/\r= .ret (.tuple [.v (.bool (mW rows owners aa (a,v)).1),im (mW rows owners aa (a,v)).2])/\Ext h h':=by
 have bx:=ff hx hy
 have b2:(AV.agg [im a,im v]).aC=some [im a,im v]:=rfl
 have c1:=tN x y z rows owners aa hx hy hz hl
 have c2:=DS x y rows owners hx hy a v
 obtain⟨_,H2,c3,rfl,x3⟩:=BM ((h.push [x,y]).push [im a,im v]) x y z rows owners aa hx hy hz hl a
 have c4:=BG 4 v
 have e4:lG 4=0:=by unfold lG;rw[if_pos oU]
 rw[e4,iS oU] at c4
 have q1:((h.push [x,y]).push [im a,im v]).boxes[h.boxes.length]?=some [x,y]:=aj (ak h [x,y])
 have q2:=ak (h.push [x,y]) [im a,im v]
 have l0:=ma q1
 have l1:ai Tryz.prog Gt ((h.push [x,y]).push [im a,im v]) 81 (.ptr (.box (h.push [x,y]).boxes.length) 0)=some (.agg [im a,im v]):=by
  rw[cP kZq (by kernel_rfl:bF Tryz.prog 81=some 2) q2 (Nat.le_refl 2)];rfl
 have l2:=Pu q2
 have l3:ai Tryz.prog Gt H2 3 (.ptr (.box (h.push [x,y]).boxes.length) 1)=some (im v):=Pv (x3.box _ _ q2)
 have kX:=ah.mk (((Ext.push h [x,y]).trans (.push _ [im a,im v])).trans x3)
 have X1:=ah.mk ((Ext.push h [x,y]).trans (.push _ [im a,im v]))
 have hp1:ah (dx rows owners aa≠0->mW rows owners aa (a,v)=(false,dx rows owners aa)):=⟨fun q=>by unfold mW;rw[if_pos q]⟩
 have hp2:ah (dx rows owners aa=0->lO rows (a,v)=false->mW rows owners aa (a,v)=(false,340)):=⟨fun q p=>by unfold mW;rw[if_neg (by simp[q]),if_pos p]⟩
 have hp3:ah (dx rows owners aa=0->lO rows (a,v)=true->mW rows owners aa (a,v)=(decide (aY Gn v=lU aa (rows.getD a.toNat [])),0)):=⟨fun q p=>by unfold mW;rw[if_neg (by simp[q]),if_neg (by simp[p])]⟩
 have hp4:ah (dx rows owners aa=0->lO rows (a,v)=true->gy rows owners aa a=(((lU aa (rows.getD a.toNat []):Nat):Int),0)):=⟨fun q p=>by
  unfold lO at p
  simp only[Bool.and_eq_true,decide_eq_true_eq] at p
  unfold gy
  rw[if_neg (by simp[q]),if_neg]
  rw[decide_eq_false (show ¬a<0 by omega),decide_eq_false (show ¬(rows.length:Int)<=a by omega)];simp⟩
 clear hx hy hz q1 q2 x3 e4
 generalize mW rows owners aa (a,v)=res at *
 refine aL rfl Tryz.func56 rfl ?_
 by_cases h0:dx rows owners aa=0
 rotate_left 1
 ·have kr:=ah.mk (hp1.out h0)
  clear c3 c2 l3
  generalize dx rows owners aa=q at *
  unfold im at *
  repeat' (first|simp(maxSteps:=999999) (disch:=first|exact dZ|fail) only[gW,reduceIte,Nat.reduceEqDiff,beq_self_eq_true,PE,aw, *] | (refine dX ?_ ?_<;>(intro _;try omega)))
  exact⟨_,_,rfl,by rw[kr.out],X1.out⟩
 rw[h0] at c1
 cases h1:lO rows (a,v) with
 |false=>
  have kr:=ah.mk (hp2.out h0 h1)
  rw[h1] at c2
  clear c3 h1 h0 l3
  unfold im at *
  repeat' (first|simp(maxSteps:=999999) (disch:=first|exact dZ|fail) only[gW,reduceIte,Nat.reduceEqDiff,beq_self_eq_true,PE,aw, *] | (refine dX ?_ ?_<;>(intro _;try omega)))
  exact⟨_,_,rfl,by rw[kr.out],X1.out⟩
 |true=>
  have kr:=ah.mk (hp3.out h0 h1)
  rw[hp4.out h0 h1] at c3
  rw[h1] at c2
  clear h1 h0
  have hG:(4:Int).toNat=Gn:=rfl
  rw[hG] at c4
  have hd:decide (aY Gn v=lU aa (rows.getD a.toNat []))=decide (((aY Gn v:Nat):Int)=((lU aa (rows.getD a.toNat []):Nat):Int)):=by rw[decide_eq_decide];omega
  rw[hd] at kr
  generalize ((aY Gn v:Nat):Int)=p1 at *
  generalize ((lU aa (rows.getD a.toNat []):Nat):Int)=p2 at *
  clear hp1 hp2 hp3 hp4 hd hG
  unfold im at *
  repeat' (first|simp(maxSteps:=999999) (disch:=first|exact dZ|fail) only[gW,reduceIte,Nat.reduceEqDiff,beq_self_eq_true,PE,aw,zE,zF, *] | (refine dX ?_ ?_<;>(intro _;try omega)))
  exact⟨_,_,rfl,by rw[kr.out],kX.out⟩
theorem zJ:Tryz.f44.results.toList=[.tmp 6,.tmp 7,.tmp 8]:=kZq
theorem apT{T E:TypeId}{n:Nat}(hu:Tryz.prog.underlying T=some (.slice E))(hi:∃i,Tryz.prog.info? E=some i/\i.size=n/\i.bytes<=64/\(i.zero.map fun z=>z.cells.size)=some n)(hn:0<n){H:ae}{k:Tok}{n0 sz:Nat}{es:List (List AV)}{r:List AV}
 (hl:es.length<1000000) (hs:sz=n∨(es=[]/\k= .nil)) (hk:bG n0 H k):bP Tryz.prog H #[T,T] (.list k sz es) (.list .tight n [r])=some (.list (.free H.tn) n (es++[r]),H.app k):=by
 obtain⟨i,h1,q2,q3,h4⟩:=hi
 have hb:=Nat.mul_le_mul (show es.length+1<=1000000 by omega) q3
 have:=lI (P:=Tryz.prog) (h:=H) (n0:=n0) (k:=k) (sz:=sz) (es:=es) (new:=[r]) (x:= .list .tight n [r]) (t1:=T) hu (.inl ⟨E,hu⟩) h1 (by omega) (by rw[q2];exact h4) (by rw[q2];unfold eH rowsOf;simp) (by simp) (by simp;omega) (by simp;omega) (by rw[q2];exact hs) hk
 rwa [q2] at this
theorem RS:∃i,Tryz.prog.info? 81=some i/\i.size=2/\i.bytes<=64/\(i.zero.map fun z=>z.cells.size)=some 2:=by
 have h:(match Tryz.prog.info? 81 with|some i=>Nat.beq i.size 2&&Nat.ble i.bytes 64&&decide ((i.zero.map fun z=>z.cells.size)=some 2) |none=>false)=true:=kZq
 cases hi:Tryz.prog.info? 81 with
 |none=>rw[hi] at h;cases h
 |some i=>
  rw[hi] at h
  simp only[Bool.and_eq_true,decide_eq_true_eq] at h
  exact⟨i,rfl,Nat.eq_of_beq_eq_true h.1.1,Nat.le_of_ble_eq_true h.1.2,h.2⟩
def eu(p:Int × Int):List AV:=[.v (.int .i64 p.1),.v (.int .i64 p.2)]
def bL(l:List (Int × Int)):List (List AV):=l.map eu
def SL(x:AV)(l:List (Int × Int)):Prop:=∃k s,x= .list k s (bL l)/\(l≠[]->s=2)
def fV(rows:List (List Int))(s:List Int):List (Int × Int):=(List.range rows.length).map fun i=>(((i:Nat):Int),oa (rows.getD i []) s)
theorem pF(rows:List (List Int))(s:List Int):(fV rows s).length=rows.length:=by unfold fV;simp
theorem yb{rows:List (List Int)}{s r:List Int}{i:Nat}(h:rows[i]?=some r):(fV rows s)[i]?=some (((i:Nat):Int),oa r s):=by
 unfold fV
 have hi:=(List.getElem?_eq_some_iff.1 h).1
 rw[List.getElem?_map,List.getElem?_range hi,Option.map_some,List.getD_eq_getElem?_getD,h];rfl
def mb(rows:List (List Int))(owners:List Int)(bp:Int)(random:List Int):Int:=
 if bC rows owners≠0 then bC rows owners else if inQ bp&&random.all inQ&&decide ((random.length:Int)=(aK rows:Nat) - 1) then 0 else 1
def Gr(h H:ae)(t:Tok):Prop:=Ext h H/\aZ H=true/\bG h.tn H t
theorem Gr.app{h H:ae}{t:Tok}(g:Gr h H t):Gr h (H.app t) (.free H.tn):=by
 have gr:=Grown.one g.2.2 g.2.1 g.1.tn
 exact⟨gr.ext g.1 (Nat.le_refl _),gr.ok,gr.can⟩
theorem Gr.push{h H:ae}{t:Tok}(g:Gr h H t)(cs:List AV):Gr h (H.push cs) t:=⟨g.1.trans (.push _ _),g.2.1,by rw[ij];exact g.2.2⟩
theorem Gr.nil{h H:ae}(x:Ext h H)(o:aZ H=true):Gr h H .nil:=⟨x,o,.inl rfl⟩
theorem MX(x y:AV)(hx:x.bu=true)(hy:y.bu=true):aN Tryz.prog 22 2 [(0,x),(1,y)]=some (.list .tight 1 [[x],[y]]):=by
 cases x<;>first| (cases hx;done) | (cases y<;>first| (cases hy;done) |kernel_rfl)
theorem IL.bu{x:AV}{l:List Int}(h:IL x l):x.bu=true:=by obtain⟨k,s,rfl,-⟩:=h;rfl
theorem RT(a b:Int):aN Tryz.prog 36 1 [(0,.agg [.v (.int .i64 a),.v (.int .i64 b)])]=some (.list .tight 2 [[.v (.int .i64 a),.v (.int .i64 b)]]):=kZq
theorem Te(a b:Int):fj Tryz.prog 81 [(0,.v (.int .i64 a)),(1,.v (.int .i64 b))]=some (.agg [.v (.int .i64 a),.v (.int .i64 b)]):=kZq
theorem PG(h:ae)(hok:aZ h=true)(x y z:AV)(rows:List (List Int))(owners random:List Int)(bp:Int)(hx:RL x rows)(hy:IL y owners)(hz:IL z random)(hl:random.length<=1000)(hrr:rows.length<=1000000):
 ∃r h',W5.call 44 [.agg [x,y],im bp,z] h=some (r,h')/\
  ((mb rows owners bp random≠0/\r= .ret (.tuple [.list .nil 0 [],.list .nil 0 [],im (mb rows owners bp random)]))∨
  (mb rows owners bp random=0/\∃t1 s1 t2 s2,r= .ret (.tuple [.list t1 s1 (bL (fV rows (bp::random))),.list t2 s2 (ints (ax (bp::random))),im 0])/\(fV rows (bp::random)≠[]->s1=2)/\s2=1)):=by
 have bx:=ff hx hy
 have c1:=KI x y rows owners hx hy
 have c2:=rQ (.list .tight 1 [[.v (.int .i64 bp)]]) [bp] (zG bp) (by simp)
 rw[show[bp].all inQ=inQ bp by simp] at c2
 have c3:=rQ z random hz (by omega)
 have c4:=zI x y rows owners hx hy
 obtain⟨z2,hz2,c5⟩:=MW (.list .tight 1 [[.v (.int .i64 bp)]]) z [bp] random (zG bp) hz (by simp;omega)
 have b0:=ak h [x,y]
 have l0:=ma b0
 have l1:=tY b0
 have lz:=hz.cH
 have bl:=pQ bp
 have blt:=MX (.list .tight 1 [[.v (.int .i64 bp)]]) z rfl hz.bu
 have lx:=hx.cH
 have hp1:ah (bC rows owners≠0->mb rows owners bp random=bC rows owners):=⟨fun q=>by unfold mb;rw[if_pos q]⟩
 have hp2:ah (bC rows owners=0->mb rows owners bp random=if inQ bp&&random.all inQ&&decide ((random.length:Int)=(aK rows:Nat) - 1) then 0 else 1):=⟨fun q=>by unfold mb;rw[if_neg (by simp[q])]⟩
 have kok:=ah.mk (fun q=>@fk rows owners q)
 have kcp:=ah.mk (fun q=>@fI rows owners q)
 have kx:=ah.mk (And.intro hx hz2)
 have hc0:(aK rows:Int)<=1000000∨bC rows owners≠0:=by
  by_cases q:bC rows owners=0
  ·have:=(fI q).2;exact .inl (by omega)
  ·exact .inr q
 clear hx hy hz b0 hz2
 generalize mb rows owners bp random=res at *
 unfold im at *
 refine aL rfl Tryz.func44 rfl ?_
 by_cases h0:bC rows owners=0
 rotate_left 1
 ·have e1:=hp1.out h0
  have kr:=ah.mk (And.intro h0 e1)
  clear e1 hc0 c2 c3 c4 c5
  generalize bC rows owners=q at *
  repeat' (first|simp(maxSteps:=999999) (disch:=first|exact dZ|fail) only[gW,reduceIte,Nat.reduceEqDiff,beq_self_eq_true,zJ,aw, *] | (refine dX ?_ ?_<;>(intro _;try omega)))
  exact⟨_,_,rfl,.inl ⟨by rw[kr.out.2];exact kr.out.1,by rw[kr.out.2]⟩⟩
 rw[h0] at c1
 have hres:=hp2.out h0
 have hcp:=kcp.out h0
 have hw:IntKind.i64.wrap ((aK rows:Nat) - 1:Int)=(aK rows:Nat) - 1:=bT (by omega) (by omega)
 clear hp1 hp2 kcp hc0
 have bad:∀(q:(inQ bp&&random.all inQ&&decide ((random.length:Int)=(aK rows:Nat) - 1))=false),res=1:=fun q=>by rw[hres,if_neg (by simp[q])]
 have good:∀(q:(inQ bp&&random.all inQ&&decide ((random.length:Int)=(aK rows:Nat) - 1))=true),res=0:=fun q=>by rw[hres,if_pos q]
 have kb:=ah.mk bad
 have kg:=ah.mk good
 clear bad good hres
 cases h1:inQ bp with
 |false=>
  rw[h1] at c2
  have kr:ah (res=1):=⟨kb.out (by rw[h1];rfl)⟩
  clear h1 h0 c3 c4 c5
  repeat' (first|simp(maxSteps:=999999) (disch:=first|exact dZ|fail) only[gW,reduceIte,Nat.reduceEqDiff,beq_self_eq_true,zJ,aw, *] | (refine dX ?_ ?_<;>(intro _;try omega)))
  exact⟨_,_,rfl,.inl ⟨by rw[kr.out];decide,by rw[kr.out]⟩⟩
 |true=>
 rw[h1] at c2
 cases h2:random.all inQ with
 |false=>
  rw[h2] at c3
  have kr:ah (res=1):=⟨kb.out (by rw[h1,h2];rfl)⟩
  clear h1 h2 h0 c4 c5
  repeat' (first|simp(maxSteps:=999999) (disch:=first|exact dZ|fail) only[gW,reduceIte,Nat.reduceEqDiff,beq_self_eq_true,zJ,aw, *] | (refine dX ?_ ?_<;>(intro _;try omega)))
  exact⟨_,_,rfl,.inl ⟨by rw[kr.out];decide,by rw[kr.out]⟩⟩
 |true=>
 rw[h2] at c3
 by_cases h3:(random.length:Int)=(aK rows:Nat) - 1
 rotate_left 1
 ·have d3:decide ((random.length:Int)=((aK rows:Nat):Int) - 1)=false:=decide_eq_false h3
  have kr:ah (res=1):=⟨kb.out (by rw[h1,h2,d3];rfl)⟩
  clear h1 h2 h3 h0 c5
  repeat' (first|simp(maxSteps:=999999) (disch:=first|exact dZ|fail) only[gW,reduceIte,Nat.reduceEqDiff,beq_self_eq_true,zJ,aw, *] | (refine dX ?_ ?_<;>(intro _;try omega)))
  exact⟨_,_,rfl,.inl ⟨by rw[kr.out];decide,by rw[kr.out]⟩⟩
 have d3:decide ((random.length:Int)=((aK rows:Nat):Int) - 1)=true:=decide_eq_true h3
 have kr:ah (res=0):=⟨kg.out (by rw[h1,h2,d3];rfl)⟩
 have hsl:(bp::random).length=aK rows:=by simp;omega
 obtain⟨w1,w2,w3,w4⟩:=kok.out h0
 have kw:=ah.mk w3
 have ks:=ah.mk hsl
 rw[List.singleton_append] at kx
 obtain⟨k,s,xs,rfl,hs,hxl,hxr⟩:=kx.out.1
 obtain⟨kz,sz,rfl,hsz⟩:=kx.out.2
 have kk:=ah.mk (And.intro hs (And.intro hxr hsz))
 have hsz1:sz=1:=hsz (by simp)
 subst hsz1
 have u23:=Tryz.underlying23
 have u22:=Tryz.underlying22
 have u36:=Tryz.underlying36
 have z23:=jC
 have z3:=sz3
 have hil:(xs.map fun a=>[a]).length=rows.length:=by rw[List.length_map];exact hxl
 have hil2:=aU (bp::random)
 clear hs hxr hsz w1 w3 w4 h1 h2 h3 h0 hsl kok kb kg
 generalize hS:bp::random=S at *
 repeat' (first|simp(maxSteps:=999999) (disch:=first|exact dZ|fail) only[gW,reduceIte,Nat.reduceEqDiff,beq_self_eq_true,zJ,aw,bH, *] | (refine dX ?_ ?_<;>(intro _;try omega)))
 refine Run.gen fun e0 he0 hd0 hp0 hr0=>?_
 have f6:e0.get 6= .list .nil 0 []:=by rw[he0];exact gS
 have f7:e0.get 7= .list .nil 0 []:=by rw[he0];exact gS
 have f10:e0.get 10= .list kz 1 (ints S):=by rw[he0];exact gS
 have f45:e0.get 45= .list k s (xs.map fun a=>[a]):=by rw[he0];exact gS
 have f46:e0.get 46= .v (.int .i64 (rows.length:Nat)):=by rw[he0];exact gS
 have f47:e0.get 47= .v (.int .i64 (0:Nat)):=by rw[he0];exact gR
 have fd:e0.defers=[]:=by rw[hd0];exact gS
 clear he0 hd0 hp0 hr0 c1 c2 c3 c4 c5 l0 l1 bl blt hw d3 lz
 refine aD (fun m e H=>∃(i:Nat) (t:Tok) (sz:Nat),i<=rows.length/\m=rows.length - i/\ah (Gr h H t)/\ah (sz=2∨(bL ((fV rows S).take i)=[]/\t= .nil))/\e.get 6= .list t sz (bL ((fV rows S).take i))/\e.get 7= .list .nil 0 []/\e.get 10= .list kz 1 (ints S)/\e.get 45= .list k s (xs.map fun a=>[a])/\e.get 46= .v (.int .i64 (rows.length:Nat))/\e.get 47= .v (.int .i64 (i:Nat))/\e.defers=[]) ?_ rows.length _ _ ?_
 rotate_left 1
 ·exact⟨0,.nil,0,Nat.zero_le _,rfl,⟨Gr.nil (.push _ _) hok⟩,⟨.inr ⟨rfl,rfl⟩⟩,f6,f7,f10,f45,f46,f47,fd⟩
 clear f6 f7 f10 f45 f46 f47 fd
 rintro m e H ⟨i,t,sz,hi,rfl,kG,ksz,g6,g7,g10,g45,g46,g47,hd⟩
 by_cases hlt:i<rows.length
 ·have hs1:s=1:=kk.out.1 (by intro q;rw[q] at hlt;simp at hlt)
  subst hs1
  obtain⟨a,hav⟩:∃a,xs[i]?=some a:=⟨_,List.getElem?_eq_getElem (by omega)⟩
  obtain⟨r,hv⟩:∃r,rows[i]?=some r:=⟨_,List.getElem?_eq_getElem hlt⟩
  have ld:=ldr (H:=H) (s:=1) hav
  have hra:=kk.out.2.1 i a r hav hv
  have hrw:=kw.out r (List.mem_of_getElem? hv)
  have c6:=DR a (.list kz 1 (ints S)) r S hra ⟨_,_,rfl,fun _=>rfl⟩ (by omega) (by have:=ks.out;omega)
  have hltI:(i:Int)<(rows.length:Int):=by omega
  have ap:=apT (T:=36) (r:=eu (((i:Nat):Int),oa r S)) u36 RS (by decide) (by unfold bL;rw[List.length_map,List.length_take];omega) ksz.out kG.out.2.2
  have kG2:=ah.mk kG.out.app
  have e9:bL ((fV rows S).take i)++[eu (((i:Nat):Int),oa r S)]=bL ((fV rows S).take (i+1)):=by
   rw[a9 (yb hv)];unfold bL;simp
  rw[e9] at ap
  clear hav hv hra hrw e9
  generalize oa r S=dv at *
  unfold im eu at *
  repeat' (first|simp(maxSteps:=999999) (disch:=first|exact dZ|fail) only[gW,reduceIte,Nat.reduceEqDiff,beq_self_eq_true,zJ,al,Te,RT, *] | (refine dX ?_ ?_<;>(intro _;try omega)))
  exact⟨rows.length - (i+1),by omega,i+1,_,2,by omega,rfl,kG2,⟨.inl rfl⟩,by simp⟩
 have hie:i=rows.length:=by omega
 subst hie
 rw[List.take_of_length_le (by rw[pF];exact Nat.le_refl _)] at g6 ksz
 have kX:=ah.mk kG.out.1
 have ko:=ah.mk kG.out.2.1
 clear kG
 repeat' (first|simp(maxSteps:=999999) (disch:=first|exact dZ|fail) only[gW,reduceIte,Nat.reduceEqDiff,beq_self_eq_true,zJ, *] | (refine dX ?_ ?_<;>(intro _;try omega)))
 refine Run.gen fun e0 he0 hd0 hp0 hr0=>?_
 have f6:e0.get 6= .list t sz (bL (fV rows S)):=by rw[he0];simp only[gW,reduceIte,Nat.reduceEqDiff,beq_self_eq_true];exact g6
 have f7:e0.get 7= .list .nil 0 []:=by rw[he0];simp only[gW,reduceIte,Nat.reduceEqDiff,beq_self_eq_true];exact g7
 have f61:e0.get 61= .list kz 1 (ints S):=by rw[he0];exact gS
 have f62:e0.get 62= .v (.int .i64 (S.length:Nat)):=by rw[he0];exact gS
 have f63:e0.get 63= .v (.int .i64 (0:Nat)):=by rw[he0];exact gR
 have fd:e0.defers=[]:=by rw[hd0];simp only[gW,reduceIte,Nat.reduceEqDiff,beq_self_eq_true];exact hd
 clear he0 hd0 hp0 hr0 g6 g7 g10 g45 g46 g47 hd
 have hSl:S.length<=1001:=by rw[<-hS];simp;omega
 have e4:lG 4=0:=by unfold lG;rw[if_pos oU]
 clear hS
 have hcl:(ax S).length=S.length:=by unfold ax;simp
 refine aD (fun m e H2=>∃(j:Nat) (t2:Tok) (sz2:Nat),j<=S.length/\m=S.length - j/\ah (Gr h H2 t2)/\ah (sz2=1∨((ax S).take j=[]/\t2= .nil))/\e.get 6= .list t sz (bL (fV rows S))/\e.get 7= .list t2 sz2 (ints ((ax S).take j))/\e.get 61= .list kz 1 (ints S)/\e.get 62= .v (.int .i64 (S.length:Nat))/\e.get 63= .v (.int .i64 (j:Nat))/\e.defers=[]) ?_ S.length _ _ ?_
 rotate_left 1
 ·exact⟨0,.nil,0,Nat.zero_le _,rfl,⟨Gr.nil kX.out ko.out⟩,⟨.inr ⟨rfl,rfl⟩⟩,f6,f7,f61,f62,f63,fd⟩
 clear f6 f7 f61 f62 f63 fd
 rintro m e H2 ⟨j,t2,sz2,hj,rfl,kG,ksz2,g6,g7,g61,g62,g63,hd⟩
 by_cases hlt2:j<S.length
 ·have ld:=ldi (H:=H2) (l:=S) (i:=j) (s:=1) hlt2
  have c2:=BG 4 (at0 S j)
  rw[e4,iS oU] at c2
  have hG:(4:Int).toNat=Gn:=rfl
  rw[hG] at c2
  have hltI:(j:Int)<(S.length:Int):=by omega
  have hv:(ax S)[j]?=some ((aY Gn (at0 S j):Nat):Int):=by
   unfold ax
   rw[List.getElem?_map,List.getElem?_eq_getElem hlt2,bN hlt2];rfl
  have ap:=wI (x:=((aY Gn (at0 S j):Nat):Int)) (es:=(ax S).take j) (by rw[List.length_take];omega) ksz2.out kG.out.2.2
  have kG2:=ah.mk kG.out.app
  rw[<-a9 hv] at ap
  have bl:=pQ ((aY Gn (at0 S j):Nat):Int)
  clear hv hG
  generalize ((aY Gn (at0 S j):Nat):Int)=pv at *
  generalize at0 S j=sj at *
  unfold im at *
  repeat' (first|simp(maxSteps:=999999) (disch:=first|exact dZ|fail) only[gW,reduceIte,Nat.reduceEqDiff,beq_self_eq_true,zJ,al, *] | (refine dX ?_ ?_<;>(intro _;try omega)))
  exact⟨S.length - (j+1),by omega,j+1,_,1,by omega,rfl,kG2,⟨.inl rfl⟩,by simp⟩
 ·have hje:j=S.length:=by omega
  subst hje
  rw[List.take_of_length_le (by omega)] at g7 ksz2
  repeat' (first|simp(maxSteps:=999999) (disch:=first|exact dZ|fail) only[gW,reduceIte,Nat.reduceEqDiff,beq_self_eq_true,zJ, *] | (refine dX ?_ ?_<;>(intro _;try omega)))
  refine⟨_,_,rfl,.inr ⟨kr.out,_,_,_,_,rfl,fun q=>?_,?_⟩⟩
  ·rcases ksz.out with z|⟨z,-⟩
   ·exact z
   ·exact absurd (List.map_eq_nil_iff.1 z) q
  ·rcases ksz2.out with z|⟨z,-⟩
   ·exact z
   ·exfalso
    have h1:=ks.out
    have h2:(ax S).length=0:=by rw[z];rfl
    omega
end Go.Proofs.YtnfciiiohoafaaaGreatDoor
end
