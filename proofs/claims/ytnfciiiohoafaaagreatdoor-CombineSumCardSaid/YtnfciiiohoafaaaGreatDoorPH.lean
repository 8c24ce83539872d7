/-
  The engine, part 52: a user's rule for a region whose last store may change places with another one.
-/
import Derived.Test.YtnfciiiohoafaaaGreatDoorPG
import Derived.Test.YtnfciiiohoafaaaGreatDoorPE
import Derived.Test.YtnfciiiohoafaaaGreatDoorPC
open Nat renaming mul_le_mul→acP,eq_of_beq_eq_true→abR,le_of_ble_eq_true→abX,le_refl→abq,zero_le→abG,reduceEqDiff→abn,add_mul→ab4,lt_or_ge→abL,le_trans→abT,beq_refl→afK
open Bool renaming and_eq_true→abr,not_eq_true→agB,not_eq_false'→afB,true_and→ac2
open List renaming range→aby,getElem?_eq_some_iff→abm,getElem?_map→abF,getD_eq_getElem?_getD→abw,length_map→abu,getElem?_eq_getElem→abo,mem_of_getElem?→abz,length_take→abI,take_of_length_le→abD,map_eq_nil_iff→adG,length_filter_le→adN,length_append→abx,length_cons→ab0,find?_append→agr,cons_append→ab3,take_length→abU,mem_of_mem_take→acq,foldl_append→acs,map_cons→abK,length_nil→ab7,map_nil→ac6,mem_cons→acd,not_mem_nil→adj,take_succ_cons→abO,take_zero→abY,getElem?_append_left→ab5,getElem?_concat_length→adg,drop_of_length_le→acm,mem_filter→ac7,map_append→acv,all_eq_true→abE,range_succ→acx,filter_append→ady,append_assoc→acI
open Option renaming map_some→abJ
open And renaming intro→abp
open Int renaming toNat_natCast→abB
open Decidable renaming not_not→ae2
open Array renaming getElem?_eq_none→acQ
open Prod renaming fst→afS
set_option maxHeartbeats 64000000
set_option maxRecDepth 100000
set_option linter.unusedSimpArgs false
set_option linter.unusedVariables false
set_option linter.constructorNameAsVariable false
section
namespace Go.Proofs.YtnfciiiohoafaaaGreatDoor
open Go.AE Go.NT
theorem zJ:Tryz.f44.results.toList=[.tmp 6,.tmp 7,.tmp 8]:=kZq
theorem apT{T E:TypeId}{n:Nat}(hu:Tryz.prog.underlying T=some (.slice E))(hi:∃i,Tryz.prog.info? E=some i/\i.size=n/\i.bytes<=64/\(i.zero.map fun z=>z.cells.size)=some n)(hn:0<n){H:ae}{k:Tok}{n0 sz:Nat}{es:List (List AV)}{r:List AV}
 (hl:es.length<1000000) (hs:sz=n∨(es=[]/\k=.nil)) (hk:bG n0 H k):bP Tryz.prog H #[T,T] (.list k sz es) (.list .tight n [r])=some (.list (.free H.tn) n (es++[r]),H.app k):=by
 obtain⟨i,h1,q2,q3,h4⟩:=hi
 have hb:=acP (show es.length+1<=1000000 by omega) q3
 have:=lI (P:=Tryz.prog) (h:=H) (n0:=n0) (k:=k) (sz:=sz) (es:=es) (new:=[r]) (x:=.list .tight n [r]) (t1:=T) hu (.inl ⟨E,hu⟩) h1 (by omega) (by rw[q2];exact h4) (by rw[q2];unfold eH rowsOf;simp) (by simp) (by simp;omega) (by simp;omega) (by rw[q2];exact hs) hk
 rwa [q2] at this
theorem RS:∃i,Tryz.prog.info? 81=some i/\i.size=2/\i.bytes<=64/\(i.zero.map fun z=>z.cells.size)=some 2:=by
 have h:(match Tryz.prog.info? 81 with|some i=>Nat.beq i.size 2&&Nat.ble i.bytes 64&&decide ((i.zero.map fun z=>z.cells.size)=some 2)|none=>false)=true:=kZq
 cases hi:Tryz.prog.info? 81 with
 |none=>rw[hi] at h;cases h
 |some i=>
  rw[hi] at h
  simp only[abr,decide_eq_true_eq] at h
  exact⟨i,rfl,abR h.1.1,abX h.1.2,h.2⟩
def eu(p:Int × Int):List AV:=[.v (.int .i64 p.1),.v (.int .i64 p.2)]
def bL(l:List (Int × Int)):List (List AV):=l.map eu
def SL(x:AV)(l:List (Int × Int)):Prop:=∃k s,x=.list k s (bL l)/\(l≠[]->s=2)
def fV(rows:List (List Int))(s:List Int):List (Int × Int):=(aby rows.length).map fun i=>(((i:Nat):Int),oa (rows.getD i []) s)
theorem pF(rows:List (List Int))(s:List Int):(fV rows s).length=rows.length:=by unfold fV;simp
theorem yb{rows:List (List Int)}{s r:List Int}{i:Nat}(h:rows[i]?=some r):(fV rows s)[i]?=some (((i:Nat):Int),oa r s):=by
 unfold fV
 have hi:=(abm.1 h).1
 rw[abF,List.getElem?_range hi,abJ,abw,h];rfl
def mb(rows:List (List Int))(owners:List Int)(bp:Int)(random:List Int):Int:=
 if bC rows owners≠0 then bC rows owners else if inQ bp&&random.all inQ&&decide ((random.length:Int)=(aK rows:Nat) - 1) then 0 else 1
def Gr(h H:ae)(t:Tok):Prop:=Ext h H/\aZ H=true/\bG h.tn H t
theorem Gr.app{h H:ae}{t:Tok}(g:Gr h H t):Gr h (H.app t) (.free H.tn):=by
 have gr:=Grown.one g.2.2 g.2.1 g.1.tn
 exact⟨gr.ext g.1 (abq _),gr.ok,gr.can⟩
theorem Gr.push{h H:ae}{t:Tok}(g:Gr h H t)(cs:List AV):Gr h (H.push cs) t:=⟨g.1.trans (.push _ _),g.2.1,by rw[ij];exact g.2.2⟩
theorem Gr.nil{h H:ae}(x:Ext h H)(o:aZ H=true):Gr h H .nil:=⟨x,o,.inl rfl⟩
theorem MX(x y:AV)(hx:x.bu=true)(hy:y.bu=true):aN Tryz.prog 22 2 [(0,x),(1,y)]=some (.list .tight 1 [[x],[y]]):=by
 cases x<;>first|(cases hx;done)|(cases y<;>first|(cases hy;done)|kernel_rfl)
theorem IL.bu{x:AV}{l:List Int}(h:IL x l):x.bu=true:=by obtain⟨k,s,rfl,-⟩:=h;rfl
theorem RT(a b:Int):aN Tryz.prog 36 1 [(0,.agg [.v (.int .i64 a),.v (.int .i64 b)])]=some (.list .tight 2 [[.v (.int .i64 a),.v (.int .i64 b)]]):=kZq
theorem Te(a b:Int):fj Tryz.prog 81 [(0,.v (.int .i64 a)),(1,.v (.int .i64 b))]=some (.agg [.v (.int .i64 a),.v (.int .i64 b)]):=kZq
theorem PG(h:ae)(hok:aZ h=true)(x y z:AV)(rows:List (List Int))(owners random:List Int)(bp:Int)(hx:RL x rows)(hy:IL y owners)(hz:IL z random)(hl:random.length<=1000)(hrr:rows.length<=1000000):
 ∃r h',W5.call 44 [.agg [x,y],im bp,z] h=some (r,h')/\
  ((mb rows owners bp random≠0/\r=.ret (.tuple [.list .nil 0 [],.list .nil 0 [],im (mb rows owners bp random)]))∨
  (mb rows owners bp random=0/\∃t1 s1 t2 s2,r=.ret (.tuple [.list t1 s1 (bL (fV rows (bp::random))),.list t2 s2 (ints (ax (bp::random))),im 0])/\(fV rows (bp::random)≠[]->s1=2)/\s2=1)):=by
 have bx:=ff hx hy
 have c1:=KI x y rows owners hx hy
 have c2:=rQ (.list .tight 1 [[.v (.int .i64 bp)]]) [bp] (zG bp) (by simp)
 rw[show[bp].all inQ=inQ bp by simp] at c2
 have c3:=rQ z random hz (by omega)
 have c4:=zI x y rows owners hx hy
 obtain⟨z2,hz2,c5⟩:=MW (.list .tight 1 [[.v (.int .i64 bp)]]) z [bp] random (zG bp) hz (by simp;omega)
 have b0:=ak h [x,y]
 have l0:=ma b0
 have l1:=tY b0
 have lz:=hz.cH
 have bl:=pQ bp
 have blt:=MX (.list .tight 1 [[.v (.int .i64 bp)]]) z rfl hz.bu
 have lx:=hx.cH
 have hp1:ah (bC rows owners≠0->mb rows owners bp random=bC rows owners):=⟨fun q=>by unfold mb;rw[if_pos q]⟩
 have hp2:ah (bC rows owners=0->mb rows owners bp random=if inQ bp&&random.all inQ&&decide ((random.length:Int)=(aK rows:Nat) - 1) then 0 else 1):=⟨fun q=>by unfold mb;rw[if_neg (by simp[q])]⟩
 have kok:=ah.mk (fun q=>@fk rows owners q)
 have kcp:=ah.mk (fun q=>@fI rows owners q)
 have kx:=ah.mk (abp hx hz2)
 have hc0:(aK rows:Int)<=1000000∨bC rows owners≠0:=by
  by_cases q:bC rows owners=0
  ·have:=(fI q).2;exact .inl (by omega)
  ·exact .inr q
 clear hx hy hz b0 hz2
 generalize mb rows owners bp random=res at *
 unfold im at *
 refine aL rfl Tryz.func44 rfl ?_
 by_cases h0:bC rows owners=0
 rotate_left 1
 ·have e1:=hp1.out h0
  have kr:=ah.mk (abp h0 e1)
  clear e1 hc0 c2 c3 c4 c5
  generalize bC rows owners=q at *
  refine gx2 @zJ @aw ?_
  exact⟨_,_,rfl,.inl ⟨by rw[kr.out.2];exact kr.out.1,by rw[kr.out.2]⟩⟩
 rw[h0] at c1
 have hres:=hp2.out h0
 have hcp:=kcp.out h0
 have hw:IntKind.i64.wrap ((aK rows:Nat) - 1:Int)=(aK rows:Nat) - 1:=bT (by omega) (by omega)
 clear hp1 hp2 kcp hc0
 have bad:∀(q:(inQ bp&&random.all inQ&&decide ((random.length:Int)=(aK rows:Nat) - 1))=false),res=1:=fun q=>by rw[hres,if_neg (by simp[q])]
 have good:∀(q:(inQ bp&&random.all inQ&&decide ((random.length:Int)=(aK rows:Nat) - 1))=true),res=0:=fun q=>by rw[hres,if_pos q]
 have kb:=ah.mk bad
 have kg:=ah.mk good
 clear bad good hres
 cases h1:inQ bp with
 |false=>
  rw[h1] at c2
  have kr:ah (res=1):=⟨kb.out (by rw[h1];rfl)⟩
  clear h1 h0 c3 c4 c5
  refine gx2 @zJ @aw ?_
  exact⟨_,_,rfl,.inl ⟨by rw[kr.out];decide,by rw[kr.out]⟩⟩
 |true=>
 rw[h1] at c2
 cases h2:random.all inQ with
 |false=>
  rw[h2] at c3
  have kr:ah (res=1):=⟨kb.out (by rw[h1,h2];rfl)⟩
  clear h1 h2 h0 c4 c5
  refine gx2 @zJ @aw ?_
  exact⟨_,_,rfl,.inl ⟨by rw[kr.out];decide,by rw[kr.out]⟩⟩
 |true=>
 rw[h2] at c3
 by_cases h3:(random.length:Int)=(aK rows:Nat) - 1
 rotate_left 1
 ·have d3:decide ((random.length:Int)=((aK rows:Nat):Int) - 1)=false:=decide_eq_false h3
  have kr:ah (res=1):=⟨kb.out (by rw[h1,h2,d3];rfl)⟩
  clear h1 h2 h3 h0 c5
  refine gx2 @zJ @aw ?_
  exact⟨_,_,rfl,.inl ⟨by rw[kr.out];decide,by rw[kr.out]⟩⟩
 have d3:decide ((random.length:Int)=((aK rows:Nat):Int) - 1)=true:=decide_eq_true h3
 have kr:ah (res=0):=⟨kg.out (by rw[h1,h2,d3];rfl)⟩
 have hsl:(bp::random).length=aK rows:=by simp;omega
 obtain⟨w1,w2,w3,w4⟩:=kok.out h0
 have kw:=ah.mk w3
 have ks:=ah.mk hsl
 rw[List.singleton_append] at kx
 obtain⟨k,s,xs,rfl,hs,hxl,hxr⟩:=kx.out.1
 obtain⟨kz,sz,rfl,hsz⟩:=kx.out.2
 have kk:=ah.mk (abp hs (abp hxr hsz))
 have hsz1:sz=1:=hsz (by simp)
 subst hsz1
 have u23:=Tryz.underlying23
 have u22:=Tryz.underlying22
 have u36:=Tryz.underlying36
 have z23:=jC
 have z3:=sz3
 have hil:(xs.map fun a=>[a]).length=rows.length:=by rw[abu];exact hxl
 have hil2:=aU (bp::random)
 clear hs hxr hsz w1 w3 w4 h1 h2 h3 h0 hsl kok kb kg
 generalize hS:bp::random=S at *
 refine gx3 @zJ @aw @bH ?_
 refine Run.gen fun e0 he0 hd0 hp0 hr0=>?_
 have f6:e0.get 6=.list .nil 0 []:=by rw[he0];exact gS
 have f7:e0.get 7=.list .nil 0 []:=by rw[he0];exact gS
 have f10:e0.get 10=.list kz 1 (ints S):=by rw[he0];exact gS
 have f45:e0.get 45=.list k s (xs.map fun a=>[a]):=by rw[he0];exact gS
 have f46:e0.get 46=.v (.int .i64 (rows.length:Nat)):=by rw[he0];exact gS
 have f47:e0.get 47=.v (.int .i64 (0:Nat)):=by rw[he0];exact gR
 have fd:e0.defers=[]:=by rw[hd0];exact gS
 clear he0 hd0 hp0 hr0 c1 c2 c3 c4 c5 l0 l1 bl blt hw d3 lz
 refine aD (fun m e H=>∃(i:Nat) (t:Tok) (sz:Nat),i<=rows.length/\m=rows.length - i/\ah (Gr h H t)/\ah (sz=2∨(bL ((fV rows S).take i)=[]/\t=.nil))/\e.get 6=.list t sz (bL ((fV rows S).take i))/\e.get 7=.list .nil 0 []/\e.get 10=.list kz 1 (ints S)/\e.get 45=.list k s (xs.map fun a=>[a])/\e.get 46=.v (.int .i64 (rows.length:Nat))/\e.get 47=.v (.int .i64 (i:Nat))/\e.defers=[]) ?_ rows.length _ _ ?_
 rotate_left 1
 ·exact⟨0,.nil,0,abG _,rfl,⟨Gr.nil (.push _ _) hok⟩,⟨.inr ⟨rfl,rfl⟩⟩,f6,f7,f10,f45,f46,f47,fd⟩
 clear f6 f7 f10 f45 f46 f47 fd
 rintro m e H ⟨i,t,sz,hi,rfl,kG,ksz,g6,g7,g10,g45,g46,g47,hd⟩
 by_cases hlt:i<rows.length
 ·have hs1:s=1:=kk.out.1 (by intro q;rw[q] at hlt;simp at hlt)
  subst hs1
  obtain⟨a,hav⟩:∃a,xs[i]?=some a:=⟨_,abo (by omega)⟩
  obtain⟨r,hv⟩:∃r,rows[i]?=some r:=⟨_,abo hlt⟩
  have ld:=ldr (H:=H) (s:=1) hav
  have hra:=kk.out.2.1 i a r hav hv
  have hrw:=kw.out r (abz hv)
  have c6:=DR a (.list kz 1 (ints S)) r S hra ⟨_,_,rfl,fun _=>rfl⟩ (by omega) (by have:=ks.out;omega)
  have hltI:(i:Int)<(rows.length:Int):=by omega
  have ap:=apT (T:=36) (r:=eu (((i:Nat):Int),oa r S)) u36 RS (by decide) (by unfold bL;rw[abu,abI];omega) ksz.out kG.out.2.2
  have kG2:=ah.mk kG.out.app
  have e9:bL ((fV rows S).take i)++[eu (((i:Nat):Int),oa r S)]=bL ((fV rows S).take (i+1)):=by
   rw[a9 (yb hv)];unfold bL;simp
  rw[e9] at ap
  clear hav hv hra hrw e9
  generalize oa r S=dv at *
  unfold im eu at *
  refine gx4 @zJ @al @Te @RT ?_
  exact⟨rows.length - (i+1),by omega,i+1,_,2,by omega,rfl,kG2,⟨.inl rfl⟩,by simp⟩
 have hie:i=rows.length:=by omega
 subst hie
 rw[abD (by rw[pF];exact abq _)] at g6 ksz
 have kX:=ah.mk kG.out.1
 have ko:=ah.mk kG.out.2.1
 clear kG
 repeat' (first|simp(maxSteps:=999999)(disch:=first|exact dZ|fail)only[gW,reduceIte,abn,gBQ,zJ, *]|refine dX ?_ ?_<;>(intro _;try omega))
 refine Run.gen fun e0 he0 hd0 hp0 hr0=>?_
 have f6:e0.get 6=.list t sz (bL (fV rows S)):=by rw[he0];simp only[gW,reduceIte,abn,gBQ];exact g6
 have f7:e0.get 7=.list .nil 0 []:=by rw[he0];simp only[gW,reduceIte,abn,gBQ];exact g7
 have f61:e0.get 61=.list kz 1 (ints S):=by rw[he0];exact gS
 have f62:e0.get 62=.v (.int .i64 (S.length:Nat)):=by rw[he0];exact gS
 have f63:e0.get 63=.v (.int .i64 (0:Nat)):=by rw[he0];exact gR
 have fd:e0.defers=[]:=by rw[hd0];simp only[gW,reduceIte,abn,gBQ];exact hd
 clear he0 hd0 hp0 hr0 g6 g7 g10 g45 g46 g47 hd
 have hSl:S.length<=1001:=by rw[<-hS];simp;omega
 have e4:lG 4=0:=by unfold lG;rw[if_pos oU]
 clear hS
 have hcl:(ax S).length=S.length:=by unfold ax;simp
 refine aD (fun m e H2=>∃(j:Nat) (t2:Tok) (sz2:Nat),j<=S.length/\m=S.length - j/\ah (Gr h H2 t2)/\ah (sz2=1∨((ax S).take j=[]/\t2=.nil))/\e.get 6=.list t sz (bL (fV rows S))/\e.get 7=.list t2 sz2 (ints ((ax S).take j))/\e.get 61=.list kz 1 (ints S)/\e.get 62=.v (.int .i64 (S.length:Nat))/\e.get 63=.v (.int .i64 (j:Nat))/\e.defers=[]) ?_ S.length _ _ ?_
 rotate_left 1
 ·exact⟨0,.nil,0,abG _,rfl,⟨Gr.nil kX.out ko.out⟩,⟨.inr ⟨rfl,rfl⟩⟩,f6,f7,f61,f62,f63,fd⟩
 clear f6 f7 f61 f62 f63 fd
 rintro m e H2 ⟨j,t2,sz2,hj,rfl,kG,ksz2,g6,g7,g61,g62,g63,hd⟩
 by_cases hlt2:j<S.length
 ·have ld:=ldi (H:=H2) (l:=S) (i:=j) (s:=1) hlt2
  have c2:=BG 4 (at0 S j)
  rw[e4,iS oU] at c2
  have hG:(4:Int).toNat=Gn:=rfl
  rw[hG] at c2
  have hltI:(j:Int)<(S.length:Int):=by omega
  have hv:(ax S)[j]?=some ((aY Gn (at0 S j):Nat):Int):=by
   unfold ax
   rw[abF,abo hlt2,bN hlt2];rfl
  have ap:=wI (x:=((aY Gn (at0 S j):Nat):Int)) (es:=(ax S).take j) (by rw[abI];omega) ksz2.out kG.out.2.2
  have kG2:=ah.mk kG.out.app
  rw[<-a9 hv] at ap
  have bl:=pQ ((aY Gn (at0 S j):Nat):Int)
  clear hv hG
  generalize ((aY Gn (at0 S j):Nat):Int)=pv at *
  generalize at0 S j=sj at *
  unfold im at *
  refine gx2 @zJ @al ?_
  exact⟨S.length - (j+1),by omega,j+1,_,1,by omega,rfl,kG2,⟨.inl rfl⟩,by simp⟩
 ·have hje:j=S.length:=by omega
  subst hje
  rw[abD (by omega)] at g7 ksz2
  repeat' (first|simp(maxSteps:=999999)(disch:=first|exact dZ|fail)only[gW,reduceIte,abn,gBQ,zJ, *]|refine dX ?_ ?_<;>(intro _;try omega))
  refine⟨_,_,rfl,.inr ⟨kr.out,_,_,_,_,rfl,fun q=>?_,?_⟩⟩
  ·rcases ksz.out with z|⟨z,-⟩
   ·exact z
   ·exact absurd (adG.1 z) q
  ·rcases ksz2.out with z|⟨z,-⟩
   ·exact z
   ·exfalso
    have h1:=ks.out
    have h2:(ax S).length=0:=by rw[z];rfl
    omega
theorem MY:Tryz.f75.results.toList=[.tmp 2]:=kZq
def aq(p:Pr):List AV:=[.v (.int .i64 p.ag),.v (.int .i64 p.no),.v (.int .i64 p.d),.v (.int .i64 p.e)]
theorem zK:(ej Tryz.prog 85).bind AV.aC=some (aq ⟨0,0,0,0⟩):=kZq
theorem BN:bF Tryz.prog 85=some 4:=kZq
theorem RU:cZ Tryz.prog 85=some true:=kZq
theorem Tg(a b c d:Int):fj Tryz.prog 85 [(0,.v (.int .i64 a)),(1,.v (.int .i64 b)),(2,.v (.int .i64 c)),(3,.v (.int .i64 d))]=some (.agg (aq ⟨a,b,c,d⟩)):=kZq
theorem oV{H:ae}(p:Pr):aA Tryz.prog (H.push (aq ⟨0,0,0,0⟩)) 85 (.ptr (.box H.boxes.length) 0) (.agg (aq p))=some (H.push (aq p)):=cQ rfl BN rfl rfl
theorem oW{H:ae}{b:Nat}{p:Pr}(hb:H.boxes[b]?=some (aq p)):ai Tryz.prog Gt H 85 (.ptr (.box b) 0)=some (.agg (aq p)):=by
 rw[cP RU BN hb (abq 4)];rfl
def jN(rows:List (List Int))(owners:List Int):Bool:=decide (rows.length<=16)&&decide (bC rows owners=0)&&decide (aK rows<=16)
theorem M3(h:ae)(x y:AV)(rows:List (List Int))(owners:List Int)(hx:RL x rows)(hy:IL y owners):
 ∃r h',W5.call 75 [.agg [x,y]] h=some (r,h')/\r=.ret (.v (.bool (jN rows owners))):=by
 have bx:=ff hx hy
 have c1:=fun(q:rows.length<=16)=>MU x y rows owners hx hy (by omega)
 have c2:=tM x y rows owners hx hy
 have b0:=ak h [x,y]
 have l0:=ma b0
 have l1:=tY b0
 have ln:=hx.cH
 have kv:ah (jN rows owners=(decide (rows.length<=16)&&decide (bC rows owners=0)&&decide (aK rows<=16))):=⟨rfl⟩
 clear hx hy b0
 generalize jN rows owners=res at *
 unfold im at *
 refine aL rfl Tryz.func75 rfl ?_
 by_cases h1:rows.length<=16
 rotate_left 1
 ·have d1:decide ((rows.length:Int)<=16)=false:=decide_eq_false (by omega)
  have kr:ah (res=false):=⟨by rw[kv.out,decide_eq_false h1];rfl⟩
  clear h1 c1
  refine gx3 @MY @aw @bH ?_
  exact⟨_,_,rfl,by rw[kr.out]⟩
 have d1:decide ((rows.length:Int)<=16)=true:=decide_eq_true (by omega)
 have c1:=c1 h1
 by_cases h2:bC rows owners=0
 rotate_left 1
 ·have d2:decide (bC rows owners=0)=false:=decide_eq_false h2
  have kr:ah (res=false):=⟨by rw[kv.out,d2];simp⟩
  clear h1
  generalize bC rows owners=q at *
  refine gx3 @MY @aw @bH ?_
  exact⟨_,_,rfl,by rw[kr.out]⟩
 rw[h2] at c1
 by_cases h3:aK rows<=16
 ·have d3:decide (((aK rows:Nat):Int)<=16)=true:=decide_eq_true (by omega)
  have kr:ah (res=true):=⟨by rw[kv.out,decide_eq_true h1,decide_eq_true h2,decide_eq_true h3];rfl⟩
  clear h1 h2 h3
  refine gx3 @MY @aw @bH ?_
  exact⟨_,_,rfl,by rw[kr.out]⟩
 ·have d3:decide (((aK rows:Nat):Int)<=16)=false:=decide_eq_false (by omega)
  have kr:ah (res=false):=⟨by rw[kv.out,decide_eq_false h3];simp⟩
  clear h1 h2 h3
  refine gx3 @MY @aw @bH ?_
  exact⟨_,_,rfl,by rw[kr.out]⟩
def vO(n:Int):List AV:=[.v (.int .u32 n)]
def UL(x:AV)(l:List Int):Prop:=(∃k s,x=.list k s (l.map vO)/\(l≠[]->s=1))/\∀n∈l,0<=n/\n<4294967296
def mc(owners who:List Int)(p:Int × Int):List (Int × Int):=(who.filter fun n=>decide (n=at0 owners p.1.toNat)).map fun _=>p
def ofF(owners who:List Int)(l:List (Int × Int)):List (Int × Int):=l.flatMap (mc owners who)
theorem KL{owners who:List Int}{l:List (Int × Int)}{i:Nat}{p:Int × Int}(h:l[i]?=some p):ofF owners who (l.take (i+1))=ofF owners who (l.take i)++mc owners who p:=by
 unfold ofF
 rw[a9 h,List.flatMap_append];simp
theorem yc(owners who:List Int)(p:Int × Int):(mc owners who p).length<=who.length:=by
 unfold mc
 rw[abu];exact adN _ _
theorem zM(owners who:List Int):∀l:List (Int × Int),(ofF owners who l).length<=l.length * who.length
 | []=>by simp[ofF]
 |p::l=>by
  have h1:=yc owners who p
  have h2:=zM owners who l
  unfold ofF at *
  rw[List.flatMap_cons,abx,ab0,ab4];omega
theorem NR{H:ae}{l:List (Int × Int)}{i s:Nat}{p:Int × Int}(h:l[i]?=some p):ai Tryz.prog Gt H 3 (.elem s (bL l) i 0)=some (.v (.int .i64 p.1)):=by
 rw[ez ag3 (row:=eu p) (by unfold bL;rw[abF,h];rfl)];rfl
theorem RV{H:ae}{l:List (Int × Int)}{i s:Nat}{p:Int × Int}(h:l[i]?=some p):ai Tryz.prog Gt H 3 (.elem s (bL l) i 1)=some (.v (.int .i64 p.2)):=by
 rw[ez ag3 (row:=eu p) (by unfold bL;rw[abF,h];rfl)];rfl
theorem Th:cZ Tryz.prog 81=some true:=kZq
theorem M4:bF Tryz.prog 81=some 2:=kZq
theorem PI{H:ae}{l:List (Int × Int)}{i s:Nat}{p:Int × Int}(h:l[i]?=some p):ai Tryz.prog Gt H 81 (.elem s (bL l) i 0)=some (.agg [.v (.int .i64 p.1),.v (.int .i64 p.2)]):=by
 rw[jm Th M4 (row:=eu p) (by unfold bL;rw[abF,h];rfl) (abq 2)];rfl
theorem wM{sz i:Nat}{es:List (List AV)}:aJ Tryz.prog 81 (.elem sz es i 0) 0=some (.elem sz es i 0):=kZq
theorem RW{sz i:Nat}{es:List (List AV)}:aJ Tryz.prog 81 (.elem sz es i 0) 1=some (.elem sz es i 1):=kZq
theorem nK(l:List (Int × Int)):(bL l).length=l.length:=abu _
theorem BP(l:List (Int × Int))(p:Int × Int):bL l++[eu p]=bL (l++[p]):=by unfold bL;simp
theorem EV:Tryz.f124.results.toList=[.tmp 4]:=kZq
theorem KM:Tryz.f113.results.toList=[.tmp 4]:=kZq
theorem PJ:Tryz.f71.results.toList=[.tmp 4]:=kZq
def eR(l:List Pr):List (List AV):=l.map aq
theorem mX(l:List Pr):(eR l).length=l.length:=abu _
def PL(x:AV)(l:List Pr):Prop:=∃k s,x=.list k s (eR l)/\(l≠[]->s=4)
theorem KN{H:ae}{l:List Pr}{i s:Nat}{p:Pr}(h:l[i]?=some p):ai Tryz.prog Gt H 85 (.elem s (eR l) i 0)=some (.agg (aq p)):=by
 rw[jm RU BN (row:=aq p) (by unfold eR;rw[abF,h];rfl) (abq 4)];rfl
theorem PL.cH{x:AV}{l:List Pr}(h:PL x l):cH Tryz.prog 29 x=some (.v (.int .i64 (l.length:Nat))):=by
 obtain⟨k,s,rfl,-⟩:=h
 have u29:=Tryz.underlying29
 unfold Go.AE.cH
 rw[u29]
 simp only[mX]
theorem KO(g:FuncId)(cap:List AV)(p:Pr->Bool)(h:ae)(x:AV)(l:List Pr)(hx:PL x l)(hl:l.length<=1000000)
 (hp:∀q∈l,∀H,Ext h H->∃H',W5.call g (.agg (aq q)::cap) H=some (.ret (.v (.bool (p q))),H')/\Ext H H'):
 ∃r h',W5.call 124 [x,.func (.func g) [] cap] h=some (r,h')/\Ext h h'/\((l.find? p=none/\r=.ret (im (-1)))∨∃(i:Nat) (q:Pr),r=.ret (im (i:Nat))/\l[i]?=some q/\l.find? p=some q):=by
 obtain⟨k,s,rfl,hs⟩:=hx
 have kp:=ah.mk (abp hp hs)
 clear hp hs
 have u29:=Tryz.underlying29
 have z85:=BN
 have hil:=mX l
 unfold im
 refine aL rfl Tryz.func124 rfl ?_
 refine gx1 @EV ?_
 refine aD (fun m e H=>∃i:Nat,i<=l.length/\m=l.length - i/\ah ((l.take i).find? p=none)/\ah (Ext h H)/\e.get 0=.list k s (eR l)/\e.get 1=.func (.func g) [] cap/\e.get 7=.v (.int .i64 (l.length:Nat))/\e.get 8=.v (.int .i64 (i:Nat))/\e.defers=[]) ?_ l.length _ _ ?_
 rotate_left 1
 ·refine⟨0,abG _,rfl,⟨rfl⟩,⟨.refl _⟩,?_,?_,?_,?_,?_⟩<;>exact gR
 rintro m e H ⟨i,hi,rfl,ka,kX,g0,g1,g7,g8,hd⟩
 by_cases hlt:i<l.length
 ·have hs1:s=4:=kp.out.2 (by intro q;rw[q] at hlt;simp at hlt)
  subst hs1
  obtain⟨q,hq⟩:∃q,l[i]?=some q:=⟨_,abo hlt⟩
  have ld:=KN (H:=H) (s:=4) hq
  obtain⟨H',hc,hX⟩:=kp.out.1 q (abz hq) H kX.out
  have kX2:=ah.mk (kX.out.trans hX)
  have hltI:(i:Int)<(l.length:Int):=by omega
  have kq:=ah.mk hq
  have kt:=ah.mk (a9 hq)
  clear hX hq
  cases hpv:p q with
  |true=>
   rw[hpv] at hc
   have hfd:l.find? p=some q:=by
    have e:l=l.take i++q::l.drop (i+1):=by
     rw[<-List.getElem_of_getElem? kq.out|>.2]
     simp
    rw[e,agr,ka.out,List.find?_cons_of_pos hpv];rfl
   have kf:=ah.mk hfd
   clear hfd hpv
   refine gx3 @EV @al @ab3.{0} ?_
   exact⟨_,_,rfl,kX2.out,.inr ⟨i,q,rfl,kq.out,kf.out⟩⟩
  |false=>
   rw[hpv] at hc
   have kt2:ah ((l.take (i+1)).find? p=none):=⟨by rw[kt.out,agr,ka.out];simp[hpv]⟩
   clear hpv
   refine gx3 @EV @al @ab3.{0} ?_
   exact⟨l.length - (i+1),by omega,i+1,by omega,rfl,kt2,by first|exact kX2|trivial,by simp⟩
 ·have:i=l.length:=by omega
  subst this
  have:=ka.out
  rw[abU] at this
  have kan:=ah.mk this
  clear this
  repeat' (first|simp(maxSteps:=999999)(disch:=first|exact dZ|fail)only[gW,reduceIte,abn,gBQ,EV, *]|refine dX ?_ ?_<;>(intro _;try omega))
  exact⟨_,_,rfl,kX.out,.inl ⟨kan.out,rfl⟩⟩
theorem vP{a b:Nat}(ha:elem a=true)(hb:elem b=true):pO ((a:Nat):Int) ((b:Nat):Int)=((a * b%P:Nat):Int):=by
 rw[rR (gq ha) (gq hb),abB,abB]
theorem BQ{α:Type}{f:α->Nat}:∀{l:List α} (_:∀p∈l,elem (f p)=true) {k:Nat} (_:elem k=true),elem (l.foldl (fun x p=>x * f p%P) k)=true
 | [],_,_,hk=>hk
 |a::l,h,k,hk=>BQ (l:=l) (fun p hp=>h p (List.mem_cons_of_mem _ hp)) (oH hk (h a List.mem_cons_self))
theorem DW(g:FuncId)(first cap:List AV)(f:Pr->Nat)(h:ae)(x:AV)(l:List Pr)(hx:PL x l)(hl:l.length<=1000000)(he:∀q∈l,elem (f q)=true)
 (hp:∀q∈l,∀H,Ext h H->∃H',W5.call g (first++[.agg (aq q)]++cap) H=some (.ret (im (f q:Nat)),H')/\Ext H H'):
 ∃r h',W5.call 113 [x,.func (.func g) first cap] h=some (r,h')/\Ext h h'/\r=.ret (im ((l.foldl (fun x q=>x * f q%P) 1:Nat):Int)):=by
 obtain⟨k,s,rfl,hs⟩:=hx
 have kp:=ah.mk (abp hp (abp hs he))
 clear hp hs he
 have u29:=Tryz.underlying29
 have z85:=BN
 have zc:=zK
 have hil:=mX l
 unfold im
 refine aL rfl Tryz.func113 rfl ?_
 refine gx1 @KM ?_
 refine aD (fun m e H=>∃i:Nat,i<=l.length/\m=l.length - i/\ah (Ext h H)/\e.get 1=.func (.func g) first cap/\e.get 5=.v (.int .i64 (((l.take i).foldl (fun x q=>x * f q%P) 1:Nat):Int))/\e.get 8=.list k s (eR l)/\e.get 9=.v (.int .i64 (l.length:Nat))/\e.get 10=.v (.int .i64 (i:Nat))/\e.defers=[]) ?_ l.length _ _ ?_
 rotate_left 1
 ·refine⟨0,abG _,rfl,⟨.refl _⟩,?_,?_,?_,?_,?_,?_⟩<;>exact gR
 rintro m e H ⟨i,hi,rfl,kX,g1,g5,g8,g9,g10,hd⟩
 by_cases hlt:i<l.length
 ·have hs1:s=4:=kp.out.2.1 (by intro q;rw[q] at hlt;simp at hlt)
  subst hs1
  obtain⟨q,hq⟩:∃q,l[i]?=some q:=⟨_,abo hlt⟩
  have hm:=abz hq
  have ld:=KN (H:=H) (s:=4) hq
  have st:=oV (H:=H) q
  have l2:=oW (ak H (aq q))
  obtain⟨H',hc,hX⟩:=kp.out.1 q hm (H.push (aq q)) (kX.out.trans (.push _ _))
  have kX2:=ah.mk ((kX.out.trans (.push H (aq q))).trans hX)
  have hltI:(i:Int)<(l.length:Int):=by omega
  have eacc:elem ((l.take i).foldl (fun x q=>x * f q%P) 1)=true:=BQ (fun p hp=>kp.out.2.2 p (acq hp)) mI
  have c2:=xV (((l.take i).foldl (fun x q=>x * f q%P) 1:Nat):Int) ((f q:Nat):Int)
  have e2:mP (((l.take i).foldl (fun x q=>x * f q%P) 1:Nat):Int) ((f q:Nat):Int)=0:=by unfold mP;rw[if_pos ⟨gq eacc,gq (kp.out.2.2 q hm)⟩]
  have e3:(l.take i).foldl (fun x q=>x * f q%P) 1 * f q%P=(l.take (i+1)).foldl (fun x q=>x * f q%P) 1:=by rw[a9 hq,acs];rfl
  rw[vP eacc (kp.out.2.2 q hm),e2,e3] at c2
  clear hX hq e2 e3 eacc hm
  generalize (l.take i).foldl (fun x q=>x * f q%P) 1=acc at *
  generalize hA2:(l.take (i+1)).foldl (fun x q=>x * f q%P) 1=BR at *
  have kA:=ah.mk hA2
  clear hA2
  generalize f q=fq at *
  unfold im at *
  refine gx3 @KM @al @ab3.{0} ?_
  exact⟨l.length - (i+1),by omega,i+1,by omega,rfl,by first|exact kX2|trivial,by simp[kA.out]⟩
 ·have:i=l.length:=by omega
  subst this
  rw[abU] at g5
  repeat' (first|simp(maxSteps:=999999)(disch:=first|exact dZ|fail)only[gW,reduceIte,abn,gBQ,KM, *]|refine dX ?_ ?_<;>(intro _;try omega))
  exact⟨_,_,rfl,kX.out,rfl⟩
theorem Ht(g:FuncId)(first cap:List AV)(f:Int->Nat)(h:ae)(x:AV)(l:List Int)(hx:IL x l)(hl:l.length<=1000000)(he:∀q∈l,elem (f q)=true)
 (hp:∀q∈l,∀H,Ext h H->∃H',W5.call g (first++[im q]++cap) H=some (.ret (im (f q:Nat)),H')/\Ext H H'):
 ∃r h',W5.call 71 [x,.func (.func g) first cap] h=some (r,h')/\Ext h h'/\r=.ret (im ((l.foldl (fun x q=>x * f q%P) 1:Nat):Int)):=by
 obtain⟨k,s,rfl,hs⟩:=hx
 have kp:=ah.mk (abp hp (abp hs he))
 clear hp hs he
 have u23:=Tryz.underlying23
 have z3:=sz3
 have hil:=aU l
 unfold im
 refine aL rfl Tryz.func71 rfl ?_
 refine gx1 @PJ ?_
 refine aD (fun m e H=>∃i:Nat,i<=l.length/\m=l.length - i/\ah (Ext h H)/\e.get 1=.func (.func g) first cap/\e.get 5=.v (.int .i64 (((l.take i).foldl (fun x q=>x * f q%P) 1:Nat):Int))/\e.get 8=.list k s (ints l)/\e.get 9=.v (.int .i64 (l.length:Nat))/\e.get 10=.v (.int .i64 (i:Nat))/\e.defers=[]) ?_ l.length _ _ ?_
 rotate_left 1
 ·refine⟨0,abG _,rfl,⟨.refl _⟩,?_,?_,?_,?_,?_,?_⟩<;>exact gR
 rintro m e H ⟨i,hi,rfl,kX,g1,g5,g8,g9,g10,hd⟩
 by_cases hlt:i<l.length
 ·have hs1:s=1:=kp.out.2.1 (by intro q;rw[q] at hlt;simp at hlt)
  subst hs1
  have hq:l[i]?=some (at0 l i):=by rw[abo hlt,bN hlt]
  have hm:=abz hq
  have ld:=ldi (H:=H) (s:=1) hlt
  generalize at0 l i=q at *
  obtain⟨H',hc,hX⟩:=kp.out.1 q hm H kX.out
  unfold im at hc
  have kX2:=ah.mk (kX.out.trans hX)
  have hltI:(i:Int)<(l.length:Int):=by omega
  have eacc:elem ((l.take i).foldl (fun x q=>x * f q%P) 1)=true:=BQ (fun p hp=>kp.out.2.2 p (acq hp)) mI
  have c2:=xV (((l.take i).foldl (fun x q=>x * f q%P) 1:Nat):Int) ((f q:Nat):Int)
  have e2:mP (((l.take i).foldl (fun x q=>x * f q%P) 1:Nat):Int) ((f q:Nat):Int)=0:=by unfold mP;rw[if_pos ⟨gq eacc,gq (kp.out.2.2 q hm)⟩]
  have e3:(l.take i).foldl (fun x q=>x * f q%P) 1 * f q%P=(l.take (i+1)).foldl (fun x q=>x * f q%P) 1:=by rw[a9 hq,acs];rfl
  rw[vP eacc (kp.out.2.2 q hm),e2,e3] at c2
  clear hX hq e2 e3 eacc hm
  generalize (l.take i).foldl (fun x q=>x * f q%P) 1=acc at *
  generalize hA2:(l.take (i+1)).foldl (fun x q=>x * f q%P) 1=BR at *
  have kA:=ah.mk hA2
  clear hA2
  generalize f q=fq at *
  unfold im at *
  refine gx3 @PJ @al @ab3.{0} ?_
  exact⟨l.length - (i+1),by omega,i+1,by omega,rfl,by first|exact kX2|trivial,by simp[kA.out]⟩
 ·have:i=l.length:=by omega
  subst this
  rw[abU] at g5
  repeat' (first|simp(maxSteps:=999999)(disch:=first|exact dZ|fail)only[gW,reduceIte,abn,gBQ,PJ, *]|refine dX ?_ ?_<;>(intro _;try omega))
  exact⟨_,_,rfl,kX.out,rfl⟩
theorem tO:Tryz.f111.results.toList=[.tmp 2]:=kZq
theorem RY:Tryz.f161.results.toList=[.tmp 2]:=kZq
theorem RZ:Tryz.f49.results.toList=[.tmp 4]:=kZq
theorem M5:Tryz.f70.results.toList=[.tmp 4]:=kZq
theorem oX{b:Nat}:aJ Tryz.prog 27 (.ptr (.box b) 0) 0=some (.ptr (.box b) 0):=kZq
theorem dS{b:Nat}:aJ Tryz.prog 27 (.ptr (.box b) 0) 1=some (.ptr (.box b) 1):=kZq
theorem fF{b:Nat}:aJ Tryz.prog 27 (.ptr (.box b) 0) 2=some (.ptr (.box b) 3):=kZq
theorem me{b:Nat}:aJ Tryz.prog 25 (.ptr (.box b) 1) 0=some (.ptr (.box b) 1):=kZq
theorem M6{b:Nat}:aJ Tryz.prog 25 (.ptr (.box b) 1) 1=some (.ptr (.box b) 2):=kZq
theorem qH:(∀b,aJ Tryz.prog 98 (.ptr (.box b) 0) 0=some (.ptr (.box b) 0))/\(∀b,aJ Tryz.prog 98 (.ptr (.box b) 0) 1=some (.ptr (.box b) 4))/\(∀b,aJ Tryz.prog 98 (.ptr (.box b) 0) 2=some (.ptr (.box b) 5))/\(∀b,aJ Tryz.prog 98 (.ptr (.box b) 0) 3=some (.ptr (.box b) 6))/\
 (∀b,aJ Tryz.prog 98 (.ptr (.box b) 0) 4=some (.ptr (.box b) 7))/\(∀b,aJ Tryz.prog 98 (.ptr (.box b) 0) 5=some (.ptr (.box b) 11))/\∀b,aJ Tryz.prog 98 (.ptr (.box b) 0) 6=some (.ptr (.box b) 12):=
 ⟨fun _=>kZq,fun _=>kZq,fun _=>kZq,fun _=>kZq,fun _=>kZq,fun _=>kZq,fun _=>kZq⟩
theorem EW{b:Nat}:aJ Tryz.prog 96 (.ptr (.box b) 7) 3=some (.ptr (.box b) 10):=kZq
theorem jj:(∀b,aJ Tryz.prog 85 (.ptr (.box b) 0) 0=some (.ptr (.box b) 0))/\(∀b,aJ Tryz.prog 85 (.ptr (.box b) 0) 1=some (.ptr (.box b) 1))/\(∀b,aJ Tryz.prog 85 (.ptr (.box b) 0) 2=some (.ptr (.box b) 2))/\∀b,aJ Tryz.prog 85 (.ptr (.box b) 0) 3=some (.ptr (.box b) 3):=
 ⟨fun _=>kZq,fun _=>kZq,fun _=>kZq,fun _=>kZq⟩
theorem aQ{H:ae}{t:TypeId}{b j:Nat}{cs:List AV}{x:AV}(ha:cZ Tryz.prog t=some false)(hb:H.boxes[b]?=some cs)(hj:cs[j]?=some x):ai Tryz.prog Gt H t (.ptr (.box b) j)=some x:=by
 rw[dc ha hb,List.head?_drop,hj]
theorem Tj:cZ Tryz.prog 28=some false:=kZq
theorem KP:cZ Tryz.prog 29=some false:=kZq
theorem wN:cZ Tryz.prog 90=some false:=kZq
def cI(ep:Int)(X Y C:AV):List AV:=[.v (.int .i64 ep),X,Y,C]
def dQ(ep:Int)(X Y C T L Wt All:AV)(pt ch:Int):List AV:=[.v (.int .i64 ep),X,Y,C,T,L,Wt,.v (.int .i64 3),.v (.int .i64 0),sv [],All,.v (.int .i64 pt),.v (.int .i64 ch)]
def pS(rows:List (List Int))(ep:Int)(aa:List Int):Bool:=decide (0<=ep)&&decide (ep<=64)&&decide (aa.length=aK rows)&&aa.all aX
theorem KQ(n:Int)(h:ae):W5.call 161 [im n] h=some (.ret (.v (.bool (!aX n))),h):=by
 have c:=vN n
 unfold im at *
 refine ar rfl Tryz.func161 rfl ?_
 exact gz1 @RY
theorem hY{ep:Int}{X Y C:AV}{rows:List (List Int)}{owners aa:List Int}(hx:RL X rows)(hy:IL Y owners)(hc:IL C aa):(AV.agg (cI ep X Y C)).aC=some (cI ep X Y C):=by
 obtain⟨k,s,xs,rfl,-⟩:=hx.form
 obtain⟨ky,sy,rfl,-⟩:=hy
 obtain⟨kc,sc,rfl,-⟩:=hc
 rfl
theorem KR(h:ae)(ep:Int)(X Y C:AV)(rows:List (List Int))(owners aa:List Int)(hx:RL X rows)(hy:IL Y owners)(hc:IL C aa)(hl:aa.length<=1000000):
 ∃r h',W5.call 111 [.agg (cI ep X Y C)] h=some (r,h')/\h'=h.push (cI ep X Y C)/\r=.ret (.v (.bool (pS rows ep aa))):=by
 have bx:=hY (ep:=ep) hx hy hc
 have b0:=ak h (cI ep X Y C)
 have l0:ai Tryz.prog Gt (h.push (cI ep X Y C)) 3 (.ptr (.box h.boxes.length) 0)=some (.v (.int .i64 ep)):=aQ ag3 b0 rfl
 have l1:ai Tryz.prog Gt (h.push (cI ep X Y C)) 22 (.ptr (.box h.boxes.length) 1)=some X:=aQ Pk b0 rfl
 have l3:ai Tryz.prog Gt (h.push (cI ep X Y C)) 23 (.ptr (.box h.boxes.length) 3)=some C:=aQ mo b0 rfl
 have ln:=hx.cH
 have lc:=hc.cH
 have cc:=pD (pr:=sQ) rfl rfl 161 [] (fun n=> !aX n) (h.push (cI ep X Y C)) C aa hc hl (fun n _=>KQ n _)
 rw[EP] at cc
 have kv:ah (pS rows ep aa=(decide (0<=ep)&&decide (ep<=64)&&decide (aa.length=aK rows)&&aa.all aX)):=⟨rfl⟩
 generalize pS rows ep aa=res at *
 obtain⟨k,s,xs,rfl,hs,hxl,hxr⟩:=hx
 have kk:=ah.mk (abp hs hxr)
 have u23:=Tryz.underlying23
 have u22:=Tryz.underlying22
 have z23:=jC
 have hil:(xs.map fun a=>[a]).length=rows.length:=by rw[abu];exact hxl
 clear hs hxr hc hy b0
 have kcols:ah (rows.length=0->aK rows=1):=⟨fun q=>by unfold aK;rw[if_pos q]⟩
 have kcols2:ah (∀r0,rows[0]?=some r0->aK rows=r0.length):=⟨fun r0 q=>by
  unfold aK
  rw[if_neg (by have:=(abm.1 q).1;omega),abw,q];rfl⟩
 refine aL rfl Tryz.func111 rfl ?_
 have fin:∀n:Nat,aK rows=n->ah (res=(decide (0<=ep)&&decide (ep<=64)&&decide (aa.length=n)&&aa.all aX)):=fun n q=>⟨by rw[kv.out,q]⟩
 have kfin:=ah.mk fin
 clear fin
 rcases Nat.eq_zero_or_pos rows.length with h0|h0
 ·have hq:¬((0:Int)<(rows.length:Int)):=by omega
  have kf:=kfin.out _ (kcols.out h0)
  clear h0
  clear kcols kcols2 kfin kv
  by_cases h1:0<=ep
  rotate_left 1
  ·have d1:decide (0<=ep)=false:=decide_eq_false h1
   have kr:ah (res=false):=⟨by rw[kf.out,d1];rfl⟩
   clear h1 cc
   repeat' (first|simp(maxSteps:=999999)(disch:=first|exact dZ|fail)only[gW,reduceIte,abn,gBQ,tO,aw,oX,dS,fF,me,al, *]|refine dX ?_ ?_<;>(intro _;try omega))
   exact⟨_,_,rfl,rfl,by rw[kr.out]⟩
  have d1:decide (0<=ep)=true:=decide_eq_true h1
  by_cases h2:ep<=64
  rotate_left 1
  ·have d2:decide (ep<=64)=false:=decide_eq_false h2
   have kr:ah (res=false):=⟨by rw[kf.out,d2];simp⟩
   clear h1 h2 cc
   repeat' (first|simp(maxSteps:=999999)(disch:=first|exact dZ|fail)only[gW,reduceIte,abn,gBQ,tO,aw,oX,dS,fF,me,al, *]|refine dX ?_ ?_<;>(intro _;try omega))
   exact⟨_,_,rfl,rfl,by rw[kr.out]⟩
  have d2:decide (ep<=64)=true:=decide_eq_true h2
  by_cases h3:aa.length=1
  rotate_left 1
  ·have d3:decide ((aa.length:Int)=1)=false:=decide_eq_false (by omega)
   have kr:ah (res=false):=⟨by rw[kf.out,decide_eq_false h3];simp⟩
   clear h1 h2 h3 cc
   repeat' (first|simp(maxSteps:=999999)(disch:=first|exact dZ|fail)only[gW,reduceIte,abn,gBQ,tO,aw,oX,dS,fF,me,al, *]|refine dX ?_ ?_<;>(intro _;try omega))
   exact⟨_,_,rfl,rfl,by rw[kr.out]⟩
  have d3:decide ((aa.length:Int)=1)=true:=decide_eq_true (by omega)
  have kr:ah (res=aa.all aX):=⟨by rw[kf.out,d1,d2,decide_eq_true h3];rfl⟩
  have hnn:(!!aa.all aX)=aa.all aX:=by simp
  clear h1 h2 h3
  repeat' (first|simp(maxSteps:=999999)(disch:=first|exact dZ|fail)only[gW,reduceIte,abn,gBQ,tO,aw,oX,dS,fF,me,al, *]|refine dX ?_ ?_<;>(intro _;try omega))
  exact⟨_,_,rfl,rfl,by rw[kr.out]⟩
 ·have hq:((0:Int)<(rows.length:Int)):=by omega
  have hs1:s=1:=kk.out.1 (by intro q;rw[q] at h0;simp at h0)
  subst hs1
  obtain⟨a0,hav0⟩:∃a,xs[0]?=some a:=⟨_,abo (by omega)⟩
  obtain⟨r0,hv0⟩:∃r,rows[0]?=some r:=⟨_,abo (by omega)⟩
  have ld0:=ldr (H:=h.push (cI ep (.list k 1 (xs.map fun a=>[a])) Y C)) (s:=1) hav0
  obtain⟨ka0,sa0,rfl,hsa0⟩:=kk.out.2 0 a0 r0 hav0 hv0
  have kf:=kfin.out _ (kcols2.out r0 hv0)
  have hrl:=aU r0
  have z0:(0:Int).toNat=0:=rfl
  generalize r0.length=N at *
  clear hav0 hv0 hsa0 h0
  clear kcols kcols2 kfin kv
  by_cases h1:0<=ep
  rotate_left 1
  ·have d1:decide (0<=ep)=false:=decide_eq_false h1
   have kr:ah (res=false):=⟨by rw[kf.out,d1];rfl⟩
   clear h1 cc
   repeat' (first|simp(maxSteps:=999999)(disch:=first|exact dZ|fail)only[gW,reduceIte,abn,gBQ,tO,aw,oX,dS,fF,me,al, *]|refine dX ?_ ?_<;>(intro _;try omega))
   exact⟨_,_,rfl,rfl,by rw[kr.out]⟩
  have d1:decide (0<=ep)=true:=decide_eq_true h1
  by_cases h2:ep<=64
  rotate_left 1
  ·have d2:decide (ep<=64)=false:=decide_eq_false h2
   have kr:ah (res=false):=⟨by rw[kf.out,d2];simp⟩
   clear h1 h2 cc
   repeat' (first|simp(maxSteps:=999999)(disch:=first|exact dZ|fail)only[gW,reduceIte,abn,gBQ,tO,aw,oX,dS,fF,me,al, *]|refine dX ?_ ?_<;>(intro _;try omega))
   exact⟨_,_,rfl,rfl,by rw[kr.out]⟩
  have d2:decide (ep<=64)=true:=decide_eq_true h2
  by_cases h3:aa.length=N
  rotate_left 1
  ·have d3:decide ((aa.length:Int)=(N:Int))=false:=decide_eq_false (by omega)
   have kr:ah (res=false):=⟨by rw[kf.out,decide_eq_false h3];simp⟩
   clear h1 h2 h3 cc
   repeat' (first|simp(maxSteps:=999999)(disch:=first|exact dZ|fail)only[gW,reduceIte,abn,gBQ,tO,aw,oX,dS,fF,me,al, *]|refine dX ?_ ?_<;>(intro _;try omega))
   exact⟨_,_,rfl,rfl,by rw[kr.out]⟩
  have d3:decide ((aa.length:Int)=(N:Int))=true:=decide_eq_true (by omega)
  have kr:ah (res=aa.all aX):=⟨by rw[kf.out,d1,d2,decide_eq_true h3];rfl⟩
  have hnn:(!!aa.all aX)=aa.all aX:=by simp
  clear h1 h2 h3
  repeat' (first|simp(maxSteps:=999999)(disch:=first|exact dZ|fail)only[gW,reduceIte,abn,gBQ,tO,aw,oX,dS,fF,me,al, *]|refine dX ?_ ?_<;>(intro _;try omega))
  exact⟨_,_,rfl,rfl,by rw[kr.out]⟩
structure lQ(H:ae)(c:Nat)(ep:Int)(X Y C T L Wt:AV)(pt ch:Int)(aa:List Int)(text:List UInt8)(l:List Pr):Prop where
 dF:∃(b:Nat) (rows:List (List AV)),H.boxes[c]?=some (dQ ep X Y C T L Wt (.arr b 0 rows.length rows.length) pt ch)/\H.boxes[b]?=some rows.flatten/\oP (l.map Pr.val) rows
 com:IL C aa
 pos:0<aa.length
 c0:0<=at0 aa 0/\at0 aa 0<=4611686018427387903
 txt:∃kt st,T=.list kt st (u8s text)/\(text≠[]->st=1)
 tl:text.length<=65536
 ll:l.length<=64
theorem lQ.mono{H H':ae}{c:Nat}{ep:Int}{X Y C T L Wt:AV}{pt ch:Int}{aa:List Int}{text:List UInt8}{l:List Pr}(w:lQ H c ep X Y C T L Wt pt ch aa text l)(x:Ext H H'):lQ H' c ep X Y C T L Wt pt ch aa text l:=by
 obtain⟨b,rows,h1,h2,h3⟩:=w.dF
 exact⟨⟨b,rows,x.box _ _ h1,x.box _ _ h2,h3⟩,w.com,w.pos,w.c0,w.txt,w.tl,w.ll⟩
theorem Hu(l:List Pr):dN (l.map Pr.val)<=1:=by
 induction l with
 |nil=>simp[dN]
 |cons p l ih=>
  rw[abK,dN]
  have:eD p.val=1:=by simp[Pr.val,eD,dN]
  omega
theorem M7(p:Pr):(fB p.val).length<=100:=by
 have h0:=et 9 (0+1+1+1+1)
 have h1:=et 9 (oK p.ag)
 have h2:=et 9 (oK p.no)
 have h3:=et 9 (oK p.d)
 have h4:=et 9 (oK p.e)
 simp only[Pr.val,fB,jB,ab0,abx,ab7] at *
 omega
theorem BS:∀l:List Pr,(jB (l.map Pr.val)).length<=l.length * 100
 | []=>by simp[jB]
 |p::l=>by
  have h1:=M7 p
  have h2:=BS l
  rw[abK,jB,abx,ab0,ab4];omega
theorem KS(c0:Int)(text:List UInt8)(l:List Pr)(k:Int):(fB (.list [.int c0,.text text,sH l,.int k])).length<=100+text.length+l.length * 100:=by
 have h0:=et 9 (0+1+1+1+1)
 have h1:=et 9 (oK c0)
 have h2:=et 9 text.length
 have h3:=et 9 (oK k)
 have h4:=et 9 (l.map Pr.val).length
 have h5:=BS l
 simp only[sH,fB,jB,ab0,abx,ab7] at *
 omega
theorem bp4(t u v w:TypeId)(x y z q:AV):aN Tryz.prog 180 4 [(0,.iface t x),(1,.iface u y),(2,.iface v z),(3,.iface w q)]=some (.list .tight 1 [[.iface t x],[.iface u y],[.iface v z],[.iface w q]]):=kZq
theorem DX(H:ae)(c:Nat)(ep:Int)(X Y C T L Wt:AV)(pt ch:Int)(aa:List Int)(text:List UInt8)(l:List Pr)(w:lQ H c ep X Y C T L Wt pt ch aa text l)(q:Pr)(hk:0<=q.ag/\q.ag<=4611686018427387903):
 ∃r H',W5.call 49 [.ptr (.box c) 0,.agg (aq q)] H=some (r,H')/\H'=H.push (aq q)/\r=.ret (im ((dP (at0 aa 0) text l q.ag:Nat):Int)):=by
 have w2:=w.mono (.push H (aq q))
 obtain⟨b,rows,h1,h2,h3⟩:=w2.dF
 obtain⟨kc,sc,rfl,hsc⟩:=w.com
 obtain⟨kt,st,rfl,hst⟩:=w.txt
 have hpos:=w.pos
 have hsc1:sc=1:=hsc (by intro e;rw[e] at hpos;simp at hpos)
 subst hsc1
 have hll:rows.length<=64:=by have:=h3.1;rw[abu] at this;have:=w.ll;omega
 have bl:=KS (at0 aa 0) text l q.ag
 have hd:=Hu l
 have hh:=xZ (H.push (aq q)) Eo .tight 1 [.iface 3 (.v (.int .i64 (at0 aa 0))),.iface 28 (.list kt st (u8s text)),.iface 96 (.agg (im 3::im 0::sv []::[.arr b 0 rows.length rows.length])),.iface 3 (.v (.int .i64 q.ag))] [.int (at0 aa 0),.text text,sH l,.int q.ag]
  (.cons (.int _ w.c0) (.cons (.text kt st text hst (by have:=w.tl;omega)) (.cons (.list h2 h3 (by omega)) (.cons (.int _ hk) .nil)))) (fun _=>rfl) (by simp) (by decide) (by simp[sH,eD,dN];omega) (by have:=w.tl;have:=w.ll;omega)
 have hbe:mL Eo (.list [.int (at0 aa 0),.text text,sH l,.int q.ag])=dP (at0 aa 0) text l q.ag:=rfl
 rw[hbe] at hh
 rw[show Eo=[98,105,110,100] from rfl] at hh
 generalize dP (at0 aa 0) text l q.ag=bn at *
 have b0:=ak H (aq q)
 have l0:ai Tryz.prog Gt (H.push (aq q)) 3 (.ptr (.box H.boxes.length) 0)=some (.v (.int .i64 q.ag)):=aQ ag3 b0 rfl
 have l1:ai Tryz.prog Gt (H.push (aq q)) 23 (.ptr (.box c) 3)=some (.list kc 1 (ints aa)):=aQ mo h1 rfl
 have l2:ai Tryz.prog Gt (H.push (aq q)) 28 (.ptr (.box c) 4)=some (.list kt st (u8s text)):=aQ Tj h1 rfl
 have l3:ai Tryz.prog Gt (H.push (aq q)) 96 (.ptr (.box c) 7)=some (.agg [im 3,im 0,sv [],.arr b 0 rows.length rows.length]):=by
  rw[cP O5 tX h1 (abX rfl)];rfl
 have l4:=ldi (H:=H.push (aq q)) (l:=aa) (i:=0) (s:=1) hpos
 have bc:(AV.agg (aq q)).aC=some (aq q):=rfl
 have hil:=aU aa
 have u23:=Tryz.underlying23
 have z3:=sz3
 have hposI:(0:Int)<(aa.length:Int):=by omega
 have z0:(0:Int).toNat=0:=rfl
 simp only[abK,ac6] at hh
 clear w w2 h1 h2 h3 hsc hst hbe bl hd b0 hpos
 generalize at0 aa 0=c0 at *
 unfold im at *
 refine aL rfl Tryz.func49 rfl ?_
 refine gx2 @RZ @aw ?_
 refine bf gM kZq ?_
 repeat' (first|simp(maxSteps:=999999)(disch:=first|exact dZ|fail)only[gW,reduceIte,abn,gBQ,RZ,qH,fF,jj,al,if3,PD,Td,bp4, *]|refine dX ?_ ?_<;>(intro _;try omega))
 exact⟨_,_,rfl,rfl,rfl⟩
theorem KT(c0:Int)(text:List UInt8)(l:List Pr)(k:Int):okF ((dP c0 text l k:Nat):Int):=Bl _ _
theorem EX(H:ae)(c:Nat)(ep:Int)(X Y C T L Wt:AV)(pt ch:Int)(aa:List Int)(text:List UInt8)(l:List Pr)(w:lQ H c ep X Y C T L Wt pt ch aa text l)(q:Pr)(hk:0<=q.ag/\q.ag<=4611686018427387903)(hd:aX q.d=true)(he:aX q.e=true):
 ∃r H',W5.call 70 [.ptr (.box c) 0,.agg (aq q)] H=some (r,H')/\Ext H H'/\r=.ret (im ((gX (at0 aa 0) text l q:Nat):Int)):=by
 obtain⟨_,H2,c1,rfl,rfl⟩:=DX (H.push (aq q)) c ep X Y C T L Wt pt ch aa text l (w.mono (.push _ _)) q hk
 have hb:=KT (at0 aa 0) text l q.ag
 have c2:=mV q.e ((dP (at0 aa 0) text l q.ag:Nat):Int)
 have c3:=xV q.d (iL q.e ((dP (at0 aa 0) text l q.ag:Nat):Int))
 have hN:pO q.d (iL q.e ((dP (at0 aa 0) text l q.ag:Nat):Int))=((gX (at0 aa 0) text l q:Nat):Int):=by
  rw[rR hd (hJ he _),iS he]
  unfold gX
  rw[abB]
  unfold dP
  rw[sM]
 rw[hN] at c3
 generalize gX (at0 aa 0) text l q=nn at *
 generalize ((dP (at0 aa 0) text l q.ag:Nat):Int)=bn at *
 generalize iL q.e bn=pw at *
 have b0:=ak H (aq q)
 have b1:((H.push (aq q)).push (aq q)).boxes[H.boxes.length]?=some (aq q):=aj b0
 have l0:ai Tryz.prog Gt (H.push (aq q)) 3 (.ptr (.box H.boxes.length) 2)=some (.v (.int .i64 q.d)):=aQ ag3 b0 rfl
 have l1:ai Tryz.prog Gt (H.push (aq q)) 3 (.ptr (.box H.boxes.length) 3)=some (.v (.int .i64 q.e)):=aQ ag3 b0 rfl
 have l2:=oW b0
 have l0b:ai Tryz.prog Gt ((H.push (aq q)).push (aq q)) 3 (.ptr (.box H.boxes.length) 2)=some (.v (.int .i64 q.d)):=aQ ag3 b1 rfl
 have l1b:ai Tryz.prog Gt ((H.push (aq q)).push (aq q)) 3 (.ptr (.box H.boxes.length) 3)=some (.v (.int .i64 q.e)):=aQ ag3 b1 rfl
 have bc:(AV.agg (aq q)).aC=some (aq q):=rfl
 clear w hb hN b0 b1
 unfold im at *
 refine aL rfl Tryz.func70 rfl ?_
 refine gx2 @M5 @aw ?_
 refine bU [(1,6),(3,6)] gM kZq (fun p hp=>?_) ?_
 ·simp only[acd,adj,or_false] at hp
  rcases hp with rfl|rfl
  ·refine dH (x:=.ptr (.box H.boxes.length) 2) (v:=.v (.int .i64 q.d)) kZq rfl rfl rfl kZq (by simp[cB,gB]) ?_ ?_<;>(simp only[abO,abY];exact gz3 @M5 @jj @and_self)
  ·refine dH (x:=.ptr (.box H.boxes.length) 3) (v:=.v (.int .i64 q.e)) kZq rfl rfl rfl kZq (by simp[cB,gB]) ?_ ?_<;>(simp only[abO,abY];exact gz3 @M5 @jj @and_self)
 refine gx2 @M5 @jj ?_
 exact⟨_,_,rfl,(Ext.push _ _).trans (Ext.push _ _),rfl⟩
end Go.Proofs.YtnfciiiohoafaaaGreatDoor
end
section
set_option linter.constructorNameAsVariable false
namespace Go.Proofs.YtnfciiiohoafaaaGreatDoor
open Go.AE Go.NT
theorem mY:Tryz.f48.results.toList=[.tmp 6,.tmp 7]:=kZq
def LAt(H:ae)(c base:Nat)(cur:AV)(vs:List Vl):Prop:=(vs=[]/\cur=.list .nil 0 [])∨(vs≠[]/\∃(b:Nat) (rows:List (List AV)),cur=.arr b 0 rows.length rows.length/\H.boxes[b]?=some rows.flatten/\oP vs rows/\b≠c/\base<=b)
theorem LAt.cH{H:ae}{c base:Nat}{cur:AV}{vs:List Vl}(q:LAt H c base cur vs):cH Tryz.prog 94 cur=some (.v (.int .i64 (vs.length:Nat))):=by
 have u94:=Tryz.underlying94
 unfold Go.AE.cH
 rw[u94]
 rcases q with⟨rfl,rfl⟩|⟨-,b,rows,rfl,-,h3,-⟩
 ·rfl
 ·simp only[h3.1]
theorem LAt.bu{H:ae}{c base:Nat}{cur:AV}{vs:List Vl}(q:LAt H c base cur vs):cur.bu=true:=by
 rcases q with⟨rfl,rfl⟩|⟨-,b,rows,rfl,-⟩<;>rfl
def rT:List AV:=cE 0 0 [] .nil 0 []
theorem oP.four{vs:List Vl}{rows:List (List AV)}(h:oP vs rows):∀r∈rows,r.length=4:=fun r hr=>by
 obtain⟨i,hi⟩:=List.getElem?_of_mem hr
 have hil:=(abm.1 hi).1
 exact(h.2 i _ r (abo (by rw[<-h.1];exact hil)) hi).len
theorem oP.snoc{vs:List Vl}{rows:List (List AV)}(h:oP vs rows){v:Vl}{r:List AV}(hv:eo v r):oP (vs++[v]) (rows++[r]):=by
 refine⟨by simp[h.1],fun i w x hw hx=>?_⟩
 rcases abL i rows.length with hlt|hge
 ·rw[ab5 hlt] at hx
  rw[ab5 (by rw[<-h.1];exact hlt)] at hw
  exact h.2 i w x hw hx
 ·have:=(abm.1 hx).1
  rw[abx] at this
  have he:i=rows.length:=by simp at this;omega
  subst he
  rw[adg] at hx
  rw[h.1,adg] at hw
  injection hx with hx;injection hw with hw
  subst hx;subst hw
  exact hv
theorem LAt.more{h0 H:ae}{c base:Nat}{cur:AV}{vs:List Vl}(q:LAt H c base cur vs)(hx:Ext h0 H)(hb0:h0.boxes.length<=base)(hc:c<H.boxes.length)(hbl:base<=H.boxes.length)(hl:vs.length<1000000){v:Vl}{r:List AV}(hv:eo v r):
 ∃H2,iX Tryz.prog H #[94,94] cur (.list .tight 4 [rT])=some (.arr H.boxes.length 0 (vs.length+1) (vs.length+1),H2)/\H2.boxes.length=H.boxes.length+1/\H2.tn=H.tn/\H2.dead=H.dead/\Ext h0 H2/\
  ay Tryz.prog 94 (.arr H.boxes.length 0 (vs.length+1) (vs.length+1)) (.v (.int .i64 (vs.length:Nat)))=some (.ptr (.box H.boxes.length) (vs.length * 4))/\
  (∀(a:Nat) (cs:List AV),H.boxes[a]?=some cs->(a<base∨a=c)->H2.boxes[a]?=some cs)/\
  ∃cs,aA Tryz.prog H2 96 (.ptr (.box H.boxes.length) (vs.length * 4)) (.agg r)=some (H2.put H.boxes.length cs)/\
  ∀H3,H3.boxes[H.boxes.length]?=some cs->LAt H3 c base (.arr H.boxes.length 0 (vs.length+1) (vs.length+1)) (vs++[v]):=by
 obtain⟨i,q1,q2,q3,q4⟩:=RO
 have hbb:=acP (show vs.length+1<=1000000 by omega) q3
 have u94:=Tryz.underlying94
 have hr4:=hv.len
 have hix:ay Tryz.prog 94 (.arr H.boxes.length 0 (vs.length+1) (vs.length+1)) (.v (.int .i64 (vs.length:Nat)))=some (.ptr (.box H.boxes.length) (vs.length * 4)):=by
  unfold ay
  simp only[u94,tX]
  rw[if_pos ⟨by omega,by omega⟩]
  simp
 rcases q with⟨rfl,rfl⟩|⟨hne,b,rows,rfl,h1,h2,h3,h4⟩
 ·have:=xe (h:=H) (k:=.nil) (sz:=0) (es:=[]) (new:=[rT]) (x:=.list .tight 4 [rT]) Tryz.underlying94 Tryz.underlying94 q1 (by omega) (by rw[q2];exact q4) (by simp) (by simp;omega) (by simp) (.inr rfl) (.inl rfl) (by rw[q2];rfl)
  refine⟨_,this,az _ _,rfl,rfl,hx.trans (.push _ _),hix,fun a cs ha _=>aj ha,r,?_,fun H3 h3=>.inr ⟨by simp,H.boxes.length,[r],rfl,by rw[h3];simp,oP.snoc (vs:=[]) (rows:=[]) ⟨rfl,fun i v r q=>by simp at q⟩ hv,by omega,hbl⟩⟩
  have hg:(H.push ([]++[rT]).flatten).boxes[H.boxes.length]?=some rT:=ak _ _
  exact(aW (off:=0) (cs:=rT) (xs:=r) hv.cells tX hg hr4 (abq 4)).trans (by rw[jc (by rw[hr4];rfl)])
 ·have hf:=a8 h2.four
  have hlr:=h2.1
  have hpos:0<rows.length:=by rw[hlr];exact List.length_pos_iff.2 hne
  rw[<-hlr] at hbb
  have:=xg (h:=H) (b:=b) (len:=rows.length) (cs:=rows.flatten) (new:=[rT]) (x:=.list .tight 4 [rT]) Tryz.underlying94 Tryz.underlying94 q1 (by omega) (by rw[q2];exact q4) (by simp) (by simp;omega) (by simp;omega) h1 hpos (by rw[q2,hf]) (by rw[q2];rfl)
  have hlt:=(abm.1 h1).1
  rw[show rows.length+[rT].length=vs.length+1 by simp[hlr]] at this
  refine⟨_,this,by rw[az,dU],rfl,rfl,(hx.bZ (by omega) _).trans (.push _ _),hix,fun a cs ha hor=>aj ((av ?_).trans ha),(rows++[r]).flatten,?_,fun H3 h5=>.inr ⟨by simp,H.boxes.length,rows++[r],by simp[hlr],h5,h2.snoc hv,by omega,hbl⟩⟩
  ·rcases hor with z|z
   ·omega
   ·rintro rfl;exact h3 z
  ·have hg:((H.put b []).push (rows.flatten++[rT].flatten)).boxes[H.boxes.length]?=some (rows.flatten++[rT].flatten):=cD (by rw[dU])
   refine(aW (off:=vs.length * 4) (xs:=r) hv.cells tX hg hr4 ?_).trans ?_
   ·rw[abx,hf,hlr];exact abq _
   ·have hsp:bI (rows.flatten++[rT].flatten) (vs.length * 4) r=(rows++[r]).flatten:=by
     unfold bI
     rw[hr4,<-hlr,<-hf,List.take_left' rfl,acm (by rw[abx];exact abq _),List.append_nil]
     simp
    rw[hsp]
theorem PK:∃h',W4.call 112 [.list .nil 0 []] ⟨[],[],0,[]⟩=some (.ret (.agg (cE 3 0 [] .nil 0 [])),h'):=by
 obtain⟨r,h',c,-,t,sz,rows,rfl,-,-,hn⟩:=zH ⟨[],[],0,[]⟩ ok0 .nil 0 [] [] .nil (fun q=>absurd rfl q) (by simp) (fun a ha=>by cases ha)
 obtain⟨rfl,rfl,rfl⟩:=hn rfl
 rw[ac6] at c
 exact⟨h',c⟩
theorem KU:∀h,W5.call 112 [.list .nil 0 []] h=some (.ret (.agg (cE 3 0 [] .nil 0 [])),h):=by
 obtain⟨h',c⟩:=PK
 exact dm (L:=L5) (args':=[.list .nil 0 []]) (by decide) (by rw[bM,bM,au,di,eF];intro n q;cases q) (by decide) c (by rfl) (by decide)
end Go.Proofs.YtnfciiiohoafaaaGreatDoor
end
section
namespace Go.AE
section
variable {P:Program} {G:Nat->Option (List AV)} {prims:FuncId->Option (List AV->ae->Option (AV × ae))} {Q:Xt->Env->ae->Prop} {e:Env} {h:ae} {L:List FuncId} {R:Rec}
theorem Hv{ops:Array Oper}{i n bi bn x1 x2:Nat}{o1 o2:Oper}{t1 t2:TypeId}{a1 a2 v1 v2:Operand}(hn:ops.size - 1=n)(ho1:ops[i]?=some o1)(hop1:o1.op=.store t1 a1 v1)(ho2:ops[n]?=some o2)(hop2:o2.op=.store t2 a2 v2)
 (h1:cz P G R ops (ops.toList.take i) e h (fun q ei _=>q=.normal/\ei.eval a1=.ptr (.box bi) x1))
 (h2:cz P G R ops (ops.toList.take n) e h (fun q en _=>q=.normal/\en.eval a2=.ptr (.box bn) x2)) (hne:bi≠bn):iA P G R ops e h i=true:=by
 subst hn
 have hi:i<ops.size:=(Array.getElem?_eq_some_iff.1 ho1).1
 obtain⟨q1,ei,hi1,e1,rfl,e2⟩:=h1
 obtain⟨q2,en,hn1,f1,rfl,f2⟩:=h2
 rw[<-dM (Nat.le_of_lt hi)] at e1
 rw[<-dM (by omega)] at f1
 unfold iA
 have p1:gP ops i ei=some bi:=by unfold gP;rw[ho1];simp only[hop1,e2]
 have p2:gP ops (ops.size - 1) en=some bn:=by unfold gP;rw[ho2];simp only[hop2,f2]
 simp only[e1,f1,p1,p2]
 cases hq:Nat.beq bi bn with
 |false=>rfl
 |true=>exact absurd (abR hq) hne
theorem wO{id:Nat}{ops:Array Oper}(i:Nat)(hL:jo prims L)(hi:Nat.blt i ops.size=true)(hok:rY ops i=true)(hd:mF (dE ops i (ops.size - 1)) (zu P (dE ops i (ops.size - 1)) L) []=true)
 (hat:iA P G (whole P G prims) ops e h i=true) (hr:cz P G (whole P G prims) ops ops.toList e h (rh Q)):Run (whole P G prims) (.region id ops true) e h Q:=by
 have hi:i<ops.size:=by simpa [Nat.blt_eq] using hi
 have hr':=hr
 obtain⟨o,en,hn,h1,h2⟩:=hr'
 cases o with
 |normal=>
  have hall:br P G (whole P G prims) (dE ops i (ops.size - 1)) (aby (dE ops i (ops.size - 1)).size) e h=some (.normal,en,hn):=by
   rw[dK,gf,dM (abq _),<-Array.length_toList,abU];exact h1
  exact run_draw_stores (stores_of hi hok hat (sD hd (fun k hk=>tE hL hall (ac7.1 hk).2) (fun p hp=>nomatch hp))) hr
 |_=>exact h2.elim
theorem Hw{Post:Bool->ae->Prop}{H:ae}{l:Nat}{rec:bE}{args:List AV}(hr:H.loops[l]?=some rec)(hs:rec.params.size=args.length)(hst:rec.state=.ready)(hp:rec.pending=none)
 (ha:Run (whole P G prims) rec.assign (dD l rec args) H (fun o e1 h1=>o=.normal/\h1=H/\Run (whole P G prims) rec.body e1 (H.busy l rec) (fun o _ h2=>h2.loops[l]?=some {rec with state:=.busy}/\
  ((o=.normal/\Post true (h2.bh l rec))∨(o=.ret/\Post false (h2.bh l {rec with state:=.done,pending:=some .ret})))))):
 ∃b H',(whole P G prims).round l args H=some (.ret (.v (.bool b)),H')/\Post b H':=by
 obtain⟨o,e1,h1,q1,rfl,rfl,o2,e2,h2,q2,q3,q4⟩:=ha
 have hrec:{rec with state:=LoopState.ready,pending:=none}=rec:=by
  cases rec;cases hst;cases hp;rfl
 rcases q4 with⟨rfl,q4⟩|⟨rfl,q4⟩
 ·refine⟨true,_,jT hr hs ⟨_,e1,h1,q1,rfl,rec,hr,hst,.normal,e2,h2,q2,{rec with state:=.busy},q3,rfl,rfl⟩,?_⟩
  show Post true (h2.bh l {rec with state:=LoopState.ready,pending:=none})
  rw[hrec];exact q4
 ·exact⟨false,_,jT hr hs ⟨_,e1,h1,q1,rfl,rec,hr,hst,.ret,e2,h2,q2,{rec with state:=.busy},q3,rfl,rfl⟩,q4⟩
end
end Go.AE
end
section
namespace Go.Proofs.YtnfciiiohoafaaaGreatDoor
open Go.AE Go.NT
theorem Tk(ep:Int)(k1 k2 k3 k4 k5:Tok)(s1 s2 s3 s4 s5:Nat)(e1 e2 e3 e4 e5:List (List AV)):
 fj Tryz.prog 98 [(0,.agg (cI ep (.list k1 s1 e1) (.list k2 s2 e2) (.list k3 s3 e3))),(1,.list k4 s4 e4),(2,.list k5 s5 e5),(4,.agg (cE 3 0 [] .nil 0 []))]=some (.agg (dQ ep (.list k1 s1 e1) (.list k2 s2 e2) (.list k3 s3 e3) (.list k4 s4 e4) (.list k5 s5 e5) (.list .nil 0 []) (.list .nil 0 []) 0 0)):=kZq
def BL(x:AV)(b:List UInt8):Prop:=∃k s,x=.list k s (u8s b)/\(b≠[]->s=1)
theorem M8(b:List UInt8):(u8s b).length=b.length:=abu _
theorem BL.cH{x:AV}{b:List UInt8}(h:BL x b):cH Tryz.prog 28 x=some (.v (.int .i64 (b.length:Nat))):=by
 obtain⟨k,s,rfl,-⟩:=h
 have u28:=Tryz.underlying28
 unfold Go.AE.cH
 rw[u28]
 simp only[M8]
theorem PL.ix{x:AV}{l:List Pr}(h:PL x l){i:Nat}(hi:i<l.length):ay Tryz.prog 29 x (.v (.int .i64 (i:Nat)))=some (.elem 4 (eR l) i 0):=by
 obtain⟨k,s,rfl,hs⟩:=h
 have hs1:s=4:=hs (by intro q;rw[q] at hi;simp at hi)
 subst hs1
 have:=al (k:=k) (kk:=.i64) (es:=eR l) (a:=((i:Nat):Int)) Tryz.underlying29 BN (by omega) (by rw[mX];omega)
 rw[this,abB]
theorem IL.ix{x:AV}{l:List Int}(h:IL x l){i:Nat}(hi:i<l.length):ay Tryz.prog 23 x (.v (.int .i64 (i:Nat)))=some (.elem 1 (ints l) i 0):=by
 obtain⟨k,s,rfl,hs⟩:=h
 have hs1:s=1:=hs (by intro q;rw[q] at hi;simp at hi)
 subst hs1
 have:=al (k:=k) (kk:=.i64) (es:=ints l) (a:=((i:Nat):Int)) Tryz.underlying23 sz3 (by omega) (by rw[aU];omega)
 rw[this,abB]
structure BI(h H:ae)(ep:Int)(X Y C T L:AV)(kb c:Nat)(cur:AV)(vs:List Vl)(t:Tok):Prop where
 ext:Ext h H
 ok:aZ H=true
 can:bG h.tn H t
 key:H.boxes[kb]?=some (cI ep X Y C)
 work:H.boxes[c]?=some (dQ ep X Y C T L (.list .nil 0 []) cur 0 0)
 la:LAt H c (c+1) cur vs
 lo:h.boxes.length<=kb
 lt:kb<c
theorem BI.push{h H:ae}{ep:Int}{X Y C T L:AV}{kb c:Nat}{cur:AV}{vs:List Vl}{t:Tok}(b:BI h H ep X Y C T L kb c cur vs t)(cs:List AV):BI h (H.push cs) ep X Y C T L kb c cur vs t:=by
 refine⟨b.ext.trans (.push _ _),b.ok,by rw[ij];exact b.can,aj b.key,aj b.work,?_,b.lo,b.lt⟩
 rcases b.la with q|⟨q,x,rows,q1,q2,q3⟩
 ·exact .inl q
 ·exact .inr ⟨q,x,rows,q1,aj q2,q3⟩
theorem BI.app{h H:ae}{ep:Int}{X Y C T L:AV}{kb c:Nat}{cur:AV}{vs:List Vl}{t:Tok}(b:BI h H ep X Y C T L kb c cur vs t):BI h (H.app t) ep X Y C T L kb c cur vs (.free H.tn):=by
 have gr:=Grown.one b.can b.ok b.ext.tn
 refine⟨gr.ext b.ext (abq _),gr.ok,gr.can,by rw[aT];exact b.key,by rw[aT];exact b.work,?_,b.lo,b.lt⟩
 rcases b.la with q|⟨q,x,rows,q1,q2,q3⟩
 ·exact .inl q
 ·exact .inr ⟨q,x,rows,q1,by rw[aT];exact q2,q3⟩
theorem BI.clt{h H:ae}{ep:Int}{X Y C T L:AV}{kb c:Nat}{cur:AV}{vs:List Vl}{t:Tok}(b:BI h H ep X Y C T L kb c cur vs t):c<H.boxes.length:=(abm.1 b.work).1
theorem R0{H:ae}{c:Nat}{ep:Int}{X Y C T L Wt cur x:AV}{pt ch:Int}(hb:H.boxes[c]?=some (dQ ep X Y C T L Wt cur pt ch))(hx:x.aC=some [x]):aA Tryz.prog H 94 (.ptr (.box c) 10) x=some (H.put c (dQ ep X Y C T L Wt x pt ch)):=
 aW (off:=10) (cs:=dQ ep X Y C T L Wt cur pt ch) (xs:=[x]) hx kZq hb rfl (abX rfl)
theorem R1{H:ae}{c:Nat}{ep:Int}{X Y C T L Wt cur x:AV}{pt ch:Int}(hb:H.boxes[c]?=some (dQ ep X Y C T L Wt cur pt ch))(hx:x.aC=some [x]):aA Tryz.prog H 23 (.ptr (.box c) 6) x=some (H.put c (dQ ep X Y C T L x cur pt ch)):=
 aW (off:=6) (cs:=dQ ep X Y C T L Wt cur pt ch) (xs:=[x]) hx jC hb rfl (abX rfl)
theorem Tl{H:ae}{c:Nat}{ep:Int}{X Y C T L Wt cur:AV}{pt ch n:Int}(hb:H.boxes[c]?=some (dQ ep X Y C T L Wt cur pt ch)):aA Tryz.prog H 3 (.ptr (.box c) 11) (.v (.int .i64 n))=some (H.put c (dQ ep X Y C T L Wt cur n ch)):=
 aW (off:=11) (cs:=dQ ep X Y C T L Wt cur pt ch) (xs:=[.v (.int .i64 n)]) rfl sz3 hb rfl (abX rfl)
theorem Tm{H:ae}{c:Nat}{ep:Int}{X Y C T L Wt cur:AV}{pt ch n:Int}(hb:H.boxes[c]?=some (dQ ep X Y C T L Wt cur pt ch)):aA Tryz.prog H 3 (.ptr (.box c) 12) (.v (.int .i64 n))=some (H.put c (dQ ep X Y C T L Wt cur pt n)):=
 aW (off:=12) (cs:=dQ ep X Y C T L Wt cur pt ch) (xs:=[.v (.int .i64 n)]) rfl sz3 hb rfl (abX rfl)
theorem blz:aN Tryz.prog 94 1 [(0,.agg [kK (Value.int .i64 0),kK (Value.int .i64 0),kK (Value.string (bs [])),kK (Value.slice none 0 0)])]=some (.list .tight 4 [rT]):=kZq
theorem BI.next{h H:ae}{ep:Int}{X Y C T L:AV}{kb c:Nat}{cur:AV}{vs:List Vl}{t:Tok}(b:BI h H ep X Y C T L kb c cur vs t)(hl:vs.length<1000000){v:Vl}{r:List AV}(hv:eo v r):
 ∃H2 cs,iX Tryz.prog H #[94,94] cur (.list .tight 4 [rT])=some (.arr H.boxes.length 0 (vs.length+1) (vs.length+1),H2)/\
  ay Tryz.prog 94 (.arr H.boxes.length 0 (vs.length+1) (vs.length+1)) (.v (.int .i64 (vs.length:Nat)))=some (.ptr (.box H.boxes.length) (vs.length * 4))/\
  aA Tryz.prog H2 96 (.ptr (.box H.boxes.length) (vs.length * 4)) (.agg r)=some (H2.put H.boxes.length cs)/\
  aA Tryz.prog (H2.put H.boxes.length cs) 94 (.ptr (.box c) 10) (.arr H.boxes.length 0 (vs.length+1) (vs.length+1))=some ((H2.put H.boxes.length cs).put c (dQ ep X Y C T L (.list .nil 0 []) (.arr H.boxes.length 0 (vs.length+1) (vs.length+1)) 0 0))/\
  BI h ((H2.put H.boxes.length cs).put c (dQ ep X Y C T L (.list .nil 0 []) (.arr H.boxes.length 0 (vs.length+1) (vs.length+1)) 0 0)) ep X Y C T L kb c (.arr H.boxes.length 0 (vs.length+1) (vs.length+1)) (vs++[v]) t:=by
 have hc:=b.clt
 have hlo:=b.lo
 have hlt:=b.lt
 obtain⟨H2,q1,q2,q3,q4,q5,q6,q7,cs,q8,q9⟩:=b.la.more b.ext (by omega) hc (by omega) hl hv
 have hw:(H2.put H.boxes.length cs).boxes[c]?=some (dQ ep X Y C T L (.list .nil 0 []) cur 0 0):=by rw[av (by omega)];exact q7 c _ b.work (.inr rfl)
 have hk:((H2.put H.boxes.length cs).put c (dQ ep X Y C T L (.list .nil 0 []) (.arr H.boxes.length 0 (vs.length+1) (vs.length+1)) 0 0)).boxes[kb]?=some (cI ep X Y C):=by
  rw[av (by omega),av (by omega)];exact q7 kb _ b.key (.inl (by omega))
 refine⟨H2,cs,q1,q6,q8,R0 hw rfl,(q5.bZ (by have:=b.ext.len;omega) _).bZ (by omega) _,?_,?_,hk,aS (by rw[dU];omega),?_,hlo,hlt⟩
 ·have:=b.ok
  unfold aZ at *
  show H2.dead.all (fun n=>decide (n<H2.tn))=true
  rw[q3,q4];exact this
 ·have:=b.can
  rw[jd,jd]
  rcases this with z|z|⟨m,z,z2,z3⟩
  ·exact .inl z
  ·exact .inr (.inl z)
  ·refine .inr (.inr ⟨m,z,z2,?_⟩)
   unfold alive at *
   rw[q3,q4];exact z3
 ·refine q9 _ ?_
  rw[av (by omega)]
  exact aS (by rw[q2];omega)
theorem zN(p:Pr)(h:∀x∈[p.ag,p.no,p.d,p.e],0<=x/\x<=4611686018427387903):∃r,eo p.val r/\∀H,W5.call 112 [.list .tight 1 [[.iface 3 (.v (.int .i64 p.ag))],[.iface 3 (.v (.int .i64 p.no))],[.iface 3 (.v (.int .i64 p.d))],[.iface 3 (.v (.int .i64 p.e))]]] H=some (.ret (.agg r),H):=by
 have:=Hn .tight 1 [.iface 3 (.v (.int .i64 p.ag)),.iface 3 (.v (.int .i64 p.no)),.iface 3 (.v (.int .i64 p.d)),.iface 3 (.v (.int .i64 p.e))] [.int p.ag,.int p.no,.int p.d,.int p.e]
  (.cons (.int _ (h _ (by simp))) (.cons (.int _ (h _ (by simp))) (.cons (.int _ (h _ (by simp))) (.cons (.int _ (h _ (by simp))) .nil)))) (fun _=>rfl) (by simp)
 simp only[abK,ac6] at this
 exact this
def dj(l:List Pr):List Int:=l.map Pr.ag
def NU(rows:List (List Int))(owners:List Int)(ep:Int)(X Y C T L:AV)(aa:List Int)(text:List UInt8)(l:List Pr)(h:ae)(r:Res)(h':ae):Prop:=
 Ext h h'/\((cd rows owners ep aa text l≠0/\r=.ret (.tuple [.v (.pointer none),.v (.int .i64 (cd rows owners ep aa text l))]))∨
  (cd rows owners ep aa text l=0/\∃c Wt,r=.ret (.tuple [.ptr (.box c) 0,.v (.int .i64 0)])/\IL Wt (aM rows owners l)/\lQ h' c ep X Y C T L Wt ((dA (at0 aa 0) text l:Nat):Int) ((aG (at0 aa 0) text l:Nat):Int) aa text l))
theorem iy{l:List Pr}:∀{last:Int},dy last l=true->∀p∈l,last<p.ag/\p.ag<64/\0<=p.no/\p.no<4096/\aX p.d=true/\aX p.e=true:=by
 induction l with
 |nil=>intro _ _ p hp;simp at hp
 |cons q l ih=>
  intro last h p hp
  rw[NT.dy] at h
  simp only[abr,decide_eq_true_eq] at h
  obtain⟨⟨⟨⟨⟨⟨h1,h2⟩,h3⟩,h4⟩,h5⟩,h6⟩,h7⟩:=h
  rcases acd.1 hp with rfl|hp
  ·exact⟨h1,h2,h3,h4,h5,h6⟩
  ·obtain⟨k1,k2,k3,k4,k5,k6⟩:=ih h7 p hp
   exact⟨by omega,k2,k3,k4,k5,k6⟩
theorem qI{c0:Int}{text:List UInt8}{l:List Pr}{p:Pr}(hd:aX p.d=true)(he:aX p.e=true):elem (gX c0 text l p)=true:=by
 unfold gX dP
 rw[sM]
 exact oH (ji hd) (iq (ji he) _)
theorem vQ{c0:Int}{text:List UInt8}{l:List Pr}{last:Int}(h:dy last l=true):elem (dA c0 text l)=true:=
 BQ (fun p hp=>qI (iy h p hp).2.2.2.2.1 (iy h p hp).2.2.2.2.2) mI
theorem zO(h:ae)(hok:aZ h=true)(ep:Int)(X Y C T L:AV)(rows:List (List Int))(owners aa:List Int)(text:List UInt8)(l:List Pr)
 (hx:RL X rows) (hy:IL Y owners) (hc:IL C aa) (ht:BL T text) (hp:PL L l) (hcl:aa.length<=1000000) (hll:l.length<=1000000):
 ∃r h',W5.call 48 [.agg (cI ep X Y C),T,L] h=some (r,h')/\NU rows owners ep X Y C T L aa text l h r h':=by
 have bx:=hY (ep:=ep) hx hy hc
 obtain⟨_,h2,c2,rfl,rfl⟩:=KR (h.push (cI ep X Y C)) ep X Y C rows owners aa hx hy hc hcl
 have c1:=KI X Y rows owners hx hy
 have b0:=ak h (cI ep X Y C)
 have l1:ai Tryz.prog Gt (h.push (cI ep X Y C)) 25 (.ptr (.box h.boxes.length) 1)=some (.agg [X,Y]):=by
  rw[cP G9 (by kernel_rfl:bF Tryz.prog 25=some 2) b0 (abX rfl)];rfl
 have l2:ai Tryz.prog Gt (h.push (cI ep X Y C)) 27 (.ptr (.box h.boxes.length) 0)=some (.agg (cI ep X Y C)):=by
  rw[cP kZq (by kernel_rfl:bF Tryz.prog 27=some 4) b0 (abX rfl)];rfl
 have l3:ai Tryz.prog Gt ((h.push (cI ep X Y C)).push (cI ep X Y C)) 27 (.ptr (.box h.boxes.length) 0)=some (.agg (cI ep X Y C)):=by
  rw[cP kZq (by kernel_rfl:bF Tryz.prog 27=some 4) (aj b0) (abX rfl)];rfl
 have ln1:=ht.cH
 have ln2:=hp.cH
 have lst:=KU
 have bw:fj Tryz.prog 98 [(0,.agg (cI ep X Y C)),(1,T),(2,L),(4,.agg (cE 3 0 [] .nil 0 []))]=some (.agg (dQ ep X Y C T L (.list .nil 0 []) (.list .nil 0 []) 0 0))/\(AV.agg (dQ ep X Y C T L (.list .nil 0 []) (.list .nil 0 []) 0 0)).aC=some (dQ ep X Y C T L (.list .nil 0 []) (.list .nil 0 []) 0 0):=by
  obtain⟨kx,sx,xs,rfl,-⟩:=hx.form
  obtain⟨ky,sy,rfl,-⟩:=hy
  obtain⟨kc,sc,rfl,-⟩:=hc
  obtain⟨kt,st,rfl,-⟩:=ht
  obtain⟨kp,sp,rfl,-⟩:=hp
  exact⟨Tk ep kx ky kc kt kp sx sy sc st sp _ _ _ _ _,rfl⟩
 obtain⟨bw1,bw2⟩:=bw
 have kf:=ah.mk (abp hx (abp hy (abp hc (abp ht hp))))
 have B0:BI h (((h.push (cI ep X Y C)).push (cI ep X Y C)).push (dQ ep X Y C T L (.list .nil 0 []) (.list .nil 0 []) 0 0)) ep X Y C T L h.boxes.length ((h.push (cI ep X Y C)).push (cI ep X Y C)).boxes.length (.list .nil 0 []) [] .nil:=
  ⟨((Ext.push _ _).trans (.push _ _)).trans (.push _ _),hok,.inl rfl,aj (aj b0),ak _ _,.inl ⟨rfl,rfl⟩,abq _,by rw[az,az];omega⟩
 have X1:=ah.mk (Ext.push h (cI ep X Y C))
 have X2:=ah.mk ((Ext.push h (cI ep X Y C)).trans (Ext.push _ (cI ep X Y C)))
 have kE1:ah (bC rows owners≠0->cd rows owners ep aa text l=bC rows owners):=⟨fun q=>by unfold cd;rw[if_pos q]⟩
 have kE2:ah (bC rows owners=0->pS rows ep aa=false->cd rows owners ep aa text l=380):=⟨fun q1 q2=>by
  unfold cd;rw[if_neg (by simp[q1]),if_pos];unfold pS at q2;rw[q2];rfl⟩
 have kE3:ah (bC rows owners=0->pS rows ep aa=true->65536<text.length->cd rows owners ep aa text l=2):=⟨fun q1 q2 q3=>by
  unfold cd;unfold pS at q2;rw[if_neg (by simp[q1]),if_neg (by rw[q2];decide),if_pos q3]⟩
 have kE4:ah (bC rows owners=0->pS rows ep aa=true->¬65536<text.length->64<l.length->cd rows owners ep aa text l=420):=⟨fun q1 q2 q3 q4=>by
  unfold cd;unfold pS at q2;rw[if_neg (by simp[q1]),if_neg (by rw[q2];decide),if_neg q3,if_pos q4]⟩
 have kE5:ah (bC rows owners=0->pS rows ep aa=true->¬65536<text.length->¬64<l.length->dy (-1) l=false->cd rows owners ep aa text l=420):=⟨fun q1 q2 q3 q4 q5=>by
  unfold cd;unfold pS at q2;rw[if_neg (by simp[q1]),if_neg (by rw[q2];decide),if_neg q3,if_neg q4,if_pos (by rw[q5];rfl)]⟩
 have kE6:ah (bC rows owners=0->pS rows ep aa=true->¬65536<text.length->¬64<l.length->dy (-1) l=true->∀y o e,bJ rows owners (dj l)=(y,o,e)->cd rows owners ep aa text l=if e≠0∨o=false∨l.length=0 then 420 else 0):=⟨fun q1 q2 q3 q4 q5 y o e q6=>by
  unfold cd;unfold pS at q2;rw[if_neg (by simp[q1]),if_neg (by rw[q2];decide),if_neg q3,if_neg q4,if_neg (by rw[q5];decide)]
  unfold dj at q6
  rw[q6]⟩
 have kW:ah (∀y o e,bJ rows owners (dj l)=(y,o,e)->aM rows owners l=y):=⟨fun y o e q=>by unfold aM;unfold dj at q;rw[q]⟩
 have kR:ah (pS rows ep aa=true->aa.length=aK rows/\aa.all aX=true):=⟨fun q=>by
  unfold pS at q
  simp only[abr,decide_eq_true_eq] at q
  exact⟨q.1.2,q.2⟩⟩
 unfold NU
 generalize cd rows owners ep aa text l=res at *
 clear hx hy hc ht hp b0
 refine aL rfl Tryz.func48 rfl ?_
 by_cases h0:bC rows owners=0
 rotate_left 1
 ·have kr:=ah.mk (abp h0 (kE1.out h0))
  clear kE1 kE2 kE3 kE4 kE5 kE6 c2 bw1 bw2 B0 lst l3
  generalize bC rows owners=q at *
  unfold im at *
  refine gx3 @mY @aw @dS ?_
  exact⟨_,_,rfl,X1.out,.inl ⟨by rw[kr.out.2];exact kr.out.1,by rw[kr.out.2]⟩⟩
 rw[h0] at c1
 cases h1:pS rows ep aa with
 |false=>
  have kr:=ah.mk (kE2.out h0 h1)
  rw[h1] at c2
  clear kE1 kE2 kE3 kE4 kE5 kE6 bw1 bw2 B0 lst l3 h0 h1
  unfold im at *
  refine gx3 @mY @aw @dS ?_
  exact⟨_,_,rfl,X2.out,.inl ⟨by rw[kr.out];decide,by rw[kr.out]⟩⟩
 |true=>
 rw[h1] at c2
 by_cases h3:65536<text.length
 ·have kr:=ah.mk (kE3.out h0 h1 h3)
  have hI:(65536:Int)<(text.length:Int):=by omega
  clear kE1 kE2 kE3 kE4 kE5 kE6 bw1 bw2 B0 lst l3 h0 h1 h3
  unfold im at *
  refine gx3 @mY @aw @dS ?_
  exact⟨_,_,rfl,X2.out,.inl ⟨by rw[kr.out];decide,by rw[kr.out]⟩⟩
 have hI:¬(65536:Int)<(text.length:Int):=by omega
 by_cases h4:64<l.length
 ·have kr:=ah.mk (kE4.out h0 h1 h3 h4)
  have hI2:(64:Int)<(l.length:Int):=by omega
  clear kE1 kE2 kE3 kE4 kE5 kE6 bw1 bw2 B0 lst l3 h0 h1 h3 h4
  unfold im at *
  refine gx3 @mY @aw @dS ?_
  exact⟨_,_,rfl,X2.out,.inl ⟨by rw[kr.out];decide,by rw[kr.out]⟩⟩
 have hI2:¬(64:Int)<(l.length:Int):=by omega
 have kbad:=ah.mk (fun q=>kE5.out h0 h1 h3 h4 q)
 have kgood:=ah.mk (fun q=>kE6.out h0 h1 h3 h4 q)
 have kcom:=ah.mk (kR.out h1)
 have kprog:=ah.mk h0
 have ktl:ah (text.length<=65536):=⟨by omega⟩
 have hl64:l.length<=64:=by omega
 clear kE1 kE2 kE3 kE4 kE5 kE6 kR h0 h1 h3 h4 X1 X2
 have kB0:=ah.mk B0
 clear B0
 obtain⟨HW,hHW⟩:∃HW,((h.push (cI ep X Y C)).push (cI ep X Y C)).push (dQ ep X Y C T L (.list .nil 0 []) (.list .nil 0 []) 0 0)=HW:=⟨_,rfl⟩
 unfold im at *
 refine gx3 @mY @aw @dS ?_
 refine bf gM kZq ?_
 refine gx3 @mY @aw @dS ?_
 rw[hHW] at kB0
 refine Run.gen fun e0 he0 hd0 hp0 hr0=>?_
 have f1:e0.get 1=T:=by rw[he0];exact gS
 have f2:e0.get 2=L:=by rw[he0];exact gS
 have f3:e0.get 3=.ptr (.box h.boxes.length) 0:=by rw[he0];exact gS
 have f6:e0.get 6=.ptr (.box ((h.push (cI ep X Y C)).push (cI ep X Y C)).boxes.length) 0:=by rw[he0];exact gS
 have f9:e0.get 9=.list .nil 0 []:=by rw[he0];exact gS
 have f10:e0.get 10=.v (.int .i64 (-1)):=by rw[he0];exact gS
 have f39:e0.get 39=L:=by rw[he0];exact gS
 have f40:e0.get 40=.v (.int .i64 (l.length:Nat)):=by rw[he0];exact gS
 have f41:e0.get 41=.v (.int .i64 (0:Nat)):=by rw[he0];exact gR
 have fd:e0.defers=[]:=by rw[hd0];exact gS
 clear he0 hd0 hp0 hr0 c1 c2 l1 l2 l3 bw1 bw2 lst hHW hI hI2 ln1
 generalize ((h.push (cI ep X Y C)).push (cI ep X Y C)).boxes.length=c at *
 generalize h.boxes.length=kb at *
 refine aD (fun m e H=>∃(i:Nat) (last:Int) (t:Tok) (sz:Nat) (cur:AV),i<=l.length/\m=l.length - i/\ah (dy last (l.drop i)=dy (-1) l)/\(-1<=last)/\ah (BI h H ep X Y C T L kb c cur ((l.take i).map Pr.val) t)/\ah (sz=1∨(dj (l.take i)=[]/\t=.nil))/\
  e.get 1=T/\e.get 2=L/\e.get 3=.ptr (.box kb) 0/\e.get 6=.ptr (.box c) 0/\e.get 9=.list t sz (ints (dj (l.take i)))/\e.get 10=.v (.int .i64 last)/\e.get 39=L/\e.get 40=.v (.int .i64 (l.length:Nat))/\e.get 41=.v (.int .i64 (i:Nat))/\e.defers=[]) ?_ l.length _ _ ?_
 rotate_left 1
 ·exact⟨0,-1,.nil,0,.list .nil 0 [],abG _,rfl,⟨rfl⟩,Int.le_refl _,kB0,⟨.inr ⟨rfl,rfl⟩⟩,f1,f2,f3,f6,f9,f10,f39,f40,f41,fd⟩
 clear f1 f2 f3 f6 f9 f10 f39 f40 f41 fd kB0 HW
 rintro m e H ⟨i,last,t,sz,cur,hi,rfl,kP,hla,kB,ksz,g1,g2,g3,g6,g9,g10,g39,g40,g41,hd⟩
 by_cases hlt:i<l.length
 ·obtain⟨p,hpi⟩:∃p,l[i]?=some p:=⟨_,abo hlt⟩
  have hdrop:l.drop i=p::l.drop (i+1):=by
   rw[List.drop_eq_getElem_cons hlt,(abm.1 hpi).2]
  have hpf:=kP.out
  rw[hdrop,NT.dy] at hpf
  have kpf:=ah.mk hpf
  have ix:=kf.out.2.2.2.2.ix hlt
  have ld:=KN (H:=H) (s:=4) hpi
  have st:=oV (H:=H) p
  have zc:=zK
  have b0:=ak H (aq p)
  have q0:ai Tryz.prog Gt (H.push (aq p)) 3 (.ptr (.box H.boxes.length) 0)=some (.v (.int .i64 p.ag)):=aQ ag3 b0 rfl
  have q1:ai Tryz.prog Gt (H.push (aq p)) 3 (.ptr (.box H.boxes.length) 1)=some (.v (.int .i64 p.no)):=aQ ag3 b0 rfl
  have q2:ai Tryz.prog Gt (H.push (aq p)) 3 (.ptr (.box H.boxes.length) 2)=some (.v (.int .i64 p.d)):=aQ ag3 b0 rfl
  have q3:ai Tryz.prog Gt (H.push (aq p)) 3 (.ptr (.box H.boxes.length) 3)=some (.v (.int .i64 p.e)):=aQ ag3 b0 rfl
  have v1:=vN p.d
  have v2:=vN p.e
  have hltI:(i:Int)<(l.length:Int):=by omega
  have kBp:=ah.mk (kB.out.push (aq p))
  have ktake:=ah.mk (a9 hpi)
  clear hpf hdrop hpi b0
  have kbad2:ah ((decide (last<p.ag)&&decide (p.ag<64)&&decide (0<=p.no)&&decide (p.no<4096)&&aX p.d&&aX p.e)=false->res=420):=⟨fun q=>by
   refine kbad.out ?_
   rw[<-kpf.out,q];rfl⟩
  unfold im at *
  by_cases e1:p.ag<=last
  ·have d1:decide (p.ag<=last)=true:=decide_eq_true e1
   have kr:=ah.mk (kbad2.out (by rw[decide_eq_false (show ¬last<p.ag by omega)];rfl))
   clear e1
   refine gx2 @mY @jj ?_
   exact⟨_,_,rfl,kBp.out.ext,.inl ⟨by rw[kr.out];decide,by rw[kr.out]⟩⟩
  have d1:decide (p.ag<=last)=false:=decide_eq_false e1
  by_cases e2:64<=p.ag
  ·have d2:decide (64<=p.ag)=true:=decide_eq_true e2
   have kr:=ah.mk (kbad2.out (by rw[decide_eq_false (show ¬p.ag<64 by omega)];simp))
   clear e1 e2
   refine gx2 @mY @jj ?_
   exact⟨_,_,rfl,kBp.out.ext,.inl ⟨by rw[kr.out];decide,by rw[kr.out]⟩⟩
  have d2:decide (64<=p.ag)=false:=decide_eq_false e2
  by_cases e3:p.no<0
  ·have d3:decide (p.no<0)=true:=decide_eq_true e3
   have kr:=ah.mk (kbad2.out (by rw[decide_eq_false (show ¬0<=p.no by omega)];simp))
   clear e1 e2 e3
   refine gx2 @mY @jj ?_
   exact⟨_,_,rfl,kBp.out.ext,.inl ⟨by rw[kr.out];decide,by rw[kr.out]⟩⟩
  have d3:decide (p.no<0)=false:=decide_eq_false e3
  by_cases e4:4096<=p.no
  ·have d4:decide (4096<=p.no)=true:=decide_eq_true e4
   have kr:=ah.mk (kbad2.out (by rw[decide_eq_false (show ¬p.no<4096 by omega)];simp))
   clear e1 e2 e3 e4
   refine gx2 @mY @jj ?_
   exact⟨_,_,rfl,kBp.out.ext,.inl ⟨by rw[kr.out];decide,by rw[kr.out]⟩⟩
  have d4:decide (4096<=p.no)=false:=decide_eq_false e4
  cases e5:aX p.d with
  |false=>
   have kr:=ah.mk (kbad2.out (by rw[e5];simp))
   rw[e5] at v1
   clear e1 e2 e3 e4 e5
   refine gx2 @mY @jj ?_
   exact⟨_,_,rfl,kBp.out.ext,.inl ⟨by rw[kr.out];decide,by rw[kr.out]⟩⟩
  |true=>
  rw[e5] at v1
  cases e6:aX p.e with
  |false=>
   have kr:=ah.mk (kbad2.out (by rw[e6];simp))
   rw[e6] at v2
   clear e1 e2 e3 e4 e5 e6
   refine gx2 @mY @jj ?_
   exact⟨_,_,rfl,kBp.out.ext,.inl ⟨by rw[kr.out];decide,by rw[kr.out]⟩⟩
  |true=>
  rw[e6] at v2
  have hr5:=ir e5
  have hr6:=ir e6
  have kP2:ah (dy p.ag (l.drop (i+1))=dy (-1) l):=⟨by
   rw[<-kpf.out,decide_eq_true (show last<p.ag by omega),decide_eq_true (show p.ag<64 by omega),decide_eq_true (show 0<=p.no by omega),decide_eq_true (show p.no<4096 by omega),e5,e6];rfl⟩
  obtain⟨r,hvr,lr⟩:=zN p (by
   intro x hx
   simp only[acd,adj,or_false] at hx
   rcases hx with rfl|rfl|rfl|rfl<;>omega)
  have hkl:(dj (l.take i)).length=i:=by unfold dj;rw[abu,abI];omega
  have ap:=wI (x:=p.ag) (es:=dj (l.take i)) (by omega) ksz.out kBp.out.can
  have bl:=pQ p.ag
  have hke:dj (l.take i)++[p.ag]=dj (l.take (i+1)):=by unfold dj;rw[ktake.out,acv];rfl
  rw[hke] at ap
  have kBa:=ah.mk kBp.out.app
  have hvl:((l.take i).map Pr.val).length=i:=by rw[abu,abI];omega
  obtain⟨H2,cs,t1,t2,t3,t4,t5⟩:=kBa.out.next (by omega) hvr
  have len94:=kBa.out.la.cH
  have lw:ai Tryz.prog Gt ((H.push (aq p)).app t) 94 (.ptr (.box c) 10)=some cur:=aQ Q2 kBa.out.work rfl
  have bxx:((H.push (aq p)).app t).boxes[H.boxes.length]?=some (aq p):=by rw[aT];exact ak _ _
  have q0':ai Tryz.prog Gt ((H.push (aq p)).app t) 3 (.ptr (.box H.boxes.length) 0)=some (.v (.int .i64 p.ag)):=aQ ag3 bxx rfl
  have q1':ai Tryz.prog Gt ((H.push (aq p)).app t) 3 (.ptr (.box H.boxes.length) 1)=some (.v (.int .i64 p.no)):=aQ ag3 bxx rfl
  have q2':ai Tryz.prog Gt ((H.push (aq p)).app t) 3 (.ptr (.box H.boxes.length) 2)=some (.v (.int .i64 p.d)):=aQ ag3 bxx rfl
  have q3':ai Tryz.prog Gt ((H.push (aq p)).app t) 3 (.ptr (.box H.boxes.length) 3)=some (.v (.int .i64 p.e)):=aQ ag3 bxx rfl
  have hve:(l.take i).map Pr.val++[p.val]=(l.take (i+1)).map Pr.val:=by rw[ktake.out,acv];rfl
  rw[hve] at t5
  have kB2:=ah.mk t5
  have hne:((H.push (aq p)).app t).boxes.length≠c:=by have:=kBa.out.clt;omega
  rw[hvl] at t1 t2 t3 t4 kB2 len94
  have knext: -1<=p.ag:=by omega
  clear e1 e2 e3 e4 e5 e6 hr5 hr6 t5 hve bxx hke hvr hkl hvl kBp kBa kbad2 kpf kP hla
  refine gx2 @mY @jj ?_
  refine wO 23 gM kZq kZq kZq ?_ ?_
  ·refine Hv (n:=27) (bi:=((H.push (aq p)).app t).boxes.length) (bn:=c) (x1:=i * 4) (x2:=10) kZq rfl rfl rfl rfl ?_ ?_ hne<;>(simp only[abO,abY];repeat' (first|simp(maxSteps:=999999)(disch:=first|exact dZ|fail)only[gW,reduceIte,abn,gBQ,mY,qH,jj,EW,if3,bp4,blz,and_self, *]|refine dX ?_ ?_<;>(intro _;try omega)))
  repeat' (first|simp(maxSteps:=999999)(disch:=first|exact dZ|fail)only[gW,reduceIte,abn,gBQ,mY,qH,jj,EW,if3,bp4,blz, *]|refine dX ?_ ?_<;>(intro _;try omega))
  exact⟨l.length - (i+1),by omega,i+1,p.ag,_,1,_,by omega,rfl,kP2,knext,kB2,⟨.inl rfl⟩,by simp⟩
 have hie:i=l.length:=by omega
 subst hie
 rw[abU] at g9 ksz kB
 have hPok:dy (-1) l=true:=by
  rw[<-kP.out,acm (abq _)];rfl
 have kPok:=ah.mk hPok
 have lk:ai Tryz.prog Gt H 25 (.ptr (.box kb) 1)=some (.agg [X,Y]):=by
  rw[cP G9 (by kernel_rfl:bF Tryz.prog 25=some 2) kB.out.key (abX rfl)];rfl
 have hww:IL (.list t sz (ints (dj l))) (dj l):=⟨t,sz,rfl,fun q=>by
  rcases ksz.out with z|⟨z,-⟩
  ·exact z
  ·exact absurd z q⟩
 have hkll:(dj l).length<=64:=by unfold dj;rw[abu];exact hl64
 have hacc:(∃e,bJ rows owners (dj l)=([],false,e)/\∀h,W5.call 76 [.agg [X,Y],.list t sz (ints (dj l))] h=some (.ret (.tuple [.list .nil 0 [],.v (.bool false),.v (.int .i64 e)]),h))∨∃y,bJ rows owners (dj l)=(y,true,0)/\y.length=rows.length/\∀h,W5.call 76 [.agg [X,Y],.list t sz (ints (dj l))] h=some (.ret (.tuple [.list .held 1 (ints y),.v (.bool true),.v (.int .i64 0)]),h):=by
  obtain⟨k0,s0,xs,hXe,-⟩:=kf.out.1.form
  have:=BJ k0 s0 xs Y (.list t sz (ints (dj l))) rows owners (dj l) (by rw[<-hXe];exact kf.out.1) kf.out.2.1 hww (by omega)
  rw[<-hXe] at this
  exact this
 clear hPok hww hkll hlt kP hla hi
 rcases hacc with⟨e0,a1,ca⟩|⟨y,a1,a2,ca⟩
 ·have kr:ah (res=420):=⟨by rw[kgood.out kPok.out _ _ _ a1,if_pos (.inr (.inl rfl))]⟩
  clear a1
  by_cases h9:e0=0
  ·subst h9
   repeat' (first|simp(maxSteps:=999999)(disch:=first|exact dZ|fail)only[gW,reduceIte,abn,gBQ,mY,dS, *]|refine dX ?_ ?_<;>(intro _;try omega))
   exact⟨_,_,rfl,kB.out.ext,.inl ⟨by rw[kr.out];decide,by rw[kr.out]⟩⟩
  ·have d9:decide (e0=0)=false:=decide_eq_false h9
   repeat' (first|simp(maxSteps:=999999)(disch:=first|exact dZ|fail)only[gW,reduceIte,abn,gBQ,mY,dS, *]|refine dX ?_ ?_<;>(intro _;try omega))
   exact⟨_,_,rfl,kB.out.ext,.inl ⟨by rw[kr.out];decide,by rw[kr.out]⟩⟩
 by_cases h9:l.length=0
 ·have kr:ah (res=420):=⟨by rw[kgood.out kPok.out _ _ _ a1,if_pos (.inr (.inr h9))]⟩
  have d9:decide ((l.length:Int)=0)=true:=decide_eq_true (by omega)
  clear a1 h9
  repeat' (first|simp(maxSteps:=999999)(disch:=first|exact dZ|fail)only[gW,reduceIte,abn,gBQ,mY,dS, *]|refine dX ?_ ?_<;>(intro _;try omega))
  exact⟨_,_,rfl,kB.out.ext,.inl ⟨by rw[kr.out];decide,by rw[kr.out]⟩⟩
 have d9:decide ((l.length:Int)=0)=false:=decide_eq_false (by omega)
 have kr:ah (res=0):=⟨by rw[kgood.out kPok.out _ _ _ a1,if_neg (by simp;intro q;rw[q] at h9;exact h9 rfl)]⟩
 have kWt:=ah.mk (kW.out _ _ _ a1)
 obtain⟨m1,m2⟩:=kcom.out
 have mpos:=(fI kprog.out).1
 have hc0:aX (at0 aa 0)=true:=by
  rw[abE] at m2
  exact m2 _ (by rw[bN (by omega)];exact List.getElem_mem _)
 have hc0r:=ir hc0
 have hlo:=kB.out.lo
 have hltc:=kB.out.lt
 have s1:=R1 (x:=.list .held 1 (ints y)) kB.out.work rfl
 obtain⟨b,vr,hcur,hb1,hb2,hb3,hb4⟩:∃(b:Nat) (vr:List (List AV)),cur=.arr b 0 vr.length vr.length/\H.boxes[b]?=some vr.flatten/\oP (l.map Pr.val) vr/\b≠c/\c+1<=b:=by
  rcases kB.out.la with⟨q,-⟩|⟨-,q⟩
  ·exfalso
   rw[adG] at q
   rw[q] at h9;exact h9 rfl
  ·exact q
 subst hcur
 have hclt:=kB.out.clt
 have W1:lQ (H.put c (dQ ep X Y C T L (.list .held 1 (ints y)) (.arr b 0 vr.length vr.length) 0 0)) c ep X Y C T L (.list .held 1 (ints y)) 0 0 aa text l:=
  ⟨⟨b,vr,aS hclt,by rw[av hb3];exact hb1,hb2⟩,kf.out.2.2.1,by omega,⟨by omega,by omega⟩,kf.out.2.2.2.1,ktl.out,hl64⟩
 have E1:Ext h (H.put c (dQ ep X Y C T L (.list .held 1 (ints y)) (.arr b 0 vr.length vr.length) 0 0)):=kB.out.ext.bZ (by omega) _
 obtain⟨_,Hp,cp,xp,rfl⟩:=DW 70 [.ptr (.box c) 0] [] (gX (at0 aa 0) text l) _ L l kf.out.2.2.2.2 (by omega) (fun q hq=>qI (iy kPok.out q hq).2.2.2.2.1 (iy kPok.out q hq).2.2.2.2.2) (fun q hq H' hX=>by
  have hm:=iy kPok.out q hq
  obtain⟨_,H2,n1,n2,rfl⟩:=EX H' c ep X Y C T L (.list .held 1 (ints y)) 0 0 aa text l (W1.mono hX) q ⟨by omega,by omega⟩ hm.2.2.2.2.1 hm.2.2.2.2.2
  exact⟨H2,n1,n2⟩)
 have hpe:l.foldl (fun x q=>x * gX (at0 aa 0) text l q%P) 1=dA (at0 aa 0) text l:=rfl
 rw[hpe] at cp
 have hpr:=ir (gq (vQ (c0:=at0 aa 0) (text:=text) kPok.out))
 have E2:=E1.trans xp
 have W2:=W1.mono xp
 obtain⟨b',vr',w1,w2,w3⟩:=W2.dF
 have hbc':b'≠c:=by
  intro q
  have z1:Hp.boxes[c]?=some (dQ ep X Y C T L (.list .held 1 (ints y)) (.arr b 0 vr.length vr.length) 0 0):=xp.box _ _ (aS hclt)
  rw[z1] at w1
  unfold dQ at w1
  injection w1 with w1
  simp only[List.cons.injEq,AV.arr.injEq,true_and,and_true] at w1
  omega
 have s2:=Tl (n:=((dA (at0 aa 0) text l:Nat):Int)) w1
 have hclt2:=(abm.1 w1).1
 obtain⟨kt,st,hTe,hst⟩:=kf.out.2.2.2.1
 obtain⟨H5,hH5⟩:∃H5,Hp.put c (dQ ep X Y C T L (.list .held 1 (ints y)) (.arr b' 0 vr'.length vr'.length) ((dA (at0 aa 0) text l:Nat):Int) 0)=H5:=⟨_,rfl⟩
 have w5:H5.boxes[c]?=some (dQ ep X Y C T L (.list .held 1 (ints y)) (.arr b' 0 vr'.length vr'.length) ((dA (at0 aa 0) text l:Nat):Int) 0):=by rw[<-hH5];exact aS hclt2
 have E5:Ext h H5:=by rw[<-hH5];exact E2.bZ (by omega) _
 have v5:H5.boxes[b']?=some vr'.flatten:=by rw[<-hH5,av hbc'];exact w2
 have sl:=BK ((dA (at0 aa 0) text l:Nat):Int) (at0 aa 0) text
 have hh:=xZ H5 vi .tight 1 [.iface 3 (.v (.int .i64 ((dA (at0 aa 0) text l:Nat):Int))),.iface 3 (.v (.int .i64 (at0 aa 0))),.iface 28 (.list kt st (u8s text))] [.int ((dA (at0 aa 0) text l:Nat):Int),.int (at0 aa 0),.text text]
  (.cons (.int _ ⟨by omega,by omega⟩) (.cons (.int _ ⟨by omega,by omega⟩) (.cons (.text kt st text hst (by have:=ktl.out;omega)) .nil))) (fun _=>rfl) (by simp) (by decide) (by simp[eD,dN]) (by have:=ktl.out;omega)
 have hch:mL vi (.list [.int ((dA (at0 aa 0) text l:Nat):Int),.int (at0 aa 0),.text text])=aG (at0 aa 0) text l:=rfl
 rw[hch,<-hTe,show vi=[115,105,103,110] from rfl] at hh
 simp only[abK,ac6] at hh
 have lp:ai Tryz.prog Gt H5 3 (.ptr (.box c) 11)=some (.v (.int .i64 ((dA (at0 aa 0) text l:Nat):Int))):=aQ ag3 w5 rfl
 have lC:ai Tryz.prog Gt H5 23 (.ptr (.box c) 3)=some C:=aQ mo w5 rfl
 obtain⟨kc,sc,hCe,hsc⟩:=kf.out.2.2.1
 have ixC:=kf.out.2.2.1.ix (i:=0) (by omega)
 have lC0:=ldi (H:=H5) (l:=aa) (i:=0) (s:=1) (by omega)
 have s3:=Tm (n:=((aG (at0 aa 0) text l:Nat):Int)) w5
 have kfin:ah (Ext h (H5.put c (dQ ep X Y C T L (.list .held 1 (ints y)) (.arr b' 0 vr'.length vr'.length) ((dA (at0 aa 0) text l:Nat):Int) ((aG (at0 aa 0) text l:Nat):Int)))/\lQ (H5.put c (dQ ep X Y C T L (.list .held 1 (ints y)) (.arr b' 0 vr'.length vr'.length) ((dA (at0 aa 0) text l:Nat):Int) ((aG (at0 aa 0) text l:Nat):Int))) c ep X Y C T L (.list .held 1 (ints y)) ((dA (at0 aa 0) text l:Nat):Int) ((aG (at0 aa 0) text l:Nat):Int) aa text l):=
  ⟨E5.bZ (by omega) _,⟨⟨b',vr',aS (abm.1 w5).1,by rw[av hbc'];exact v5,w3⟩,kf.out.2.2.1,by omega,⟨by omega,by omega⟩,kf.out.2.2.2.1,ktl.out,hl64⟩⟩
 have kyw:ah (IL (.list .held 1 (ints y)) (aM rows owners l)):=⟨by rw[kWt.out];exact⟨_,_,rfl,fun _=>rfl⟩⟩
 have ix0:ay Tryz.prog 23 C (.v (.int .i64 0))=some (.elem 1 (ints aa) 0 0):=ixC
 clear W1 W2 E1 E2 E5 w1 w2 w3 v5 sl hch hpe xp hb1 hb2 hb3 hb4 hclt hclt2 hbc' hc0 hc0r hpr mpos m1 m2 hlo hltc hTe hst hCe hsc h9 a1 a2 ixC w5
 generalize ((dA (at0 aa 0) text l:Nat):Int)=ptv at *
 generalize ((aG (at0 aa 0) text l:Nat):Int)=chv at *
 generalize at0 aa 0=c0 at *
 unfold im at *
 repeat' (first|simp(maxSteps:=999999)(disch:=first|exact dZ|fail)only[gW,reduceIte,abn,gBQ,mY,dS,qH,ab3, *]|refine dX ?_ ?_<;>(intro _;try omega))
 refine bf gM kZq ?_
 refine gx6 @mY @fF @qH @if3 @PD @bp3 ?_
 exact⟨_,_,rfl,kfin.out.1,.inr ⟨kr.out,_,_,rfl,kyw.out,kfin.out.2⟩⟩
theorem KV:Tryz.f17.results.toList=[.tmp 6,.tmp 7,.tmp 8,.tmp 9]:=kZq
theorem PM:Tryz.f54.results.toList=[.cell 6 85,.tmp 7]:=kZq
theorem R2:Tryz.f125.results.toList=[.tmp 3]:=kZq
theorem NV:Tryz.f127.results.toList=[.tmp 2]:=kZq
def mr(c0:Int)(text:List UInt8)(l:List Pr):List Int:=l.map fun p=>((dP c0 text l p.ag:Nat):Int)
theorem rU{rows:List (List Int)}{owners aa:List Int}{ep:Int}{text:List UInt8}{l:List Pr}(h:cd rows owners ep aa text l=0):
 bC rows owners=0/\aa.length=aK rows/\aa.all aX=true/\l.length<=64/\text.length<=65536/\dy (-1) l=true:=by
 unfold cd at h
 split at h
 ·rename_i q;exact absurd h q
 ·rename_i q1
  split at h
  ·simp at h
  ·rename_i q2
   split at h
   ·simp at h
   ·rename_i q3
    split at h
    ·simp at h
    ·rename_i q4
     split at h
     ·simp at h
     ·rename_i q5
      have q2':=(agB _).mp q2
      rw[afB] at q2'
      simp only[abr,decide_eq_true_eq] at q2'
      have q5':=(agB _).mp q5
      rw[afB] at q5'
      exact⟨ae2.1 q1,q2'.1.2,q2'.2,by omega,by omega,q5'⟩
theorem PN(h:ae)(hok:aZ h=true)(ep:Int)(X Y C T L:AV)(rows:List (List Int))(owners aa:List Int)(text:List UInt8)(l:List Pr)
 (hx:RL X rows) (hy:IL Y owners) (hc:IL C aa) (ht:BL T text) (hp:PL L l) (hcl:aa.length<=1000000) (hll:l.length<=1000000):
 ∃r h',W5.call 17 [.agg (cI ep X Y C),T,L] h=some (r,h')/\
  ((cd rows owners ep aa text l≠0/\r=.ret (.tuple [.list .nil 0 [],.v (.int .i64 0),.v (.int .i64 0),.v (.int .i64 (cd rows owners ep aa text l))]))∨
  (cd rows owners ep aa text l=0/\∃Z,r=.ret (.tuple [Z,.v (.int .i64 ((dA (at0 aa 0) text l:Nat):Int)),.v (.int .i64 ((aG (at0 aa 0) text l:Nat):Int)),.v (.int .i64 0)])/\IL Z (mr (at0 aa 0) text l))):=by
 have bx:=hY (ep:=ep) hx hy hc
 obtain⟨r1,h1,c1,x1,post⟩:=zO (h.push (cI ep X Y C)) hok ep X Y C T L rows owners aa text l hx hy hc ht hp hcl hll
 have b0:=ak h (cI ep X Y C)
 have l0:ai Tryz.prog Gt (h.push (cI ep X Y C)) 27 (.ptr (.box h.boxes.length) 0)=some (.agg (cI ep X Y C)):=by
  rw[cP kZq (by kernel_rfl:bF Tryz.prog 27=some 4) b0 (abX rfl)];rfl
 have kp:=ah.mk hp
 have ko:=ah.mk (x1.ok hok)
 have kbo:=ah.mk (fun q=>@rU rows owners aa ep text l q)
 have ln2:=hp.cH
 clear hx hy hc ht hp b0 x1
 generalize cd rows owners ep aa text l=res at *
 refine aL rfl Tryz.func17 rfl ?_
 rcases post with⟨q,rfl⟩|⟨q,c,Wt,rfl,-,w⟩
 ·have kr:=ah.mk q
  refine gx2 @KV @aw ?_
  exact⟨_,_,rfl,.inl ⟨kr.out,rfl⟩⟩
 obtain⟨-,-,-,-,-,p6⟩:=kbo.out q
 have kP:=ah.mk p6
 have kW:=ah.mk w
 have kr:=ah.mk q
 have hl64:=w.ll
 obtain⟨b,vr,w1,-⟩:=w.dF
 clear p6 w
 subst q
 refine gx2 @KV @aw ?_
 refine Run.gen fun e0 he0 hd0 hp0 hr0=>?_
 have f6:e0.get 6=.list .nil 0 []:=by rw[he0];exact gS
 have f10:e0.get 10=.ptr (.box c) 0:=by rw[he0];exact gS
 have f23:e0.get 23=L:=by rw[he0];exact gS
 have f24:e0.get 24=.v (.int .i64 (l.length:Nat)):=by rw[he0];exact gS
 have f25:e0.get 25=.v (.int .i64 (0:Nat)):=by rw[he0];exact gR
 have fd:e0.defers=[]:=by rw[hd0];exact gS
 clear he0 hd0 hp0 hr0 c1 l0 w1
 have kbl:ah ((mr (at0 aa 0) text l).length=l.length):=⟨by unfold mr;simp⟩
 refine aD (fun m e H=>∃(i:Nat) (t:Tok) (sz:Nat),i<=l.length/\m=l.length - i/\ah (Gr h1 H t)/\ah (sz=1∨((mr (at0 aa 0) text l).take i=[]/\t=.nil))/\e.get 6=.list t sz (ints ((mr (at0 aa 0) text l).take i))/\e.get 10=.ptr (.box c) 0/\e.get 23=L/\e.get 24=.v (.int .i64 (l.length:Nat))/\e.get 25=.v (.int .i64 (i:Nat))/\e.defers=[]) ?_ l.length _ _ ?_
 rotate_left 1
 ·exact⟨0,.nil,0,abG _,rfl,⟨Gr.nil (.refl _) ko.out⟩,⟨.inr ⟨rfl,rfl⟩⟩,f6,f10,f23,f24,f25,fd⟩
 clear f6 f10 f23 f24 f25 fd
 rintro m e H ⟨i,t,sz,hi,rfl,kG,ksz,g6,g10,g23,g24,g25,hd⟩
 by_cases hlt:i<l.length
 ·obtain⟨p,hpi⟩:∃p,l[i]?=some p:=⟨_,abo hlt⟩
  have hm:=iy kP.out p (abz hpi)
  have ix:=kp.out.ix hlt
  have ld:=KN (H:=H) (s:=4) hpi
  have st:=oV (H:=H) p
  have zc:=zK
  have l2:=oW (ak H (aq p))
  obtain⟨_,H2,cb,rfl,rfl⟩:=DX (H.push (aq p)) c ep X Y C T L Wt _ _ aa text l ((kW.out.mono kG.out.1).mono (.push _ _)) p ⟨by omega,by omega⟩
  have hv:(mr (at0 aa 0) text l)[i]?=some ((dP (at0 aa 0) text l p.ag:Nat):Int):=by
   unfold mr
   rw[abF,hpi];rfl
  have kG2:=(kG.out.push (aq p)).push (aq p)
  have ap:=wI (x:=((dP (at0 aa 0) text l p.ag:Nat):Int)) (es:=(mr (at0 aa 0) text l).take i) (by rw[abI];omega) ksz.out kG2.2.2
  rw[<-a9 hv] at ap
  have kG3:=ah.mk kG2.app
  have bl:=pQ ((dP (at0 aa 0) text l p.ag:Nat):Int)
  have hltI:(i:Int)<(l.length:Int):=by omega
  clear hv hm hpi kG2
  generalize ((dP (at0 aa 0) text l p.ag:Nat):Int)=bn at *
  unfold im at *
  refine gx1 @KV ?_
  exact⟨l.length - (i+1),by omega,i+1,_,1,by omega,rfl,kG3,⟨.inl rfl⟩,by simp⟩
 ·have hie:i=l.length:=by omega
  subst hie
  rw[abD (by rw[kbl.out];exact abq _)] at g6 ksz
  obtain⟨b2,vr2,w2,-⟩:=(kW.out.mono kG.out.1).dF
  have lp:ai Tryz.prog Gt H 3 (.ptr (.box c) 11)=some (.v (.int .i64 ((dA (at0 aa 0) text l:Nat):Int))):=aQ ag3 w2 rfl
  have lc:ai Tryz.prog Gt H 3 (.ptr (.box c) 12)=some (.v (.int .i64 ((aG (at0 aa 0) text l:Nat):Int))):=aQ ag3 w2 rfl
  clear w2
  generalize ((dA (at0 aa 0) text l:Nat):Int)=ptv at *
  generalize ((aG (at0 aa 0) text l:Nat):Int)=chv at *
  repeat' (first|simp(maxSteps:=999999)(disch:=first|exact dZ|fail)only[gW,reduceIte,abn,gBQ,KV, *]|refine dX ?_ ?_<;>(intro _;try omega))
  refine bf gM kZq ?_
  refine gx2 @KV @qH ?_
  refine⟨_,_,rfl,.inr ⟨trivial,_,rfl,t,sz,rfl,fun q=>?_⟩⟩
  rcases ksz.out with z|⟨z,-⟩
  ·exact z
  ·exact absurd z q
theorem pG(n:Int):(AV.v (.int .i64 n)).aC=some [.v (.int .i64 n)]:=rfl
theorem Hy(r:Ref)(o:Nat):(AV.ptr r o).aC=some [.ptr r o]:=rfl
theorem PO(n:Int)(h:ae):W5.call 127 [im n] h=some (.ret (.v (.bool (pR n))),h):=by
 unfold im pR
 by_cases h0:n<0
 ·refine ar rfl Tryz.func127 rfl ?_
  have:decide (n<0)=true:=by simp[h0]
  exact gz2 @NV @Bool.true_or
 ·refine ar rfl Tryz.func127 rfl ?_
  have:decide (n<0)=false:=by simp[h0]
  exact gz2 @NV @Bool.false_or
theorem R4(H:ae)(b:Nat)(k:Int)(hb:H.boxes[b]?=some [.v (.int .i64 k)])(q:Pr):∃H',W5.call 125 [.agg (aq q),.ptr (.box b) 0] H=some (.ret (.v (.bool (decide (q.ag=k)))),H')/\Ext H H':=by
 have bc:(AV.agg (aq q)).aC=some (aq q):=rfl
 have l0:ai Tryz.prog Gt (H.push (aq q)) 3 (.ptr (.box H.boxes.length) 0)=some (.v (.int .i64 q.ag)):=aQ ag3 (ak _ _) rfl
 have l1:ai Tryz.prog Gt (H.push (aq q)) 3 (.ptr (.box b) 0)=some (.v (.int .i64 k)):=aQ ag3 (aj hb) rfl
 refine dL rfl Tryz.func125 rfl ?_
 clear hb
 refine gx3 @R2 @aw @jj ?_
 exact⟨_,rfl,.push _ _⟩
theorem KW(h:ae)(c:Nat)(cs:List AV)(L:AV)(l:List Pr)(ag:Int)(ns:List Int)(N:AV)(hb:h.boxes[c]?=some cs)(hcs:cs[5]?=some L)(hp:PL L l)(hl:l.length<=1000000)(hN:IL N ns)(hnl:ns.length<=1000):
 ∃r h',W5.call 54 [.ptr (.box c) 0,.v (.int .i64 ag),N] h=some (r,h')/\Ext h h'/\
  (((gl l ag=none∨ns.all inQ=false)/\r=.ret (.tuple [.agg (aq ⟨0,0,0,0⟩),.v (.int .i64 1)]))∨∃q,gl l ag=some q/\ns.all inQ=true/\r=.ret (.tuple [.agg (aq q),.v (.int .i64 0)])):=by
 have zc:=zK
 have H0:((h.push [.v (.int .i64 ag)]).push (aq ⟨0,0,0,0⟩)).boxes[h.boxes.length]?=some [.v (.int .i64 ag)]:=aj (ak _ _)
 have H1:((h.push [.v (.int .i64 ag)]).push (aq ⟨0,0,0,0⟩)).boxes[c]?=some cs:=aj (aj hb)
 have H2:=ak (h.push [.v (.int .i64 ag)]) (aq ⟨0,0,0,0⟩)
 obtain⟨_,h3,c1,x1,post⟩:=KO 125 [.ptr (.box h.boxes.length) 0] (fun p=>decide (p.ag=ag)) ((h.push [.v (.int .i64 ag)]).push (aq ⟨0,0,0,0⟩)) L l hp hl (fun q _ H hX=>R4 H h.boxes.length ag (hX.box _ _ H0) q)
 have l0:ai Tryz.prog Gt ((h.push [.v (.int .i64 ag)]).push (aq ⟨0,0,0,0⟩)) 29 (.ptr (.box c) 5)=some L:=aQ KP H1 hcs
 have l1:ai Tryz.prog Gt h3 29 (.ptr (.box c) 5)=some L:=aQ KP (x1.box _ _ H1) hcs
 have g2:=x1.box _ _ H2
 have l2:=oW g2
 have st0:aA Tryz.prog h3 85 (.ptr (.box (h.push [.v (.int .i64 ag)]).boxes.length) 0) (.agg (aq ⟨0,0,0,0⟩))=some h3:=by
  rw[aW (off:=0) (xs:=aq ⟨0,0,0,0⟩) rfl BN g2 rfl (abq 4),jc rfl,ec g2]
 have cc:=pD (pr:=sQ) rfl rfl 127 [] pR h3 N ns hN (by omega) (fun n _=>PO n _)
 have hany:=EO ns
 have X3:=ah.mk (((Ext.push h [.v (.int .i64 ag)]).trans (Ext.push _ (aq ⟨0,0,0,0⟩))).trans x1)
 have hg2:=(abm.1 g2).1
 have stq:∀q:Pr,aA Tryz.prog h3 85 (.ptr (.box (h.push [.v (.int .i64 ag)]).boxes.length) 0) (.agg (aq q))=some (h3.put (h.push [.v (.int .i64 ag)]).boxes.length (aq q))/\ai Tryz.prog Gt (h3.put (h.push [.v (.int .i64 ag)]).boxes.length (aq q)) 85 (.ptr (.box (h.push [.v (.int .i64 ag)]).boxes.length) 0)=some (.agg (aq q)):=fun q=>by
  refine⟨?_,oW (aS hg2)⟩
  rw[aW (off:=0) (xs:=aq q) rfl BN g2 rfl (abq 4)];rfl
 have XQ:∀q:Pr,Ext h (h3.put (h.push [.v (.int .i64 ag)]).boxes.length (aq q)):=fun q=>X3.out.bZ (by rw[az];omega) _
 have kq:=ah.mk (abp stq XQ)
 rw[az] at l2 st0
 have kp:=ah.mk hp
 unfold gl
 clear H0 H1 H2 hb hcs g2 x1 hN stq XQ hp hg2
 refine aL rfl Tryz.func54 rfl ?_
 unfold im at *
 rcases post with⟨p1,rfl⟩|⟨i,q,rfl,p2,p3⟩
 ·have kn:=ah.mk p1
  clear p1 cc
  repeat' (first|simp(maxSteps:=999999)(disch:=first|exact dZ|fail)only[gW,reduceIte,abn,gBQ,PM,aw,az,qH,pG, *]|refine dX ?_ ?_<;>(intro _;try omega))
  exact⟨_,_,rfl,X3.out,.inl ⟨.inl kn.out,rfl⟩⟩
 ·have kn:=ah.mk (abp p2 p3)
  have hil:=(abm.1 p2).1
  have ix:=kp.out.ix hil
  have ld:=KN (H:=h3) (s:=4) p2
  have hneg:decide (((i:Nat):Int)<0)=false:=decide_eq_false (by omega)
  obtain⟨s1,s2⟩:=kq.out.1 q
  rw[az] at s1 s2
  have XQq:=kq.out.2 q
  rw[az] at XQq
  have kXQ:=ah.mk XQq
  clear XQq
  clear p2 p3
  cases ho:ns.any pR with
  |true=>
   rw[ho] at cc hany
   have kh:=ah.mk hany
   clear ho hany
   refine gx5 @PM @aw @az @qH @pG ?_
   exact⟨_,_,rfl,X3.out,.inl ⟨.inr kh.out.symm,rfl⟩⟩
  |false=>
   rw[ho] at cc hany
   have kh:=ah.mk hany
   clear ho hany
   refine gx5 @PM @aw @az @qH @pG ?_
   exact⟨_,_,rfl,kXQ.out,.inr ⟨q,kn.out.2,kh.out.symm,rfl⟩⟩
theorem Hz(k:Tok)(s:Nat)(es:List (List AV)):(AV.list k s es).aC=some [.list k s es]:=rfl
theorem Tn:Tryz.f55.results.toList=[.tmp 4]:=kZq
theorem BT:Tryz.f128.results.toList=[]:=kZq
theorem To:Tryz.f72.results.toList=[.tmp 2]:=kZq
theorem NW:Tryz.f139.results.toList=[.tmp 4]:=kZq
def cA(owners:List Int)(ag:Int)(k:Nat):List Nat:=(aby k).filter fun i=>decide (at0 owners i=ag)
theorem mZ{owners:List Int}{ag:Int}{k:Nat}(h:at0 owners k=ag):cA owners ag (k+1)=cA owners ag k++[k]:=by
 unfold cA
 rw[acx,ady,List.filter_cons_of_pos (by simp[h])];rfl
theorem lR{owners:List Int}{ag:Int}{k:Nat}(h:at0 owners k≠ag):cA owners ag (k+1)=cA owners ag k:=by
 unfold cA
 rw[acx,ady,List.filter_cons_of_neg (by simp[h])];simp
theorem pH(owners:List Int)(ag:Int):cA owners ag owners.length=cT owners ag:=rfl
theorem HA(owners:List Int)(ag:Int)(k:Nat):(cA owners ag k).length<=k:=by
 unfold cA
 exact abT (adN _ _) (by simp)
theorem KX(h:ae)(c:Nat)(ag:Int):W5.call 55 [.ptr (.box c) 0,.v (.int .i64 ag)] h=some (.ret (.func (.func 128) [] [.ptr (.box h.boxes.length) 0,.ptr (.box (h.boxes.length+1)) 0]),(h.push [.ptr (.box c) 0]).push [.v (.int .i64 ag)]):=by
 refine ar rfl Tryz.func55 rfl ?_
 exact gz5 @Tn @aw @az @pG @Hy
theorem yd(l wb kb c:Nat)(Y:AV)(owners:List Int)(ag:Int)(Inv:Nat->ae->Prop)(Stop:ae->Prop)(hy:IL Y owners)(hol:owners.length<=1000000)
 (h1:∀k H,Inv k H->H.boxes[wb]?=some [.ptr (.box c) 0]/\H.boxes[kb]?=some [.v (.int .i64 ag)]/\∃cs,H.boxes[c]?=some cs/\cs[2]?=some Y)
 (hR:∀k H,k<owners.length->at0 owners k=ag->Inv k H->(∃H',W5.round l [.v (.int .i64 (k:Nat))] H=some (.ret (.v (.bool true)),H')/\Inv (k+1) H')∨∃H',W5.round l [.v (.int .i64 (k:Nat))] H=some (.ret (.v (.bool false)),H')/\Stop H')
 (hS:∀k H,k<owners.length->at0 owners k≠ag->Inv k H->Inv (k+1) H)
 (H0:ae) (h0:Inv 0 H0):∃H',W5.call 128 [.yield l,.ptr (.box wb) 0,.ptr (.box kb) 0] H0=some (.ret (.tuple []),H')/\(Inv owners.length H'∨Stop H'):=by
 have kk:=ah.mk (abp h1 (abp hR (abp hS (abp h0 hy))))
 obtain⟨b1,-,cs,b3,b4⟩:=h1 0 H0 h0
 have l1:ai Tryz.prog Gt H0 90 (.ptr (.box wb) 0)=some (.ptr (.box c) 0):=aQ wN b1 rfl
 have l2:ai Tryz.prog Gt H0 23 (.ptr (.box c) 2)=some Y:=aQ mo b3 b4
 have ln:=hy.cH
 clear h1 hR hS h0 hy b1 b3 b4
 refine dL rfl Tryz.func128 rfl ?_
 refine gx4 @BT @qH @dS @M6 ?_
 refine aD (fun m e H=>∃k:Nat,k<=owners.length/\m=owners.length - k/\ah (Inv k H)/\e.get 0=.yield l/\e.get 2=.ptr (.box kb) 0/\e.get 11=Y/\e.get 12=.v (.int .i64 (owners.length:Nat))/\e.get 13=.v (.int .i64 (k:Nat))/\e.defers=[]) ?_ owners.length _ _ ?_
 rotate_left 1
 ·refine⟨0,abG _,rfl,⟨kk.out.2.2.2.1⟩,?_,?_,?_,?_,?_,?_⟩<;>exact gR
 clear l1 l2
 rintro m e H ⟨k,hk,rfl,kI,g0,g2,g11,g12,g13,hd⟩
 by_cases hlt:k<owners.length
 rotate_left 1
 ·have:k=owners.length:=by omega
  subst this
  repeat' (first|simp(maxSteps:=999999)(disch:=first|exact dZ|fail)only[gW,reduceIte,abn,gBQ,BT, *]|refine dX ?_ ?_<;>(intro _;try omega))
  exact⟨_,rfl,.inl kI.out⟩
 obtain⟨-,b2,-⟩:=kk.out.1 k H kI.out
 have ix:=kk.out.2.2.2.2.ix hlt
 have ld:=ldi (H:=H) (l:=owners) (i:=k) (s:=1) hlt
 have lk:ai Tryz.prog Gt H 3 (.ptr (.box kb) 0)=some (.v (.int .i64 ag)):=aQ ag3 b2 rfl
 have hltI:(k:Int)<(owners.length:Int):=by omega
 clear b2
 by_cases hc:at0 owners k=ag
 ·have dq:decide (at0 owners k=ag)=true:=decide_eq_true hc
  rcases kk.out.2.1 k H hlt hc kI.out with⟨H',r1,r2⟩|⟨H',r1,r2⟩
  ·have kI2:=ah.mk r2
   clear r2 hc kI
   generalize at0 owners k=ow at *
   refine gx2 @BT @gY ?_
   exact⟨owners.length - (k+1),by omega,k+1,by omega,rfl,kI2,by simp⟩
  ·have kI2:=ah.mk r2
   clear r2 hc kI
   generalize at0 owners k=ow at *
   refine gx2 @BT @gY ?_
   exact⟨_,rfl,.inr kI2.out⟩
 ·have dq:decide (at0 owners k=ag)=false:=decide_eq_false hc
  have kI2:=ah.mk (kk.out.2.2.1 k H hlt hc kI.out)
  clear hc kI
  generalize at0 owners k=ow at *
  refine gx2 @BT @gY ?_
  exact⟨owners.length - (k+1),by omega,k+1,by omega,rfl,kI2,by simp⟩
def KY(h h1:ae)(b2:Nat)(LP:List bE)(owners:List Int)(ag:Int)(k:Nat)(H:ae):Prop:=
 ∃t s,H.loops=LP/\H.boxes[b2]?=some [.list t s (ints (pvI (cA owners ag k)))]/\(s=1∨(cA owners ag k=[]/\t=.nil))/\bG h.tn H t/\aZ H=true/\Ext h H/\∀(a:Nat) (cs:List AV),h1.boxes[a]?=some cs->a≠b2->H.boxes[a]?=some cs
theorem HB(h:ae)(hok:aZ h=true)(c wb kb:Nat)(Y:AV)(owners:List Int)(ag:Int)(cs:List AV)(hy:IL Y owners)(hol:owners.length<=1000000)(b1:h.boxes[wb]?=some [.ptr (.box c) 0])(b2:h.boxes[kb]?=some [.v (.int .i64 ag)])(b3:h.boxes[c]?=some cs)(b4:cs[2]?=some Y):
 ∃r h',W5.call 139 [.list .nil 0 [],.func (.func 128) [] [.ptr (.box wb) 0,.ptr (.box kb) 0]] h=some (r,h')/\Ext h h'/\∃Z,r=.ret Z/\IL Z (pvI (cT owners ag)):=by
 refine aL rfl Tryz.func139 rfl ?_
 refine gx3 @NW @aw @Hz ?_
 refine Run.gen fun e4 he4 hd4 hp4 hr4=>?_
 have f2:e4.get 2=.ptr (.box h.boxes.length) 0:=by rw[he4];exact gS
 have f6:e4.get 6=.func (.func 128) [] [.ptr (.box wb) 0,.ptr (.box kb) 0]:=by rw[he4];exact gS
 have fd:e4.defers=[]:=by rw[hd4];exact gS
 clear he4 hd4 hp4 hr4
 refine kD (by rw[lv];exact f6) fun rec w1 w2 w3 w4 w5 w6=>?_
 have hwb:=(abm.1 b1).1
 have hkb:=(abm.1 b2).1
 have hcb:=(abm.1 b3).1
 obtain⟨h1,hh1⟩:∃h1,h.push [.list .nil 0 []]=h1:=⟨_,rfl⟩
 have g0:h1.boxes[h.boxes.length]?=some [.list .nil 0 []]:=by rw[<-hh1];exact ak _ _
 have g1:h1.boxes[wb]?=some [.ptr (.box c) 0]:=by rw[<-hh1];exact aj b1
 have g2:h1.boxes[kb]?=some [.v (.int .i64 ag)]:=by rw[<-hh1];exact aj b2
 have g3:h1.boxes[c]?=some cs:=by rw[<-hh1];exact aj b3
 have hll:h1.loops.length=h.loops.length:=by rw[<-hh1];rfl
 have hok1:aZ h1=true:=by rw[<-hh1];exact hok
 have X1:Ext h h1:=by rw[<-hh1];exact .push _ _
 have hlr:(h1.loop rec).loops[h1.loops.length]?=some rec:=@kC h1 rec
 have XL:Ext h (h1.loop rec):=X1.trans ((Fr.lD (bn:=h1.boxes.length) (l0:=h1.loops.length) (n0:=h1.tn) h1 rec).ext (abq _) (abq _) (abq _))
 rw[hh1]
 have feed:=yd h1.loops.length wb kb c Y owners ag (KY h h1 h.boxes.length (h1.loop rec).loops owners ag) (fun _=>False) hy hol
  (fun k H q=>by
   obtain⟨_,_,-,-,-,-,-,-,q7⟩:=q
   exact⟨q7 _ _ g1 (by omega),q7 _ _ g2 (by omega),cs,q7 _ _ g3 (by omega),b4⟩)
  ?_
  (fun k H _ hc q=>by
   unfold KY at *
   rw[lR hc];exact q)
  (h1.loop rec) ⟨.nil,0,rfl,g0,.inr ⟨rfl,rfl⟩,.inl rfl,hok1,XL,fun a cs ha _=>ha⟩
 rotate_left 1
 ·rintro k H hk hc ⟨t,s,i1,i2,i3,i4,i5,i6,i7⟩
  left
  have hlH:H.loops[h1.loops.length]?=some rec:=by rw[i1];exact hlr
  refine pC (Post:=KY h h1 h.boxes.length (h1.loop rec).loops owners ag (k+1)) hlH (by rw[w2];rfl) w5 w6 ?_
  have r1:∀t,(dD h1.loops.length rec [.v (.int .i64 (k:Nat))]).get t=if 7=t then .v (.int .i64 (k:Nat)) else e4.get t:=fun t=>rm w2 w1
  have d1:(dD h1.loops.length rec [.v (.int .i64 (k:Nat))]).defers=[]:=rfl
  obtain⟨K,hK⟩:∃K,H.busy h1.loops.length rec=K:=⟨_,rfl⟩
  have kb1:K.boxes[h.boxes.length]?=some [.list t s (ints (pvI (cA owners ag k)))]:=by rw[<-hK];exact i2
  have kc1:bG h.tn K t:=by rw[<-hK];exact i4
  have hlen:(pvI (cA owners ag k)).length<=k:=by unfold pvI;rw[abu];exact HA _ _ _
  have ap:=wI (x:=(k:Int)) (es:=pvI (cA owners ag k)) (by omega) (i3.imp_right fun q=>⟨by rw[q.1];rfl,q.2⟩) kc1
  have hst:pvI (cA owners ag k)++[(k:Int)]=pvI (cA owners ag (k+1)):=by rw[mZ hc];unfold pvI;simp
  rw[hst] at ap
  have lA:=vD kb1
  have sA:aA Tryz.prog (K.app t) 23 (.ptr (.box h.boxes.length) 0) (.list (.free K.tn) 1 (ints (pvI (cA owners ag (k+1)))))=some ((K.app t).put h.boxes.length [.list (.free K.tn) 1 (ints (pvI (cA owners ag (k+1))))]):=
   aW (off:=0) (cs:=[.list t s (ints (pvI (cA owners ag k)))]) (xs:=[.list (.free K.tn) 1 (ints (pvI (cA owners ag (k+1))))]) rfl jC (by rw[aT];exact kb1) rfl (abq 1)
  have bl:=pQ (k:Int)
  have gr:=Grown.one i4 i5 i6.tn
  have kfin:ah (KY h h1 h.boxes.length (h1.loop rec).loops owners ag (k+1) ((H.app t).put h.boxes.length [.list (.free H.tn) 1 (ints (pvI (cA owners ag (k+1))))])):=by
   have hl1:=(abm.1 i2).1
   refine⟨_,1,?_,?_,.inl rfl,by rw[jd];exact gr.can,gr.ok,(gr.ext i6 (abq _)).bZ (abq _) _,fun a cs ha hne=>?_⟩
   ·show(H.app t).loops=_
    rw[ig];exact i1
   ·exact aS (by rw[aT];exact hl1)
   ·rw[av hne,aT];exact i7 a cs ha hne
  clear i1 i2 i3 i4 i5 i6 i7 gr hst hlen hc kb1 kc1 g0 g1 g2 g3 X1 XL hok1 hll hwb hkb hcb b1 b2 b3 hh1
  rw[hK]
  rw[w3,w4]
  refine gx0 ?_
  refine⟨trivial,trivial,trivial,?_,?_⟩
  ·show(K.app t).loops=_
   rw[ig]
  ·rw[<-hK]
   refine(congrArg (KY h h1 h.boxes.length (h1.loop rec).loops owners ag (k+1)) ?_).mpr kfin.out
   cases t<;>rfl
 ·obtain⟨Hf,c1,⟨t,s,i1,i2,i3,i4,i5,i6,i7⟩|z⟩:=feed
  rotate_left 1
  ·exact z.elim
  refine⟨_,_,c1,rec,by rw[i1];exact hlr,by rw[w5];decide,.inl ⟨w6,?_⟩⟩
  have q1:(Hf.bh h1.loops.length {rec with state:=.exhausted}).boxes[h.boxes.length]?=some [.list t s (ints (pvI (cA owners ag owners.length)))]:=i2
  have XF:Ext h (Hf.bh h1.loops.length {rec with state:=.exhausted}):=((Fr.sF (bn:=h.boxes.length) (l0:=h.loops.length) (n0:=h.tn) i6 (abq _)).trans (.bh (by omega) _)).ext (abq _) (abq _) (abq _)
  generalize Hf.bh h1.loops.length {rec with state:=.exhausted}=HF at *
  have lA:=vD q1
  have kfin:=ah.mk (abp XF i3)
  clear q1 XF i1 i2 i3 i4 i5 i6 i7 c1 g0 g1 g2 g3 X1 XL hok1 hll hwb hkb hcb b1 b2 b3 hlr w1 w2 w3 w4 w5 w6 hh1
  refine gx1 @NW ?_
  refine⟨_,_,rfl,kfin.out.1,_,rfl,t,s,by rw[pH],fun q=>?_⟩
  rcases kfin.out.2 with z|⟨z,-⟩
  ·exact z
  ·exfalso
   rw[pH] at z
   rw[z] at q;exact q rfl
theorem HC(h:ae)(hok:aZ h=true)(c wb kb:Nat)(Y:AV)(owners:List Int)(ag:Int)(cs:List AV)(hy:IL Y owners)(hol:owners.length<=1000000)(b1:h.boxes[wb]?=some [.ptr (.box c) 0])(b2:h.boxes[kb]?=some [.v (.int .i64 ag)])(b3:h.boxes[c]?=some cs)(b4:cs[2]?=some Y):
 ∃r h',W5.call 72 [.func (.func 128) [] [.ptr (.box wb) 0,.ptr (.box kb) 0]] h=some (r,h')/\Ext h h'/\∃Z,r=.ret Z/\IL Z (pvI (cT owners ag)):=by
 obtain⟨_,h',c1,X,Z,rfl,hZ⟩:=HB h hok c wb kb Y owners ag cs hy hol b1 b2 b3 b4
 have kZ:=ah.mk (abp X hZ)
 clear X hZ b1 b2 b3 b4 hy
 refine aL rfl Tryz.func72 rfl ?_
 refine gx1 @To ?_
 exact⟨_,_,rfl,kZ.out.1,_,rfl,kZ.out.2⟩
theorem R5:Tryz.f67.results.toList=[.tmp 4]:=kZq
theorem KZ:Tryz.f22.results.toList=[.tmp 10,.tmp 11]:=kZq
theorem R6:(ej Tryz.prog 90).bind AV.aC=some [.v (.pointer none)]:=kZq
theorem K3{H:ae}(c:Nat):aA Tryz.prog (H.push [.v (.pointer none)]) 90 (.ptr (.box H.boxes.length) 0) (.ptr (.box c) 0)=some (H.push [.ptr (.box c) 0]):=cQ rfl kZq rfl rfl
def vR(rows:List (List Int))(aa W:List Int)(ch:Int)(row:Int):Nat:=aY (lU aa (rows.getD row.toNat [])) (at0 W row.toNat * ch)
theorem vS{aa row:List Int}(h:aa.all aX=true):elem (lU aa row)=true:=sT h _ (abq _)
theorem HD(x:Nat)(a b:Int):aY x (cq a b)=aY x (a * b):=mM (by rw[fR,Int.emod_emod_of_dvd _ (Int.dvd_refl _)])
theorem R7(H:ae)(kb wb c:Nat)(ep:Int)(X Y C T L Wt:AV)(pt ch:Int)(rows:List (List Int))(owners aa W:List Int)(text:List UInt8)(l:List Pr)
 (hx:RL X rows) (hy:IL Y owners) (hc:IL C aa) (hW:IL Wt W) (hcl:aa.length<=1000000) (hck:dx rows owners aa=0) (hwl:W.length=rows.length)
 (k1:H.boxes[kb]?=some (cI ep X Y C)) (k2:H.boxes[wb]?=some [.ptr (.box c) 0]) (w:lQ H c ep X Y C T L Wt pt ch aa text l) (row:Nat) (hrow:row<rows.length):
 ∃H',W5.call 67 [im (row:Nat),.ptr (.box kb) 0,.ptr (.box wb) 0] H=some (.ret (im (vR rows aa W ch (row:Nat):Nat)),H')/\Ext H H':=by
 obtain⟨_,H2,c1,rfl,x1⟩:=BM H X Y C rows owners aa hx hy hc hcl (row:Nat)
 obtain⟨p1,p2,p3⟩:=ya hck
 have hpub:gy rows owners aa (row:Nat)=(((lU aa (rows.getD row []):Nat):Int),0):=by
  unfold gy
  rw[if_neg (by simp[hck]),if_neg (by rw[decide_eq_false (show ¬((row:Nat):Int)<0 by omega),decide_eq_false (show ¬(rows.length:Int)<=((row:Nat):Int) by omega)];simp),abB]
 rw[hpub] at c1
 have l1:ai Tryz.prog Gt H 25 (.ptr (.box kb) 1)=some (.agg [X,Y]):=by
  rw[cP G9 (by kernel_rfl:bF Tryz.prog 25=some 2) k1 (abX rfl)];rfl
 have l2:ai Tryz.prog Gt H 23 (.ptr (.box kb) 3)=some C:=aQ mo k1 rfl
 have l3:ai Tryz.prog Gt H2 90 (.ptr (.box wb) 0)=some (.ptr (.box c) 0):=aQ wN (x1.box _ _ k2) rfl
 obtain⟨b,vr,w1,-⟩:=(w.mono x1).dF
 have l4:ai Tryz.prog Gt H2 23 (.ptr (.box c) 6)=some Wt:=aQ mo w1 rfl
 have l5:ai Tryz.prog Gt H2 3 (.ptr (.box c) 12)=some (.v (.int .i64 ch)):=aQ ag3 w1 rfl
 have ix:=hW.ix (i:=row) (by omega)
 have l6:=ldi (H:=H2) (l:=W) (i:=row) (s:=1) (by omega)
 have c2:=KH (at0 W row) ch
 have he:=gq (vS (row:=rows.getD row []) p3)
 have c3:=mV ((lU aa (rows.getD row []):Nat):Int) (cq (at0 W row) ch)
 rw[iS he,abB,HD] at c3
 have hpp:vR rows aa W ch (row:Nat)=aY (lU aa (rows.getD row [])) (at0 W row * ch):=by unfold vR;rw[abB]
 rw[hpp]
 have kX:=ah.mk x1
 clear hpub hpp he x1 w w1 k1 k2 hx hy hc hW hck p1 p2 p3
 generalize ((aY (lU aa (rows.getD row [])) (at0 W row * ch):Nat):Int)=res at *
 generalize cq (at0 W row) ch=m at *
 generalize ((lU aa (rows.getD row []):Nat):Int)=pv at *
 generalize at0 W row=wr at *
 unfold im at *
 refine dL rfl Tryz.func67 rfl ?_
 refine gx3 @R5 @dS @fF ?_
 refine bf gM kZq ?_
 refine gx2 @R5 @qH ?_
 exact⟨_,rfl,kX.out⟩
theorem vT{rows:List (List Int)}{owners aa:List Int}{ep:Int}{text:List UInt8}{l:List Pr}(h:cd rows owners ep aa text l=0):
 ∃y,bJ rows owners (l.map Pr.ag)=(y,true,0)/\aM rows owners l=y/\y.length=rows.length:=by
 have h0:=h
 unfold cd at h
 rw[if_neg (by simp[(rU h0).1])] at h
 split at h
 ·simp at h
 ·split at h
  ·simp at h
  ·split at h
   ·simp at h
   ·split at h
    ·simp at h
    ·cases hq:bJ rows owners (l.map Pr.ag) with
     |mk y oe=>
      obtain⟨o,e⟩:=oe
      rw[hq] at h
      simp only at h
      split at h
      ·simp at h
      ·rename_i q
       simp only[not_or,ae2,Bool.not_eq_false] at q
       obtain⟨q1,q2,-⟩:=q
       subst q1;subst q2
       exact⟨y,rfl,by unfold aM;rw[hq],(e7 hq).2.2.1⟩
def ia(rows:List (List Int))(owners:List Int)(ep:Int)(aa:List Int)(text:List UInt8)(l:List Pr)(ag z:Int):Bool × Int:=
 if cd rows owners ep aa text l≠0 then (false,cd rows owners ep aa text l) else tG rows owners aa text l ag z
theorem BU(c o:Nat):cB (.ptr (.box c) o) (.ptr (.box c) o)=true:=by
 rw[cB,tZ,afK,afK];rfl
theorem EY{l:List Pr}{ag:Int}{q:Pr}(h:gl l ag=some q):q∈l/\q.ag=ag:=by
 unfold gl at h
 refine⟨List.mem_of_find?_eq_some h,?_⟩
 have:=List.find?_some h
 simpa using this
theorem EZ(f:Int->Nat):∀(l:List Nat) (k:Nat),(pvI l).foldl (fun x q=>x * f q%P) k=l.foldl (fun x i=>x * f ((i:Nat):Int)%P) k
 | [],_=>rfl
 |a::l,k=>EZ f l _
theorem PQ(h:ae)(hok:aZ h=true)(ep:Int)(X Y C T L:AV)(rows:List (List Int))(owners aa:List Int)(text:List UInt8)(l:List Pr)(ag z:Int)
 (hx:RL X rows) (hy:IL Y owners) (hc:IL C aa) (ht:BL T text) (hp:PL L l) (hcl:aa.length<=1000000) (hll:l.length<=1000000):
 ∃r h',W5.call 22 [.agg (cI ep X Y C),T,L,im ag,im z] h=some (r,h')/\r=.ret (.tuple [.v (.bool (ia rows owners ep aa text l ag z).1),im (ia rows owners ep aa text l ag z).2]):=by
 have bx:=hY (ep:=ep) hx hy hc
 obtain⟨r1,h1,c1,x1,post⟩:=zO (h.push (cI ep X Y C)) hok ep X Y C T L rows owners aa text l hx hy hc ht hp hcl hll
 have b0:=ak h (cI ep X Y C)
 have l0:ai Tryz.prog Gt (h.push (cI ep X Y C)) 27 (.ptr (.box h.boxes.length) 0)=some (.agg (cI ep X Y C)):=by
  rw[cP kZq (by kernel_rfl:bF Tryz.prog 27=some 4) b0 (abX rfl)];rfl
 have kE1:ah (cd rows owners ep aa text l≠0->ia rows owners ep aa text l ag z=(false,cd rows owners ep aa text l)):=⟨fun q=>by unfold ia;rw[if_pos q]⟩
 have kE2:ah (cd rows owners ep aa text l=0->ia rows owners ep aa text l ag z=tG rows owners aa text l ag z):=⟨fun q=>by unfold ia;rw[if_neg (by simp[q])]⟩
 have kbo:=ah.mk (fun q=>@rU rows owners aa ep text l q)
 have kwt:=ah.mk (fun q=>@vT rows owners aa ep text l q)
 have zc:=R6
 have zp:=zK
 have kf:=ah.mk (abp hx (abp hy (abp hc hp)))
 have g1:=x1.box _ _ b0
 have hok1:=x1.ok hok
 generalize ia rows owners ep aa text l ag z=res at *
 generalize cd rows owners ep aa text l=be at *
 clear hx hy hc ht hp b0 x1
 refine aL rfl Tryz.func22 rfl ?_
 rcases post with⟨q,rfl⟩|⟨q,c,Wt,rfl,hWt,w⟩
 ·have kr:=ah.mk (kE1.out q)
  have st:=K3 (H:=h1)
  have stn:aA Tryz.prog (h1.push [.v (.pointer none)]) 90 (.ptr (.box h1.boxes.length) 0) (.v (.pointer none))=some (h1.push [.v (.pointer none)]):=cQ rfl kZq rfl rfl
  clear kE1 kE2 kbo kwt g1 hok1
  unfold im at *
  refine gx2 @KZ @aw ?_
  exact⟨_,_,rfl,by rw[kr.out]⟩
 obtain⟨p1,p2,p3,p4,p5,p6⟩:=kbo.out q
 obtain⟨y,a1,a2,a3⟩:=kwt.out q
 have hres:=kE2.out q
 subst q
 have st:=K3 (H:=h1) c
 have g2:(h1.push [.ptr (.box c) 0]).boxes[h.boxes.length]?=some (cI ep X Y C):=aj g1
 have g3:=ak h1 [AV.ptr (.box c) 0]
 have w2:=w.mono (.push h1 [.ptr (.box c) 0])
 obtain⟨b,vr,w3,-⟩:=w2.dF
 obtain⟨_,h4,c2,x4,post⟩:=KW (h1.push [.ptr (.box c) 0]) c _ L l ag [z] (.list .tight 1 [[.v (.int .i64 z)]]) w3 rfl kf.out.2.2.2 hll (zG z) (by simp)
 rw[show[z].all inQ=inQ z by simp] at post
 have l1:ai Tryz.prog Gt (h1.push [.ptr (.box c) 0]) 90 (.ptr (.box h1.boxes.length) 0)=some (.ptr (.box c) 0):=aQ wN g3 rfl
 have bl:=pQ z
 have fE1:ah (gl l ag=none∨inQ z=false->tG rows owners aa text l ag z=(false,1)):=⟨fun q=>by
  unfold tG
  cases hpo:gl l ag with
  |none=>rfl
  |some x=>
   rcases q with q|q
   ·rw[hpo] at q;cases q
   ·simp only[q];rfl⟩
 have fE2:ah (∀x,gl l ag=some x->inQ z=true->tG rows owners aa text l ag z=(decide (aY Gn z=p9 rows owners aa text l x),0)):=⟨fun x q1 q2=>by
  unfold tG
  rw[q1]
  simp only[q2];rfl⟩
 clear w3
 rcases post with⟨q,rfl⟩|⟨x,q1,q2,rfl⟩
 ·have kr:=ah.mk (hres.trans (fE1.out q))
  have sq:=oV (H:=h4) ⟨0,0,0,0⟩
  clear kE1 kE2 kbo kwt g1 g2 g3 w w2 hok1 fE1 fE2 hres a1 a2 a3 q p1 p2 p3 p6 x4
  unfold im at *
  repeat' (first|simp(maxSteps:=999999)(disch:=first|exact dZ|fail)only[gW,reduceIte,abn,gBQ,KZ,aw, *]|refine dX ?_ ?_<;>(intro _;try omega))
  exact⟨_,_,rfl,by rw[kr.out]⟩
 have kr:=ah.mk (hres.trans (fE2.out x q1 q2))
 obtain⟨hxl,hxk⟩:=EY q1
 have hm:=iy p6 x hxl
 have hok4:=x4.ok (show aZ (h1.push [.ptr (.box c) 0])=true from hok1)
 have sq:=oV (H:=h4) x
 obtain⟨h5,hh5⟩:∃h5,h4.push (aq x)=h5:=⟨_,rfl⟩
 have X5:Ext (h1.push [.ptr (.box c) 0]) h5:=by rw[<-hh5];exact x4.trans (.push _ _)
 have hok5:aZ h5=true:=by rw[<-hh5];exact hok4
 have k5:h5.boxes[h.boxes.length]?=some (cI ep X Y C):=X5.box _ _ g2
 have m5:h5.boxes[h1.boxes.length]?=some [.ptr (.box c) 0]:=X5.box _ _ g3
 have W5':=w2.mono X5
 have q5:h5.boxes[h4.boxes.length]?=some (aq x):=by rw[<-hh5];exact ak _ _
 have lp5:=oW q5
 have lw5:ai Tryz.prog Gt h5 90 (.ptr (.box h1.boxes.length) 0)=some (.ptr (.box c) 0):=aQ wN m5 rfl
 obtain⟨_,h6,c3,x6,rfl⟩:=EX h5 c ep X Y C T L Wt _ _ aa text l W5' x ⟨by omega,by omega⟩ hm.2.2.2.2.1 hm.2.2.2.2.2
 have hok6:=x6.ok hok5
 have m6:=x6.box _ _ m5
 have lw6:ai Tryz.prog Gt h6 90 (.ptr (.box h1.boxes.length) 0)=some (.ptr (.box c) 0):=aQ wN m6 rfl
 have c4:=KX h6 c ag
 have W6':=W5'.mono x6
 obtain⟨b6,vr6,w6,-⟩:=W6'.dF
 have hok7:aZ ((h6.push [.ptr (.box c) 0]).push [.v (.int .i64 ag)])=true:=hok6
 obtain⟨_,h8,c5,x8,Z,rfl,hZ⟩:=HC ((h6.push [.ptr (.box c) 0]).push [.v (.int .i64 ag)]) hok7 c h6.boxes.length (h6.boxes.length+1) Y owners ag _ kf.out.2.1 (by obtain⟨o1,o2,-⟩:=fk p1;omega)
  (aj (ak _ _)) (cD (by rw[az])) (aj (aj w6)) rfl
 have X8:Ext h5 h8:=x6.trans (((Ext.push _ _).trans (.push _ _)).trans x8)
 have hchk:dx rows owners aa=0:=by unfold dx;rw[if_neg (by simp[p1]),if_pos (by rw[decide_eq_true p2,p3];rfl)]
 obtain⟨o1,o2,o3,o4⟩:=fk p1
 have hrl:∀q∈pvI (cT owners ag),∃i:Nat,q=(i:Int)/\i<rows.length:=fun q hq=>by
  unfold pvI at hq
  obtain⟨i,hi,rfl⟩:=List.mem_map.1 hq
  unfold cT at hi
  exact⟨i,rfl,by rw[o1];exact List.mem_range.1 (ac7.1 hi).1⟩
 have hzl:(pvI (cT owners ag)).length<=1000000:=by
  unfold pvI cT
  rw[abu]
  exact abT (adN _ _) (by rw[List.length_range];omega)
 obtain⟨_,h9,c6,x9,rfl⟩:=Ht 67 [] [.ptr (.box h.boxes.length) 0,.ptr (.box h1.boxes.length) 0] (vR rows aa (aM rows owners l) ((aG (at0 aa 0) text l:Nat):Int)) h8 Z (pvI (cT owners ag)) hZ hzl
  (fun q hq=>by unfold vR;exact iq (vS p3) _)
  (fun q hq H hH=>by
   obtain⟨i,rfl,hi⟩:=hrl q hq
   exact R7 H h.boxes.length h1.boxes.length c ep X Y C T L Wt _ _ rows owners aa (aM rows owners l) text l kf.out.1 kf.out.2.1 kf.out.2.2.1 hWt hcl hchk (by rw[a2];exact a3) ((X8.trans hH).box _ _ k5) ((X8.trans hH).box _ _ m5) (W5'.mono (X8.trans hH)) i hi)
 rw[EZ] at c6
 have hN:=qI (c0:=at0 aa 0) (text:=text) (l:=l) hm.2.2.2.2.1 hm.2.2.2.2.2
 have hF:elem ((cT owners ag).foldl (fun x i=>x * vR rows aa (aM rows owners l) ((aG (at0 aa 0) text l:Nat):Int) ((i:Nat):Int)%P) 1)=true:=BQ (fun i _=>by unfold vR;exact iq (vS p3) _) mI
 have c7:=xV ((gX (at0 aa 0) text l x:Nat):Int) (((cT owners ag).foldl (fun x i=>x * vR rows aa (aM rows owners l) ((aG (at0 aa 0) text l:Nat):Int) ((i:Nat):Int)%P) 1:Nat):Int)
 have hwant:gX (at0 aa 0) text l x * ((cT owners ag).foldl (fun x i=>x * vR rows aa (aM rows owners l) ((aG (at0 aa 0) text l:Nat):Int) ((i:Nat):Int)%P) 1)%P=p9 rows owners aa text l x:=by
  unfold p9 vR
  rw[hxk]
  simp only[abB]
 rw[vP hN hF,hwant] at c7
 have c8:=mV 4 z
 have hG:(4:Int).toNat=Gn:=rfl
 rw[iS oU,hG] at c8
 have hd:decide (aY Gn z=p9 rows owners aa text l x)=decide (((aY Gn z:Nat):Int)=((p9 rows owners aa text l x:Nat):Int)):=by rw[decide_eq_decide];omega
 rw[hd] at kr
 clear kE1 kE2 kbo kwt fE1 fE2 hres a1 a2 a3 p1 p2 p3 p6 x4 X5 hok1 hok4 hok5 hok6 hok7 g1 g2 g3 w w2 W5' W6' w6 k5 m5 q5 m6 x6 x8 X8 x9 hZ hchk o1 o2 o3 o4 hrl hzl hN hF hwant hG hd hm hxl hxk q1 q2 hWt
 generalize ((p9 rows owners aa text l x:Nat):Int)=wv at *
 generalize ((aY Gn z:Nat):Int)=pz at *
 generalize ((gX (at0 aa 0) text l x:Nat):Int)=nv at *
 generalize (((cT owners ag).foldl (fun x i=>x * vR rows aa (aM rows owners l) ((aG (at0 aa 0) text l:Nat):Int) ((i:Nat):Int)%P) 1:Nat):Int)=fv at *
 unfold im at *
 refine gx2 @KZ @aw ?_
 refine bU [(2,3)] gM kZq (fun p hp=>?_) ?_
 ·simp only[List.mem_singleton] at hp
  subst hp
  refine dI (x:=.ptr (.box h1.boxes.length) 0) (v:=.ptr (.box c) 0) kZq rfl rfl rfl kZq (BU c 0) ?_ ?_<;>(simp only[abO,abY];exact gz2 @KZ @and_self)
 refine gx1 @KZ ?_
 exact⟨_,_,rfl,by rw[kr.out]⟩
end Go.Proofs.YtnfciiiohoafaaaGreatDoor
end
section
namespace Go.AE
section
variable {P:Program} {G:Nat->Option (List AV)} {R:Rec}
theorem nU{ops:Array Oper}{e:Env}{h:ae}{i j:Nat}{o:Oper}{t:TypeId}{a:Operand}(hap:eW ops i j=true)(ho:ops[j]?=some o)(hop:o.op=.load t a)
 (hj:(ops[i]?).map (fun o=>cY o.op)=some .U2) {x v:AV} (hv:cB v v=true)
 (h1:cz P G R ops (ops.toList.take j) e h (fun q er hr=>q=.normal/\bg ops er o=some true/\er.eval a=x/\ai P G hr t x=some v))
 (h2:cz P G R ops (ops.toList.take i) e h (fun q _ hm=>q=.normal/\ai P G hm t x=some v)):cX P G R ops e h i j=true:=by
 have hi:i<ops.size:=by
  rcases abL i ops.size with hh|hh
  ·exact hh
  ·rw[acQ hh] at hj;cases hj
 have hjs:j<ops.size:=by
  rcases abL j ops.size with hh|hh
  ·exact hh
  ·rw[acQ hh] at ho;cases ho
 have hc:(ops[j]?).map (fun o=>cY o.op)=some .reads:=by rw[ho];simp only[abJ,hop];rfl
 unfold cX
 rw[hap,hc,hj]
 simp only[ac2]
 unfold fX
 rw[ho,dM (by omega),dM (by omega)]
 obtain⟨q1,er,hr,e1,rfl,e0,e2,e3⟩:=h1
 obtain⟨q2,em,hm,f1,rfl,f2⟩:=h2
 rw[e1,f1]
 simp only[e0,hop,e2,e3,f2,hv]
theorem DY{ops:Array Oper}{e:Env}{h:ae}{i j:Nat}{o:Oper}{t:TypeId}{a:Operand}(hap:eW ops i j=true)(ho:ops[j]?=some o)(hop:o.op=.load t a)
 (hj:(ops[i]?).map (fun o=>cY o.op)=some .U2)
 (h1:cz P G R ops (ops.toList.take j) e h (fun q er hr=>q=.normal/\bg ops er o=some false))
 (h2:cz P G R ops (ops.toList.take i) e h (fun q _ hm=>q=.normal)):cX P G R ops e h i j=true:=by
 have hi:i<ops.size:=by
  rcases abL i ops.size with hh|hh
  ·exact hh
  ·rw[acQ hh] at hj;cases hj
 have hjs:j<ops.size:=by
  rcases abL j ops.size with hh|hh
  ·exact hh
  ·rw[acQ hh] at ho;cases ho
 have hc:(ops[j]?).map (fun o=>cY o.op)=some .reads:=by rw[ho];simp only[abJ,hop];rfl
 unfold cX
 rw[hap,hc,hj]
 simp only[ac2]
 unfold fX
 rw[ho,dM (by omega),dM (by omega)]
 obtain⟨q1,er,hr,e1,rfl,e0⟩:=h1
 obtain⟨q2,em,hm,f1,rfl⟩:=h2
 rw[e1,f1]
 simp only[e0]
end
end Go.AE
end
section
namespace Go.Proofs.YtnfciiiohoafaaaGreatDoor
open Go.AE Go.NT
theorem jO:Tryz.f20.results.toList=[.cell 14 3,.cell 15 32]:=kZq
theorem HE(owners:List Int)(ag:Int){k:Nat}:∀{n:Nat},k<=n->∃t,cA owners ag n=cA owners ag k++t:=by
 intro n
 induction n with
 |zero=>intro h;exact⟨[],by rw[show k=0 by omega];simp⟩
 |succ n ih=>
  intro h
  rcases abL n k with hlt|hge
  ·exact⟨[],by rw[show k=n+1 by omega];simp⟩
  ·obtain⟨t,ht⟩:=ih hge
   by_cases hq:at0 owners n=ag
   ·exact⟨t++[n],by rw[mZ hq,ht,acI]⟩
   ·exact⟨t,by rw[lR hq,ht]⟩
theorem K4{rows:List (List Int)}{owners aa:List Int}{ag:Int}{s:List (Int × Int)}(h:eQ rows owners aa ag s=true){k:Nat}(hk:k<owners.length)(hq:at0 owners k=ag):
 ∃p,s[(cA owners ag k).length]?=some p/\p.1=((k:Nat):Int)/\nF rows aa p=true:=by
 unfold eQ at h
 rw[abr,decide_eq_true_eq] at h
 obtain⟨h1,h2⟩:=h
 obtain⟨t,ht⟩:=HE owners ag (show k+1<=owners.length by omega)
 rw[pH,mZ hq] at ht
 have e:(s.map afS)[(cA owners ag k).length]?=some ((k:Nat):Int):=by
  rw[h1,ht,abF,acI,List.getElem?_append_right (abq _),Nat.sub_self];rfl
 rw[abF] at e
 cases hp:s[(cA owners ag k).length]? with
 |none=>rw[hp] at e;cases e
 |some p=>
  rw[hp] at e
  injection e with e
  rw[abE] at h2
  exact⟨p,rfl,e,h2 p (abz hp)⟩
theorem K5{H:ae}{b:Nat}{x:AV}{n:Int}(hb:H.boxes[b]?=some [x]):aA Tryz.prog H 3 (.ptr (.box b) 0) (.v (.int .i64 n))=some (H.put b [.v (.int .i64 n)]):=aW (off:=0) (cs:=[x]) (xs:=[.v (.int .i64 n)]) rfl sz3 hb rfl (abq 1)
theorem M9:cZ Tryz.prog 36=some false:=kZq
theorem BV{H:ae}{b:Nat}{x:AV}{n:Int}(hb:H.boxes[b]?=some [x]):aA Tryz.prog H 32 (.ptr (.box b) 0) (.v (.int .i64 n))=some (H.put b [.v (.int .i64 n)]):=aW (off:=0) (cs:=[x]) (xs:=[.v (.int .i64 n)]) rfl Rs hb rfl (abq 1)
theorem Tp:(ej Tryz.prog 3).bind AV.aC=some [.v (.int .i64 0)]:=kZq
theorem R8:(ej Tryz.prog 32).bind AV.aC=some [.v (.int .i64 0)]:=kZq
theorem HG{y:List Int}{s:List (Int × Int)}{i:Nat}{p:Int × Int}(h:s[i]?=some p):fh y (s.take (i+1))=cN (fh y (s.take i)) (cq (at0 y p.1.toNat) p.2):=by
 unfold fh
 rw[a9 h,acs];rfl
theorem SL.ix{x:AV}{l:List (Int × Int)}(h:SL x l){i:Nat}(hi:i<l.length):ay Tryz.prog 36 x (.v (.int .i64 (i:Nat)))=some (.elem 2 (bL l) i 0):=by
 obtain⟨k,s,rfl,hs⟩:=h
 have hs1:s=2:=hs (by intro q;rw[q] at hi;simp at hi)
 subst hs1
 have:=al (k:=k) (kk:=.i64) (es:=bL l) (a:=((i:Nat):Int)) Tryz.underlying36 M4 (by omega) (by rw[nK];omega)
 rw[this,abB]
theorem SL.cH{x:AV}{l:List (Int × Int)}(h:SL x l):cH Tryz.prog 36 x=some (.v (.int .i64 (l.length:Nat))):=by
 obtain⟨k,s,rfl,-⟩:=h
 have u36:=Tryz.underlying36
 unfold Go.AE.cH
 rw[u36]
 simp only[nK]
theorem SL.aC{x:AV}{l:List (Int × Int)}(h:SL x l):x.aC=some [x]:=by obtain⟨k,s,rfl,-⟩:=h;rfl
structure K6(Hb:ae)(li:Nat)(rec:bE)(sumb ib zb eb:Nat)(rows:List (List Int))(owners aa W:List Int)(ag:Int)(s:List (Int × Int))(k:Nat)(H:ae):Prop where
 lp:H.loops[li]?=some rec
 old:∀(a:Nat) (cs:List AV),Hb.boxes[a]?=some cs->a≠sumb->a≠ib->H.boxes[a]?=some cs
 sum:H.boxes[sumb]?=some [.v (.int .i64 (fh W (s.take (cA owners ag k).length)))]
 ix:H.boxes[ib]?=some [.v (.int .i64 ((cA owners ag k).length:Nat))]
 le:(cA owners ag k).length<=s.length
 same:(s.take (cA owners ag k).length).map afS=(cA owners ag k).map fun(i:Nat)=>(i:Int)
 ok:(s.take (cA owners ag k).length).all (nF rows aa)=true
structure BW(li:Nat)(rec:bE)(zb eb:Nat)(H:ae):Prop where
 lp:H.loops[li]?=some {rec with state:=.done,pending:=some .ret}
 z:H.boxes[zb]?=some [.v (.int .i64 0)]
 e:H.boxes[eb]?=some [.v (.int .i64 340)]
theorem BX{rows:List (List Int)}{owners aa:List Int}(p1:bC rows owners=0)(p2:aa.length=aK rows)(p3:aa.all aX=true):dx rows owners aa=0:=by
 unfold dx;rw[if_neg (by simp[p1]),if_pos (by rw[decide_eq_true p2,p3];rfl)]
theorem DZ{rows:List (List Int)}{owners aa:List Int}(hc:dx rows owners aa=0){k:Nat}{v:Int}(hk:k<rows.length):
 (nF rows aa (((k:Nat):Int),v)=true/\mW rows owners aa (((k:Nat):Int),v)=(true,0))∨(nF rows aa (((k:Nat):Int),v)=false/\(mW rows owners aa (((k:Nat):Int),v)=(false,340)∨mW rows owners aa (((k:Nat):Int),v)=(false,0))):=by
 have hr:lO rows (((k:Nat):Int),v)=inQ v:=by
  unfold lO
  rw[decide_eq_true (show(0:Int)<=((k:Nat):Int) by omega),decide_eq_true (show((k:Nat):Int)<(rows.length:Int) by omega)];rfl
 unfold nF mW
 rw[if_neg (by simp[hc]),hr]
 simp only[abB]
 cases hv:inQ v with
 |false=>exact .inr ⟨rfl,.inl rfl⟩
 |true=>
  by_cases hq:aY Gn v=lU aa (rows.getD k [])
  ·left;rw[decide_eq_true hq];exact⟨rfl,rfl⟩
  ·right;rw[decide_eq_false hq];exact⟨rfl,.inr rfl⟩
end Go.Proofs.YtnfciiiohoafaaaGreatDoor
end
