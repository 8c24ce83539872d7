/-
  Layer 19 in plain Lean: how policies are read from tokens and written as tokens. No program is in sight here.
-/
import Derived.Test.YtmdakolcndpjeaaGreatDoorWC
open Go.Proofs.Tryz renaming prog->aq,underlying24->j6,underlying23->lB,underlying3->GD,underlying9->fH,underlying22->o9,underlying39->ma,func127->SI,func149->Li,func126->Gw,func150->Gy,func124->Gv,func152->Lj,func132->np
open Option renaming some->aa,map_some->cy,some.injEq->aY
open Bool renaming false->ak,true->ab,true_and->qb,and_eq_true->aL,and_false->CY,not_eq_true'->wM,and_true->uS,false_eq_true->dP
open Nat renaming lt_or_ge->dp,le_refl->aK,not_lt_zero->ik,zero_le->cz,reduceEqDiff->ao,lt_of_lt_of_le->lY,le_trans->cY,mul_le_mul->Su
open List renaming getElem?_append_left->qh,getElem?_append_right->uZ,getElem?_eq_some_iff->aF,mem_cons_self->dQ,mem_cons_of_mem->dG,mem_iff_getElem->wN,getElem?_eq_getElem->cv,length_singleton->oY,set_eq_of_length_le->Sk,length_append->cO,append_cancel_right->Gf,length->qY,nil_append->bT,append_assoc->lz,cons_append->bR,mem_cons->fe,length_cons->dD,isEmpty_iff->C7,tail_cons->tH,append_nil->dI,all_cons->Ap,not_mem_nil->ow,flatMap_cons->qg,all_eq_true->dn,length_eq_zero_iff->R8,mem_flatMap->Sf,map_cons->gB,sum_cons->KZ,length_nil->iJ,drop_zero->fc,mem_map->wO,take_succ_cons->di,take_zero->de,take_succ_eq_append_getElem->nj,flatMap_append->Gi,take_append_drop->K3,mem_of_getElem?->ie,take_length->jk,map_nil->nV,flatMap_nil->si,isEmpty_nil->R5,length_take->ng,drop_succ_cons->sh,head?_cons->KV,filterMap_cons->KS,filterMap_nil->KT,mem_singleton->qi
open Prod renaming mk.injEq->aW
open Go renaming TypeId->aE
open Array renaming getElem?_eq_none->tB
set_option maxHeartbeats 64000000
set_option maxRecDepth 100000
set_option linter.unusedSimpArgs false
set_option linter.unusedVariables false
set_option linter.constructorNameAsVariable false
set_option linter.defProp false
section
namespace Go.Proofs.YtmdakolcndpjeaaGreatDoor
open Go.AE Go.Lex Go.Pol
set_option maxRecDepth 100000
def jm:fZ aq 24=aa ak:=ai
def eG:fZ aq 26=aa ab:=ai
def ec:cU aq 26=aa 5:=ai
def iP(r:Ref)(off:Nat):cN aq 26 (.ptr r off) 0=aa (.ptr r (off+0)):=ai
def jK(r:Ref)(off:Nat):cN aq 26 (.ptr r off) 1=aa (.ptr r (off+1)):=ai
def pq(r:Ref)(off:Nat):cN aq 26 (.ptr r off) 2=aa (.ptr r (off+2)):=ai
def gr(r:Ref)(off:Nat):cN aq 26 (.ptr r off) 3=aa (.ptr r (off+3)):=ai
def bZ(r:Ref)(off:Nat):cN aq 26 (.ptr r off) 4=aa (.ptr r (off+4)):=ai
def ar(k n no:Int)(s:List UInt8)(tok:Tok)(sz:Nat)(rows:List (List AV)):List AV:=[.v (.int .i64 k),.v (.int .i64 n),.v (.int .i64 no),.v (.string (bs s)),.list tok sz rows]
section
variable {k n no:Int} {s:List UInt8} {tok:Tok} {sz:Nat} {rows:List (List AV)}
def lP:(AV.agg (ar k n no s tok sz rows)).cF=aa (ar k n no s tok sz rows):=rfl
def tu:((ar k n no s tok sz rows).drop 0).head?=aa (.v (.int .i64 k)):=rfl
def mS:((ar k n no s tok sz rows).drop 0).take 5=ar k n no s tok sz rows:=rfl
end
def Row.iQ{x:Ex}{r:List AV}(h:Row x r):∃tok sz rows,r=ar x.kind x.n x.no x.name tok sz rows/\Pol.Rows x.l rows/\(∀i:Nat,i<x.l.length->sz=5)/\x.l.length<=9223372036854775807:=h.inv
def strs(l:List (List UInt8)):List (List AV):=l.map λs=>[.v (.string (bs s))]
def dL(l:List (List UInt8)):(strs l).length=l.length:=by simp[strs]
def ot(l:List (List UInt8))(i:Nat):(strs l)[i]?=(l[i]?).map λs=>[.v (.string (bs s))]:=by simp[strs]
def aJ(x:AV):(([x]:List AV).drop 0).head?=aa x:=rfl
mutual
def jr:Ex->Nat
 | .mk _ _ _ _ l=>iO l+1
def iO:List Ex->Nat
 | []=>0
 |x::r=>max (jr x) (iO r)
end
structure PT where
 tk:Tok
 sk:Nat
 to:Tok
 so:Nat
 tr:Tok
 sr:Nat
 rr:List (List AV)
 tok:Tok
 sz:Nat
 rows:List (List AV)
def p5(p:Po)(t:PT):List AV:=ar p.change.kind p.change.n p.change.no p.change.name t.tok t.sz t.rows
def au(p:Po)(t:PT):List AV:=[.v (.string (bs p.name)),.list t.tk t.sk (strs p.kinds),.list t.to t.so (strs p.aO),.list t.tr t.sr t.rr,.v (.int .i64 p.change.kind),.v (.int .i64 p.change.n),.v (.int .i64 p.change.no),.v (.string (bs p.change.name)),.list t.tok t.sz t.rows,.v (.int .i64 p.mode)]
structure ek(p:Po)(t:PT):Prop where
 rules:eo p.rules t.rr
 expr:Row p.change (p5 p t)
 zk:∀i:Nat,i<p.kinds.length->t.sk=1
 zo:∀i:Nat,i<p.aO.length->t.so=1
 zr:∀i:Nat,i<p.rules.length->t.sr=8
 bk:p.kinds.length<=9223372036854775807
 bo:p.aO.length<=9223372036854775807
 br:p.rules.length<=9223372036854775807
def aS(x:Rl)(tok:Tok)(sz:Nat)(rows:List (List AV)):List AV:=[.v (.string (bs x.kind)),.v (.int .i64 x.kG),.v (.int .i64 x.gz),.v (.int .i64 x.expr.kind),.v (.int .i64 x.expr.n),.v (.int .i64 x.expr.no),.v (.string (bs x.expr.name)),.list tok sz rows]
def r5(x:Rl)(tok:Tok)(sz:Nat)(rows:List (List AV)):List AV:=ar x.expr.kind x.expr.n x.expr.no x.expr.name tok sz rows
def oz.inv{x:Rl}{r:List AV}(h:oz x r):∃tok sz rows,r=aS x tok sz rows/\Row x.expr (r5 x tok sz rows):=by obtain⟨e,he,rfl⟩:=h;obtain⟨tok,sz,rows,rfl,-⟩:=Row.iQ he;exact⟨tok,sz,rows,rfl,he⟩
def oz.mk{x:Rl}{tok:Tok}{sz:Nat}{rows:List (List AV)}(h:Row x.expr (r5 x tok sz rows)):oz x (aS x tok sz rows):=⟨_,h,rfl⟩
def eo.nil:eo [] []:=⟨rfl,λi x r h=>by simp at h⟩
def eo.snoc{l:List Rl}{rows:List (List AV)}(h:eo l rows){x:Rl}{r:List AV}(hx:oz x r):eo (l++[x]) (rows++[r]):=by
 refine⟨by simp[h.1],λi y s h1 h2=>?_⟩;rcases dp i l.length with hi|hi
 ·rw[qh hi] at h1;rw[qh (by rw[h.1];exact hi)] at h2;exact h.2 i y s h1 h2
 ·rw[uZ hi] at h1;rw[uZ (by rw[h.1];exact hi),h.1] at h2;have hz:i - l.length=0:=by have:=(aF.1 h1).1;simp at this;omega
  rw[hz] at h1 h2;simp at h1 h2;subst h1;subst h2;exact hx
section
variable {p:Po} {t:PT} {x:Rl} {tok:Tok} {sz:Nat} {rows:List (List AV)}
def Ph:(au p t).length=10:=rfl
def ab5:4+5<=(au p t).length:=by rw[Ph];omega
def PO:(aS x tok sz rows).length=8:=rfl
def PN:5<=((aS x tok sz rows).drop 3).length:=by simp[PO]
def wc:8<=((aS x tok sz rows).drop 0).length:=by simp[PO]
end
section
variable (r:Ref) (off:Nat) (es:List (List AV)) (i sz:Nat)
def Wh:cN aq 28 (.ptr r off) 0=aa (.ptr r (off+0)):=ai
def Wi:cN aq 28 (.ptr r off) 1=aa (.ptr r (off+1)):=ai
def Wj:cN aq 28 (.ptr r off) 2=aa (.ptr r (off+2)):=ai
def Wk:cN aq 28 (.ptr r off) 3=aa (.ptr r (off+3)):=ai
def Wm:cN aq 28 (.ptr r off) 4=aa (.ptr r (off+4)):=ai
def Wn:cN aq 28 (.ptr r off) 5=aa (.ptr r (off+9)):=ai
def Wp:cN aq 62 (.ptr r off) 0=aa (.ptr r (off+0)):=ai
def Wq:cN aq 62 (.ptr r off) 1=aa (.ptr r (off+1)):=ai
def Ws:cN aq 62 (.ptr r off) 2=aa (.ptr r (off+2)):=ai
def Wt:cN aq 62 (.ptr r off) 3=aa (.ptr r (off+3)):=ai
def Wx:cN aq 62 (.elem sz es i off) 3=aa (.elem sz es i (off+3)):=ai
end
def bN:(∀(r:Ref) (off:Nat),cN aq 28 (.ptr r off) 0=aa (.ptr r (off+0)))/\(∀(r:Ref) (off:Nat),cN aq 28 (.ptr r off) 1=aa (.ptr r (off+1)))/\(∀(r:Ref) (off:Nat),cN aq 28 (.ptr r off) 2=aa (.ptr r (off+2)))/\(∀(r:Ref) (off:Nat),cN aq 28 (.ptr r off) 3=aa (.ptr r (off+3)))/\
 (∀(r:Ref) (off:Nat),cN aq 28 (.ptr r off) 4=aa (.ptr r (off+4)))/\(∀(r:Ref) (off:Nat),cN aq 28 (.ptr r off) 5=aa (.ptr r (off+9))):=⟨Wh,Wi,Wj,Wk,Wm,Wn⟩
def dt:(∀(r:Ref) (off:Nat),cN aq 62 (.ptr r off) 0=aa (.ptr r (off+0)))/\(∀(r:Ref) (off:Nat),cN aq 62 (.ptr r off) 1=aa (.ptr r (off+1)))/\(∀(r:Ref) (off:Nat),cN aq 62 (.ptr r off) 2=aa (.ptr r (off+2)))/\(∀(r:Ref) (off:Nat),cN aq 62 (.ptr r off) 3=aa (.ptr r (off+3)))/\
 (∀(sz:Nat) (es:List (List AV)) (i off:Nat),cN aq 62 (.elem sz es i off) 3=aa (.elem sz es i (off+3))):=⟨Wp,Wq,Ws,Wt,λsz es i off=>Wx off es i sz⟩
section
def cK:(∀(p:Po) (t:PT),(AV.agg (au p t)).cF=aa (au p t))/\(∀(p:Po) (t:PT),((au p t).drop 0).head?=aa (.v (.string (bs p.name))))/\(∀(p:Po) (t:PT),((au p t).drop 1).head?=aa (.list t.tk t.sk (strs p.kinds)))/\(∀(p:Po) (t:PT),((au p t).drop 2).head?=aa (.list t.to t.so (strs p.aO)))/\
 (∀(p:Po) (t:PT),((au p t).drop 3).head?=aa (.list t.tr t.sr t.rr))/\(∀(p:Po) (t:PT),((au p t).drop 4).take 5=p5 p t)/\(∀(p:Po) (t:PT),((au p t).drop 9).head?=aa (.v (.int .i64 p.mode)))/\(∀(p:Po) (t:PT),((au p t).drop 0).take 10=au p t):=
 ⟨λ_ _=>rfl,λ_ _=>rfl,λ_ _=>rfl,λ_ _=>rfl,λ_ _=>rfl,λ_ _=>rfl,λ_ _=>rfl,λ_ _=>rfl⟩
def eO:(∀(x:Rl) (tok:Tok) (sz:Nat) (rows:List (List AV)),(AV.agg (aS x tok sz rows)).cF=aa (aS x tok sz rows))/\(∀(x:Rl) (tok:Tok) (sz:Nat) (rows:List (List AV)),((aS x tok sz rows).drop 0).head?=aa (.v (.string (bs x.kind))))/\(∀(x:Rl) (tok:Tok) (sz:Nat) (rows:List (List AV)),((aS x tok sz rows).drop 1).head?=aa (.v (.int .i64 x.kG)))/\
 (∀(x:Rl) (tok:Tok) (sz:Nat) (rows:List (List AV)),((aS x tok sz rows).drop 2).head?=aa (.v (.int .i64 x.gz)))/\(∀(x:Rl) (tok:Tok) (sz:Nat) (rows:List (List AV)),((aS x tok sz rows).drop 3).take 5=r5 x tok sz rows)/\(∀(x:Rl) (tok:Tok) (sz:Nat) (rows:List (List AV)),((aS x tok sz rows).drop 0).take 8=aS x tok sz rows):=
 ⟨λ_ _ _ _=>rfl,λ_ _ _ _=>rfl,λ_ _ _ _=>rfl,λ_ _ _ _=>rfl,λ_ _ _ _=>rfl,λ_ _ _ _=>rfl⟩
end
def gV:cU aq 28=aa 10:=ai
def mU:cU aq 62=aa 8:=ai
def yh:cU aq 22=aa 1:=ai
def FQ:cU aq 23=aa 1:=ai
def wA:cU aq 24=aa 1:=ai
def iE:fZ aq 28=aa ab:=ai
def pb:fZ aq 62=aa ab:=ai
def oA:fZ aq 22=aa ak:=ai
def nq:fZ aq 23=aa ak:=ai
mutual
def cZ:Ex->Nat
 | .mk _ _ _ _ l=>fI l+1
def fI:List Ex->Nat
 | []=>0
 |x::r=>cZ x+fI r
end
def DF:∀x:Ex,jr x<=cZ x:=by
 intro x
 induction x using Ex.ind with
 |h k n no name l ih=>
  rw[jr,cZ];have:∀r:List Ex,(∀y∈r,y∈l)->iO r<=fI r:=by
   intro r
   induction r with
   |nil=>intro _;rw[iO,fI];exact aK _|cons y r ihr=>intro cQ;rw[iO,fI];have h1:=ih y (cQ y dQ);have h2:=ihr λz hz=>cQ z (dG _ hz);omega
  have:=this l λ_ h=>h;omega
variable {α:Type}
def Row.yO{x:Ex}{k n no:Int}{s:List UInt8}{tok:Tok}{sz:Nat}{rows:List (List AV)}(h:Row x (ar k n no s tok sz rows)):Pol.Rows x.l rows/\(∀i:Nat,i<x.l.length->sz=5)/\x.l.length<=9223372036854775807:=by obtain⟨tok',sz',rows',he,h1,h2,h3⟩:=Row.iQ h;simp only[ar,List.cons.injEq,AV.list.injEq,and_true] at he;obtain⟨-,-,-,-,rfl,rfl,rfl⟩:=he;exact⟨h1,h2,h3⟩
def nS:(fa aq 26).bind AV.cF=aa (ar 0 0 0 [] .nil 0 []):=ai
section
variable {k n no d:Int} {s:List UInt8} {tok:Tok} {sz:Nat} {rows:List (List AV)}
end
def Ky:(fa aq 62).bind AV.cF=aa (aS ⟨[],0,0,.mk 0 0 0 [] []⟩ .nil 0 []):=ai
def FC:∀{rows:List (List AV)},(∀r∈rows,oR r r=ab)->pX rows rows=ab:=by
 intro rows
 induction rows with
 |nil=>intro _;rfl|cons r rows ih=>intro h;rw[pX,h r dQ,ih λq hq=>h q (dG _ hq)];rfl
def CB(k:Tok):CA k k=ab:=by cases k<;>simp[CA]
def Row.same:∀(x:Ex) (r:List AV),Row x r->oR r r=ab:=by
 intro x
 induction x using Ex.ind with
 |h k n no name l ih=>
  intro r hr;obtain⟨tok,sz,rows,rfl,cu,-,-⟩:=Row.iQ hr;have:pX rows rows=ab:=FC λq hq=>by obtain⟨i,hi,rfl⟩:=wN.1 hq;have qA:i<l.length:=(by have:=cu.1;simp only[Ex.l] at this;omega);exact ih l[i] (List.getElem_mem qA) _ (cu.2 i _ _ (by simp only[Ex.l];exact cv qA) (cv hi))
  simp[ar,oR,fN,pY,this,CB]
def Rows.same{l:List Ex}{rows:List (List AV)}(h:Pol.Rows l rows):pX rows rows=ab:=FC λq hq=>by
 obtain⟨i,hi,rfl⟩:=wN.1 hq;have qA:i<l.length:=by have:=h.1;omega
 exact Row.same l[i] _ (h.2 i _ _ (cv qA) (cv hi))
def Dl{h:ae}{k:Tok}{sz:Nat}{rows:List (List AV)}{r:List AV}(hk:dx 0 h k)(hs:sz=5∨(rows=[]/\k=.nil))(hl:rows.length<=70000):
 iM aq h #[24,24] (.list k sz rows) (.list .tight 5 [r])=aa (.list (.free h.tn) 5 (rows++[r]),h.app k):=by
 have hi:(aq.info? 26).map (λi=>(i.bytes,i.size,i.zero.map λz=>z.cells.size))=aa (64,5,aa 5):=ai;cases hq:aq.info? 26 with
 |none=>rw[hq] at hi;cases hi
 |some i=>
  rw[hq] at hi;simp only[cy,aY,aW] at hi;obtain⟨i1,i2,i3⟩:=hi;have:=wV (k':=.tight) (new:=[r]) (es:=rows) j6 j6 hq aj (by rw[i3,i2]) bh (by rw[i1];simp only[oY];omega) (by simp only[oY];omega)
   (by rw[i2];exact hs) hk
  rw[i2] at this;exact this
section
variable {h:ae} {b:Nat} {k n no k' n' no':Int} {s s':List UInt8} {tok tok':Tok} {sz sz':Nat} {rows rows':List (List AV)}
def lI(hb:h.boxes[b]?=aa (ar k n no s tok sz rows)):dz aq Gt h 26 (.ptr (.box b) 0)=aa (.agg (ar k n no s tok sz rows)):=nH eG ec hb (aK _)
def qT(hb:h.boxes[b]?=aa (ar k n no s tok sz rows)):dh aq h 26 (.ptr (.box b) 0) (.agg (ar k' n' no' s' tok' sz' rows'))=aa (h.put b (ar k' n' no' s' tok' sz' rows')):=dK (off:=0) (cs:=ar k n no s tok sz rows) (xs:=ar k' n' no' s' tok' sz' rows') rfl ec hb rfl (aK 5)
end
def bH{h:ae}{z cs:List AV}{b:Nat}(hb:b=h.boxes.length):(h.push z).put b cs=h.push cs:=by subst hb;exact E3 h z cs
def eW{h:ae}{z cs:List AV}{b:Nat}(hb:b≠h.boxes.length):(h.push z).put b cs=(h.put b cs).push z:=by
 unfold ae.push ae.put;simp only;congr 1;rcases dp b h.boxes.length with ay|dy
 ·rw[List.set_append_left _ _ ay]
 ·rw[List.set_append_right _ _ dy,Sk (by simp;omega),Sk dy]
def dA{h:ae}{x y:List AV}{b:Nat}:(h.put b x).put b y=h.put b y:=by unfold ae.put;simp
def Kj(l:List (List UInt8)):qU (strs l)=aa l:=by
 induction l with
 |nil=>rfl|cons s l ih=>show qU ([.v (.string (bs s))]::strs l)=_;rw[qU,ih];rfl
def JN(h:ae)(k:Tok)(sz:Nat)(l:List (List UInt8))(hz:∀i:Nat,i<l.length->sz=1):rowsOf h 1 (.list k sz (strs l))=aa (strs l):=by
 unfold rowsOf;simp only;rw[aB];cases l with|nil=>right;rfl|cons s l=>left;exact hz 0 bh
def zP:Po:=⟨[],[],[],[],.mk 0 0 0 [] [],0⟩
def zT:PT:=⟨.nil,0,.nil,0,.nil,0,[],.nil,0,[]⟩
def zR:Rl:=⟨[],0,0,.mk 0 0 0 [] []⟩
def qX:(fa aq 28).bind AV.cF=aa (au zP zT):=ai
def agl:Row (.mk 0 0 0 [] []) (ar 0 0 0 [] .nil 0 []):=.mk _ _ _ _ _ _ _ _ rfl (λi hi=>absurd hi (ik i)) (cz _) (λi x r h=>by simp at h)
def wI:ek zP zT:=⟨eo.nil,agl,λi hi=>absurd hi (ik i),λi hi=>absurd hi (ik i),λi hi=>absurd hi (ik i),cz _,cz _,cz _⟩
section
variable {h:ae} {b:Nat} {k n no:Int} {s:List UInt8} {x x':Rl} {p p':Po} {t t':PT} {e:Ex} {tok tok':Tok} {sz sz':Nat} {rows rows':List (List AV)} {i:Int}
def nG(hb:h.boxes[b]?=aa (aS x tok sz rows)):dz aq Gt h 62 (.ptr (.box b) 0)=aa (.agg (aS x tok sz rows)):=nH pb mU hb (aK _)
def pR(hb:h.boxes[b]?=aa (aS x tok sz rows)):dz aq Gt h 26 (.ptr (.box b) 3)=aa (.agg (r5 x tok sz rows)):=nH eG ec hb (aj:3+5<=8)
def cT(hb:h.boxes[b]?=aa (au p t)):dz aq Gt h 28 (.ptr (.box b) 0)=aa (.agg (au p t)):=nH iE gV hb (aK _)
def kH(hb:h.boxes[b]?=aa (au p t)):dz aq Gt h 26 (.ptr (.box b) 4)=aa (.agg (p5 p t)):=nH eG ec hb (aj:4+5<=10)
def oq(hb:h.boxes[b]?=aa (aS x tok sz rows)):dh aq h 62 (.ptr (.box b) 0) (.agg (aS x' tok' sz' rows'))=aa (h.put b (aS x' tok' sz' rows')):=dK (off:=0) (cs:=aS x tok sz rows) (xs:=aS x' tok' sz' rows') rfl mU hb rfl (aK 8)
def Kc(hb:h.boxes[b]?=aa (aS x tok sz rows)):dh aq h 3 (.ptr (.box b) 1) (.v (.int .i64 i))=aa (h.put b (aS {x with kG:=i} tok sz rows)):=dK (off:=1) (cs:=aS x tok sz rows) (xs:=[.v (.int .i64 i)]) rfl bQ hb rfl (aj:1+1<=8)
def Kd(hb:h.boxes[b]?=aa (aS x tok sz rows)):dh aq h 26 (.ptr (.box b) 3) (.agg (ar e.kind e.n e.no e.name tok' sz' rows'))=aa (h.put b (aS {x with expr:=e} tok' sz' rows')):=dK (off:=3) (cs:=aS x tok sz rows) (xs:=ar e.kind e.n e.no e.name tok' sz' rows') rfl ec hb rfl (aj:3+5<=8)
def oo(hb:h.boxes[b]?=aa (au p t)):dh aq h 28 (.ptr (.box b) 0) (.agg (au p' t'))=aa (h.put b (au p' t')):=dK (off:=0) (cs:=au p t) (xs:=au p' t') rfl gV hb rfl (aK 10)
def uN(hb:h.boxes[b]?=aa (au p t)):dh aq h 23 (.ptr (.box b) 3) (.list tok' sz' rows')=aa (h.put b (au p {t with tr:=tok',sr:=sz',rr:=rows'})):=dK (off:=3) (cs:=au p t) (xs:=[.list tok' sz' rows']) rfl FQ hb rfl (aj:3+1<=10)
def Kb(hb:h.boxes[b]?=aa (au p t)):dh aq h 26 (.ptr (.box b) 4) (.agg (ar e.kind e.n e.no e.name tok' sz' rows'))=aa (h.put b (au {p with change:=e} {t with tok:=tok',sz:=sz',rows:=rows'})):=dK (off:=4) (cs:=au p t) (xs:=ar e.kind e.n e.no e.name tok' sz' rows') rfl ec hb rfl (aj:4+5<=10)
def Ly(hk:dx 0 h tok)(hs:sz=8∨(rows=[]/\tok=.nil))(hl:rows.length<=70000){r:List AV}:
 iM aq h #[23,23] (.list tok sz rows) (.list .tight 8 [r])=aa (.list (.free h.tn) 8 (rows++[r]),h.app tok):=by
 have hi:(aq.info? 62).map (λi=>(i.bytes,i.size,i.zero.map λz=>z.cells.size))=aa (96,8,aa 8):=ai;cases hq:aq.info? 62 with
 |none=>rw[hq] at hi;cases hi
 |some i=>
  rw[hq] at hi;simp only[cy,aY,aW] at hi;obtain⟨i1,i2,i3⟩:=hi;have:=wV (k':=.tight) (new:=[r]) (es:=rows) lB lB hq aj (by rw[i3,i2]) bh (by rw[i1];simp only[oY];omega) (by simp only[oY];omega)
   (by rw[i2];exact hs) hk
  rw[i2] at this;exact this
def yG:gl aq 23 1 [(0,.agg (aS x tok sz rows))]=aa (.list .tight 8 [aS x tok sz rows]):=ai
end
def Re:(fa aq 3).bind AV.cF=aa [.v (.int .i64 0)]:=ai
section
variable {h:ae} {b:Nat} {k n no d k' n' no' d':Int} {s s':List UInt8} {tok tok':Tok} {sz sz':Nat} {rows rows':List (List AV)}
def Ae{n n':Int}(hb:h.boxes[b]?=aa [.v (.int .i64 n)]):dh aq h 3 (.ptr (.box b) 0) (.v (.int .i64 n'))=aa (h.put b [.v (.int .i64 n')]):=dK (off:=0) (cs:=[.v (.int .i64 n)]) (xs:=[.v (.int .i64 n')]) rfl bQ hb rfl (aK 1)
end
def Aa(x y:AV):dO [x] 0 [y]=[y]:=rfl
section
variable (n no:Int) (s:List UInt8) (tok:Tok) (sz:Nat) (rows:List (List AV)) (h:ae)
end
def S4:fZ aq 4=aa ak:=ai
section
variable {h:ae} {b:Nat} {n n':Int} {x:AV}
end
def aaf{k:Tok}{sz:Nat}{es:List (List AV)}:(AV.list k sz es).cF=aa [.list k sz es]:=rfl
mutual
def ee(n:Int):Ex->Ex
 | .mk k m _ s l=>.mk k m n s (fR n l)
def fR(n:Int):List Ex->List Ex
 | []=>[]
 |x::r=>ee n x::fR n r
end
def Ex.xN{p:Ex->Prop}{q:List Ex->Prop}(hm:∀k n no s l,q l->p (.mk k n no s l))(h0:q [])(h1:∀x r,p x->q r->q (x::r)):(∀x,p x)/\∀l,q l:=by
 have hp:∀x,p x:=by
  intro x
  induction x using Ex.ind with
  |h k n no s l ih=>
   refine hm k n no s l ?_
   induction l with
   |nil=>exact h0|cons y r ihr=>exact h1 y r (ih y dQ) (ihr λz hz=>ih z (dG _ hz))
 refine⟨hp,λl=>?_⟩
 induction l with
 |nil=>exact h0|cons y r ihr=>exact h1 y r (hp y) ihr
def L8(n:Int):(∀x,cZ (ee n x)=cZ x)/\∀l,fI (fR n l)=fI l:=
 Ex.xN (λk a no s l h=>by rw[ee,cZ,cZ,h]) (by rw[fR]) (λx r h1 h2=>by rw[fR,fI,h1,h2,fI])
def ji(x y:Ex):Prop:=ee 0 x=ee 0 y
def ji.cZ{x y:Ex}(h:ji x y):Proofs.YtmdakolcndpjeaaGreatDoor.cZ x=Proofs.YtmdakolcndpjeaaGreatDoor.cZ y:=by rw[<-(L8 0).1 x,<-(L8 0).1 y,h]
section
variable {h:ae} {b:Nat} {p:Po} {t:PT} {tok':Tok} {sz':Nat} {n:Int}
def afa{l:List (List UInt8)}(hb:h.boxes[b]?=aa (au p t)):dh aq h 22 (.ptr (.box b) 2) (.list tok' sz' (strs l))=aa (h.put b (au {p with aO:=l} {t with to:=tok',so:=sz'})):=dK (off:=2) (cs:=au p t) (xs:=[.list tok' sz' (strs l)]) rfl yh hb rfl (aj:2+1<=10)
def ae9(hb:h.boxes[b]?=aa (au p t)):dh aq h 22 (.ptr (.box b) 1) (.list tok' sz' [])=aa (h.put b (au {p with kinds:=[]} {t with tk:=tok',sk:=sz'})):=dK (off:=1) (cs:=au p t) (xs:=[.list tok' sz' []]) rfl yh hb rfl (aj:1+1<=10)
end
section
variable {H:Type}
def c3:aq.cellsOf 3=1:=ai
def c9:aq.cellsOf 9=1:=ai
def UC:aq.cellsOf 22=1:=ai
def UD:aq.cellsOf 23=1:=ai
def c24:aq.cellsOf 24=1:=ai
def GZ:aq.cellsOf 26=5:=ai
def c28:aq.cellsOf 28=10:=ai
def LW:aq.cellsOf 62=8:=ai
def Mx:KH aq 26 24:=⟨ai,j6,GD,fH,c3,c9,GZ,c24⟩
def Kh:yf aq 28 [(9,0),(22,1),(22,2),(23,3),(26,4),(3,9)]=ab:=ai
def afk:yf aq 62 [(9,0),(3,1),(3,2),(26,3)]=ab:=ai
def len8{α:Type}{l:List α}(h:l.length=8):∃a b c d e f g i,l=[a,b,c,d,e,f,g,i]:=by
 match l,h with
 | [a,b,c,d,e,f,g,i],_=>exact⟨a,b,c,d,e,f,g,i,rfl⟩
def ZY{α:Type}{l:List α}(h:l.length=10):∃a b c d e f g i j k,l=[a,b,c,d,e,f,g,i,j,k]:=by
 match l,h with
 | [a,b,c,d,e,f,g,i,j,k],_=>exact⟨a,b,c,d,e,f,g,i,j,k,rfl⟩
def MW{cs:List AV}{d:DataW H}(h:Has aq 22 cs d):∃k l,cs=[.list k 1 (strs l)]/\l.length<=9223372036854775807:=by
 obtain⟨k,es,rfl,hl,-,-,he⟩:=h.FE o9;obtain⟨l,rfl⟩:∃l:List (List UInt8),es=l.map λs=>[.v (.string (bs s))]:=adq λr hr=>by obtain⟨-,d,hd⟩:=he r hr;obtain⟨s,hs,-⟩:=hd.Ah fH;exact⟨s,hs⟩
 refine⟨k,l,by rw[c9];rfl,?_⟩;simp[maxLen] at hl;omega
def XO{cs:List AV}{d:DataW H}(h:Has aq 62 cs d):∃x:Rl,oz x cs:=by obtain⟨hl,hg⟩:=h.fields afk;rw[LW] at hl;obtain⟨a0,a1,a2,a3,a4,a5,a6,a7,rfl⟩:=len8 hl;obtain⟨_,q0⟩:=hg 0 9 0 rfl;obtain⟨_,q1⟩:=hg 1 3 1 rfl;obtain⟨_,q2⟩:=hg 2 3 2 rfl;obtain⟨_,q3⟩:=hg 3 26 3 rfl;rw[c9] at q0;rw[c3] at q1 q2;rw[GZ] at q3;obtain⟨s,r0,-⟩:=q0.Ah fH;obtain⟨n1,r1,-⟩:=q1.vG GD;obtain⟨n2,r2,-⟩:=q2.vG GD;obtain⟨x,hx⟩:=(MV Mx q3).1 rfl;simp at r0 r1 r2;subst r0;subst r1;subst r2;exact⟨⟨s,n1,n2,x⟩,_,hx,rfl⟩
def adK:∀{es:List (List AV)},(∀r∈es,∃x,oz x r)->∃l:List Rl,eo l es:=by
 intro es
 induction es with
 |nil=>intro _;exact⟨[],eo.nil⟩|cons r es ih=>
  intro h;obtain⟨x,hx⟩:=h r dQ;obtain⟨l,h1,h2⟩:=ih λr hr=>h r (dG _ hr);refine⟨x::l,by simp[h1],λi y s q1 q2=>?_⟩;cases i with|zero=>simp at q1 q2;subst q1;subst q2;exact hx|succ i=>exact h2 i y s (by simpa using q1) (by simpa using q2)
def XM{cs:List AV}{d:DataW H}(h:Has aq 28 cs d):∃p t,cs=au p t/\ek p t:=by
 obtain⟨hl,hg⟩:=h.fields Kh;rw[c28] at hl;obtain⟨a0,a1,a2,a3,a4,a5,a6,a7,a8,a9,rfl⟩:=ZY hl;obtain⟨_,q0⟩:=hg 0 9 0 rfl;obtain⟨_,q1⟩:=hg 1 22 1 rfl;obtain⟨_,q2⟩:=hg 2 22 2 rfl;obtain⟨_,q3⟩:=hg 3 23 3 rfl;obtain⟨_,q4⟩:=hg 4 26 4 rfl;obtain⟨_,q5⟩:=hg 5 3 9 rfl;rw[c9] at q0;rw[UC] at q1 q2;rw[UD] at q3;rw[GZ] at q4;rw[c3] at q5;obtain⟨s,r0,-⟩:=q0.Ah fH;obtain⟨k1,l1,r1,b1⟩:=MW q1;obtain⟨k2,l2,r2,b2⟩:=MW q2;obtain⟨k3,es,r3,b3,-,-,he⟩:=q3.FE lB;obtain⟨x,hx⟩:=(MV Mx q4).1 rfl;obtain⟨n5,r5',-⟩:=q5.vG GD;obtain⟨lr,Nw⟩:=adK (es:=es) λr hr=>by obtain⟨-,d,hd⟩:=he r hr;exact XO hd
 obtain⟨tok,sz,rows,et,-⟩:=Row.iQ hx;simp only[ar] at et;simp at r0 r1 r2 r3 et r5';subst r0;subst r1;subst r2;subst r3;subst r5';obtain⟨rfl,rfl,rfl,rfl,rfl⟩:=et;rw[LW];refine⟨⟨s,l1,l2,lr,x,n5⟩,⟨k1,1,k2,1,k3,8,es,tok,sz,rows⟩,rfl,⟨Nw,hx,λ_ _=>rfl,λ_ _=>rfl,λ_ _=>rfl,b1,b2,?_⟩⟩;have:=Nw.1;show lr.length<=_;simp[maxLen] at b3;omega
def XN{x:AV}{d:DataW H}(h:jE aq 28 x d):∃p t,x=.agg (au p t)/\ek p t:=by obtain⟨xs,rfl,-⟩:=h.fields Kh;obtain⟨fs,hu,-⟩:=FO Kh;obtain⟨ys,hy,h2⟩:=h.CI hu;injection hy with hy;subst hy;obtain⟨p,t,rfl,ok⟩:=XM h2;exact⟨p,t,rfl,ok⟩
end
section
variable {P:Program} {G:Nat->Option (List AV)} {R:Rec}
def FJ{ops:Array Oper}{e:Env}{h:ae}{i j:Nat}{o:Oper}{t:aE}{a:Operand}(oH:kQ ops i j=ab)(ho:ops[j]?=aa o)(aR:o.op=.load t a)
 (hj:(ops[i]?).map (λo=>gG o.op)=aa .fp) {x v:AV} (hv:fN v v=ab)
 (h1:bB P G R ops (ops.toList.take j) e h (λq er hr=>q=.normal/\cd ops er o=aa ab/\er.eval a=x/\dz P G hr t x=aa v))
 (h2:bB P G R ops (ops.toList.take i) e h (λq _ hm=>q=.normal/\dz P G hm t x=aa v)):hZ P G R ops e h i j=ab:=by
 have hi:i<ops.size:=by
  rcases dp i ops.size with hh|hh
  ·exact hh
  ·rw[tB hh] at hj;cases hj
 have HY:j<ops.size:=by
  rcases dp j ops.size with hh|hh
  ·exact hh
  ·rw[tB hh] at ho;cases ho
 have hc:(ops[j]?).map (λo=>gG o.op)=aa .reads:=by rw[ho];simp only[cy,aR];rfl
 unfold hZ;rw[oH,hc,hj];simp only[qb];unfold lq;rw[ho,s8 aj,s8 aj];obtain⟨q1,er,hr,e1,rfl,e0,e2,e3⟩:=h1;obtain⟨q2,em,hm,f1,rfl,f2⟩:=h2;rw[e1,f1];simp only[e0,aR,e2,e3,f2,hv]
def FL{ops:Array Oper}{e:Env}{h:ae}{i j:Nat}{o:Oper}{t:aE}{a:Operand}(oH:kQ ops i j=ab)(ho:ops[j]?=aa o)(aR:o.op=.load t a)
 (hj:(ops[i]?).map (λo=>gG o.op)=aa .fp)
 (h1:bB P G R ops (ops.toList.take j) e h (λq er hr=>q=.normal/\cd ops er o=aa ak))
 (h2:bB P G R ops (ops.toList.take i) e h (λq _ hm=>q=.normal)):hZ P G R ops e h i j=ab:=by
 have hi:i<ops.size:=by
  rcases dp i ops.size with hh|hh
  ·exact hh
  ·rw[tB hh] at hj;cases hj
 have HY:j<ops.size:=by
  rcases dp j ops.size with hh|hh
  ·exact hh
  ·rw[tB hh] at ho;cases ho
 have hc:(ops[j]?).map (λo=>gG o.op)=aa .reads:=by rw[ho];simp only[cy,aR];rfl
 unfold hZ;rw[oH,hc,hj];simp only[qb];unfold lq;rw[ho,s8 aj,s8 aj];obtain⟨q1,er,hr,e1,rfl,e0⟩:=h1;obtain⟨q2,em,hm,f1,rfl⟩:=h2;rw[e1,f1];simp only[e0]
end
def aev{P:Program}{t e:aE}{k:Tok}{kk:IntKind}{sz:Nat}{es:List (List AV)}{lo:Int}(hu:P.underlying t=aa (.slice e))(hs:cU P e=aa sz)(h0:0<=lo)(h1:lo<=es.length):
 qS P t (.list k sz es) (aa (.v (.int kk lo))) none none=aa (.list (jq k ab ak (es.length - lo.toNat)) sz (es.drop lo.toNat)):=by
 have hb:gM es.length (aa (.v (.int kk lo))) 0=aa lo.toNat:=by unfold gM;simp[h0];omega
 have hn:gM es.length none es.length=aa es.length:=rfl;unfold qS;simp[hu,hs,hb,hn]
end Go.Proofs.YtmdakolcndpjeaaGreatDoor
end
section
namespace Go.Syn
open Go.AE Go.Lex Go.Pol
def mr:List UInt8:=[112,111,108,105,99,121]
def mq:List UInt8:=[109,111,100,101]
def pN:List UInt8:=[111,108,100]
def pM:List UInt8:=[110,101,119]
def pK:List UInt8:=[98,111,116,104]
def pL:List UInt8:=[101,105,116,104,101,114]
def dM:List UInt8:=[111,102,102,105,99,101]
def ez:List UInt8:=[107,105,110,100]
def eN:List UInt8:=[114,117,108,101]
def nF:List UInt8:=[116,104,105,110,107]
def jR:List UInt8:=[99,104,97,110,103,101]
def jz:List UInt8:=[115,111,109,101]
def lf:List UInt8:=[119,101,105,103,104,116]
def gx:List UInt8:=[111,102]
def ld:List UInt8:=[117,112,116,111]
def nE:List UInt8:=[101,108,115,101]
def bK:List UInt8:=[59]
def gn:List UInt8:=[61]
def gF:List UInt8:=[40]
def gm:List UInt8:=[41]
def gd:List UInt8:=[44]
def words:List (List UInt8):=[mr,mq,pN,pM,pK,pL,dM,ez,eN,nF,jR,jz,lf,gx,ld,nE]
inductive PR (α:Type) where
 |ok (x:α) (r:List Tk)
 |bad (r:List Tk)
def PR.bind{α β:Type}:PR α->(α->List Tk->PR β)->PR β
 | .ok x r,f=>f x r
 | .bad r,_=>.bad r
def PR.left{α:Type}:PR α->List Tk
 | .ok _ r=>r
 | .bad r=>r
def cq(s:List UInt8):List Tk->Bool
 | []=>ak
 |t::_=> !decide (t.kind=2)&&decide (t.text=s)
def cS(s:List UInt8)(l:List Tk):PR Unit:=if cq s l=ab then .ok () l.tail else .bad l
def fm:List (List UInt8)->List Tk->PR Unit
 | [],l=>.ok () l
 |s::w,l=>(cS s l).bind λ_ r=>fm w r
def rJ(t:Tk):Bool:=decide (t.kind=1)&& !words.contains t.text
def iw:List Tk->PR (List UInt8)
 | []=>.bad []
 |t::r=>if rJ t=ab then .ok t.text r else .bad (t::r)
def iy:List Tk->PR Int
 | []=>.bad []
 |t::r=>if t.kind=2 then .ok t.n r else .bad (t::r)
def cD{α:Type}(s:List UInt8)(item:List Tk->PR α):Nat->List Tk->PR (List α)
 |0,l=>.bad l
 |m+1,l=>if cq s l=ab then (item l).bind λx r=>(cD s item m r).bind λt r=>.ok (x::t) r else .ok [] l
def nD(e:List Tk->PR Ex)(l:List Tk):PR Ex:=(cS gF l).bind λ_ r=>(e r).bind λx r=>(cS gm r).bind λ_ r=>.ok x r
def iV(e:List Tk->PR Ex)(l:List Tk):PR Ex:=(cS gd l).bind λ_ r=>e r
def cp:Nat->List Tk->PR Ex
 |0,l=>.bad l
 |m+1,l=>
  if cq jz l=ab then (iw l.tail).bind λs r=>.ok (.mk 1 0 0 s []) r
  else if cq lf l=ab then (iy l.tail).bind λn r=>(cS gx r).bind λ_ r=>(iw r).bind λs r=>.ok (.mk 2 n 0 s []) r
  else if cq ld l=ab then (iy l.tail).bind λn r=>(nD (cp m) r).bind λa r=>(cS nE r).bind λ_ r=>(nD (cp m) r).bind λb r=>.ok (.mk 4 n 0 [] [a,b]) r
  else (iy l).bind λn r=>(fm [gx,gF] r).bind λ_ r=>(cp m r).bind λa r=>(cD gd (iV (cp m)) (m+1) r).bind λt r=>(cS gm r).bind λ_ r=>.ok (.mk 3 n 0 [] (a::t)) r
def hX:List (Int × List UInt8)->Int->List Tk->PR Int
 | [],n,l=>if n=0 then .bad l else .ok n l
 |(i,s)::w,n,l=>if cq s l=ab then hX w i l.tail else hX w n l
def jT:List (Int × List UInt8):=[(1,pN),(2,pM),(3,pK),(4,pL)]
def rq(l:List Tk):PR (List UInt8 × Int):=(cS mr l).bind λ_ r=>(iw r).bind λs r=>(fm [bK,mq] r).bind λ_ r=>(hX jT 0 r).bind λn r=>(cS bK r).bind λ_ r=>.ok (s,n) r
def gq(s:List UInt8)(l:List Tk):PR (List UInt8):=(cS s l).bind λ_ r=>(iw r).bind λx r=>(cS bK r).bind λ_ r=>.ok x r
def iA(m:Nat)(l:List Tk):PR Rl:=(cS eN l).bind λ_ r=>(iw r).bind λs r=>(cS nF r).bind λ_ r=>(iy r).bind λn r=>(cS gn r).bind λ_ r=>(cp m r).bind λx r=>(cS bK r).bind λ_ r=>.ok ⟨s,0,n,x⟩ r
def yE(m:Nat)(l:List Tk):PR Po:=
 (rq l).bind λh r=>(cD dM (gq dM) m r).bind λo r=>(cD ez (gq ez) m r).bind λk r=>(cD eN (iA m) m r).bind λw r=>(fm [jR,gn] r).bind λ_ r=>(cp m r).bind λx r=>.ok ⟨h.1,k,o,w,x,h.2⟩ r
def mQ(m:Nat)(l:List Tk):PR Po:=(yE m l).bind λp r=>(cS bK r).bind λ_ r=>.ok p r
def mX(m:Nat)(l:List Tk):PR Po:=(mQ m l).bind λp r=>if r=[] then .ok p r else .bad r
def wT(s:List UInt8):Tk:=if words.contains s=ab then ⟨1,s,0,0⟩ else ⟨3,s,0,0⟩
def nT(s:List UInt8):Tk:=⟨1,s,0,0⟩
def dT(n:Int):Tk:=⟨2,[],n,0⟩
mutual
def cM:Ex->List Tk
 | .mk k n _ s l=>if k=1 then [wT jz,nT s] else if k=2 then [wT lf,dT n,wT gx,nT s] else if k=4 then wT ld::dT n::gK ab l else dT n::wT gx::wT gF::(eD ab l++[wT gm])
def gK:Bool->List Ex->List Tk
 |_,[]=>[]
 |first,x::r=>(if first=ab then [] else [wT nE])++(wT gF::(cM x++wT gm::gK ak r))
def eD:Bool->List Ex->List Tk
 |_,[]=>[]
 |first,x::r=>(if first=ab then [] else [wT gd])++(cM x++eD ak r)
end
def pS(n:Int):List UInt8:=if n=1 then pN else if n=2 then pM else if n=3 then pK else if n=4 then pL else []
def ia(s:List UInt8)(l:List (List UInt8)):List Tk:=l.flatMap λx=>[wT s,nT x,wT bK]
def bP(x:Rl):List Tk:=[wT eN,nT x.kind,wT nF,dT x.gz,wT gn]++(cM x.expr++[wT bK])
def dH(p:Po):List Tk:=[wT mr,nT p.name,wT bK,wT mq,nT (pS p.mode),wT bK]++(ia dM p.aO++(ia ez p.kinds++(p.rules.flatMap bP++([wT jR,wT gn]++(cM p.change++[wT bK])))))
def PR.Oy{α:Type}:PR α->PR α->Prop
 | .ok x r,.ok y s=>x=y/\mT r s=ab
 | .bad r,.bad s=>mT r s=ab
 |_,_=>False
def PR.put{α:Type}:PR α->List Tk->PR α
 | .ok x _,s=>.ok x s
 | .bad _,s=>.bad s
structure fo{α:Type}(P:List Tk->PR α):Prop where
 le:∀l,∃c,l=c++(P l).left
 xe:∀p u v s,s≠[]->(P (p++u)).left=s++u->P (p++v)=(P (p++u)).put (s++v)
 same:∀l l',mT l l'=ab->(P l).Oy (P l')
def afm{c l r:List Tk}(h:l=c++r):r.length<=l.length:=by rw[h,cO];omega
def fo.len{α:Type}{P:List Tk->PR α}(h:fo P)(l:List Tk):(P l).left.length<=l.length:=by obtain⟨c,hc⟩:=h.le l;exact afm hc
def Cz{l:List Tk}(h:mT [] l=ab):l=[]:=by cases l with|nil=>rfl|cons _ _=>cases h
def FA{t:Tk}{r l:List Tk}(h:mT (t::r) l=ab):∃u s,l=u::s/\wk t u=ab/\mT r s=ab:=by
 cases l with
 |nil=>cases h
 |cons u s=>rw[JY,aL] at h;exact⟨u,s,rfl,h.1,h.2⟩
def ad8{l m:List Tk}(h:mT l m=ab):mT l.tail m.tail=ab:=by
 cases l with|nil=>rw[Cz h];rfl|cons t r=>obtain⟨u,s,rfl,-,h2⟩:=FA h;exact h2
def J1{t u:Tk}:wk t u=ab↔t.kind=u.kind/\t.text=u.text/\t.n=u.n:=by simp[wk,and_assoc]
def Og(s:List UInt8){l m:List Tk}(h:mT l m=ab):cq s l=cq s m:=by
 cases l with|nil=>rw[Cz h]|cons t r=>obtain⟨u,w,rfl,h1,h2⟩:=FA h;obtain⟨a,b,-⟩:=J1.1 h1;simp only[cq,a,b]
def Of(s:List UInt8){p:List Tk}(hp:p≠[])(u v:List Tk):cq s (p++u)=cq s (p++v):=by
 cases p with|nil=>exact absurd rfl hp|cons t r=>rfl
def afz{p:List Tk}(hp:p≠[])(u:List Tk):(p++u).tail=p.tail++u:=by
 cases p with|nil=>exact absurd rfl hp|cons t r=>rfl
def tail_suffix(l:List Tk):∃c,l=c++l.tail:=by
 cases l with|nil=>exact⟨[],rfl⟩|cons t r=>exact⟨[t],rfl⟩
section
variable {α β:Type}
def nJ(x:α):fo (λl=>PR.ok x l):=
 ⟨λl=>⟨[],rfl⟩,λp u v s _ h=>by have h:p++u=s++u:=h;rw[Gf h];rfl,λl l' h=>⟨rfl,h⟩⟩
def EH:fo (λl=>(PR.bad l:PR α)):=
 ⟨λl=>⟨[],rfl⟩,λp u v s _ h=>by have h:p++u=s++u:=h;rw[Gf h];rfl,λl l' h=>h⟩
def Jh{P:List Tk->PR α}{p u s:List Tk}(hl:∀l,∃c,l=c++(P l).left)(hs:s≠[])(h:(P (p++u)).left=s++u):p≠[]:=by intro hp;subst hp;obtain⟨c,hc⟩:=hl ([]++u);rw[h] at hc;have:=congrArg qY hc;simp only[bT,cO] at this;have:=List.length_pos_iff.2 hs;omega
def BY(s:List UInt8){P Q:List Tk->PR α}(hP:fo P)(hQ:fo Q):fo (λl=>if cq s l=ab then P l.tail else Q l):=by
 have hl:∀l,∃c,l=c++(if cq s l=ab then P l.tail else Q l).left:=λl=>by
  by_cases h:cq s l=ab
  ·simp only[h,if_true];obtain⟨c,hc⟩:=hP.le l.tail;obtain⟨d,hd⟩:=tail_suffix l;exact⟨d++c,by rw[lz,<-hc];exact hd⟩
  ·simp only[h,if_false];exact hQ.le l
 refine⟨hl,λp u v w hw h=>?_,λl l' h=>?_⟩
 ·have hp:p≠[]:=Jh (P:=λl=>if cq s l=ab then P l.tail else Q l) hl hw h;have e:=Of s hp u v;simp only[<-e] at h ⊢;by_cases q:cq s (p++u)=ab
  ·simp only[q,if_true,afz hp] at h ⊢;exact hP.xe _ _ _ _ hw h
  ·simp only[q,if_false] at h ⊢;exact hQ.xe _ _ _ _ hw h
 ·have e:=Og s h;simp only[<-e];by_cases q:cq s l=ab
  ·simp only[q,if_true];exact hP.same _ _ (ad8 h)
  ·simp only[q,if_false];exact hQ.same _ _ h
def dW{P:List Tk->PR α}{f:α->List Tk->PR β}(hP:fo P)(hf:∀x,fo (f x)):fo (λl=>(P l).bind f):=by
 refine⟨λl=>?_,λp u v s hs h=>?_,λl l' h=>?_⟩
 ·obtain⟨c,hc⟩:=hP.le l;cases e:P l with
  |ok x r=>rw[e] at hc;obtain⟨d,hd⟩:=(hf x).le r;exact⟨c++d,by rw[lz,show(PR.ok x r).bind f=f x r from rfl,<-hd];exact hc⟩
  |bad r=>rw[e] at hc;exact⟨c,hc⟩
 ·cases e:P (p++u) with
  |ok x r=>simp only[e] at h;have h:(f x r).left=s++u:=h;obtain⟨c,hc⟩:=hP.le (p++u);rw[e] at hc;have hc:p++u=c++r:=hc;obtain⟨d,hd⟩:=(hf x).le r;rw[h] at hd;rw[<-lz] at hd;have bL:d++s≠[]:=(by intro q;exact hs (List.append_eq_nil_iff.1 q).2);have e2:=hP.xe p u v (d++s) bL (by rw[e];exact hd);rw[e] at e2;rw[e2];subst hd;exact(hf x).xe (d++s) u v s hs h
  |bad r=>simp only[e] at h;have h:r=s++u:=h;have e2:=hP.xe p u v s hs (by rw[e];exact h);rw[e2,e];rfl
 ·have h1:=hP.same l l' h;cases e:P l with
  |ok x r=>
   cases e2:P l' with
   |ok y t=>rw[e,e2] at h1;obtain⟨rfl,h3⟩:=h1;exact(hf x).same _ _ h3
   |bad t=>rw[e,e2] at h1;exact h1.elim
  |bad r=>
   cases e2:P l' with|ok y t=>rw[e,e2] at h1;exact h1.elim|bad t=>rw[e,e2] at h1;exact h1
def iW(s:List UInt8):fo (cS s):=BY s (nJ ()) EH
def vO:∀w,fo (fm w)
 | []=>nJ ()
 |s::w=>dW (iW s) λ_=>vO w
def OO{b:Tk->Bool}{g:Tk->α}(hb:∀t u,wk t u=ab->b t=b u/\(b t=ab->g t=g u)):fo (λl=>match l with| []=>PR.bad []|t::r=>if b t=ab then .ok (g t) r else .bad (t::r)):=by
 have hl:∀l:List Tk,∃c,l=c++(match l with| []=>PR.bad []|t::r=>if b t=ab then .ok (g t) r else .bad (t::r):PR α).left:=λl=>by
  cases l with
  |nil=>exact⟨[],rfl⟩|cons t r=>
   by_cases q:b t=ab
   ·simp only[q,if_true];exact⟨[t],rfl⟩
   ·simp only[q,if_false];exact⟨[],rfl⟩
 refine⟨hl,λp u v s hs h=>?_,λl l' h=>?_⟩
 ·have hp:=Jh (P:=λl=>match l with| []=>PR.bad []|t::r=>if b t=ab then .ok (g t) r else .bad (t::r)) hl hs h;cases p with
  |nil=>exact absurd rfl hp|cons t r=>
   simp only[bR] at h ⊢;by_cases q:b t=ab
   ·simp only[q,if_true] at h ⊢;have h:r++u=s++u:=h;rw[Gf h];rfl
   ·simp only[q,if_false] at h ⊢;have h:(t::r)++u=s++u:=h;rw[<-Gf h];rfl
 ·cases l with
  |nil=>rw[Cz h];rfl|cons t r=>
   obtain⟨u,w,rfl,h1,h2⟩:=FA h;obtain⟨e1,e2⟩:=hb t u h1;simp only[<-e1];by_cases q:b t=ab
   ·simp only[q,if_true];exact⟨e2 q,h2⟩
   ·simp only[q,if_false];exact h
def zu:fo iw:=by have:=OO (b:=rJ) (g:=Tk.text) (λt u h=>by obtain⟨a,b,-⟩:=J1.1 h;exact⟨by simp only[rJ,a,b],λ_=>b⟩);refine(congrArg fo (funext λl=>?_)).mp this;cases l<;>rfl
def vN:fo iy:=by
 have:=OO (b:=λt=>decide (t.kind=2)) (g:=Tk.n) (λt u h=>by obtain⟨a,b,c⟩:=J1.1 h;exact⟨by simp only[a],λ_=>c⟩);refine(congrArg fo (funext λl=>?_)).mp this;cases l with|nil=>rfl|cons t r=>simp only[iy,decide_eq_true_eq]
def aa5(s:List UInt8){P Q:List Tk->PR α}(hP:fo P)(hQ:fo Q):fo (λl=>if cq s l=ab then P l else Q l):=by
 have hl:∀l,∃c,l=c++(if cq s l=ab then P l else Q l).left:=λl=>by
  by_cases h:cq s l=ab
  ·simp only[h,if_true];exact hP.le l
  ·simp only[h,if_false];exact hQ.le l
 refine⟨hl,λp u v w hw h=>?_,λl l' h=>?_⟩
 ·have hp:p≠[]:=Jh (P:=λl=>if cq s l=ab then P l else Q l) hl hw h;have e:=Of s hp u v;simp only[<-e] at h ⊢;by_cases q:cq s (p++u)=ab
  ·simp only[q,if_true] at h ⊢;exact hP.xe _ _ _ _ hw h
  ·simp only[q,if_false] at h ⊢;exact hQ.xe _ _ _ _ hw h
 ·have e:=Og s h;simp only[<-e];by_cases q:cq s l=ab
  ·simp only[q,if_true];exact hP.same _ _ h
  ·simp only[q,if_false];exact hQ.same _ _ h
def qI(s:List UInt8){item:List Tk->PR α}(h:fo item):∀m,fo (cD s item m)
 |0=>EH
 |m+1=>aa5 s (dW h λx=>dW (qI s h m) λt=>nJ (x::t)) (nJ [])
def EI{e:List Tk->PR Ex}(h:fo e):fo (nD e):=dW (iW _) λ_=>dW h λx=>dW (iW _) λ_=>nJ x
def OP{e:List Tk->PR Ex}(h:fo e):fo (iV e):=dW (iW _) λ_=>h
def s7:∀m,fo (cp m)
 |0=>EH
 |m+1=>by have ih:=s7 m;refine BY jz (P:=λl=>(iw l).bind λs r=>.ok (Ex.mk 1 0 0 s []) r) (dW zu λs=>nJ _) ?_;refine BY lf (P:=λl=>(iy l).bind λn r=>(cS gx r).bind λ_ r=>(iw r).bind λs r=>.ok (Ex.mk 2 n 0 s []) r) (dW vN λn=>dW (iW _) λ_=>dW zu λs=>nJ _) ?_;refine BY ld (P:=λl=>(iy l).bind λn r=>(nD (cp m) r).bind λa r=>(cS nE r).bind λ_ r=>(nD (cp m) r).bind λb r=>.ok (Ex.mk 4 n 0 [] [a,b]) r) (dW vN λn=>dW (EI ih) λa=>dW (iW _) λ_=>dW (EI ih) λb=>nJ _) ?_;exact dW vN λn=>dW (vO _) λ_=>dW ih λa=>dW (qI _ (OP ih) _) λt=>dW (iW _) λ_=>nJ _
def Jl:∀w n,fo (hX w n)
 | [],n=>by
  by_cases h:n=0
  ·have:hX [] n=λl=>(PR.bad l:PR Int):=(by funext l;simp only[hX,h,if_true]);rw[this];exact EH
  ·have:hX [] n=λl=>PR.ok n l:=(by funext l;simp only[hX,h,if_false]);rw[this];exact nJ n
 |(i,s)::w,n=>BY s (Jl w i) (Jl w n)
def Jk:fo rq:=dW (iW _) λ_=>dW zu λs=>dW (vO _) λ_=>dW (Jl _ _) λn=>dW (iW _) λ_=>nJ _
def uz(s:List UInt8):fo (gq s):=dW (iW _) λ_=>dW zu λx=>dW (iW _) λ_=>nJ _
def EJ(m:Nat):fo (iA m):=dW (iW _) λ_=>dW zu λs=>dW (iW _) λ_=>dW vN λn=>dW (iW _) λ_=>dW (s7 m) λx=>dW (iW _) λ_=>nJ _
def aa4(m:Nat):fo (yE m):=dW Jk λh=>dW (qI _ (uz _) m) λo=>dW (qI _ (uz _) m) λk=>dW (qI _ (EJ m) m) λw=>dW (vO _) λ_=>dW (s7 m) λx=>nJ _
def aa6(m:Nat):fo (mQ m):=dW (aa4 m) λp=>dW (iW _) λ_=>nJ p
end
def vQ(n:Int):Bool:=decide (0<=n)&&decide (n<=1099511627776)
def lJ(s:List UInt8):Bool:=nI s&& !words.contains s
mutual
def nQ:Ex->Bool
 | .mk k n no s l=>
  if k=1 then decide (n=0)&&(decide (no=0)&&(lJ s&&l.isEmpty))
  else if k=2 then vQ n&&(decide (no=0)&&(lJ s&&l.isEmpty))
  else if k=4 then vQ n&&(decide (no=0)&&(s.isEmpty&&(decide (l.length=2)&&qV l)))
  else decide (k=3)&&(vQ n&&(decide (no=0)&&(s.isEmpty&&(!l.isEmpty&&qV l))))
def qV:List Ex->Bool
 | []=>ab
 |x::r=>nQ x&&qV r
end
def wG(x:Rl):Bool:=lJ x.kind&&(decide (x.kG=0)&&(vQ x.gz&&nQ x.expr))
def j0(p:Po):Bool:=(decide (1<=p.mode)&&decide (p.mode<=4))&&(lJ p.name&&(p.aO.all lJ&&(p.kinds.all lJ&&(p.rules.all wG&&nQ p.change))))
def F5:∀{l:List Ex},qV l=ab->∀x∈l,nQ x=ab:=by
 intro l
 induction l with
 |nil=>intro _ x h;cases h
 |cons y r ih=>
  intro h x hx;rw[qV,aL] at h;rcases fe.1 hx with e|e
  ·rw[e];exact h.1
  ·exact ih h.2 x e
def QX(s:List UInt8):(wT s).text=s:=by unfold wT;split<;>rfl
def af4(s:List UInt8):decide ((wT s).kind=2)=ak:=by unfold wT;split<;>rfl
def II(s:List UInt8)(t:Tk)(r:List Tk):cq s (t::r)=(!decide (t.kind=2)&&decide (t.text=s)):=rfl
def xQ(s:List UInt8)(r:List Tk):cq s (wT s::r)=ab:=by rw[II,af4,QX];simp
def uv{s t:List UInt8}(h:decide (t=s)=ak)(r:List Tk):cq s (wT t::r)=ak:=by rw[II,QX,h,CY]
def jD(s:List UInt8)(r:List Tk):cS s (wT s::r)=.ok () r:=by unfold cS;rw[aB (xQ s r)];rfl
def zp(t:Tk)(r:List Tk):iw (t::r)=if rJ t=ab then .ok t.text r else .bad (t::r):=rfl
def BT{s:List UInt8}(h:lJ s=ab)(r:List Tk):iw (nT s::r)=.ok s r:=by
 unfold lJ at h;rw[aL] at h;have:rJ (nT s)=ab:=by simp only[rJ,nT,decide_true,qb];exact h.2
 rw[zp,aB this];rfl
def EM(n:Int)(r:List Tk):iy (dT n::r)=.ok n r:=rfl
def bE{α β:Type}(x:α)(r:List Tk)(f:α->List Tk->PR β):(PR.ok x r).bind f=f x r:=rfl
def IJ(s:List UInt8)(n:Int)(r:List Tk):cq s (dT n::r)=ak:=rfl
def QN(x:Ex):1<=(cM x).length:=by
 cases x with|mk k n no s l=>
 rw[cM];split
 ·simp
 ·split
  ·simp
  ·split<;>simp
def Kq:∀(l:List Ex) (b:Bool),l.length<=(eD b l).length/\∀x∈l,(cM x).length<=(eD b l).length:=by
 intro l
 induction l with
 |nil=>intro b;exact⟨cz _,λx hx=>(nomatch hx)⟩|cons y r ih=>
  intro b;obtain⟨h1,h2⟩:=ih ak;have h3:=QN y;rw[eD];refine⟨by simp only[cO,dD];omega,λx hx=>?_⟩;rcases fe.1 hx with e|e
  ·subst e;simp only[cO];omega
  ·have:=h2 x e;simp only[cO];omega
def aeE{m:Nat}:∀(l:List Ex),(∀x∈l,∀r,cp m (cM x++r)=.ok x r)->∀(f:Nat) (r:List Tk),l.length<f->cD gd (iV (cp m)) f (eD ak l++wT gm::r)=.ok l (wT gm::r):=by
 intro l
 induction l with
 |nil=>
  intro _ f r hf;cases f with|zero=>omega|succ f=>rw[eD];rfl
 |cons x t ih=>
  intro h f r hf;cases f with|zero=>omega|succ f=>have e:eD ak (x::t)++wT gm::r=wT gd::(cM x++(eD ak t++wT gm::r)):=(by rw[eD];simp);rw[e];unfold cD;rw[aB (xQ _ _)];have en:∀z,iV (cp m) (wT gd::z)=cp m z:=λz=>(by unfold iV;rw[jD,bE]);rw[en,h x dQ,bE,ih (λy hy=>h y (dG _ hy)) f r (by simpa using hf),bE]
def Pt:∀x,nQ x=ab->∀m r,(cM x).length<=m->cp m (cM x++r)=.ok x r:=by
 intro x
 induction x using Ex.ind with
 |h k n no s l ih=>
  intro h m r hm;cases m with
  |zero=>have:=QN (.mk k n no s l);omega|succ m=>
   rw[nQ] at h;by_cases h1:k=1
   ·simp only[h1,if_true,aL,decide_eq_true_eq,C7] at h;obtain⟨rfl,rfl,hn,rfl⟩:=h;subst h1;have e:cM (.mk 1 0 0 s [])++r=wT jz::nT s::r:=(by rw[cM];rfl);rw[e];unfold cp;rw[aB (xQ _ _),tH,BT hn];rfl
   by_cases h2:k=2
   ·simp only[h1,h2,if_true,if_false,aL,decide_eq_true_eq,C7] at h;rw[ax bq] at h;simp only[aL,decide_eq_true_eq,C7] at h;obtain⟨-,rfl,hn,rfl⟩:=h;subst h2;have e:cM (.mk 2 n 0 s [])++r=wT lf::dT n::wT gx::nT s::r:=(by rw[cM,ax bq,aB rfl];rfl);rw[e];unfold cp;rw[ax (by rw[uv bq];decide),aB (xQ _ _),tH,EM,bE,jD,bE,BT hn];rfl
   rw[ax h1,ax h2] at h;by_cases h4:k=4
   ·rw[aB h4] at h;simp only[aL,decide_eq_true_eq,C7] at h;obtain⟨-,rfl,rfl,hl,hw⟩:=h;subst h4;obtain⟨a,b,rfl⟩:∃a b,l=[a,b]:=by
     match l,hl with
     | [a,b],_=>exact⟨a,b,rfl⟩
    have e:∀r,cM (.mk 4 n 0 [] [a,b])++r=wT ld::dT n::wT gF::(cM a++wT gm::wT nE::wT gF::(cM b++wT gm::r)):=(by intro r;rw[cM,ax bq,ax bq,aB rfl];simp[gK]);have el:=congrArg qY (e []);simp only[dI,dD,cO] at el;rw[el] at hm;have ha:=ih a bh (F5 hw a bh) m;have hb:=ih b bh (F5 hw b bh) m;rw[e];unfold cp;rw[ax (by rw[uv bq];decide),ax (by rw[uv bq];decide),aB (xQ _ _),tH,EM,bE];unfold nD;rw[jD,bE,ha _ aj,bE,jD,bE,bE,jD,bE,jD,bE,hb _ aj,bE,jD,bE];rfl
   ·rw[ax h4] at h;simp only[aL,decide_eq_true_eq,C7,wM] at h;obtain⟨rfl,-,rfl,rfl,hl,hw⟩:=h;cases l with
    |nil=>cases hl
    |cons a t=>have e:∀r,cM (.mk 3 n 0 [] (a::t))++r=dT n::wT gx::wT gF::(cM a++(eD ak t++wT gm::r)):=(by intro r;rw[cM,ax bq,ax bq,ax bq];simp[eD]);have el:=congrArg qY (e []);simp only[dI,dD,cO] at el;rw[el] at hm;have ha:=ih a dQ (F5 hw a dQ) m;obtain⟨t1,t2⟩:=Kq t ak;rw[e];unfold cp;rw[ax (by rw[IJ];decide),ax (by rw[IJ];decide),ax (by rw[IJ];decide),EM,bE];unfold fm fm fm;rw[jD,bE,jD,bE,bE,ha _ aj,bE,aeE t (λx hx r=>ih x (dG _ hx) (F5 hw x (dG _ hx)) m r (by have:=t2 x hx;omega)) _ _ aj,bE,jD,bE]
def Vx{s x:List UInt8}(h:lJ x=ab)(r:List Tk):gq s (wT s::nT x::wT bK::r)=.ok x r:=by unfold gq;rw[jD,bE,BT h,bE,jD,bE]
def Qq{s:List UInt8}:∀(l:List (List UInt8)),l.all lJ=ab->∀(f:Nat) (r:List Tk),l.length<f->cq s r=ak->cD s (gq s) f (ia s l++r)=.ok l r:=by
 intro l
 induction l with
 |nil=>
  intro _ f r hf hr;cases f with|zero=>omega|succ f=>show cD s (gq s) (f+1) r=_;unfold cD;rw[hr,ax bq]
 |cons x t ih=>
  intro h f r hf hr;rw[Ap,aL] at h;cases f with|zero=>omega|succ f=>have e:ia s (x::t)++r=wT s::nT x::wT bK::(ia s t++r):=(by simp[ia]);rw[e];unfold cD;rw[aB (xQ _ _),Vx h.1,bE,ih h.2 f r (by simpa using hf) hr,bE]
def adH{x:Rl}(h:wG x=ab){m:Nat}(hm:(bP x).length<=m)(r:List Tk):iA m (bP x++r)=.ok x r:=by
 unfold wG at h;simp only[aL,decide_eq_true_eq] at h;obtain⟨h1,h2,-,h4⟩:=h;have e:bP x++r=wT eN::nT x.kind::wT nF::dT x.gz::wT gn::(cM x.expr++wT bK::r):=by simp[bP]
 have hl:(cM x.expr).length<=m:=by
  have:(cM x.expr).length<=(bP x).length:=by simp[bP];omega
  omega
 rw[e];unfold iA;rw[jD,bE,BT h1,bE,jD,bE,EM,bE,jD,bE,Pt _ h4 m _ hl,bE,jD,bE];obtain⟨a,b,c,d⟩:=x;obtain rfl:b=0:=h2;rfl
def aeF{m:Nat}:∀(l:List Rl),l.all wG=ab->(∀x∈l,(bP x).length<=m)->∀(f:Nat) (r:List Tk),l.length<f->cq eN r=ak->cD eN (iA m) f (l.flatMap bP++r)=.ok l r:=by
 intro l
 induction l with
 |nil=>
  intro _ _ f r hf hr;cases f with|zero=>omega|succ f=>show cD eN (iA m) (f+1) r=_;unfold cD;rw[hr,ax bq]
 |cons x t ih=>
  intro h hm f r hf hr;rw[Ap,aL] at h;cases f with|zero=>omega|succ f=>have e:(x::t).flatMap bP++r=bP x++(t.flatMap bP++r):=(by simp);have i:cq eN (bP x++(t.flatMap bP++r))=ab:=(by have:bP x++(t.flatMap bP++r)=wT eN::((nT x.kind::wT nF::dT x.gz::wT gn::(cM x.expr++[wT bK]))++(t.flatMap bP++r)):=(by simp[bP]);rw[this];exact xQ _ _);rw[e];unfold cD;rw[aB i,adH h.1 (hm x dQ),bE,ih h.2 (λy hy=>hm y (dG _ hy)) f r (by simpa using hf) hr,bE]
def aaV{n:Int}(h1:1<=n)(h2:n<=4)(r:List Tk)(hr:∀w∈jT,cq w.2 r=ak):hX jT 0 (nT (pS n)::r)=.ok n r:=by
 have a1:=hr (1,pN) (by simp[jT]);have a2:=hr (2,pM) (by simp[jT]);have a3:=hr (3,pK) (by simp[jT]);have a4:=hr (4,pL) (by simp[jT]);have i:∀s t:List UInt8,cq s (nT t::r)=decide (t=s):=λs t=>rfl;have:n=1∨n=2∨n=3∨n=4:=by omega
 rcases this with rfl|rfl|rfl|rfl
 ·have e:pS 1=pN:=rfl;simp only[e,jT,hX,i,tH] at *
  simp[a2,a3,a4]
 ·have e:pS 2=pM:=rfl;have d1:decide (pM=pN)=ak:=rfl;simp only[e,jT,hX,i,tH,d1] at *
  simp[a3,a4]
 ·have e:pS 3=pK:=rfl;have d1:decide (pK=pN)=ak:=rfl;have d2:decide (pK=pM)=ak:=rfl;simp only[e,jT,hX,i,tH,d1,d2] at *
  simp[a4]
 ·have e:pS 4=pL:=rfl;have d1:decide (pL=pN)=ak:=rfl;have d2:decide (pL=pM)=ak:=rfl;have d3:decide (pL=pK)=ak:=rfl;simp only[e,jT,hX,i,tH,d1,d2,d3] at *
  simp
def Yd{p:Po}(h1:1<=p.mode)(h2:p.mode<=4)(h3:lJ p.name=ab)(r:List Tk):rq ([wT mr,nT p.name,wT bK,wT mq,nT (pS p.mode),wT bK]++r)=.ok (p.name,p.mode) r:=by show rq (wT mr::nT p.name::wT bK::wT mq::nT (pS p.mode)::wT bK::r)=_;unfold rq;rw[jD,bE,BT h3,bE];unfold fm fm fm;rw[jD,bE,jD,bE,bE,aaV h1 h2 _ (λw hw=>by simp only[jT,fe,ow,or_false] at hw;rcases hw with rfl|rfl|rfl|rfl<;>exact uv bq _),bE,jD,bE]
def yM{α:Type}{f:α->List Tk}:∀{l:List α},(∀x∈l,1<=(f x).length)->l.length<=(l.flatMap f).length/\∀x∈l,(f x).length<=(l.flatMap f).length:=by
 intro l
 induction l with
 |nil=>intro _;exact⟨aK _,λx hx=>(nomatch hx)⟩|cons y r ih=>
  intro h;obtain⟨h1,h2⟩:=ih λx hx=>h x (dG _ hx);have h3:=h y dQ;rw[qg];refine⟨by simp only[cO,dD];omega,λx hx=>?_⟩;rcases fe.1 hx with e|e
  ·subst e;simp only[cO];omega
  ·have:=h2 x e;simp only[cO];omega
def acf{p:Po}(h:j0 p=ab){m:Nat}(hm:(dH p).length<=m)(r:List Tk):mQ m (dH p++r)=.ok p r:=by
 unfold j0 at h;simp only[aL,decide_eq_true_eq] at h;obtain⟨⟨h1,h2⟩,h3,h4,h5,h6,h7⟩:=h;have e:∀r,dH p++r=[wT mr,nT p.name,wT bK,wT mq,nT (pS p.mode),wT bK]++(ia dM p.aO++(ia ez p.kinds++(p.rules.flatMap bP++(wT jR::wT gn::(cM p.change++wT bK::r))))):=by intro r;simp[dH]
 have el:=congrArg qY (e []);simp only[dI,cO,dD] at el;have lo:=(yM (l:=p.aO) (f:=λx=>[wT dM,nT x,wT bK]) (λx _=>by simp)).1;have lk:=(yM (l:=p.kinds) (f:=λx=>[wT ez,nT x,wT bK]) (λx _=>by simp)).1;have lr:=yM (l:=p.rules) (f:=bP) (λx _=>by simp[bP]);have lo':p.aO.length<=(ia dM p.aO).length:=lo;have lk':p.kinds.length<=(ia ez p.kinds).length:=lk;rw[el] at hm;have i1:∀(l:List (List UInt8)) (r:List Tk),(cq dM r=ak->cq dM (ia ez l++r)=ak):=λl r hr=>by
  cases l with|nil=>exact hr|cons x t=>exact uv bq _
 have i2:∀(s:List UInt8) (l:List Rl) (r:List Tk),decide (eN=s)=ak->cq s r=ak->cq s (l.flatMap bP++r)=ak:=λs l r hs hr=>by
  cases l with|nil=>exact hr|cons x t=>exact uv hs _
 unfold mQ yE;rw[e,Yd h1 h2 h3,bE,Qq p.aO h4 m _ aj (i1 _ _ (i2 _ _ _ bq (uv bq _))),bE,Qq p.kinds h5 m _ aj (i2 _ _ _ bq (uv bq _)),bE,
  aeF p.rules h6 (λx hx=>by have:=lr.2 x hx;omega) m _ aj (uv bq _),bE]
 unfold fm fm fm;rw[jD,bE,jD,bE,bE,Pt _ h7 m _ aj,bE,bE,jD,bE]
def JD{p:Po}(h:j0 p=ab){m:Nat}(hm:(dH p).length<=m):mX m (dH p)=.ok p []:=by have:=acf h hm [];rw[dI] at this;unfold mX;rw[this,bE,aB rfl]
def bD{α β:Type}{x:PR α}{f:α->List Tk->PR β}{y:β}{r:List Tk}(h:x.bind f=.ok y r):∃a s,x=.ok a s/\f a s=.ok y r:=by
 cases x with|ok a s=>exact⟨a,s,rfl,h⟩|bad s=>cases h
def Valid(l:List Tk):Prop:=∀t∈l,db t=ab
def fo.valid{α:Type}{P:List Tk->PR α}(h:fo P){l r:List Tk}{x:α}(hv:Valid l)(e:P l=.ok x r):Valid r:=by obtain⟨c,hc⟩:=h.le l;rw[e] at hc;intro t ht;have hc:l=c++r:=hc;exact hv t (by rw[hc];exact List.mem_append_right _ ht)
def BU{l r:List Tk}{s:List UInt8}(hv:Valid l)(h:iw l=.ok s r):lJ s=ab:=by
 cases l with
 |nil=>cases h
 |cons t w=>
  rw[zp] at h;by_cases q:rJ t=ab
  ·rw[aB q] at h;injection h with h1 h2;subst h1;have v:=hv t dQ;unfold rJ at q;rw[aL] at q;have hk:t.kind=1:=of_decide_eq_true q.1;unfold db at v;rw[aB hk,aL] at v;unfold lJ;rw[v.1,q.2];rfl
  ·rw[ax q] at h;cases h
def EN{l r:List Tk}{n:Int}(hv:Valid l)(h:iy l=.ok n r):vQ n=ab:=by
 cases l with
 |nil=>cases h
 |cons t w=>
  unfold iy at h;by_cases q:t.kind=2
  ·simp only[q,if_true] at h;injection h with h1 h2;subst h1;have v:=hv t dQ;unfold db at v;rw[ax (by rw[q];decide),aB q] at v;simp only[aL,decide_eq_true_eq] at v;unfold vQ;simp only[aL,decide_eq_true_eq];exact⟨v.1.2,v.2⟩
  ·simp only[q,if_false] at h;cases h
def FH{α:Type}{s:List UInt8}{item:List Tk->PR α}(ni:fo item){Q:α->Prop}(hq:∀l x r,Valid l->item l=.ok x r->Q x):∀(m:Nat) (l:List Tk) (t:List α) (r:List Tk),Valid l->cD s item m l=.ok t r->∀x∈t,Q x:=by
 intro m
 induction m with
 |zero=>intro l t r _ h;cases h
 |succ m ih=>
  intro l t r hv h;unfold cD at h;by_cases q:cq s l=ab
  ·rw[aB q] at h;obtain⟨x,l1,e1,h⟩:=bD h;obtain⟨w,l2,e2,h⟩:=bD h;injection h with h1 h2;subst h1;intro y hy;rcases fe.1 hy with e|e
   ·subst e;exact hq _ _ _ hv e1
   ·exact ih l1 w l2 (ni.valid hv e1) e2 y e
  ·rw[ax q] at h;injection h with h1 h2;subst h1;intro y hy;cases hy
def Ra:∀{l:List Ex},(∀x∈l,nQ x=ab)->qV l=ab:=by
 intro l
 induction l with
 |nil=>intro _;rw[qV]|cons x r ih=>intro h;rw[qV,h x dQ,ih λy hy=>h y (dG _ hy)];rfl
def CU{l:List Tk}(h:Valid l):Valid l.tail:=λt ht=>h t (List.mem_of_mem_tail ht)
def Mz:∀(m:Nat) (l:List Tk) (x:Ex) (r:List Tk),Valid l->cp m l=.ok x r->nQ x=ab:=by
 intro m
 induction m with
 |zero=>intro l x r _ h;cases h
 |succ m ih=>
  intro l x r hv h;have cQ:∀l x r,Valid l->nD (cp m) l=.ok x r->nQ x=ab:=by intro l x r hv h;unfold nD at h;obtain⟨_,l1,e1,h⟩:=bD h;obtain⟨y,l2,e2,h⟩:=bD h;obtain⟨_,l3,e3,h⟩:=bD h;injection h with h1 h2;subst h1;exact ih _ _ _ ((iW _).valid hv e1) e2
  unfold cp at h;split at h
  ·obtain⟨s,l1,e1,h⟩:=bD h;injection h with h1 h2;subst h1;rw[nQ,aB rfl,BU (CU hv) e1];rfl
  split at h
  ·obtain⟨n,l1,e1,h⟩:=bD h;obtain⟨_,l2,e2,h⟩:=bD h;obtain⟨s,l3,e3,h⟩:=bD h;injection h with h1 h2;subst h1;have v1:=vN.valid (CU hv) e1;have v2:=(iW _).valid v1 e2;rw[nQ,ax bq,aB rfl,BU v2 e3,EN (CU hv) e1];rfl
  split at h
  ·obtain⟨n,l1,e1,h⟩:=bD h;obtain⟨a,l2,e2,h⟩:=bD h;obtain⟨_,l3,e3,h⟩:=bD h;obtain⟨b,l4,e4,h⟩:=bD h;injection h with h1 h2;subst h1;have v1:=vN.valid (CU hv) e1;have v2:=(EI (s7 m)).valid v1 e2;have v3:=(iW _).valid v2 e3;have wa:=cQ _ _ _ v1 e2;have wb:=cQ _ _ _ v3 e4;rw[nQ,ax bq,ax bq,aB rfl,EN (CU hv) e1,Ra (l:=[a,b]) (λx hx=>by
    simp only[fe,ow,or_false] at hx;rcases hx with rfl|rfl
    ·exact wa
    ·exact wb)]
   rfl
  ·obtain⟨n,l1,e1,h⟩:=bD h;obtain⟨_,l2,e2,h⟩:=bD h;obtain⟨a,l3,e3,h⟩:=bD h;obtain⟨t,l4,e4,h⟩:=bD h;obtain⟨_,l5,e5,h⟩:=bD h;injection h with h1 h2;subst h1;have v1:=vN.valid hv e1;have v2:=(vO _).valid v1 e2;have v3:=(s7 m).valid v2 e3;have wa:=ih _ _ _ v2 e3;have wt:=FH (OP (s7 m)) (Q:=λx=>nQ x=ab) (λl x r hv h=>by unfold iV at h;obtain⟨_,l1,e1,h⟩:=bD h;exact ih _ _ _ ((iW _).valid hv e1) h) _ _ _ _ v3 e4;rw[nQ,ax bq,ax bq,ax bq,EN hv e1,Ra (l:=a::t) (λx hx=>by
    rcases fe.1 hx with e|e
    ·rw[e];exact wa
    ·exact wt x e)]
   rfl
def aaS:∀(w:List (Int × List UInt8)) (n:Int) (l:List Tk) (k:Int) (r:List Tk),(∀x∈w,1<=x.1/\x.1<=4)->(n=0∨(1<=n/\n<=4))->hX w n l=.ok k r->1<=k/\k<=4:=by
 intro w
 induction w with
 |nil=>
  intro n l k r _ hn h;unfold hX at h;by_cases q:n=0
  ·rw[aB q] at h;cases h
  ·rw[ax q] at h;injection h with h1 h2;omega
 |cons y w ih=>
  intro n l k r hw hn h;unfold hX at h;split at h
  ·exact ih _ _ _ _ (λx hx=>hw x (dG _ hx)) (.inr (hw y dQ)) h
  ·exact ih _ _ _ _ (λx hx=>hw x (dG _ hx)) hn h
def Md{s:List UInt8}{l:List Tk}{x:List UInt8}{r:List Tk}(hv:Valid l)(h:gq s l=.ok x r):lJ x=ab:=by unfold gq at h;obtain⟨_,l1,e1,h⟩:=bD h;obtain⟨y,l2,e2,h⟩:=bD h;obtain⟨_,l3,e3,h⟩:=bD h;injection h with h1 h2;subst h1;exact BU ((iW _).valid hv e1) e2
def adG{m:Nat}{l:List Tk}{x:Rl}{r:List Tk}(hv:Valid l)(h:iA m l=.ok x r):wG x=ab:=by unfold iA at h;obtain⟨_,l1,e1,h⟩:=bD h;obtain⟨s,l2,e2,h⟩:=bD h;obtain⟨_,l3,e3,h⟩:=bD h;obtain⟨n,l4,e4,h⟩:=bD h;obtain⟨_,l5,e5,h⟩:=bD h;obtain⟨y,l6,e6,h⟩:=bD h;obtain⟨_,l7,e7,h⟩:=bD h;injection h with h1 h2;subst h1;have v1:=(iW _).valid hv e1;have v2:=zu.valid v1 e2;have v3:=(iW _).valid v2 e3;have v4:=vN.valid v3 e4;have v5:=(iW _).valid v4 e5;unfold wG;simp only[BU v1 e2,EN v3 e4,Mz _ _ _ _ v5 e6];rfl
def abV{m:Nat}{l:List Tk}{p:Po}{r:List Tk}(hv:Valid l)(h:mQ m l=.ok p r):j0 p=ab:=by unfold mQ yE at h;obtain⟨p',k0,hb,h0⟩:=bD h;clear h;obtain⟨_,k1,-,h0⟩:=bD h0;injection h0 with h1 h2;subst h1;obtain⟨hd,l1,e1,h⟩:=bD hb;clear hb;obtain⟨o,l2,e2,h⟩:=bD h;obtain⟨k,l3,e3,h⟩:=bD h;obtain⟨w,l4,e4,h⟩:=bD h;obtain⟨_,l5,e5,h⟩:=bD h;obtain⟨x,l6,e6,h⟩:=bD h;injection h with h1 h2;subst h1;have v1:=Jk.valid hv e1;have v2:=(qI _ (uz _) m).valid v1 e2;have v3:=(qI _ (uz _) m).valid v2 e3;have v4:=(qI _ (EJ m) m).valid v3 e4;have v5:=(vO _).valid v4 e5;unfold rq at e1;obtain⟨_,a1,d1,e1⟩:=bD e1;obtain⟨s,a2,d2,e1⟩:=bD e1;obtain⟨_,a3,d3,e1⟩:=bD e1;obtain⟨n,a4,d4,e1⟩:=bD e1;obtain⟨_,a5,d5,e1⟩:=bD e1;injection e1 with h1 h2;subst h1;have u1:=(iW _).valid hv d1;obtain⟨m1,m2⟩:=aaS _ _ _ _ _ (λx hx=>by simp only[jT,fe,ow,or_false] at hx;rcases hx with rfl|rfl|rfl|rfl<;>exact⟨bq,by decide⟩) (.inl rfl) d4;unfold j0;simp only[BU u1 d2,Mz _ _ _ _ v5 e6,uS,qb,aL,decide_eq_true_eq,dn];exact⟨⟨m1,m2⟩,FH (uz _) (Q:=λx=>lJ x=ab) (λl x r hv h=>Md hv h) _ _ _ _ v1 e2,FH (uz _) (Q:=λx=>lJ x=ab) (λl x r hv h=>Md hv h) _ _ _ _ v2 e3,FH (EJ m) (Q:=λx=>wG x=ab) (λl x r hv h=>adG hv h) _ _ _ _ v3 e4⟩
def af9{m:Nat}{l:List Tk}{p:Po}{r:List Tk}(h:mX m l=.ok p r):r=[]/\mQ m l=.ok p []:=by
 unfold mX at h;obtain⟨q,s,e,h⟩:=bD h;by_cases w:s=[]
 ·rw[aB w] at h;injection h with h1 h2;subst h1;subst h2;subst w;exact⟨rfl,e⟩
 ·rw[ax w] at h;cases h
def aga{m:Nat}{l:List Tk}{p:Po}{r:List Tk}(hv:Valid l)(h:mX m l=.ok p r):j0 p=ab:=abV hv (af9 h).2
def Qh:∀{l m:List Tk},mT l m=ab->l.length=m.length:=by
 intro l
 induction l with
 |nil=>intro m h;rw[Cz h]|cons t r ih=>intro m h;obtain⟨u,s,rfl,-,h2⟩:=FA h;rw[dD,dD,ih h2]
def agc(f:Nat){l m:List Tk}(h:mT l m=ab):(mX f l).Oy (mX f m):=by
 have h1:=(aa6 f).same l m h;unfold mX;cases e:mQ f l with
 |ok p r=>
  cases e2:mQ f m with
  |ok q s=>
   rw[e,e2] at h1;obtain⟨rfl,h3⟩:=h1;rw[bE,bE];have:r=[]↔s=[]:=(by have:=Qh h3;rw[<-R8,<-R8,this]);by_cases q:r=[]
   ·rw[aB q,aB (this.1 q)];exact⟨rfl,h3⟩
   ·rw[ax q,ax (λw=>q (this.2 w))];exact h3
  |bad s=>rw[e,e2] at h1;exact h1.elim
 |bad r=>
  cases e2:mQ f m with|ok q s=>rw[e,e2] at h1;exact h1.elim|bad s=>rw[e,e2] at h1;exact h1
def af7{p:Po}(h:j0 p=ab){f:Nat}(hf:(dH p).length<=f){m:List Tk}(hm:mT (dH p) m=ab):mX f m=.ok p []:=by
 have:=agc f hm;rw[JD h hf] at this;cases e:mX f m with
 |ok q r=>rw[e] at this;obtain⟨rfl,h2⟩:=this;rw[Cz h2]
 |bad r=>rw[e] at this;exact this.elim
def fV{t:Tk}{l:List Tk}(h1:db t=ab)(h2:Valid l):Valid (t::l):=λu hu=>by
 rcases fe.1 hu with e|e
 ·rw[e];exact h1
 ·exact h2 u e
def qa{a b:List Tk}(h1:Valid a)(h2:Valid b):Valid (a++b):=λu hu=>by
 rcases List.mem_append.1 hu with e|e
 ·exact h1 u e
 ·exact h2 u e
def ou:Valid []:=λu hu=>(nomatch hu)
def CT{s:List UInt8}(h:lJ s=ab):db (nT s)=ab:=by unfold lJ at h;rw[aL] at h;unfold db nT;rw[aB rfl,h.1];rfl
def F2{n:Int}(h:vQ n=ab):db (dT n)=ab:=by unfold vQ at h;unfold db dT;rw[ax (bq:¬(2:Int)=1),aB rfl];simpa [Bool.and_assoc] using h
def MK:db (wT mr)=ab/\db (wT mq)=ab/\db (wT dM)=ab/\db (wT ez)=ab/\db (wT eN)=ab/\db (wT nF)=ab/\db (wT jR)=ab/\db (wT jz)=ab/\db (wT lf)=ab/\db (wT gx)=ab/\db (wT ld)=ab/\db (wT nE)=ab/\
 db (wT bK)=ab/\db (wT gn)=ab/\db (wT gF)=ab/\db (wT gm)=ab/\db (wT gd)=ab:=by decide
def aaU{n:Int}(h1:1<=n)(h2:n<=4):db (nT (pS n))=ab:=by
 have:n=1∨n=2∨n=3∨n=4:=by omega
 rcases this with rfl|rfl|rfl|rfl<;>decide
def MA:∀x,nQ x=ab->Valid (cM x):=by
 obtain⟨f1,f2,f3,f4,f5,f6,f7,f8,f9,f10,f11,f12,g1,g2,g3,g4,g5⟩:=MK;intro x
 induction x using Ex.ind with
 |h k n no s l ih=>
  intro h;have hC:∀(l':List Ex) (b:Bool),(∀y∈l',y∈l)->qV l'=ab->Valid (eD b l'):=by
   intro l'
   induction l' with
   |nil=>intro b _ _;rw[eD];exact ou|cons y r ihr=>
    intro b hm hw;rw[qV,aL] at hw;rw[eD];refine qa ?_ (qa (ih y (hm y dQ) hw.1) (ihr ak (λz hz=>hm z (dG _ hz)) hw.2));cases b
    ·exact fV g5 ou
    ·exact ou
  have hU:∀(l':List Ex) (b:Bool),(∀y∈l',y∈l)->qV l'=ab->Valid (gK b l'):=by
   intro l'
   induction l' with
   |nil=>intro b _ _;rw[gK];exact ou|cons y r ihr=>
    intro b hm hw;rw[qV,aL] at hw;rw[gK];refine qa ?_ (fV g3 (qa (ih y (hm y dQ) hw.1) (fV g4 (ihr ak (λz hz=>hm z (dG _ hz)) hw.2))));cases b
    ·exact fV f12 ou
    ·exact ou
  rw[nQ] at h;rw[cM];by_cases h1:k=1
  ·rw[aB h1] at h ⊢;simp only[aL] at h;exact fV f8 (fV (CT h.2.2.1) ou)
  rw[ax h1] at h ⊢;by_cases h2:k=2
  ·rw[aB h2] at h ⊢;simp only[aL] at h;exact fV f9 (fV (F2 h.1) (fV f10 (fV (CT h.2.2.1) ou)))
  rw[ax h2] at h ⊢;by_cases h4:k=4
  ·rw[aB h4] at h ⊢;simp only[aL] at h;exact fV f11 (fV (F2 h.1) (hU l ab (λ_ h=>h) h.2.2.2.2))
  ·rw[ax h4] at h ⊢;simp only[aL] at h;exact fV (F2 h.2.1) (fV f10 (fV g3 (qa (hC l ab (λ_ h=>h) h.2.2.2.2.2) (fV g4 ou))))
def Pe{p:Po}(h:j0 p=ab):Valid (dH p):=by
 obtain⟨f1,f2,f3,f4,f5,f6,f7,f8,f9,f10,f11,f12,g1,g2,g3,g4,g5⟩:=MK;unfold j0 at h;simp only[aL,decide_eq_true_eq,dn] at h;obtain⟨⟨h1,h2⟩,h3,h4,h5,h6,h7⟩:=h;have hD:∀s,db (wT s)=ab->∀l:List (List UInt8),(∀x∈l,lJ x=ab)->Valid (ia s l):=λs hs l hl u hu=>by obtain⟨x,hx,hu⟩:=Sf.1 hu;exact fV hs (fV (CT (hl x hx)) (fV g1 ou)) u hu
 refine qa ?_ (qa (hD _ f3 _ h4) (qa (hD _ f4 _ h5) (qa (λu hu=>?_) (qa (fV f7 (fV g2 ou)) (qa (MA _ h7) (fV g1 ou))))))
 ·exact fV f1 (fV (CT h3) (fV g1 (fV f2 (fV (aaU h1 h2) (fV g1 ou)))))
 ·obtain⟨x,hx,hu⟩:=Sf.1 hu;have w:=h6 x hx;unfold wG at w;simp only[aL,decide_eq_true_eq] at w;exact qa (fV f5 (fV (CT w.1) (fV f6 (fV (F2 w.2.2.1) (fV g2 ou))))) (qa (MA _ w.2.2.2) (fV g1 ou)) u hu
def zq{l r:List Tk}{s:List UInt8}(h:iw l=.ok s r):r.length+1=l.length:=by
 cases l with
 |nil=>cases h
 |cons t w=>
  rw[zp] at h;split at h
  ·injection h with h1 h2;subst h2;rfl
  ·cases h
def xT{l r:List Tk}{n:Int}(h:iy l=.ok n r):r.length+1=l.length:=by
 cases l with
 |nil=>cases h
 |cons t w=>
  unfold iy at h;by_cases q:t.kind=2
  ·simp only[q,if_true] at h;injection h with h1 h2;subst h2;rfl
  ·simp only[q,if_false] at h;cases h
def CK{s:List UInt8}{l:List Tk}(h:cq s l=ab):l.tail.length+1=l.length:=by
 cases l with
 |nil=>cases h
 |cons t w=>rfl
def gX{s:List UInt8}{l r:List Tk}{x:Unit}(h:cS s l=.ok x r):r.length+1=l.length:=by
 unfold cS at h;by_cases q:cq s l=ab
 ·rw[aB q] at h;injection h with h1 h2;subst h2;exact CK q
 ·rw[ax q] at h;cases h
def FG{α:Type}{s:List UInt8}{item:List Tk->PR α}{w:α->Nat}(hq:∀l x r,item l=.ok x r->w x+r.length<=l.length):∀(m:Nat) (l:List Tk) (t:List α) (r:List Tk),cD s item m l=.ok t r->(t.map w).sum+r.length<=l.length:=by
 intro m
 induction m with
 |zero=>intro l t r h;cases h
 |succ m ih=>
  intro l t r h;unfold cD at h;by_cases q:cq s l=ab
  ·rw[aB q] at h;obtain⟨x,l1,e1,h⟩:=bD h;obtain⟨v,l2,e2,h⟩:=bD h;injection h with h1 h2;subst h1;subst h2;have:=hq _ _ _ e1;have:=ih _ _ _ e2;rw[gB,KZ];omega
  ·rw[ax q] at h;injection h with h1 h2;subst h1;subst h2;simp
def afI:∀l:List Ex,(eD ak l).length=(l.map λx=>(cM x).length+1).sum:=by
 intro l
 induction l with
 |nil=>rw[eD];rfl|cons x r ih=>rw[eD,gB,KZ,<-ih];simp;omega
def My:∀(m:Nat) (l:List Tk) (x:Ex) (r:List Tk),cp m l=.ok x r->(cM x).length+r.length<=l.length:=by
 intro m
 induction m with
 |zero=>intro l x r h;cases h
 |succ m ih=>
  intro l x r h;have cQ:∀l x r,nD (cp m) l=.ok x r->(cM x).length+2+r.length<=l.length:=by intro l x r h;unfold nD at h;obtain⟨_,l1,e1,h⟩:=bD h;obtain⟨y,l2,e2,h⟩:=bD h;obtain⟨_,l3,e3,h⟩:=bD h;injection h with h1 h2;subst h1;subst h2;have:=ih _ _ _ e2;have:=gX e1;have:=gX e3;omega
  unfold cp at h;split at h
  ·rename_i q;obtain⟨s,l1,e1,h⟩:=bD h;injection h with h1 h2;subst h1;subst h2;have:=zq e1;have:=CK q;rw[cM,aB rfl];simp;omega
  split at h
  ·rename_i q;obtain⟨n,l1,e1,h⟩:=bD h;obtain⟨_,l2,e2,h⟩:=bD h;obtain⟨s,l3,e3,h⟩:=bD h;injection h with h1 h2;subst h1;subst h2;have:=xT e1;have:=gX e2;have:=zq e3;have:=CK q;rw[cM,ax bq,aB rfl];simp;omega
  split at h
  ·rename_i q;obtain⟨n,l1,e1,h⟩:=bD h;obtain⟨a,l2,e2,h⟩:=bD h;obtain⟨_,l3,e3,h⟩:=bD h;obtain⟨b,l4,e4,h⟩:=bD h;injection h with h1 h2;subst h1;subst h2;have:=xT e1;have:=cQ _ _ _ e2;have:=gX e3;have:=cQ _ _ _ e4;have:=CK q;rw[cM,ax bq,ax bq,aB rfl];simp[gK];omega
  ·obtain⟨n,l1,e1,h⟩:=bD h;obtain⟨_,l2,e2,h⟩:=bD h;obtain⟨a,l3,e3,h⟩:=bD h;obtain⟨t,l4,e4,h⟩:=bD h;obtain⟨_,l5,e5,h⟩:=bD h;injection h with h1 h2;subst h1;subst h2;have:=xT e1;unfold fm fm fm at e2;obtain⟨_,k1,d1,e2⟩:=bD e2;obtain⟨_,k2,d2,e2⟩:=bD e2;injection e2 with _ e2;subst e2;have:=gX d1;have:=gX d2;have:=ih _ _ _ e3;have ts:=FG (w:=λx=>(cM x).length+1) (λl x r h=>by unfold iV at h;obtain⟨_,l1,e1,h⟩:=bD h;have:=gX e1;have:=ih _ _ _ h;omega) _ _ _ _ e4;have:=gX e5;rw[<-afI] at ts;rw[cM,ax bq,ax bq,ax bq,eD];simp;omega
def aaR:∀(w:List (Int × List UInt8)) (n:Int) (l:List Tk) (k:Int) (r:List Tk),hX w n l=.ok k r->r.length+(if n=0 then 1 else 0)<=l.length:=by
 intro w
 induction w with
 |nil=>
  intro n l k r h;unfold hX at h;by_cases q:n=0
  ·rw[aB q] at h;cases h
  ·rw[ax q] at h;injection h with h1 h2;subst h2;rw[ax q];omega
 |cons y w ih=>
  intro n l k r h;unfold hX at h;by_cases q:cq y.2 l=ab
  ·rw[aB q] at h;have:=ih _ _ _ _ h;have:=CK q;split<;>split at * <;>omega
  ·rw[ax q] at h;exact ih _ _ _ _ h
def Hb{s:List UInt8}{l:List Tk}{x:List UInt8}{r:List Tk}(h:gq s l=.ok x r):3+r.length<=l.length:=by unfold gq at h;obtain⟨_,l1,e1,h⟩:=bD h;obtain⟨y,l2,e2,h⟩:=bD h;obtain⟨_,l3,e3,h⟩:=bD h;injection h with h1 h2;subst h2;have:=gX e1;have:=zq e2;have:=gX e3;omega
def PW{m:Nat}{l:List Tk}{x:Rl}{r:List Tk}(h:iA m l=.ok x r):(bP x).length+r.length<=l.length:=by unfold iA at h;obtain⟨_,l1,e1,h⟩:=bD h;obtain⟨s,l2,e2,h⟩:=bD h;obtain⟨_,l3,e3,h⟩:=bD h;obtain⟨n,l4,e4,h⟩:=bD h;obtain⟨_,l5,e5,h⟩:=bD h;obtain⟨y,l6,e6,h⟩:=bD h;obtain⟨_,l7,e7,h⟩:=bD h;injection h with h1 h2;subst h1;subst h2;have:=gX e1;have:=zq e2;have:=gX e3;have:=xT e4;have:=gX e5;have:=My _ _ _ _ e6;have:=gX e7;simp[bP];omega
def Hs{α:Type}(f:α->List Tk)(l:List α):(l.flatMap f).length=(l.map λx=>(f x).length).sum:=by
 induction l with
 |nil=>rfl|cons x r ih=>rw[qg,cO,ih,gB,KZ]
def abT{m:Nat}{l:List Tk}{p:Po}{r:List Tk}(h:mQ m l=.ok p r):(dH p).length+r.length<=l.length:=by unfold mQ yE at h;obtain⟨p',k0,hb,h0⟩:=bD h;clear h;obtain⟨_,k1,e0,h0⟩:=bD h0;injection h0 with h1 h2;subst h1;subst h2;obtain⟨hd,l1,e1,h⟩:=bD hb;clear hb;obtain⟨o,l2,e2,h⟩:=bD h;obtain⟨k,l3,e3,h⟩:=bD h;obtain⟨w,l4,e4,h⟩:=bD h;obtain⟨_,l5,e5,h⟩:=bD h;obtain⟨x,l6,e6,h⟩:=bD h;injection h with h1 h2;subst h1;subst h2;unfold rq at e1;obtain⟨_,a1,d1,e1⟩:=bD e1;obtain⟨s,a2,d2,e1⟩:=bD e1;obtain⟨_,a3,d3,e1⟩:=bD e1;obtain⟨n,a4,d4,e1⟩:=bD e1;obtain⟨_,a5,d5,e1⟩:=bD e1;injection e1 with h1 h2;subst h1;subst h2;unfold fm fm fm at d3 e5;obtain⟨_,b1,c1,d3⟩:=bD d3;obtain⟨_,b2,c2,d3⟩:=bD d3;injection d3 with _ d3;subst d3;obtain⟨_,b3,c3,e5⟩:=bD e5;obtain⟨_,b4,c4,e5⟩:=bD e5;injection e5 with _ e5;subst e5;have t1:=gX d1;have t2:=zq d2;have t3:=gX c1;have t4:=gX c2;have t5:=aaR _ _ _ _ _ d4;rw[aB rfl] at t5;have t6:=gX d5;have t7:=FG (w:=λ_=>3) (λl x r h=>Hb h) _ _ _ _ e2;have t8:=FG (w:=λ_=>3) (λl x r h=>Hb h) _ _ _ _ e3;have t9:=FG (w:=λx=>(bP x).length) (λl x r h=>PW h) _ _ _ _ e4;have t10:=gX c3;have t11:=gX c4;have t12:=My _ _ _ _ e6;have t13:=gX e0;have u1:(ia dM o).length=(o.map λ_=>3).sum:=Hs _ _;have u2:(ia ez k).length=(k.map λ_=>3).sum:=Hs _ _;have u3:=Hs bP w;simp only[dH,cO,dD,iJ];omega
def tail_cons(t:Tk)(r:List Tk):Lib.joinTail [32] ((t::r).map eY)=32::(eY t++Lib.joinTail [32] (r.map eY)):=by simp[Lib.joinTail]
def j9(end_:Int):List Tk->Int
 | []=>end_
 |t::_=>t.at_
end Go.Syn
end
section
namespace Go.Proofs.YtmdakolcndpjeaaGreatDoor
open Go.AE Go.Lex Go.Pol Go.Syn
def par(tok:Tok)(sz:Nat)(l:List Tk)(n:Int)(p:Po)(t:PT):List AV:=.list tok sz (cV l)::.v (.int .i64 n)::au p t
section
variable {tok tok':Tok} {sz sz':Nat} {l l':List Tk} {n:Int} {p:Po} {t:PT} {h:ae} {b:Nat}
def lO:(AV.agg (par tok sz l n p t)).cF=aa (par tok sz l n p t):=rfl
end
def eB:(∀(tok:Tok) (sz:Nat) (l:List Tk) (n:Int) (p:Po) (t:PT),((par tok sz l n p t).drop 0).head?=aa (.list tok sz (cV l)))/\(∀(tok:Tok) (sz:Nat) (l:List Tk) (n:Int) (p:Po) (t:PT),((par tok sz l n p t).drop 1).head?=aa (.v (.int .i64 n))):=⟨λ_ _ _ _ _ _=>rfl,λ_ _ _ _ _ _=>rfl⟩
def dq:(∀(r:Ref) (off:Nat),cN aq 111 (.ptr r off) 0=aa (.ptr r (off+0)))/\(∀(r:Ref) (off:Nat),cN aq 111 (.ptr r off) 1=aa (.ptr r (off+1)))/\(∀(r:Ref) (off:Nat),cN aq 111 (.ptr r off) 2=aa (.ptr r (off+2))):=⟨λ_ _=>ai,λ_ _=>ai,λ_ _=>ai⟩
def jZ:(∀t:Tk,(t.row.drop 0).head?=aa (.v (.int .i64 t.kind)))/\(∀t:Tk,(t.row.drop 1).head?=aa (.v (.string (bs t.text))))/\(∀t:Tk,(t.row.drop 2).head?=aa (.v (.int .i64 t.n)))/\(∀t:Tk,(t.row.drop 3).head?=aa (.v (.int .i64 t.at_))):=⟨λ_=>rfl,λ_=>rfl,λ_=>rfl,λ_=>rfl⟩
def jL:(∀(sz i off:Nat) (es:List (List AV)),cN aq 43 (.elem sz es i off) 0=aa (.elem sz es i (off+0)))/\(∀(sz i off:Nat) (es:List (List AV)),cN aq 43 (.elem sz es i off) 1=aa (.elem sz es i (off+1)))/\(∀(sz i off:Nat) (es:List (List AV)),cN aq 43 (.elem sz es i off) 2=aa (.elem sz es i (off+2)))/\(∀(sz i off:Nat) (es:List (List AV)),cN aq 43 (.elem sz es i off) 3=aa (.elem sz es i (off+3))):=
 ⟨λ_ _ _ _=>ai,λ_ _ _ _=>ai,λ_ _ _ _=>ai,λ_ _ _ _=>ai⟩
section
variable {tok tok':Tok} {sz sz':Nat} {l l':List Tk} {n:Int} {p:Po} {t:PT} {h:ae} {b:Nat}
def lu(hb:h.boxes[b]?=aa (par tok sz l n p t)):dh aq h 39 (.ptr (.box b) 0) (.list tok' sz' (cV l'))=aa (h.put b (par tok' sz' l' n p t)):=dK (off:=0) (cs:=par tok sz l n p t) (xs:=[.list tok' sz' (cV l')]) rfl yi hb rfl (aj:0+1<=12)
end
structure Pa(b:Nat)(tok:Tok)(sz:Nat)(l:List Tk)(n:Int)(p:Po)(t:PT)(h:ae):Prop where
 box:h.boxes[b]?=aa (par tok sz l n p t)
 size:∀i:Nat,i<l.length->sz=4
 cI:l.length<=100000000
def PS:Tryz.f147.results.toList=[.tmp 4]:=ai
def PQ:Tryz.f127.results.toList=[.tmp 4]:=ai
def PV:Tryz.f79.results.toList=[]:=ai
def Fl:Tryz.f125.results.toList=[]:=ai
def jg:Tryz.f126.results.toList=[.tmp 2]:=ai
def JP:Tryz.f149.results.toList=[.tmp 2]:=ai
def adt:Tryz.f123.results.toList=[.tmp 0]:=ai
section
variable {b:Nat} {tok:Tok} {sz:Nat} {l:List Tk} {n:Int} {p:Po} {t:PT} {h:ae}
def F0(x:Tk)(r:List Tk):(0:Int)<((cV (x::r)).length:Int):=by rw[eu,dD];omega
def F1(x:Tk)(r:List Tk):(cV (x::r))[0]?=aa x.row:=rfl
def lS:((cV []).length:Int)=0:=rfl
def BJ(s:List UInt8)(P:Pa b tok sz l n p t h):W.call 147 [.ptr (.box b) 0,.v (.string (bs s))] h=aa (.ret (.v (.bool (cq s l))),h):=by
 have u39:=ma;have u9:=fH;have a39:=sl;have a3:=dE;have a9:=dR;have s43:=wB;have hb:=P.box;have nb:=(aF.1 hb).1;have hz:=P.size;refine fg rfl Tryz.func147 rfl ?_;cases l with
 |nil=>
  have e:cq s []=ak:=rfl;rw[e];clear hz P
  repeat' (first|simp(maxSteps:=9999999) (disch:=first|exact dZ|fail) only[gW,reduceIte,ao,al,PS,dq,eB,lS, *]|refine dX ?_ ?_<;>(intro _;try omega))
 |cons x r=>
  obtain rfl:=hz 0 bh;have e:=II s x r;have i0:=F1 x r;have ip:=F0 x r;rw[e];clear hz P e;cases d1:decide (x.kind=2)<;>cases d2:decide (x.text=s)
  all_goals
   repeat' (first|simp(maxSteps:=9999999) (disch:=first|exact dZ|fail) only[gW,reduceIte,ao,al,PS,dq,eB,jL,jZ,aV,ck,eu, *]|refine dX ?_ ?_<;>(intro _;try omega))
  all_goals first|rfl|simp_all
end
def wH(a:Int):AV:=.iface 107 (.agg [.v (.int .i64 a)])
def SC{α:Type}(b n0:Nat)(n:Int)(p:Po)(t:PT)(h:ae)(enc:α->AV->Prop)(pr:PR α)(r:bw)(h':ae):Prop:=
 match pr with
 | .ok x l=>∃v tok sz,r=.ret v/\enc x v/\bp b n0 h h'/\Pa b tok sz l n p t h'
 | .bad l=>r=.panic (wH (j9 n l))/\bp b n0 h h'
def Reads{α:Type}(g:FuncId)(args:List AV)(b n0:Nat)(n:Int)(p:Po)(t:PT)(h:ae)(enc:α->AV->Prop)(pr:PR α):Prop:=∃r h',W.call g args h=aa (r,h')/\SC b n0 n p t h enc pr r h'
def Mp(_:Unit)(v:AV):Prop:=v=.tuple []
def Mo(s:List UInt8)(v:AV):Prop:=v=.v (.string (bs s))
def VO(m:Int)(v:AV):Prop:=v=.v (.int .i64 m)
def Zt:isIface aq 107=aa ak:=ai
def LO(a:Int):gb aq 107 [(0,.v (.int .i64 a))]=aa (.agg [.v (.int .i64 a)]):=ai
section
variable {b:Nat} {tok:Tok} {sz:Nat} {l:List Tk} {n:Int} {p:Po} {t:PT} {h:ae}
def QQ(x:Tk)(r:List Tk):(cV (x::r)).length=r.length+1:=by rw[eu];rfl
def ll(x:Tk)(r:List Tk)(k:Tok):qS aq 39 (.list k 4 (cV (x::r))) (aa (.v (.int .i64 1))) none none=aa (.list (jq k ab ak r.length) 4 (cV r)):=by have:=aev (P:=aq) (k:=k) (kk:=.i64) (sz:=4) (es:=cV (x::r)) (lo:=1) ma wB bq (by rw[QQ];omega);rw[QQ] at this;exact this
def wE{s:List UInt8}(P:Pa b tok sz l n p t h)(hi:cq s l=ak):W.call 127 [.ptr (.box b) 0,.v (.string (bs s))] h=aa (.ret (.v (.bool ak)),h):=by
 have c:=BJ s P;rw[hi] at c;refine fg rfl SI rfl ?_
 repeat' (first|simp(maxSteps:=9999999) (disch:=first|exact dZ|fail) only[gW,reduceIte,ao,al,PQ, *]|refine dX ?_ ?_<;>(intro _;try omega))
def CL{s:List UInt8}{x:Tk}{r:List Tk}(P:Pa b tok sz (x::r) n p t h)(hi:cq s (x::r)=ab):W.call 127 [.ptr (.box b) 0,.v (.string (bs s))] h=aa (.ret (.v (.bool ab)),h.put b (par (jq tok ab ak r.length) 4 r n p t)):=by
 have c:=BJ s P;rw[hi] at c;obtain rfl:=P.size 0 bh;have hb:=P.box;have nb:=(aF.1 hb).1;have a39:=sl;have u39:=ma;clear P;refine fg rfl SI rfl ?_
 repeat' (first|simp(maxSteps:=9999999) (disch:=first|exact dZ|fail) only[gW,reduceIte,ao,al,PQ,dq,eB,ll,lu, *]|refine dX ?_ ?_<;>(intro _;try omega))
def Pa.next{x:Tk}{r:List Tk}(P:Pa b tok sz (x::r) n p t h){tok':Tok}:Pa b tok' 4 r n p t (h.put b (par tok' 4 r n p t)):=
 ⟨mz (aF.1 P.box).1,λ_ _=>rfl,by have:=P.cI;rw[dD] at this;omega⟩
def vk(P:Pa b tok sz l n p t h):W.call 79 [.ptr (.box b) 0] h=aa (.panic (wH (j9 n l)),h):=by
 have u39:=ma;have u9:=fH;have a39:=sl;have a3:=dE;have a9:=dR;have s43:=wB;have hb:=P.box;have nb:=(aF.1 hb).1;have hz:=P.size;have i107:=Zt;refine fg rfl Tryz.func79 rfl ?_;cases l with
 |nil=>
  clear hz P
  repeat' (first|simp(maxSteps:=9999999) (disch:=first|exact dZ|fail) only[gW,reduceIte,ao,al,PV,dq,eB,lS,LO, *]|refine dX ?_ ?_<;>(intro _;try omega))
  rfl
 |cons x r=>
  obtain rfl:=hz 0 bh;have i0:=F1 x r;have ip1:=F0 x r;have ip:(0:Int)<((x::r).length:Int):=by rw[dD];omega
  clear hz P
  repeat' (first|simp(maxSteps:=9999999) (disch:=first|exact dZ|fail) only[gW,reduceIte,ao,al,PV,dq,eB,jL,jZ,aV,ck,eu,LO, *]|refine dX ?_ ?_<;>(intro _;try omega))
  rfl
end
section
variable {b:Nat} {tok:Tok} {sz:Nat} {l:List Tk} {n:Int} {p:Po} {t:PT} {h:ae}
def Kw(s:List UInt8)(w:List (List UInt8))(l:List Tk):fm (s::w) l=(cS s l).bind λ_ r=>fm w r:=rfl
def F3(n0:Nat)(k:Tok)(ws:List (List UInt8))(hw:ws.length<=1000)(P:Pa b tok sz l n p t h):Reads 125 [.ptr (.box b) 0,.list k 1 (strs ws)] b n0 n p t h Mp (fm ws l):=by
 have u22:=o9;have u9:=fH;have a9:=dR;have s9:=oV;have aP:=dL ws;unfold Reads;have kP:=ag.mk P;clear P;refine bO rfl Tryz.func125 rfl ?_
 repeat' (first|simp(maxSteps:=9999999) (disch:=first|exact dZ|fail) only[gW,reduceIte,ao,al,Fl, *]|refine dX ?_ ?_<;>(intro _;try omega))
 refine eX (λm e h'=>∃(i:Nat) (tok':Tok) (sz':Nat) (l':List Tk),i<=ws.length/\m=ws.length - i/\e.get 0=.ptr (.box b) 0/\e.get 6=.list k 1 (strs ws)/\e.get 7=.v (.int .i64 (ws.length:Nat))/\e.get 8=.v (.int .i64 i)/\e.defers=[]/\fm ws l=fm (ws.drop i) l'/\bp b n0 h h'/\Pa b tok' sz' l' n p t h') ?_ ws.length _ _ ?_
 ·rintro m e h' ⟨i,tok',sz',l',hi,rfl,g0,g6,g7,g8,hd,NV,hm,hP⟩;have kwp:=ag.mk NV;have km:=ag.mk hm;have kP':=ag.mk hP;clear NV hm hP;by_cases ay:i<ws.length
  ·have xH:(strs ws)[i]?=aa [.v (.string (bs ws[i]))]:=(by rw[ot,cv ay];rfl);have dU:(i:Int)<((strs ws).length:Int):=(by rw[aP];omega);have fX:(i:Int)<(ws.length:Int):=(by omega);have mh:ws.drop i=ws[i]::ws.drop (i+1):=List.drop_eq_getElem_cons ay;have kdr:=ag.mk mh;clear mh;generalize ws[i]=s at *
   cases ku:cq s l' with
   |false=>
    have c1:=wE kP'.out ku;have c2:=vk kP'.out;have qt:fm ws l=.bad l':=(by rw[kwp.out,kdr.out,Kw];unfold cS;rw[ku];rfl);have kbad:=ag.mk qt;clear qt ku
    repeat' (first|simp(maxSteps:=9999999) (disch:=first|exact dZ|fail) only[gW,reduceIte,ao,al,Fl,aV,ck,aJ, *]|refine dX ?_ ?_<;>(intro _;try omega))
    exact⟨_,_,rfl,by rw[kbad.out];exact⟨rfl,km.out⟩⟩
   |true=>
    cases l' with
    |nil=>cases ku
    |cons x r=>
     have c1:=CL kP'.out ku;have gH:fm ws l=fm (ws.drop (i+1)) r:=(by rw[kwp.out,kdr.out,Kw];unfold cS;rw[ku];rfl);have kgo:=ag.mk gH;have knx:=ag.mk (kP'.out.next (tok':=jq tok' ab ak r.length));clear gH ku
     repeat' (first|simp(maxSteps:=9999999) (disch:=first|exact dZ|fail) only[gW,reduceIte,ao,al,Fl,aV,ck,aJ, *]|refine dX ?_ ?_<;>(intro _;try omega))
     exact⟨ws.length - (i+1),by omega,i+1,_,4,r,by omega,rfl,(by first|trivial|(simp;done)|(simp;omega)),(by first|trivial|(simp;done)|(simp;omega)),(by first|trivial|(simp;done)|(simp;omega)),(by first|trivial|(simp;done)|(simp;omega)),(by first|trivial|(simp;done)|(simp;omega)),kgo.out,km.out.trans (.put _ _ _ _),knx.out⟩
  ·have cJ:i=ws.length:=(by omega);subst cJ;have fX:¬((ws.length:Int)<(ws.length:Int)):=(by omega);have aU:fm ws l=.ok () l':=by rw[kwp.out,List.drop_length];rfl
   repeat' (first|simp(maxSteps:=9999999) (disch:=first|exact dZ|fail) only[gW,reduceIte,ao,al,Fl, *]|refine dX ?_ ?_<;>(intro _;try omega))
   exact⟨_,_,rfl,_,_,_,rfl,rfl,km.out,kP'.out⟩
 ·refine⟨0,tok,sz,l,cz _,rfl,?_,?_,?_,?_,?_,by rw[fc],bp.refl _ _ _,kP.out⟩<;>simp only[gW,reduceIte,ao,al,aP]<;>rfl
def Q8(h:ae):W.call 123 [] h=aa (.ret (.list .tight 1 (strs words)),h):=by
 have hb:gl aq 22 16 [(0,.v (.string (bs mr))),(1,.v (.string (bs mq))),(2,.v (.string (bs pN))),(3,.v (.string (bs pM))),(4,.v (.string (bs pK))),(5,.v (.string (bs pL))),(6,.v (.string (bs dM))),(7,.v (.string (bs ez))),(8,.v (.string (bs eN))),(9,.v (.string (bs nF))),(10,.v (.string (bs jR))),(11,.v (.string (bs jz))),(12,.v (.string (bs lf))),(13,.v (.string (bs gx))),(14,.v (.string (bs ld))),(15,.v (.string (bs nE)))]=aa (.list .tight 1 (strs words)):=ai;simp only[mr,mq,pN,pM,pK,pL,dM,ez,eN,nF,jR,jz,lf,gx,ld,nE] at hb;refine fg rfl Tryz.func123 rfl ?_
 repeat' (first|simp(maxSteps:=9999999) (disch:=first|exact dZ|fail) only[gW,reduceIte,ao,al,adt,hb, *]|refine dX ?_ ?_<;>(intro _;try omega))
def Mb(k:Tok)(ws:List (List UInt8))(s:List UInt8)(hl:ws.length<=9223372036854775807)(h:ae):W.call 121 [.list k 1 (strs ws),.v (.string (bs s))] h=aa (.ret (.v (.bool (ws.contains s))),h):=by
 rw[rX];show(vS [.list k 1 (strs ws),.v (.string (bs s))] h).map _=_;unfold vS;simp only[JN h k 1 ws (λ_ _=>rfl),Kj,dL,aB hl,cy];have e:Lib.containsS (ws.map bs) (bs s)=ws.contains s:=by
  rw[Bool.eq_iff_iff,Lib.containsS_iff,List.contains_iff_mem,wO];constructor
  ·rintro⟨q,hq,he⟩;have:q=s:=(by have:=congrArg (λz:ByteArray=>z.data.toList) he;exact this);rw[<-this];exact hq
  ·intro hs;exact⟨s,hs,rfl⟩
 rw[e]
end
section
variable {b:Nat} {tok:Tok} {sz:Nat} {l:List Tk} {n:Int} {p:Po} {t:PT} {h:ae}
def EO(n0:Nat)(P:Pa b tok sz l n p t h):Reads 149 [.ptr (.box b) 0] b n0 n p t h VO (iy l):=by
 have u39:=ma;have a39:=sl;have a3:=dE;have s43:=wB;have hb:=P.box;have nb:=(aF.1 hb).1;have hz:=P.size;unfold Reads;have kP:=ag.mk P;cases l with
 |nil=>
  have c2:=vk P;have e:iy []=.bad []:=rfl;rw[e];clear hz P e;refine bO rfl Li rfl ?_
  repeat' (first|simp(maxSteps:=9999999) (disch:=first|exact dZ|fail) only[gW,reduceIte,ao,al,JP,dq,eB,lS, *]|refine dX ?_ ?_<;>(intro _;try omega))
  exact⟨_,_,rfl,rfl,bp.refl _ _ _⟩
 |cons x r=>
  obtain rfl:=hz 0 bh;have i0:=F1 x r;have ip1:=F0 x r;have ip:(0:Int)<((x::r).length:Int):=by rw[dD];omega
  have ip2:¬((x::r).length:Int)=0:=by omega
  have ip3:decide (((x::r).length:Int)=0)=ak:=mH ip2;cases d1:decide (x.kind=2) with
  |false=>
   have c2:=vk P;have e:iy (x::r)=.bad (x::r):=(by unfold iy;simp only[of_decide_eq_false d1,if_false]);rw[e];clear hz P e;refine bO rfl Li rfl ?_
   repeat' (first|simp(maxSteps:=9999999) (disch:=first|exact dZ|fail) only[gW,reduceIte,ao,al,JP,dq,eB,jL,jZ,aV,ck,eu, *]|refine dX ?_ ?_<;>(intro _;try omega))
   exact⟨_,_,rfl,rfl,bp.refl _ _ _⟩
  |true=>
   have e:iy (x::r)=.ok x.n r:=(by unfold iy;simp only[of_decide_eq_true d1,if_true]);have knx:=ag.mk (P.next (tok':=jq tok ab ak r.length));rw[e];clear hz P e;refine bO rfl Li rfl ?_
   repeat' (first|simp(maxSteps:=9999999) (disch:=first|exact dZ|fail) only[gW,reduceIte,ao,al,JP,dq,eB,jL,jZ,aV,ck,eu,ll,lu, *]|refine dX ?_ ?_<;>(intro _;try omega))
   exact⟨_,_,rfl,_,_,_,rfl,rfl,.put _ _ _ _,knx.out⟩
def QW(k:Tok)(l:List Tk):fN (.list k 4 (cV l)) (.list k 4 (cV l))=ab:=by
 have:pX (cV l) (cV l)=ab:=FC λr hr=>by obtain⟨s,-,rfl⟩:=wO.1 hr;simp[Tk.row,oR,fN,pY]
 simp[fN,CB,this]
def BS(n0:Nat)(P:Pa b tok sz l n p t h):Reads 126 [.ptr (.box b) 0] b n0 n p t h Mo (iw l):=by
 have u39:=ma;have u9:=fH;have a39:=sl;have a3:=dE;have a9:=dR;have s43:=wB;have hb:=P.box;have nb:=(aF.1 hb).1;have hz:=P.size;have cw:=Q8;unfold Reads;cases l with
 |nil=>
  have c2:=vk P;have e:iw []=.bad []:=rfl;rw[e];clear hz P e;refine bO rfl Gw rfl ?_
  repeat' (first|simp(maxSteps:=9999999) (disch:=first|exact dZ|fail) only[gW,reduceIte,ao,al,jg,dq,eB,lS, *]|refine dX ?_ ?_<;>(intro _;try omega))
  refine nM [(17,21),(17,24)] ai ?_ ?_
  ·intro pr hp;simp only[fe,ow,or_false] at hp;rcases hp with rfl|rfl
   ·refine FL ai rfl rfl ai ?_ ?_
    ·simp only[di,de]
     repeat' (first|simp(maxSteps:=9999999) (disch:=first|exact dZ|fail) only[gW,reduceIte,ao,al,jg,dq,eB,lS, *]|refine dX ?_ ?_<;>(intro _;try omega))
     refine⟨by trivial,?_⟩;simp[cd,uK]
    ·simp only[di,de]
     repeat' (first|simp(maxSteps:=9999999) (disch:=first|exact dZ|fail) only[gW,reduceIte,ao,al,jg,dq,eB,lS, *]|refine dX ?_ ?_<;>(intro _;try omega))
   ·refine FL ai rfl rfl ai ?_ ?_
    ·simp only[di,de]
     repeat' (first|simp(maxSteps:=9999999) (disch:=first|exact dZ|fail) only[gW,reduceIte,ao,al,jg,dq,eB,lS, *]|refine dX ?_ ?_<;>(intro _;try omega))
     refine⟨by trivial,?_⟩;simp[cd,uK]
    ·simp only[di,de]
     repeat' (first|simp(maxSteps:=9999999) (disch:=first|exact dZ|fail) only[gW,reduceIte,ao,al,jg,dq,eB,lS, *]|refine dX ?_ ?_<;>(intro _;try omega))
  ·repeat' (first|simp(maxSteps:=9999999) (disch:=first|exact dZ|fail) only[gW,reduceIte,ao,al,jg,dq,eB,lS, *]|refine dX ?_ ?_<;>(intro _;try omega))
   exact⟨_,_,rfl,rfl,bp.refl _ _ _⟩
 |cons x r=>
  obtain rfl:=hz 0 bh;have i0:=F1 x r;have ip1:=F0 x r;have ip:(0:Int)<((x::r).length:Int):=by rw[dD];omega
  have ip2:¬((x::r).length:Int)=0:=by omega
  have ip3:decide (((x::r).length:Int)=0)=ak:=mH ip2;have cc:∀h:ae,W.call 121 [.list .tight 1 (strs words),.v (.string (bs x.text))] h=aa (.ret (.v (.bool (words.contains x.text))),h):=λh=>Mb .tight words x.text bq h;cases d1:decide (x.kind=1) with
  |false=>
   have c2:=vk P;have e:iw (x::r)=.bad (x::r):=(by rw[zp,ax (by unfold rJ;rw[d1];simp)]);rw[e];clear hz P e;refine bO rfl Gw rfl ?_
   repeat' (first|simp(maxSteps:=9999999) (disch:=first|exact dZ|fail) only[gW,reduceIte,ao,al,jg,dq,eB,jL,jZ,aV,ck,eu,ll,lu, *]|refine dX ?_ ?_<;>(intro _;try omega))
   refine nM [(17,21),(17,24)] ai ?_ ?_
   ·intro pr hp;simp only[fe,ow,or_false] at hp;rcases hp with rfl|rfl
    ·refine FL ai rfl rfl ai ?_ ?_
     ·simp only[di,de]
      repeat' (first|simp(maxSteps:=9999999) (disch:=first|exact dZ|fail) only[gW,reduceIte,ao,al,jg,dq,eB,jL,jZ,aV,ck,eu,ll,lu, *]|refine dX ?_ ?_<;>(intro _;try omega))
      refine⟨by trivial,?_⟩;simp[cd,uK]
     ·simp only[di,de]
      repeat' (first|simp(maxSteps:=9999999) (disch:=first|exact dZ|fail) only[gW,reduceIte,ao,al,jg,dq,eB,jL,jZ,aV,ck,eu,ll,lu, *]|refine dX ?_ ?_<;>(intro _;try omega))
    ·refine FL ai rfl rfl ai ?_ ?_
     ·simp only[di,de]
      repeat' (first|simp(maxSteps:=9999999) (disch:=first|exact dZ|fail) only[gW,reduceIte,ao,al,jg,dq,eB,jL,jZ,aV,ck,eu,ll,lu, *]|refine dX ?_ ?_<;>(intro _;try omega))
      refine⟨by trivial,?_⟩;simp[cd,uK]
     ·simp only[di,de]
      repeat' (first|simp(maxSteps:=9999999) (disch:=first|exact dZ|fail) only[gW,reduceIte,ao,al,jg,dq,eB,jL,jZ,aV,ck,eu,ll,lu, *]|refine dX ?_ ?_<;>(intro _;try omega))
   ·repeat' (first|simp(maxSteps:=9999999) (disch:=first|exact dZ|fail) only[gW,reduceIte,ao,al,jg,dq,eB,jL,jZ,aV,ck,eu,ll,lu, *]|refine dX ?_ ?_<;>(intro _;try omega))
    exact⟨_,_,rfl,rfl,bp.refl _ _ _⟩
  |true=>
   cases d2:words.contains x.text with
   |true=>
    have c2:=vk P;have e:iw (x::r)=.bad (x::r):=(by rw[zp,ax (by unfold rJ;rw[d1,d2];decide)]);rw[e];rw[d2] at cc;clear hz P e d2;refine bO rfl Gw rfl ?_
    repeat' (first|simp(maxSteps:=9999999) (disch:=first|exact dZ|fail) only[gW,reduceIte,ao,al,jg,dq,eB,jL,jZ,aV,ck,eu,ll,lu, *]|refine dX ?_ ?_<;>(intro _;try omega))
    refine nM [(17,21),(17,24)] ai ?_ ?_
    ·intro pr hp;simp only[fe,ow,or_false] at hp;rcases hp with rfl|rfl
     ·refine FJ (x:=.ptr (.box b) 0) (v:=.list tok 4 (cV (x::r))) ai rfl rfl ai (QW _ _) ?_ ?_
      ·simp only[di,de]
       repeat' (first|simp(maxSteps:=9999999) (disch:=first|exact dZ|fail) only[gW,reduceIte,ao,al,jg,dq,eB,jL,jZ,aV,ck,eu,ll,lu, *]|refine dX ?_ ?_<;>(intro _;try omega))
       refine⟨by trivial,?_,by trivial,by trivial⟩;simp[cd,uK]
      ·simp only[di,de]
       repeat' (first|simp(maxSteps:=9999999) (disch:=first|exact dZ|fail) only[gW,reduceIte,ao,al,jg,dq,eB,jL,jZ,aV,ck,eu,ll,lu, *]|refine dX ?_ ?_<;>(intro _;try omega))
       exact⟨by trivial,by trivial⟩
     ·refine FJ (x:=.elem 4 (cV (x::r)) 0 1) (v:=.v (.string (bs x.text))) ai rfl rfl ai (by simp[fN,pY]) ?_ ?_
      ·simp only[di,de]
       repeat' (first|simp(maxSteps:=9999999) (disch:=first|exact dZ|fail) only[gW,reduceIte,ao,al,jg,dq,eB,jL,jZ,aV,ck,eu,ll,lu, *]|refine dX ?_ ?_<;>(intro _;try omega))
       refine⟨by trivial,?_,by trivial,by trivial⟩;simp[cd,uK]
      ·simp only[di,de]
       repeat' (first|simp(maxSteps:=9999999) (disch:=first|exact dZ|fail) only[gW,reduceIte,ao,al,jg,dq,eB,jL,jZ,aV,ck,eu,ll,lu, *]|refine dX ?_ ?_<;>(intro _;try omega))
       exact⟨by trivial,by trivial⟩
    ·repeat' (first|simp(maxSteps:=9999999) (disch:=first|exact dZ|fail) only[gW,reduceIte,ao,al,jg,dq,eB,jL,jZ,aV,ck,eu,ll,lu, *]|refine dX ?_ ?_<;>(intro _;try omega))
     exact⟨_,_,rfl,rfl,bp.refl _ _ _⟩
   |false=>
    have e:iw (x::r)=.ok x.text r:=(by rw[zp,aB (by unfold rJ;rw[d1,d2];rfl)]);have knx:=ag.mk (P.next (tok':=jq tok ab ak r.length));rw[e];rw[d2] at cc;clear hz P e d2;refine bO rfl Gw rfl ?_
    repeat' (first|simp(maxSteps:=9999999) (disch:=first|exact dZ|fail) only[gW,reduceIte,ao,al,jg,dq,eB,jL,jZ,aV,ck,eu,ll,lu, *]|refine dX ?_ ?_<;>(intro _;try omega))
    refine nM [(17,21),(17,24)] ai ?_ ?_
    ·intro pr hp;simp only[fe,ow,or_false] at hp;rcases hp with rfl|rfl
     ·refine FJ (x:=.ptr (.box b) 0) (v:=.list tok 4 (cV (x::r))) ai rfl rfl ai (QW _ _) ?_ ?_
      ·simp only[di,de]
       repeat' (first|simp(maxSteps:=9999999) (disch:=first|exact dZ|fail) only[gW,reduceIte,ao,al,jg,dq,eB,jL,jZ,aV,ck,eu,ll,lu, *]|refine dX ?_ ?_<;>(intro _;try omega))
       refine⟨by trivial,?_,by trivial,by trivial⟩;simp[cd,uK]
      ·simp only[di,de]
       repeat' (first|simp(maxSteps:=9999999) (disch:=first|exact dZ|fail) only[gW,reduceIte,ao,al,jg,dq,eB,jL,jZ,aV,ck,eu,ll,lu, *]|refine dX ?_ ?_<;>(intro _;try omega))
       exact⟨by trivial,by trivial⟩
     ·refine FJ (x:=.elem 4 (cV (x::r)) 0 1) (v:=.v (.string (bs x.text))) ai rfl rfl ai (by simp[fN,pY]) ?_ ?_
      ·simp only[di,de]
       repeat' (first|simp(maxSteps:=9999999) (disch:=first|exact dZ|fail) only[gW,reduceIte,ao,al,jg,dq,eB,jL,jZ,aV,ck,eu,ll,lu, *]|refine dX ?_ ?_<;>(intro _;try omega))
       refine⟨by trivial,?_,by trivial,by trivial⟩;simp[cd,uK]
      ·simp only[di,de]
       repeat' (first|simp(maxSteps:=9999999) (disch:=first|exact dZ|fail) only[gW,reduceIte,ao,al,jg,dq,eB,jL,jZ,aV,ck,eu,ll,lu, *]|refine dX ?_ ?_<;>(intro _;try omega))
       exact⟨by trivial,by trivial⟩
    ·repeat' (first|simp(maxSteps:=9999999) (disch:=first|exact dZ|fail) only[gW,reduceIte,ao,al,jg,dq,eB,jL,jZ,aV,ck,eu,ll,lu, *]|refine dX ?_ ?_<;>(intro _;try omega))
     exact⟨_,_,rfl,_,_,_,rfl,rfl,.put _ _ _ _,knx.out⟩
end
end Go.Proofs.YtmdakolcndpjeaaGreatDoor
end
section
namespace Go.AE
section
variable {b n0:Nat} {h h':ae}
def bp.dm(m:bp b n0 h h'){c:Nat}(hc:h.boxes.length<=c)(cs:List AV):bp b n0 h (h'.put c cs):=by refine⟨λd ds hd hb=>?_,by rw[td];exact m.len,m.loop,m.tn,m.dead,m.ok⟩;have ay:d<h.boxes.length:=(aF.1 hb).1;rw[jX aj];exact m.box d ds hd hb
def bp.push(m:bp b n0 h h')(cs:List AV):bp b n0 h (h'.push cs):=
 ⟨λd ds hd hb=>bW (m.box d ds hd hb),by rw[aA];exact Nat.le_succ_of_le m.len,m.loop,m.tn,m.dead,m.ok⟩
def bp.GM(m:bp b n0 h h'){k:Tok}(hk:dx n0 h' k):bp b n0 h (h'.app k):=m.trans (bp.app hk)
end
def bp.uP{b n0 n1}{h h'}(m:bp b n1 h h')(hn:n0<=n1):bp b n0 h h':=⟨m.box,m.len,m.loop,m.tn,λk hk hd=>m.dead k (lY hk hn) hd,m.ok⟩
def dx.mut{b n0 n1}{h h'}{k}(hk:dx n0 h k)(m:bp b n1 h h')(hn:h.tn<=n1):dx n0 h' k:=by
 rcases hk with q|q|⟨z,q,q2,q3⟩
 ·exact .inl q
 ·exact .inr (.inl q)
 ·refine .inr (.inr ⟨z,q,q2,?_⟩);unfold alive at q3 ⊢;simp only[aL,decide_eq_true_eq,wM,List.contains_eq_mem,decide_eq_false_iff_not] at q3 ⊢;exact⟨lY q3.1 m.tn,λhd=>q3.2 (m.dead z (lY q3.1 hn) hd)⟩
end Go.AE
end
section
namespace Go.Proofs.YtmdakolcndpjeaaGreatDoor
open Go.AE Go.Lex Go.Pol Go.Syn
section
variable {b:Nat} {tok:Tok} {sz:Nat} {l:List Tk} {n:Int} {p:Po} {t:PT} {h:ae}
def Pa.push(P:Pa b tok sz l n p t h)(cs:List AV):Pa b tok sz l n p t (h.push cs):=⟨bW P.box,P.size,P.cI⟩
def Pa.put(P:Pa b tok sz l n p t h){c:Nat}(hc:b≠c)(cs:List AV):Pa b tok sz l n p t (h.put c cs):=⟨by rw[jX hc];exact P.box,P.size,P.cI⟩
def Pa.app(P:Pa b tok sz l n p t h)(k:Tok):Pa b tok sz l n p t (h.app k):=⟨by rw[lC];exact P.box,P.size,P.cI⟩
def Pa.lt(P:Pa b tok sz l n p t h):b<h.boxes.length:=(aF.1 P.box).1
end
def xf(x:Ex)(v:AV):Prop:=∃tok sz rows,v=.agg (ar x.kind x.n x.no x.name tok sz rows)/\Row x (ar x.kind x.n x.no x.name tok sz rows)
def wS:fZ aq 109=aa ak:=ai
def yg:cU aq 109=aa 1:=ai
def UA(s:List UInt8):gb aq 26 [(0,.v (.int .i64 1)),(3,.v (.string (bs s)))]=aa (.agg (ar 1 0 0 s .nil 0 [])):=ai
def GY(n:Int):gb aq 26 [(0,.v (.int .i64 2)),(1,.v (.int .i64 n))]=aa (.agg (ar 2 n 0 [] .nil 0 [])):=ai
def pc(n:Int):gb aq 26 [(0,.v (.int .i64 3)),(1,.v (.int .i64 n))]=aa (.agg (ar 3 n 0 [] .nil 0 [])):=ai
def jI(n:Int)(tok:Tok)(sz:Nat)(rows:List (List AV)):gb aq 26 [(0,.v (.int .i64 4)),(1,.v (.int .i64 n)),(4,.list tok sz rows)]=aa (.agg (ar 4 n 0 [] tok sz rows)):=ai
def eH(k n no:Int)(s:List UInt8)(tok:Tok)(sz:Nat)(rows:List (List AV)):gl aq 24 1 [(0,.agg (ar k n no s tok sz rows))]=aa (.list .tight 5 [ar k n no s tok sz rows]):=ai
section
variable {h:ae} {b:Nat} {k n no k' n' no':Int} {s s':List UInt8} {tok tok':Tok} {sz sz':Nat} {rows rows':List (List AV)}
def dw(hb:h.boxes[b]?=aa (ar k n no s tok sz rows)):dh aq h 26 (.ptr (.box b) 0) (.agg (ar k' n' no' s' tok' sz' rows'))=aa (h.put b (ar k' n' no' s' tok' sz' rows')):=dK (off:=0) (cs:=ar k n no s tok sz rows) (xs:=ar k' n' no' s' tok' sz' rows') rfl ec hb rfl (aK 5)
def aeL(hb:h.boxes[b]?=aa (ar k n no s tok sz rows)):dh aq h 9 (.ptr (.box b) 3) (.v (.string (bs s')))=aa (h.put b (ar k n no s' tok sz rows)):=dK (off:=3) (cs:=ar k n no s tok sz rows) (xs:=[.v (.string (bs s'))]) rfl oV hb rfl (aj:3+1<=5)
def fO(hb:h.boxes[b]?=aa (ar k n no s tok sz rows)):dh aq h 24 (.ptr (.box b) 4) (.list tok' sz' rows')=aa (h.put b (ar k n no s tok' sz' rows')):=dK (off:=4) (cs:=ar k n no s tok sz rows) (xs:=[.list tok' sz' rows']) rfl wA hb rfl (aj:4+1<=5)
def dC(hb:h.boxes[b]?=aa (ar k n no s tok sz rows)):dz aq Gt h 26 (.ptr (.box b) 0)=aa (.agg (ar k n no s tok sz rows)):=nH eG ec hb (aK 5)
end
def PJ(k n no:Int)(s:List UInt8):Row (.mk k n no s []) (ar k n no s .nil 0 []):=.mk _ _ _ _ _ _ _ _ rfl (λi hi=>absurd hi (ik i)) (cz _) (λi x r h=>by simp at h)
def PK{k n no:Int}{s:List UInt8}{l:List Ex}{tok:Tok}{sz:Nat}{rows:List (List AV)}(hr:Go.Pol.Rows l rows)(hz:∀i:Nat,i<l.length->sz=5)(hb:l.length<=9223372036854775807):Row (.mk k n no s l) (ar k n no s tok sz rows):=.mk _ _ _ _ _ _ _ _ hr.1 hz hb hr.2
def eF:Tryz.f132.results.toList=[.cell 2 26]:=ai
def Fq:Tryz.f150.results.toList=[.cell 2 26]:=ai
def JQ:Tryz.f152.results.toList=[.cell 1 26]:=ai
def Fs:Tryz.f151.results.toList=[.tmp 6]:=ai
def yz(m:Nat):Prop:=∀(b n0:Nat) (tok:Tok) (sz:Nat) (l:List Tk) (n:Int) (p:Po) (t:PT) (h:ae),Pa b tok sz l n p t h->cR h=ab->n0<=h.tn->l.length<m->Reads 132 [.ptr (.box b) 0] b n0 n p t h xf (cp m l)
section
variable {b:Nat} {tok:Tok} {sz:Nat} {l:List Tk} {n:Int} {p:Po} {t:PT} {h:ae}
def ov(n0:Nat)(k:Tok)(s:List UInt8)(P:Pa b tok sz l n p t h):Reads 125 [.ptr (.box b) 0,.list k 1 [[.v (.string (bs s))]]] b n0 n p t h Mp (cS s l):=by
 have:=F3 n0 k [s] bh P;have e:fm [s] l=cS s l:=by rw[Kw];cases cS s l<;>rfl
 rw[e] at this;exact this
def nu(s:List UInt8):gl aq 22 1 [(0,.v (.string (bs s)))]=aa (.list .tight 1 [[.v (.string (bs s))]]):=ai
def nw(s u:List UInt8):gl aq 22 2 [(0,.v (.string (bs s))),(1,.v (.string (bs u)))]=aa (.list .tight 1 (strs [s,u])):=ai
def N8{m:Nat}(E:yz m)(n0:Nat)(P:Pa b tok sz l n p t h)(ho:cR h=ab)(hn:n0<=h.tn)(hl:l.length<=m):Reads 150 [.ptr (.box b) 0] b n0 n p t h xf (nD (cp m) l):=by
 have a26:=eG;have s26:=ec;have z26:=nS;have nb:=P.lt;obtain⟨r1,h1,c1,q1⟩:=ov n0 .tight gF (P.push (ar 0 0 0 [] .nil 0 []));have e1:nD (cp m) l=(cS gF l).bind λ_ r=>(cp m r).bind λx r=>(cS gm r).bind λ_ r=>.ok x r:=rfl;unfold Reads;rw[e1];have bwo:=nu gF;have bwc:=nu gm;simp only[gF,gm] at c1 bwo bwc;cases w1:cS gF l with
 |bad l1=>
  rw[w1] at q1;obtain⟨rfl,m1⟩:=q1;refine bO rfl Gy rfl ?_
  repeat' (first|simp(maxSteps:=9999999) (disch:=first|exact dZ|fail) only[gW,reduceIte,ao,al,Fq, *]|refine dX ?_ ?_<;>(intro _;try omega))
  exact⟨_,_,rfl,rfl,((bp.refl b n0 h).push _).trans m1⟩
 |ok u l1=>
  rw[w1] at q1;obtain⟨v1,tok1,mC,rfl,rfl,m1,P1⟩:=q1;have m1':=((bp.refl b n0 h).push (ar 0 0 0 [] .nil 0 [])).trans m1;have d1:=m1.box _ _ aj (bX h (ar 0 0 0 [] .nil 0 []));have l1lt:=gX w1;obtain⟨r2,h2,c2,q2⟩:=E b n0 tok1 mC l1 n p t h1 P1 (m1'.ok ho) (cY hn m1'.tn) aj;rw[bE];cases w2:cp m l1 with
  |bad l2=>
   rw[w2] at q2;obtain⟨rfl,m2⟩:=q2;clear P1 P E;refine bO rfl Gy rfl ?_
   repeat' (first|simp(maxSteps:=9999999) (disch:=first|exact dZ|fail) only[gW,reduceIte,ao,al,Fq, *]|refine dX ?_ ?_<;>(intro _;try omega))
   exact⟨_,_,rfl,rfl,m1'.trans m2⟩
  |ok x l2=>
   rw[w2] at q2;obtain⟨v2,tok2,sz2,rfl,⟨tkx,szx,rowsx,rfl,iv⟩,m2,P2⟩:=q2;have m2':=m1'.trans m2;have d2:=m2.box _ _ aj d1;have nl2:=P2.lt;obtain⟨r3,h3,c3,q3⟩:=ov n0 .tight gm (P2.push (ar x.kind x.n x.no x.name tkx szx rowsx));simp only[gm] at c3;rw[bE];cases w3:cS gm l2 with
   |bad l3=>
    rw[w3] at q3;obtain⟨rfl,m3⟩:=q3;have aN:=ag.mk ((m2'.push (ar x.kind x.n x.no x.name tkx szx rowsx)).trans m3);clear P1 P2 P E m1 m2 m3 m1' m2';refine bO rfl Gy rfl ?_
    repeat' (first|simp(maxSteps:=9999999) (disch:=first|exact dZ|fail) only[gW,reduceIte,ao,al,Fq,dw,bH, *]|refine dX ?_ ?_<;>(intro _;try omega))
    exact⟨_,_,rfl,rfl,aN.out⟩
   |ok u3 l3=>
    rw[w3] at q3;obtain⟨v3,tok3,bQ,rfl,rfl,m3,P3⟩:=q3;have m3':=(m2'.push (ar x.kind x.n x.no x.name tkx szx rowsx)).trans m3;have d3:=m3.box _ _ aj (bX h2 (ar x.kind x.n x.no x.name tkx szx rowsx));have d4:=m3.box _ _ aj (bW (cs:=ar x.kind x.n x.no x.name tkx szx rowsx) d2);have nd4:=(aF.1 d4).1;have aN:=ag.mk (m3'.dm (aK _) (ar x.kind x.n x.no x.name tkx szx rowsx));have kP:=ag.mk (P3.put (c:=h.boxes.length) aj (ar x.kind x.n x.no x.name tkx szx rowsx));have khr:=ag.mk iv;clear P1 P2 P3 P E m1 m2 m3 m1' m2' m3' iv;refine bO rfl Gy rfl ?_
    repeat' (first|simp(maxSteps:=9999999) (disch:=first|exact dZ|fail) only[gW,reduceIte,ao,al,Fq,dw,dC,bH, *]|refine dX ?_ ?_<;>(intro _;try omega))
    exact⟨_,_,rfl,_,_,_,rfl,⟨_,_,_,rfl,khr.out⟩,aN.out,kP.out⟩
end
structure Wr(b n0:Nat)(l:List Tk)(h:ae):Prop where
 box:∃tok sz,h.boxes[b]?=aa [.list tok sz (cV l)]/\(sz=4∨(l=[]/\tok=.nil))/\dx n0 h tok
 ok:cR h=ab
 tn:n0<=h.tn
 cI:l.length<=1000000000
inductive It where
 |word (s:List UInt8)
 |name (s:List UInt8)
 |num (n:Int)
 |ex (x:Ex) (row:List AV)
def It.av:It->List AV
 | .word s=>[.iface 9 (.v (.string (bs s)))]
 | .name s=>[.iface 104 (.v (.string (bs s)))]
 | .num n=>[.iface 3 (.v (.int .i64 n))]
 | .ex _ row=>[.iface 26 (.agg row)]
def It.tk:It->List Tk
 | .word s=>[wT s]
 | .name s=>[nT s]
 | .num n=>[dT n]
 | .ex x _=>cM x
def yA(g:FuncId)(args:List AV)(b n0:Nat)(h:ae)(l:List Tk):Prop:=∃h',W.call g args h=aa (.ret (.tuple []),h')/\bp b n0 h h'/\Wr b n0 l h'
def Di(x:Ex):Prop:=∀(b n0:Nat) (l:List Tk) (h:ae) (tok:Tok) (sz:Nat) (rows:List (List AV)),Wr b n0 l h->(l++cM x).length<=1000000000->Row x (ar x.kind x.n x.no x.name tok sz rows)->yA 124 [.ptr (.box b) 0,.agg (ar x.kind x.n x.no x.name tok sz rows)] b n0 h (l++cM x)
def It.ok:It->Prop
 | .ex x row=>Di x/\∃tok sz rows,row=ar x.kind x.n x.no x.name tok sz rows/\Row x row
 |_=>True
def ya:Tryz.f73.results.toList=[]:=ai
def LA(x:AV):nr aq (.iface 9 x) 9 ab=aa (.tuple [x,.v (.bool ab)]):=ai
def Tq(x:AV):nr aq (.iface 104 x) 9 ab=aa (.tuple [.v (.string (bs [])),.v (.bool ak)]):=ai
def Tp(x:AV):nr aq (.iface 104 x) 104 ab=aa (.tuple [x,.v (.bool ab)]):=ai
def Tx(x:AV):nr aq (.iface 3 x) 9 ab=aa (.tuple [.v (.string (bs [])),.v (.bool ak)]):=ai
def Tv(x:AV):nr aq (.iface 3 x) 104 ab=aa (.tuple [.v (.string (bs [])),.v (.bool ak)]):=ai
def Tw(x:AV):nr aq (.iface 3 x) 3 ab=aa (.tuple [x,.v (.bool ab)]):=ai
def Tu(x:AV):nr aq (.iface 26 x) 9 ab=aa (.tuple [.v (.string (bs [])),.v (.bool ak)]):=ai
def Tr(x:AV):nr aq (.iface 26 x) 104 ab=aa (.tuple [.v (.string (bs [])),.v (.bool ak)]):=ai
def Tt(x:AV):nr aq (.iface 26 x) 3 ab=aa (.tuple [.v (.int .i64 0),.v (.bool ak)]):=ai
def Ts(x:AV):nr aq (.iface 26 x) 26 ab=aa (.tuple [x,.v (.bool ab)]):=ai
def vj(r:Ref)(off:Nat):cN aq 65 (.ptr r off) 0=aa (.ptr r (off+0)):=ai
def Dt(k:Int)(s:List UInt8):gb aq 43 [(0,.v (.int .i64 k)),(1,.v (.string (bs s)))]=aa (.agg (Tk.row ⟨k,s,0,0⟩)):=ai
def GV(n:Int):gb aq 43 [(0,.v (.int .i64 2)),(2,.v (.int .i64 n))]=aa (.agg (Tk.row ⟨2,[],n,0⟩)):=ai
def Du(t:Tk):gl aq 39 1 [(0,.agg t.row)]=aa (.list .tight 4 [t.row]):=ai
def S3:fZ aq 20=aa ak:=ai
def afv:cU aq 20=aa 1:=ai
def FP{h:ae}{b:Nat}{x:AV}{tok:Tok}{sz:Nat}{l:List Tk}(hb:h.boxes[b]?=aa [x]):dh aq h 39 (.ptr (.box b) 0) (.list tok sz (cV l))=aa (h.put b [.list tok sz (cV l)]):=dK (off:=0) (cs:=[x]) (xs:=[.list tok sz (cV l)]) rfl yi hb rfl (aK 1)
def Dm{h:ae}{tok:Tok}{sz:Nat}{l:List Tk}{t:Tk}(hk:dx 0 h tok)(hs:sz=4∨(l=[]/\tok=.nil))(hl:l.length<=1000000000):
 iM aq h #[39,39] (.list tok sz (cV l)) (.list .tight 4 [t.row])=aa (.list (.free h.tn) 4 (cV (l++[t])),h.app tok):=by
 have hi:(aq.info? 43).map (λi=>(decide (i.bytes<=1000),i.size,i.zero.map λz=>z.cells.size))=aa (ab,4,aa 4):=ai;cases hq:aq.info? 43 with
 |none=>rw[hq] at hi;cases hi
 |some i=>
  rw[hq] at hi;simp only[cy,aY,aW,decide_eq_true_eq] at hi;obtain⟨i1,i2,i3⟩:=hi;have la:=eu l;have hm:((cV l).length+1) * i.bytes<=1000000001 * 1000:=Su aj i1;have:=wV (k':=.tight) (new:=[t.row]) (es:=cV l) ma ma hq aj (by rw[i3,i2]) bh (by simp only[oY];omega) (by simp only[oY];omega)
   (by rw[i2];rcases hs with q|⟨q,q2⟩;exact .inl q;exact .inr ⟨by rw[q];rfl,q2⟩) hk
  rw[i2] at this;have e:cV l++[t.row]=cV (l++[t]):=by simp[cV]
  rw[e] at this;exact this
def Wr.next{b n0:Nat}{h:ae}{tok:Tok}{sz:Nat}{l:List Tk}{t:Tk}(hb:h.boxes[b]?=aa [.list tok sz (cV l)])(hk:dx n0 h tok)(ho:cR h=ab)(hn:n0<=h.tn)(hl:(l++[t]).length<=1000000000):
 Wr b n0 (l++[t]) ((h.app tok).put b [.list (.free h.tn) 4 (cV (l++[t]))])/\bp b n0 h ((h.app tok).put b [.list (.free h.tn) 4 (cV (l++[t]))]):=
 ⟨⟨⟨_,_,mz (by rw[lC];exact(aF.1 hb).1),.inl rfl,hk.next ho hn⟩,(bp.app (b:=0) hk).ok ho,cY hn (by show h.tn<=(h.app tok).tn;rw[GO];omega),hl⟩,(bp.app hk).trans (.put _ _ _ _)⟩
def nL(b n0:Nat)(k:Tok)(its:List It)(aU:∀i∈its,i.ok)(aP:its.length<=1000)(l:List Tk)(h:ae)(Wl:Wr b n0 l h)(hl:(l++its.flatMap It.tk).length<=1000000000):yA 73 [.ptr (.box b) 0,.list k 1 (its.map It.av)] b n0 h (l++its.flatMap It.tk):=by
 have u160:=Tryz.underlying160;have a20:=S3;have s20:=afv;have u20:=Tryz.underlying20;have a39:=sl;have s39:=yi;have a26:=eG;have s26:=ec;have z26:=nS;have vy:(its.map It.av).length=its.length:=List.length_map _;have cw:=Q8;unfold yA;have kok:=ag.mk aU;have kW:=ag.mk Wl;have kl:=ag.mk hl;clear aU Wl hl
 suffices hh:∃r h',W.call 73 [.ptr (.box b) 0,.list k 1 (its.map It.av)] h=aa (r,h')/\(r=.ret (.tuple [])/\bp b n0 h h'/\Wr b n0 (l++its.flatMap It.tk) h') by obtain⟨r,h',c,rfl,c2⟩:=hh;exact⟨h',c,c2⟩
 refine bO rfl Tryz.func73 rfl ?_
 repeat' (first|simp(maxSteps:=9999999) (disch:=first|exact dZ|fail) only[gW,reduceIte,ao,al,ya, *]|refine dX ?_ ?_<;>(intro _;try omega))
 refine eX (λm e h'=>∃(i:Nat),i<=its.length/\m=its.length - i/\e.get 0=.ptr (.box b) 0/\e.get 11=.list k 1 (its.map It.av)/\e.get 12=.v (.int .i64 (its.length:Nat))/\e.get 13=.v (.int .i64 i)/\e.defers=[]/\bp b n0 h h'/\Wr b n0 (l++(its.take i).flatMap It.tk) h') ?_ its.length _ _ ?_
 ·rintro m e h' ⟨i,hi,rfl,g0,g11,g12,g13,hd,hm,hW⟩;have km:=ag.mk hm;have kW':=ag.mk hW;clear hm;by_cases ay:i<its.length
  ·obtain⟨it,sK⟩:∃it,its[i]?=aa it:=⟨_,cv ay⟩;have xH:(its.map It.av)[i]?=aa it.av:=(by rw[List.getElem?_map,sK];rfl);have dU:(i:Int)<((its.map It.av).length:Int):=(by rw[vy];omega);have fX:(i:Int)<(its.length:Int):=(by omega);have nC:its.take (i+1)=its.take i++[it]:=(by obtain⟨hj,rfl⟩:=aF.1 sK;exact nj hj);have mM:l++(its.take (i+1)).flatMap It.tk=(l++(its.take i).flatMap It.tk)++it.tk:=(by rw[nC,Gi,lz];simp);have dS:((l++(its.take i).flatMap It.tk)++it.tk).length<=1000000000:=(by have h1:=kl.out;have h2:(l++its.flatMap It.tk)=((l++(its.take i).flatMap It.tk)++it.tk)++(its.drop (i+1)).flatMap It.tk:=(by rw[<-mM,lz,<-Gi,K3]);rw[h2,cO] at h1;omega);have kfl:=ag.mk mM;have kmem:=ag.mk (kok.out it (ie sK));obtain⟨tok,sz,hb,bG,fi⟩:=hW.box;have iF:=hW.ok;have xJ:=hW.tn;have nb:=(aF.1 hb).1;have kca:=ag.mk fi;have ksz:=ag.mk bG;have kok':=ag.mk iF;have khb:=ag.mk hb;clear hW sK nC mM fi bG iF;generalize l++(its.take i).flatMap It.tk=la at *
   have kU:la.length<=1000000000:=(by rw[cO] at dS;omega);cases it with
   |word s=>
    have aZ:∀h:ae,W.call 121 [.list .tight 1 (strs words),.v (.string (bs s))] h=aa (.ret (.v (.bool (words.contains s))),h):=λh=>Mb .tight words s bq h;cases hw:words.contains s with
    |true=>
     rw[hw] at aZ;have e1:wT s=⟨1,s,0,0⟩:=(by unfold wT;rw[aB hw]);have oI:=Dm (h:=h') (t:=⟨1,s,0,0⟩) (kca.out.mono (cz _)) ksz.out kU;have kn:=ag.mk (Wr.next (t:=⟨1,s,0,0⟩) khb.out kca.out kok'.out xJ (by have:=dS;rw[It.tk,e1] at this;exact this));clear hw dS;rw[It.av] at xH
     repeat' (first|simp(maxSteps:=9999999) (disch:=first|exact dZ|fail) only[gW,reduceIte,ao,al,ya,aV,ck,aJ,LA,vj,Dt,Du,FP, *]|refine dX ?_ ?_<;>(intro _;try omega))
     exact⟨its.length - (i+1),by omega,i+1,by omega,rfl,(by first|trivial|(simp;done)|(simp;omega)),(by first|trivial|(simp;done)|(simp;omega)),(by first|trivial|(simp;done)|(simp;omega)),(by first|trivial|(simp;done)|(simp;omega)),(by first|trivial|(simp;done)|(simp;omega)),km.out.trans kn.out.2,by rw[kfl.out,It.tk,e1];exact kn.out.1⟩
    |false=>
     rw[hw] at aZ;have e1:wT s=⟨3,s,0,0⟩:=(by unfold wT;rw[ax (by rw[hw];decide)]);have oI:=Dm (h:=h') (t:=⟨3,s,0,0⟩) (kca.out.mono (cz _)) ksz.out kU;have kn:=ag.mk (Wr.next (t:=⟨3,s,0,0⟩) khb.out kca.out kok'.out xJ (by have:=dS;rw[It.tk,e1] at this;exact this));clear hw dS;rw[It.av] at xH
     repeat' (first|simp(maxSteps:=9999999) (disch:=first|exact dZ|fail) only[gW,reduceIte,ao,al,ya,aV,ck,aJ,LA,vj,Dt,GV,Du,FP, *]|refine dX ?_ ?_<;>(intro _;try omega))
     exact⟨its.length - (i+1),by omega,i+1,by omega,rfl,(by first|trivial|(simp;done)|(simp;omega)),(by first|trivial|(simp;done)|(simp;omega)),(by first|trivial|(simp;done)|(simp;omega)),(by first|trivial|(simp;done)|(simp;omega)),(by first|trivial|(simp;done)|(simp;omega)),km.out.trans kn.out.2,by rw[kfl.out,It.tk,e1];exact kn.out.1⟩
   |name s=>
    have oI:=Dm (h:=h') (t:=⟨1,s,0,0⟩) (kca.out.mono (cz _)) ksz.out kU;have kn:=ag.mk (Wr.next (t:=⟨1,s,0,0⟩) khb.out kca.out kok'.out xJ (by have:=dS;rw[It.tk,nT] at this;exact this));clear dS;rw[It.av] at xH
    repeat' (first|simp(maxSteps:=9999999) (disch:=first|exact dZ|fail) only[gW,reduceIte,ao,al,ya,aV,ck,aJ,Tq,Tp,vj,Dt,GV,Du,FP, *]|refine dX ?_ ?_<;>(intro _;try omega))
    exact⟨its.length - (i+1),by omega,i+1,by omega,rfl,(by first|trivial|(simp;done)|(simp;omega)),(by first|trivial|(simp;done)|(simp;omega)),(by first|trivial|(simp;done)|(simp;omega)),(by first|trivial|(simp;done)|(simp;omega)),(by first|trivial|(simp;done)|(simp;omega)),km.out.trans kn.out.2,by rw[kfl.out,It.tk,nT];exact kn.out.1⟩
   |num d=>
    have oI:=Dm (h:=h') (t:=⟨2,[],d,0⟩) (kca.out.mono (cz _)) ksz.out kU;have kn:=ag.mk (Wr.next (t:=⟨2,[],d,0⟩) khb.out kca.out kok'.out xJ (by have:=dS;rw[It.tk,dT] at this;exact this));clear dS;rw[It.av] at xH
    repeat' (first|simp(maxSteps:=9999999) (disch:=first|exact dZ|fail) only[gW,reduceIte,ao,al,ya,aV,ck,aJ,Tx,Tv,Tw,vj,Dt,GV,Du,FP, *]|refine dX ?_ ?_<;>(intro _;try omega))
    exact⟨its.length - (i+1),by omega,i+1,by omega,rfl,(by first|trivial|(simp;done)|(simp;omega)),(by first|trivial|(simp;done)|(simp;omega)),(by first|trivial|(simp;done)|(simp;omega)),(by first|trivial|(simp;done)|(simp;omega)),(by first|trivial|(simp;done)|(simp;omega)),km.out.trans kn.out.2,by rw[kfl.out,It.tk,dT];exact kn.out.1⟩
   |ex x row=>
    obtain⟨hw,tokx,szx,rowsx,rfl,iv⟩:=kmem.out;obtain⟨h2,c2,m2,W2⟩:=hw b n0 la (h'.push (ar x.kind x.n x.no x.name tokx szx rowsx)) tokx szx rowsx ⟨⟨tok,sz,bW khb.out,ksz.out,kca.out⟩,kok'.out,xJ,kU⟩ (by have:=dS;rw[It.tk] at this;exact this) iv;have km2:=ag.mk ((km.out.push (ar x.kind x.n x.no x.name tokx szx rowsx)).trans m2);have kW2:=ag.mk W2;clear hw m2 W2 dS iv;rw[It.av] at xH
    repeat' (first|simp(maxSteps:=9999999) (disch:=first|exact dZ|fail) only[gW,reduceIte,ao,al,ya,aV,ck,aJ,Tu,Tr,Tt,Ts,dw,dC,bH, *]|refine dX ?_ ?_<;>(intro _;try omega))
    exact⟨its.length - (i+1),by omega,i+1,by omega,rfl,(by first|trivial|(simp;done)|(simp;omega)),(by first|trivial|(simp;done)|(simp;omega)),(by first|trivial|(simp;done)|(simp;omega)),(by first|trivial|(simp;done)|(simp;omega)),(by first|trivial|(simp;done)|(simp;omega)),km2.out,by rw[kfl.out,It.tk];exact kW2.out⟩
  ·have cJ:i=its.length:=(by omega);subst cJ;have fX:¬((its.length:Int)<(its.length:Int)):=(by omega);rw[jk] at kW'
   repeat' (first|simp(maxSteps:=9999999) (disch:=first|exact dZ|fail) only[gW,reduceIte,ao,al,ya, *]|refine dX ?_ ?_<;>(intro _;try omega))
   exact⟨_,_,rfl,rfl,km.out,kW'.out⟩
 ·refine⟨0,cz _,rfl,?_,?_,?_,?_,?_,bp.refl _ _ _,by simpa using kW.out⟩<;>simp only[gW,reduceIte,ao,al,vy]<;>rfl
def tv:Tryz.f124.results.toList=[]:=ai
def FZ:∀(a b:List Ex) (f:Bool),gK f (a++b)=gK f a++gK (f&&a.isEmpty) b:=by
 intro a
 induction a with
 |nil=>intro b f;simp[gK]|cons x r ih=>intro b f;rw[bR,gK,gK,ih];simp
def FY:∀(a b:List Ex) (f:Bool),eD f (a++b)=eD f a++eD (f&&a.isEmpty) b:=by
 intro a
 induction a with
 |nil=>intro b f;simp[eD]|cons x r ih=>intro b f;rw[bR,eD,eD,ih];simp
def afM:∀(l:List Ex) (f:Bool),l.length<=(gK f l).length:=by
 intro l
 induction l with
 |nil=>intro f;exact cz _|cons y r ih=>intro f;have:=ih ak;rw[gK];simp only[cO,dD];omega
def afH:∀(x:Ex),1<=(cM x).length:=by
 intro x;cases x with
 |mk k n no s l=>
  rw[cM];split
  ·simp
  split
  ·simp
  split
  ·simp
  ·simp
def Kq:∀(l:List Ex) (f:Bool),l.length<=(eD f l).length:=by
 intro l
 induction l with
 |nil=>intro f;exact cz _|cons y r ih=>intro f;have:=ih ak;have:=afH y;rw[eD];simp only[cO,dD];omega
def sq(t:aE)(x:AV):gl aq 160 1 [(0,.iface t x)]=aa (.list .tight 1 [[.iface t x]]):=ai
def ss(t u:aE)(x y:AV):gl aq 160 2 [(0,.iface t x),(1,.iface u y)]=aa (.list .tight 1 [[.iface t x],[.iface u y]]):=ai
def jG(t u v:aE)(x y z:AV):gl aq 160 3 [(0,.iface t x),(1,.iface u y),(2,.iface v z)]=aa (.list .tight 1 [[.iface t x],[.iface u y],[.iface v z]]):=ai
def jH(t u v w:aE)(x y z q:AV):gl aq 160 4 [(0,.iface t x),(1,.iface u y),(2,.iface v z),(3,.iface w q)]=aa (.list .tight 1 [[.iface t x],[.iface u y],[.iface v z],[.iface w q]]):=ai
def N6:isIface aq 9=aa ak:=ai
def N3:isIface aq 104=aa ak:=ai
def N5:isIface aq 3=aa ak:=ai
def N4:isIface aq 26=aa ak:=ai
def tq(k n no:Int)(s:List UInt8)(tok:Tok)(sz:Nat)(rows:List (List AV)):((ar k n no s tok sz rows).drop 0).take 5=ar k n no s tok sz rows:=rfl
def tj(k n no:Int)(s:List UInt8)(tok:Tok)(sz:Nat)(rows:List (List AV)):((ar k n no s tok sz rows).drop 1).head?=aa (.v (.int .i64 n)):=rfl
def tl(k n no:Int)(s:List UInt8)(tok:Tok)(sz:Nat)(rows:List (List AV)):((ar k n no s tok sz rows).drop 3).head?=aa (.v (.string (bs s))):=rfl
def tg(k n no:Int)(s:List UInt8)(tok:Tok)(sz:Nat)(rows:List (List AV)):((ar k n no s tok sz rows).drop 0).head?=aa (.v (.int .i64 k)):=rfl
def tm(k n no:Int)(s:List UInt8)(tok:Tok)(sz:Nat)(rows:List (List AV)):((ar k n no s tok sz rows).drop 4).head?=aa (.list tok sz rows):=rfl
def tt(k n no:Int)(s:List UInt8)(tok:Tok)(sz:Nat)(rows:List (List AV)):(AV.agg (ar k n no s tok sz rows)).cF=aa (ar k n no s tok sz rows):=rfl
def Wr.push{b n0:Nat}{l:List Tk}{h:ae}(w:Wr b n0 l h)(cs:List AV):Wr b n0 l (h.push cs):=by obtain⟨tok,sz,hb,hs,hc⟩:=w.box;exact⟨⟨tok,sz,bW hb,hs,hc⟩,w.ok,w.tn,w.cI⟩
def Wr.lt{b n0:Nat}{l:List Tk}{h:ae}(w:Wr b n0 l h):b<h.boxes.length:=by obtain⟨tok,sz,hb,-,-⟩:=w.box;exact(aF.1 hb).1
def Rb:∀x,Di x:=by
 intro x
 induction x using Ex.ind with
 |h k nn no s l ih=>
  intro b n0 l0 h tok sz rows Wl hl et;obtain⟨cu,bG,cP⟩:=Row.yO et;simp only[Ex.kind,Ex.n,Ex.no,Ex.name,Ex.l] at cu bG cP ⊢;have a26:=eG;have s26:=ec;have z26:=nS;have a24:=jm;have s24:=wA;have u24:=j6;have a3:=dE;have a9:=dR;have i9:=N6;have i104:=N3;have i3:=N5;have i26:=N4;have W0:=Wl.push (ar k nn no s tok sz rows);have nb:=Wl.lt;unfold yA;rw[cM] at hl ⊢;by_cases h1:k=1
  ·rw[aB h1] at hl ⊢;obtain⟨h2,c2,m2,W2⟩:=nL b n0 .tight [.word jz,.name s] (λi hi=>by simp at hi;rcases hi with rfl|rfl<;>trivial) bh l0 _ W0 hl;simp only[gB,nV,It.av,jz] at c2;have d1:decide (k=1)=ab:=fJ h1;have aN:=ag.mk (((bp.refl b n0 h).push (ar k nn no s tok sz rows)).trans m2);have kW:=ag.mk W2;clear W0 W2 Wl m2 hl et cu ih h1;refine eI rfl Gv rfl ?_
   repeat' (first|simp(maxSteps:=9999999) (disch:=first|exact dZ|fail) only[gW,reduceIte,ao,al,tv,tt,iP,jK,gr,bZ,tg,tj,tl,tm,sq,ss,jG,jH, *]|refine dX ?_ ?_<;>(intro _;try omega))
   exact⟨_,rfl,aN.out,kW.out⟩
  rw[ax h1] at hl ⊢;have d1:decide (k=1)=ak:=mH h1;by_cases h2:k=2
  ·rw[aB h2] at hl ⊢;obtain⟨h3,c2,m2,W2⟩:=nL b n0 .tight [.word lf,.num nn,.word gx,.name s] (λi hi=>by simp at hi;rcases hi with rfl|rfl|rfl|rfl<;>trivial) bh l0 _ W0 hl;simp only[gB,nV,It.av,lf,gx] at c2;have d2:decide (k=2)=ab:=fJ h2;have aN:=ag.mk (((bp.refl b n0 h).push (ar k nn no s tok sz rows)).trans m2);have kW:=ag.mk W2;clear W0 W2 Wl m2 hl et cu ih h1 h2;refine eI rfl Gv rfl ?_
   repeat' (first|simp(maxSteps:=9999999) (disch:=first|exact dZ|fail) only[gW,reduceIte,ao,al,tv,tt,iP,jK,gr,bZ,tg,tj,tl,tm,sq,ss,jG,jH, *]|refine dX ?_ ?_<;>(intro _;try omega))
   exact⟨_,rfl,aN.out,kW.out⟩
  rw[ax h2] at hl ⊢;have d2:decide (k=2)=ak:=mH h2;by_cases h4:k=4
  ·rw[aB h4] at hl ⊢;have d4:decide (k=4)=ab:=fJ h4;obtain⟨pA,c2,m2,W2⟩:=nL b n0 .tight [.word ld,.num nn] (λi hi=>by simp at hi;rcases hi with rfl|rfl<;>trivial) bh l0 _ W0 (by have:=hl;simp only[qg,si,It.tk,cO,dD,iJ] at this ⊢;omega);simp only[gB,nV,It.av,ld] at c2;have kM2:=ag.mk (((bp.refl b n0 h).push (ar k nn no s tok sz rows)).trans m2);have x2:=m2.box _ _ aj (bX h (ar k nn no s tok sz rows));have nx2:=(aF.1 x2).1;have kW2:ag (Wr b n0 (l0++(wT ld::dT nn::gK ab [])) pA):=.mk (by have:=W2;simp only[qg,si,It.tk,dI,bR,bT] at this;rw[gK];simpa using this);have khl:=ag.mk hl;have kih:=ag.mk ih;have kr:=ag.mk cu;have kz:=ag.mk bG;have gh:=cu.1;have du:l.length<=1000000000:=(by have a1:=hl;have a2:=afM l ab;simp only[cO,dD,iJ] at a1;omega);clear W0 W2 Wl m2 hl et cu bG ih h1 h2 h4;refine eI rfl Gv rfl ?_
   repeat' (first|simp(maxSteps:=9999999) (disch:=first|exact dZ|fail) only[gW,reduceIte,ao,al,tv,tt,iP,jK,gr,bZ,tg,tj,tl,tm,tq,sq,ss,jG,jH,aA,dw,dC,bH,aV,dr, *]|refine dX ?_ ?_<;>(intro _;try omega))
   refine eX (λm e h'=>∃(i:Nat),i<=l.length/\m=l.length - i/\e.get 0=.ptr (.box b) 0/\e.get 74=.list tok sz rows/\e.get 75=.v (.int .i64 (l.length:Nat))/\e.get 76=.v (.int .i64 i)/\e.defers=[]/\bp b n0 h h'/\Wr b n0 (l0++(wT ld::dT nn::gK ab (l.take i))) h') ?_ l.length _ _ ?_
   ·rintro m e h' ⟨i,hi,rfl,g0,g1,g2,g3,hd,hm,hW⟩;have km:=ag.mk hm;have nb':=hW.lt;by_cases ay:i<l.length
    ·obtain⟨y,r,hy,hr,cX⟩:=kr.out.get ay;have h5:=kz.out i ay;subst h5;obtain⟨tky,szy,rowsy,rfl,-⟩:=Row.iQ cX;have dU:(i:Int)<(rows.length:Int):=(by rw[gh];omega);have fX:(i:Int)<(l.length:Int):=(by omega);have qC:5<=((ar y.kind y.n y.no y.name tky szy rowsy).drop 0).length:=(by rw[fc];exact aK _);have nC:l.take (i+1)=l.take i++[y]:=(by obtain⟨hj,rfl⟩:=aF.1 hy;exact nj hj);have hbound:(l0++(wT ld::dT nn::gK ab (l.take (i+1)))).length<=1000000000:=(by have a1:=khl.out;have a2:gK ab l=gK ab (l.take (i+1))++gK (ab&&(l.take (i+1)).isEmpty) (l.drop (i+1)):=(by rw[<-FZ,K3]);rw[a2] at a1;simp only[cO,dD,iJ] at a1 ⊢;omega);rw[nC,FZ] at hbound;have WP:=hW.push (ar y.kind y.n y.no y.name tky szy rowsy);have hE:Di y:=kih.out y (ie hy);have ug:∀it∈([.word gF,.ex y (ar y.kind y.n y.no y.name tky szy rowsy),.word gm]:List It),it.ok:=by
      intro it sK;simp only[fe,ow,or_false] at sK;rcases sK with rfl|rfl|rfl
      ·exact trivial
      ·exact⟨hE,_,_,_,rfl,cX⟩
      ·exact trivial
     by_cases h0:i=0
     ·have e0:l.take i=[]:=(by rw[h0];rfl);rw[e0] at hbound WP;obtain⟨h3,c3,m3,W3⟩:=nL b n0 .tight [.word gF,.ex y (ar y.kind y.n y.no y.name tky szy rowsy),.word gm] ug bh _ _ WP (by have:=hbound;simp only[qg,si,It.tk,gK,R5,uS,if_true,cO,dD,iJ] at this ⊢;omega);simp only[gB,nV,It.av,gF,gm] at c3;have kM3:=ag.mk ((km.out.push (ar y.kind y.n y.no y.name tky szy rowsy)).trans m3);have kW3:=ag.mk W3;have qp:¬(0:Int)<(i:Int):=(by omega);have AT:decide ((0:Int)<(i:Int))=ak:=mH qp;have ke0:=ag.mk e0;have ktk:=ag.mk nC;clear hm hW WP W3 m3 hbound hE nC e0 h0 cX hy ug
      repeat' (first|simp(maxSteps:=9999999) (disch:=first|exact dZ|fail) only[gW,reduceIte,ao,al,tv,tt,iP,jK,gr,bZ,tg,tj,tl,tm,tq,sq,ss,jG,jH,aA,dw,dC,bH,aV,dr, *]|refine dX ?_ ?_<;>(intro _;try omega))
      refine⟨l.length - (i+1),by omega,i+1,by omega,rfl,(by first|trivial|(simp;done)|(simp;omega)),(by first|trivial|(simp;done)|(simp;omega)),(by first|trivial|(simp;done)|(simp;omega)),(by first|trivial|(simp;done)|(simp;omega)),(by first|trivial|(simp;done)|(simp;omega)),kM3.out,?_⟩;have:=kW3.out;rw[ktk.out,FZ,ke0.out];simpa [It.tk,gK] using this
     ·have e0:(l.take i).isEmpty=ak:=by
       cases hq:l.take i with|nil=>exfalso;have:=congrArg qY hq;rw[ng,iJ] at this;omega|cons _ _=>rfl
      rw[e0] at hbound;obtain⟨h3,c3,m3,W3⟩:=nL b n0 .tight [.word nE] (λi hi=>by simp at hi;subst hi;trivial) bh _ _ WP (by have:=hbound;simp only[qg,si,It.tk,gK,CY,dP,if_false,cO,dD,iJ] at this ⊢;omega);simp only[gB,nV,It.av,nE] at c3;have x3:=m3.box _ _ aj (bX h' (ar y.kind y.n y.no y.name tky szy rowsy));have nx3:=(aF.1 x3).1;obtain⟨AX,c4,m4,W4⟩:=nL b n0 .tight [.word gF,.ex y (ar y.kind y.n y.no y.name tky szy rowsy),.word gm] ug bh _ _ W3 (by have:=hbound;simp only[qg,si,It.tk,gK,CY,dP,if_false,cO,dD,iJ] at this ⊢;omega);simp only[gB,nV,It.av,gF,gm] at c4;have kM4:=ag.mk (((km.out.push (ar y.kind y.n y.no y.name tky szy rowsy)).trans m3).trans m4);have kW4:=ag.mk W4;have qp:(0:Int)<(i:Int):=(by omega);have AT:decide ((0:Int)<(i:Int))=ab:=fJ qp;have ke0:=ag.mk e0;have ktk:=ag.mk nC;clear hm hW WP W3 W4 m3 m4 hbound hE nC e0 cX hy ug
      repeat' (first|simp(maxSteps:=9999999) (disch:=first|exact dZ|fail) only[gW,reduceIte,ao,al,tv,tt,iP,jK,gr,bZ,tg,tj,tl,tm,tq,sq,ss,jG,jH,aA,dw,dC,bH,aV,dr, *]|refine dX ?_ ?_<;>(intro _;try omega))
      refine⟨l.length - (i+1),by omega,i+1,by omega,rfl,(by first|trivial|(simp;done)|(simp;omega)),(by first|trivial|(simp;done)|(simp;omega)),(by first|trivial|(simp;done)|(simp;omega)),(by first|trivial|(simp;done)|(simp;omega)),(by first|trivial|(simp;done)|(simp;omega)),kM4.out,?_⟩;have:=kW4.out;rw[ktk.out,FZ,ke0.out];simpa [It.tk,gK] using this
    ·have cJ:i=l.length:=(by omega);subst cJ;have fX:¬((l.length:Int)<(l.length:Int)):=(by omega);rw[jk] at hW;have kW:=ag.mk hW;clear hW
     repeat' (first|simp(maxSteps:=9999999) (disch:=first|exact dZ|fail) only[gW,reduceIte,ao,al,tv,tt,iP,jK,gr,bZ,tg,tj,tl,tm,tq,sq,ss,jG,jH,aA,dw,dC,bH,aV,dr, *]|refine dX ?_ ?_<;>(intro _;try omega))
     exact⟨_,rfl,km.out,kW.out⟩
   ·refine⟨0,cz _,rfl,?_,?_,?_,?_,?_,kM2.out,kW2.out⟩<;>simp only[gW,reduceIte,ao,al,gh]<;>rfl
  rw[ax h4] at hl ⊢;have d4:decide (k=4)=ak:=mH h4;obtain⟨pA,c2,m2,W2⟩:=nL b n0 .tight [.num nn,.word gx,.word gF] (λi hi=>by simp at hi;rcases hi with rfl|rfl|rfl<;>trivial) bh l0 _ W0 (by have:=hl;simp only[qg,si,It.tk,cO,dD,iJ] at this ⊢;omega);simp only[gB,nV,It.av,gx,gF] at c2;have kM2:=ag.mk (((bp.refl b n0 h).push (ar k nn no s tok sz rows)).trans m2);have x2:=m2.box _ _ aj (bX h (ar k nn no s tok sz rows));have nx2:=(aF.1 x2).1;have kW2:ag (Wr b n0 (l0++(dT nn::wT gx::wT gF::eD ab [])) pA):=.mk (by have:=W2;simp only[qg,si,It.tk,dI,bR,bT] at this;rw[eD];simpa using this);have khl:=ag.mk hl;have kih:=ag.mk ih;have kr:=ag.mk cu;have kz:=ag.mk bG;have gh:=cu.1;have du:l.length<=1000000000:=by have a1:=hl;have a2:=Kq l ab;simp only[cO,dD,iJ] at a1;omega
  clear W0 W2 Wl m2 hl et cu bG ih h1 h2 h4;refine eI rfl Gv rfl ?_
  repeat' (first|simp(maxSteps:=9999999) (disch:=first|exact dZ|fail) only[gW,reduceIte,ao,al,tv,tt,iP,jK,gr,bZ,tg,tj,tl,tm,tq,sq,ss,jG,jH,aA,dw,dC,bH,aV,dr, *]|refine dX ?_ ?_<;>(intro _;try omega))
  refine eX (λm e h'=>∃(i:Nat),i<=l.length/\m=l.length - i/\e.get 0=.ptr (.box b) 0/\e.get 19=.list tok sz rows/\e.get 20=.v (.int .i64 (l.length:Nat))/\e.get 21=.v (.int .i64 i)/\e.defers=[]/\bp b n0 h h'/\Wr b n0 (l0++(dT nn::wT gx::wT gF::eD ab (l.take i))) h') ?_ l.length _ _ ?_
  ·rintro m e h' ⟨i,hi,rfl,g0,g1,g2,g3,hd,hm,hW⟩;have km:=ag.mk hm;have nb':=hW.lt;by_cases ay:i<l.length
   ·obtain⟨y,r,hy,hr,cX⟩:=kr.out.get ay;have h5:=kz.out i ay;subst h5;obtain⟨tky,szy,rowsy,rfl,-⟩:=Row.iQ cX;have dU:(i:Int)<(rows.length:Int):=(by rw[gh];omega);have fX:(i:Int)<(l.length:Int):=(by omega);have qC:5<=((ar y.kind y.n y.no y.name tky szy rowsy).drop 0).length:=(by rw[fc];exact aK _);have nC:l.take (i+1)=l.take i++[y]:=(by obtain⟨hj,rfl⟩:=aF.1 hy;exact nj hj);have hbound:(l0++(dT nn::wT gx::wT gF::eD ab (l.take (i+1)))).length<=1000000000:=(by have a1:=khl.out;have a2:eD ab l=eD ab (l.take (i+1))++eD (ab&&(l.take (i+1)).isEmpty) (l.drop (i+1)):=(by rw[<-FY,K3]);rw[a2] at a1;simp only[cO,dD,iJ] at a1 ⊢;omega);rw[nC,FY] at hbound;have WP:=hW.push (ar y.kind y.n y.no y.name tky szy rowsy);have hE:Di y:=kih.out y (ie hy);have ug:∀it∈([.ex y (ar y.kind y.n y.no y.name tky szy rowsy)]:List It),it.ok:=(by intro it sK;simp only[fe,ow,or_false] at sK;subst sK;exact⟨hE,_,_,_,rfl,cX⟩);by_cases h0:i=0
    ·have e0:l.take i=[]:=(by rw[h0];rfl);rw[e0] at hbound WP;obtain⟨h3,c3,m3,W3⟩:=nL b n0 .tight [.ex y (ar y.kind y.n y.no y.name tky szy rowsy)] ug bh _ _ WP (by have:=hbound;simp only[qg,si,It.tk,eD,R5,uS,if_true,cO,dD,iJ] at this ⊢;omega);simp only[gB,nV,It.av] at c3;have kM3:=ag.mk ((km.out.push (ar y.kind y.n y.no y.name tky szy rowsy)).trans m3);have kW3:=ag.mk W3;have qp:¬(0:Int)<(i:Int):=(by omega);have AT:decide ((0:Int)<(i:Int))=ak:=mH qp;have ke0:=ag.mk e0;have ktk:=ag.mk nC;clear hm hW WP W3 m3 hbound hE nC e0 h0 cX hy ug
     repeat' (first|simp(maxSteps:=9999999) (disch:=first|exact dZ|fail) only[gW,reduceIte,ao,al,tv,tt,iP,jK,gr,bZ,tg,tj,tl,tm,tq,sq,ss,jG,jH,aA,dw,dC,bH,aV,dr, *]|refine dX ?_ ?_<;>(intro _;try omega))
     refine⟨l.length - (i+1),by omega,i+1,by omega,rfl,(by first|trivial|(simp;done)|(simp;omega)),(by first|trivial|(simp;done)|(simp;omega)),(by first|trivial|(simp;done)|(simp;omega)),(by first|trivial|(simp;done)|(simp;omega)),(by first|trivial|(simp;done)|(simp;omega)),kM3.out,?_⟩;have:=kW3.out;rw[ktk.out,FY,ke0.out];simpa [It.tk,eD] using this
    ·have e0:(l.take i).isEmpty=ak:=by
      cases hq:l.take i with|nil=>exfalso;have:=congrArg qY hq;rw[ng,iJ] at this;omega|cons _ _=>rfl
     rw[e0] at hbound;obtain⟨h3,c3,m3,W3⟩:=nL b n0 .tight [.word gd] (λi hi=>by simp at hi;subst hi;trivial) bh _ _ WP (by have:=hbound;simp only[qg,si,It.tk,eD,CY,dP,if_false,cO,dD,iJ] at this ⊢;omega);simp only[gB,nV,It.av,gd] at c3;have x3:=m3.box _ _ aj (bX h' (ar y.kind y.n y.no y.name tky szy rowsy));have nx3:=(aF.1 x3).1;obtain⟨AX,c4,m4,W4⟩:=nL b n0 .tight [.ex y (ar y.kind y.n y.no y.name tky szy rowsy)] ug bh _ _ W3 (by have:=hbound;simp only[qg,si,It.tk,eD,CY,dP,if_false,cO,dD,iJ] at this ⊢;omega);simp only[gB,nV,It.av] at c4;have kM4:=ag.mk (((km.out.push (ar y.kind y.n y.no y.name tky szy rowsy)).trans m3).trans m4);have kW4:=ag.mk W4;have qp:(0:Int)<(i:Int):=(by omega);have AT:decide ((0:Int)<(i:Int))=ab:=fJ qp;have ke0:=ag.mk e0;have ktk:=ag.mk nC;clear hm hW WP W3 W4 m3 m4 hbound hE nC e0 cX hy ug
     repeat' (first|simp(maxSteps:=9999999) (disch:=first|exact dZ|fail) only[gW,reduceIte,ao,al,tv,tt,iP,jK,gr,bZ,tg,tj,tl,tm,tq,sq,ss,jG,jH,aA,dw,dC,bH,aV,dr, *]|refine dX ?_ ?_<;>(intro _;try omega))
     refine⟨l.length - (i+1),by omega,i+1,by omega,rfl,(by first|trivial|(simp;done)|(simp;omega)),(by first|trivial|(simp;done)|(simp;omega)),(by first|trivial|(simp;done)|(simp;omega)),(by first|trivial|(simp;done)|(simp;omega)),(by first|trivial|(simp;done)|(simp;omega)),kM4.out,?_⟩;have:=kW4.out;rw[ktk.out,FY,ke0.out];simpa [It.tk,eD] using this
   ·have cJ:i=l.length:=(by omega);subst cJ;have fX:¬((l.length:Int)<(l.length:Int)):=(by omega);rw[jk] at hW;obtain⟨h5,c5,m5,W5⟩:=nL b n0 .tight [.word gm] (λi hi=>by simp at hi;subst hi;trivial) bh _ _ hW (by have:=khl.out;simp only[qg,si,It.tk,cO,dD,iJ] at this ⊢;omega);simp only[gB,nV,It.av,gm] at c5;have kM:=ag.mk (hm.trans m5);have kW:=ag.mk W5;clear hW hm m5 W5
    repeat' (first|simp(maxSteps:=9999999) (disch:=first|exact dZ|fail) only[gW,reduceIte,ao,al,tv,tt,iP,jK,gr,bZ,tg,tj,tl,tm,tq,sq,ss,jG,jH,aA,dw,dC,bH,aV,dr, *]|refine dX ?_ ?_<;>(intro _;try omega))
    refine⟨_,rfl,kM.out,?_⟩;have:=kW.out;simpa [It.tk] using this
  ·refine⟨0,cz _,rfl,?_,?_,?_,?_,?_,kM2.out,kW2.out⟩<;>simp only[gW,reduceIte,ao,al,gh]<;>rfl
def GN{h:ae}{tok k':Tok}{sz:Nat}{rows new:List (List AV)}(hk:dx 0 h tok)(hs:sz=5∨(rows=[]/\tok=.nil))(hl:rows.length+new.length<=1000000000)(bL:new≠[]):
 iM aq h #[24,24] (.list tok sz rows) (.list k' 5 new)=aa (.list (.free h.tn) 5 (rows++new),h.app tok):=by
 have hi:(aq.info? 26).map (λi=>(decide (i.bytes<=1000),i.size,i.zero.map λz=>z.cells.size))=aa (ab,5,aa 5):=ai;cases hq:aq.info? 26 with
 |none=>rw[hq] at hi;cases hi
 |some i=>
  rw[hq] at hi;simp only[cy,aY,aW,decide_eq_true_eq] at hi;obtain⟨i1,i2,i3⟩:=hi;have hm:(rows.length+new.length) * i.bytes<=1000000000 * 1000:=Su hl i1;have:=wV (k':=k') (new:=new) (es:=rows) j6 j6 hq aj (by rw[i3,i2]) bL aj aj
   (by rw[i2];exact hs) hk
  rw[i2] at this;exact this
def S8{h:ae}{tok k':Tok}{sz':Nat}{rows:List (List AV)}:iM aq h #[24,24] (.list tok 5 rows) (.list k' sz' [])=aa (.list tok 5 rows,h):=by
 have hi:(aq.info? 26).map (λi=>(i.size,i.zero.map λz=>z.cells.size))=aa (5,aa 5):=ai;cases hq:aq.info? 26 with
 |none=>rw[hq] at hi;cases hi
 |some i=>
  rw[hq] at hi;simp only[cy,aY,aW] at hi;obtain⟨i2,i3⟩:=hi;have hn:s6 h 5 (.list k' sz' [])=aa []:=by simp[s6,rowsOf]
  unfold iM;simp[j6,hq,hn,i2,i3]
def VN(l:List Ex)(v:AV):Prop:=∃tok sz rows,v=.list tok sz rows/\Go.Pol.Rows l rows/\∀i:Nat,i<l.length->sz=5
def PR.pre{α:Type}(a:List α):PR (List α)->PR (List α)
 | .ok t r=>.ok (a++t) r
 | .bad r=>.bad r
def pre_nil{α:Type}(x:PR (List α)):PR.pre [] x=x:=by cases x<;>rfl
def JA{α:Type}(a:List α)(x:α)(y:PR (List α)):PR.pre a (y.bind λt r=>.ok (x::t) r)=PR.pre (a++[x]) y:=by
 cases y with|ok t r=>show PR.ok (a++x::t) r=PR.ok (a++[x]++t) r;rw[lz];rfl|bad r=>rfl
section
variable {b:Nat} {tok:Tok} {sz:Nat} {l:List Tk} {n:Int} {p:Po} {t:PT} {h:ae}
def aa2{m c:Nat}(E:yz m)(n0:Nat)(P:Pa b tok sz l n p t h)(hc:h.boxes[c]?=aa [.ptr (.box b) 0])(pD:c≠b)(ho:cR h=ab)(hn:n0<=h.tn)(hl:l.length<=m):Reads 152 [.ptr (.box c) 0] b n0 n p t h xf (iV (cp m) l):=by
 have a26:=eG;have s26:=ec;have z26:=nS;have a109:=wS;have s109:=yg;have nb:=P.lt;have nc:=(aF.1 hc).1;obtain⟨r1,h1,c1,q1⟩:=ov n0 .tight gd (P.push (ar 0 0 0 [] .nil 0 []));have e1:iV (cp m) l=(cS gd l).bind λ_ r=>cp m r:=rfl;unfold Reads;rw[e1];have bwo:=nu gd;simp only[gd] at c1 bwo;cases w1:cS gd l with
 |bad l1=>
  rw[w1] at q1;obtain⟨rfl,m1⟩:=q1;refine bO rfl Lj rfl ?_
  repeat' (first|simp(maxSteps:=9999999) (disch:=first|exact dZ|fail) only[gW,reduceIte,ao,al,JQ,aJ, *]|refine dX ?_ ?_<;>(intro _;try omega))
  exact⟨_,_,rfl,rfl,((bp.refl b n0 h).push _).trans m1⟩
 |ok u l1=>
  rw[w1] at q1;obtain⟨v1,tok1,mC,rfl,rfl,m1,P1⟩:=q1;have m1':=((bp.refl b n0 h).push (ar 0 0 0 [] .nil 0 [])).trans m1;have d1:=m1.box _ _ aj (bX h (ar 0 0 0 [] .nil 0 []));have dc:=m1'.box _ _ pD hc;have l1lt:=gX w1;obtain⟨r2,h2,c2,q2⟩:=E b n0 tok1 mC l1 n p t h1 P1 (m1'.ok ho) (cY hn m1'.tn) aj;rw[bE];cases w2:cp m l1 with
  |bad l2=>
   rw[w2] at q2;obtain⟨rfl,m2⟩:=q2;have aN:=ag.mk (m1'.trans m2);clear P1 P E m1 m1' m2;refine bO rfl Lj rfl ?_
   repeat' (first|simp(maxSteps:=9999999) (disch:=first|exact dZ|fail) only[gW,reduceIte,ao,al,JQ,aJ, *]|refine dX ?_ ?_<;>(intro _;try omega))
   exact⟨_,_,rfl,rfl,aN.out⟩
  |ok x l2=>
   rw[w2] at q2;obtain⟨v2,tok2,sz2,rfl,⟨tkx,szx,rowsx,rfl,iv⟩,m2,P2⟩:=q2;have m2':=m1'.trans m2;have d2:=m2.box _ _ aj d1;have nd2:=(aF.1 d2).1;have aN:=ag.mk (m2'.dm (aK _) (ar x.kind x.n x.no x.name tkx szx rowsx));have kP:=ag.mk (P2.put (c:=h.boxes.length) aj (ar x.kind x.n x.no x.name tkx szx rowsx));have khr:=ag.mk iv;clear P1 P2 P E m1 m2 m1' m2' iv;refine bO rfl Lj rfl ?_
   repeat' (first|simp(maxSteps:=9999999) (disch:=first|exact dZ|fail) only[gW,reduceIte,ao,al,JQ,aJ,dw,dC,bH, *]|refine dX ?_ ?_<;>(intro _;try omega))
   exact⟨_,_,rfl,_,_,_,rfl,⟨_,_,_,rfl,khr.out⟩,aN.out,kP.out⟩
def aeD{m c:Nat}(E:yz m)(n0:Nat)(P:Pa b tok sz l n p t h)(hc:h.boxes[c]?=aa [.ptr (.box b) 0])(pD:c≠b)(ho:cR h=ab)(hn:n0<=h.tn)(hl:l.length<=m)(f:Nat)(hf:l.length<f):
 Reads 151 [.ptr (.box b) 0,.v (.string (bs gd)),.func (.func 152) [] [.ptr (.box c) 0]] b n0 n p t h VN (cD gd (iV (cp m)) f l):=by
 unfold Reads;have kP:=ag.mk P;have kE:=ag.mk E;have kc:=ag.mk hc;have ko:=ag.mk ho;have D7:=P.cI;clear P E hc ho;refine bO rfl Tryz.func151 rfl ?_
 repeat' (first|simp(maxSteps:=9999999) (disch:=first|exact dZ|fail) only[gW,reduceIte,ao,al,Fs, *]|refine dX ?_ ?_<;>(intro _;try omega))
 refine eX (λk e h'=>∃(a:List Ex) (tokL:Tok) (szL:Nat) (rowsL:List (List AV)) (tok':Tok) (sz':Nat) (l':List Tk) (f':Nat),k=l'.length/\e.get 0=.ptr (.box b) 0/\e.get 1=.v (.string (bs gd))/\e.get 2=.func (.func 152) [] [.ptr (.box c) 0]/\e.get 6=.list tokL szL rowsL/\e.defers=[]/\
  l'.length<f'/\a.length+l'.length<=l.length/\cD gd (iV (cp m)) f l=PR.pre a (cD gd (iV (cp m)) f' l')/\Go.Pol.Rows a rowsL/\(szL=5∨(rowsL=[]/\tokL=.nil))/\dx n0 h' tokL/\bp b n0 h h'/\cR h'=ab/\Pa b tok' sz' l' n p t h') ?_ l.length _ _ ?_
 ·rintro k e h' ⟨a,tokL,szL,rowsL,tok',sz',l',f',rfl,g0,g1,g2,g6,hd,D8,eE,od,et,bG,fi,hm,aU,hP⟩;have kpre:=ag.mk od;have krow:=ag.mk et;have ksz:=ag.mk bG;have kca:=ag.mk fi;have km:=ag.mk hm;have kok:=ag.mk aU;have kP':=ag.mk hP;have gh:=et.1;clear od et bG fi hm aU hP;have c1:=BJ gd kP'.out;obtain⟨f'',rfl⟩:∃f'',f'=f''+1:=⟨f' - 1,by omega⟩;cases hi:cq gd l' with
  |false=>
   rw[hi] at c1;have eU:cD gd (iV (cp m)) f l=.ok a l':=(by rw[kpre.out];unfold cD;rw[hi,ax bq];show PR.ok (a++[]) l'=_;rw[dI]);rw[eU];clear eU
   repeat' (first|simp(maxSteps:=9999999) (disch:=first|exact dZ|fail) only[gW,reduceIte,ao,al,Fs, *]|refine dX ?_ ?_<;>(intro _;try omega))
   refine⟨_,_,rfl,_,_,_,rfl,⟨_,_,_,rfl,krow.out,λi hi=>?_⟩,km.out,kP'.out⟩;rcases ksz.out with q|⟨q,-⟩
   ·exact q
   ·exfalso;have:=krow.out.1;rw[q] at this;simp at this;omega
  |true=>
   rw[hi] at c1;obtain⟨r2,h2,c2,q2⟩:=aa2 (c:=c) kE.out h'.tn kP'.out (km.out.box _ _ pD kc.out) pD kok.out (aK _) aj;cases w2:iV (cp m) l' with
   |bad l2=>
    rw[w2] at q2;obtain⟨rfl,m2⟩:=q2;have eU:cD gd (iV (cp m)) f l=.bad l2:=(by rw[kpre.out];unfold cD;rw[aB hi,w2];rfl);rw[eU];have aN:=ag.mk (km.out.trans (m2.uP (cY hn km.out.tn)));clear eU m2 kE
    repeat' (first|simp(maxSteps:=9999999) (disch:=first|exact dZ|fail) only[gW,reduceIte,ao,al,Fs,bR,bT, *]|refine dX ?_ ?_<;>(intro _;try omega))
    exact⟨_,_,rfl,rfl,aN.out⟩
   |ok x l2=>
    rw[w2] at q2;obtain⟨v2,tok2,sz2,rfl,⟨tkx,szx,rowsx,rfl,iv⟩,m2,P2⟩:=q2;have eQ:l2.length<l'.length:=(by have e1:iV (cp m) l'=(cS gd l').bind λ_ r=>cp m r:=rfl;rw[e1] at w2;obtain⟨_,l3,w3,w4⟩:=bD w2;have:=gX w3;have:=(s7 m).len l3;rw[w4] at this;have:l2.length<=l3.length:=this;omega);have gH:cD gd (iV (cp m)) f l=PR.pre (a++[x]) (cD gd (iV (cp m)) f'' l2):=by
     rw[kpre.out,<-JA];have e2:cD gd (iV (cp m)) (f''+1) l'=(iV (cp m) l').bind λx r=>(cD gd (iV (cp m)) f'' r).bind λt r=>.ok (x::t) r:=by
      conv=>lhs;unfold cD
      rw[aB hi]
     rw[e2,w2,bE]
    have kgo:=ag.mk gH;have km2:=ag.mk (km.out.trans (m2.uP (cY hn km.out.tn)));have kok2:=ag.mk (m2.ok kok.out);have kca2:dx n0 h2 tokL:=kca.out.mut m2 (aK _);have kca3:=ag.mk kca2;have oI:iM aq h2 #[24,24] (.list tokL szL rowsL) (.list .tight 5 [ar x.kind x.n x.no x.name tkx szx rowsx])=aa (.list (.free h2.tn) 5 (rowsL++[ar x.kind x.n x.no x.name tkx szx rowsx]),h2.app tokL):=GN (kca2.mono (cz _)) ksz.out (by rw[gh];simp;omega) bh;have kP2:=ag.mk P2;have khr:=ag.mk iv;clear gH m2 kE kca2 P2 iv
    repeat' (first|simp(maxSteps:=9999999) (disch:=first|exact dZ|fail) only[gW,reduceIte,ao,al,Fs,bR,bT,eH, *]|refine dX ?_ ?_<;>(intro _;try omega))
    refine⟨l2.length,eQ,a++[x],_,_,_,tok2,sz2,l2,f'',rfl,(by first|trivial|(simp;done)|(simp;omega)),(by first|trivial|(simp;done)|(simp;omega)),(by first|trivial|(simp;done)|(simp;omega)),(by first|trivial|(simp;done)|(simp;omega)),(by first|trivial|(simp;done)|(simp;omega)),by omega,by rw[cO,oY];omega,kgo.out,?_,.inl rfl,?_,?_,?_,?_⟩
    ·exact krow.out.snoc khr.out
    ·exact kca3.out.next kok2.out (cY hn km2.out.tn)
    ·exact km2.out.GM kca3.out
    ·exact(bp.app (b:=0) kca3.out).ok kok2.out
    ·exact kP2.out.app _
 ·refine⟨[],.nil,0,[],tok,sz,l,f,rfl,?_,?_,?_,?_,?_,hf,by simp,(pre_nil _).symm,Go.Pol.Rows.nil,.inr ⟨rfl,rfl⟩,.inl rfl,bp.refl _ _ _,ko.out,kP.out⟩<;>exact gR
end
def eC(r:Ref)(o:Nat):(AV.ptr r o).cF=aa [.ptr r o]:=rfl
def FD(b:Nat):fN (.ptr (.box b) 0) (.ptr (.box b) 0)=ab:=by simp[fN,FB]
structure At(b n0:Nat)(h h':ae)(x:List AV):Prop where
 mu:bp b n0 h h'
 ptr:h'.boxes[h.boxes.length]?=aa [.ptr (.box b) 0]
 res:h'.boxes[h.boxes.length+1]?=aa x
 lt:b<h.boxes.length
section
variable {b n0:Nat} {h h' h2:ae} {x y:List AV}
def At.start(hb:b<h.boxes.length)(x:List AV):At b n0 h ((h.push [.ptr (.box b) 0]).push x) x:=
 ⟨((bp.refl b n0 h).push _).push _,bW (bX _ _),by have:=bX (h.push [.ptr (.box b) 0]) x;rw[aA] at this;exact this,hb⟩
def At.call(a:At b n0 h h' x)(m:bp b n0 h' h2):At b n0 h h2 x:=
 ⟨a.mu.trans m,m.box _ _ (by have:=a.lt;omega) a.ptr,m.box _ _ (by have:=a.lt;omega) a.res,a.lt⟩
def At.len(a:At b n0 h h' x):h.boxes.length+1<h'.boxes.length:=(aF.1 a.res).1
def At.pQ(a:At b n0 h h' x):h.boxes.length<h'.boxes.length:=(aF.1 a.ptr).1
def At.set(a:At b n0 h h' x)(y:List AV):At b n0 h (h'.put (h.boxes.length+1) y) y:=
 ⟨a.mu.dm aj y,by rw[jX aj];exact a.ptr,mz a.len,a.lt⟩
end
section
variable {b:Nat} {tok:Tok} {sz:Nat} {l:List Tk} {n:Int} {p:Po} {t:PT} {h:ae}
def V7{m:Nat}(hi:cq jz l=ab):cp (m+1) l=(iw l.tail).bind λs r=>.ok (.mk 1 0 0 s []) r:=by
 conv=>lhs;unfold cp
 rw[aB hi]
def V9{m:Nat}(h1:cq jz l=ak)(hi:cq lf l=ab):cp (m+1) l=(iy l.tail).bind λn r=>(cS gx r).bind λ_ r=>(iw r).bind λs r=>.ok (.mk 2 n 0 s []) r:=by
 conv=>lhs;unfold cp
 rw[h1,ax bq,aB hi]
def V8{m:Nat}(h1:cq jz l=ak)(h2:cq lf l=ak)(hi:cq ld l=ab):cp (m+1) l=(iy l.tail).bind λn r=>(nD (cp m) r).bind λa r=>(cS nE r).bind λ_ r=>(nD (cp m) r).bind λb r=>.ok (.mk 4 n 0 [] [a,b]) r:=by
 conv=>lhs;unfold cp
 rw[h1,h2,ax bq,ax bq,aB hi]
def V6{m:Nat}(h1:cq jz l=ak)(h2:cq lf l=ak)(h3:cq ld l=ak):cp (m+1) l=(iy l).bind λn r=>(fm [gx,gF] r).bind λ_ r=>(cp m r).bind λa r=>(cD gd (iV (cp m)) (m+1) r).bind λt r=>(cS gm r).bind λ_ r=>.ok (.mk 3 n 0 [] (a::t)) r:=by
 conv=>lhs;unfold cp
 rw[h1,h2,h3,ax bq,ax bq,ax bq]
def Wb{m:Nat}(n0:Nat)(P:Pa b tok sz l n p t h)(hi:cq jz l=ab):Reads 132 [.ptr (.box b) 0] b n0 n p t h xf (cp (m+1) l):=by
 have a26:=eG;have s26:=ec;have z26:=nS;have a109:=wS;have s109:=yg;have A0:=At.start (n0:=n0) P.lt (ar 0 0 0 [] .nil 0 []);have P0:=(P.push [.ptr (.box b) 0]).push (ar 0 0 0 [] .nil 0 []);rw[V7 hi];cases l with
 |nil=>cases hi
 |cons x r=>
  have c1:=CL P0 hi;have P1:=P0.next (tok':=jq tok ab ak r.length);have A1:=A0.call (.put b n0 _ (par (jq tok ab ak r.length) 4 r n p t));obtain⟨r2,h2,c2,q2⟩:=BS n0 P1;simp only[jz] at c1;rw[tH];have l0:=A0.len;have l00:=A0.pQ;have p0:=A0.ptr;have x0:=A0.res;have l1:=A1.len;have p1:=A1.ptr;cases w2:iw r with
  |bad l2=>
   rw[w2] at q2;obtain⟨rfl,m2⟩:=q2;have aN:=ag.mk (A1.call m2).mu;clear A0 A1 P0 P1 P m2;refine bO rfl np rfl ?_
   repeat' (first|simp(maxSteps:=9999999) (disch:=first|exact dZ|fail) only[gW,reduceIte,ao,al,eF,aA,aJ,eC, *]|refine dX ?_ ?_<;>(intro _;try omega))
   exact⟨_,_,rfl,rfl,aN.out⟩
  |ok s l2=>
   rw[w2] at q2;obtain⟨v2,tok2,sz2,rfl,rfl,m2,P2⟩:=q2;have A2:=A1.call m2;have A3:=A2.set (ar 1 0 0 s .nil 0 []);have l2':=A2.len;have x2:=A2.res;have x3:=A3.res;have aN:=ag.mk A3.mu;have kP:=ag.mk (P2.put (c:=h.boxes.length+1) (by have:=A0.lt;omega) (ar 1 0 0 s .nil 0 []));clear A0 A1 A2 A3 P0 P1 P2 P m2;refine bO rfl np rfl ?_
   repeat' (first|simp(maxSteps:=9999999) (disch:=first|exact dZ|fail) only[gW,reduceIte,ao,al,eF,aA,aJ,eC,UA,dw,dC, *]|refine dX ?_ ?_<;>(intro _;try omega))
   exact⟨_,_,rfl,_,_,_,rfl,⟨_,_,_,rfl,PJ 1 0 0 s⟩,aN.out,kP.out⟩
end
section
variable {b:Nat} {tok:Tok} {sz:Nat} {l:List Tk} {n:Int} {p:Po} {t:PT} {h:ae}
def Wd{m:Nat}(n0:Nat)(P:Pa b tok sz l n p t h)(h1:cq jz l=ak)(hi:cq lf l=ab):Reads 132 [.ptr (.box b) 0] b n0 n p t h xf (cp (m+1) l):=by
 have a26:=eG;have s26:=ec;have z26:=nS;have a109:=wS;have s109:=yg;have A0:=At.start (n0:=n0) P.lt (ar 0 0 0 [] .nil 0 []);have P0:=(P.push [.ptr (.box b) 0]).push (ar 0 0 0 [] .nil 0 []);rw[V9 h1 hi];have c0:=wE P0 h1;have bwo:=nu gx;simp only[gx] at bwo;cases l with
 |nil=>cases hi
 |cons x r=>
  have c1:=CL P0 hi;have P1:=P0.next (tok':=jq tok ab ak r.length);have A1:=A0.call (.put b n0 _ (par (jq tok ab ak r.length) 4 r n p t));obtain⟨r2,h2,c2,q2⟩:=EO n0 P1;simp only[jz] at c0;simp only[lf] at c1;rw[tH];have l0:=A0.len;have l00:=A0.pQ;have p0:=A0.ptr;have x0:=A0.res;have l1:=A1.len;have p1:=A1.ptr;cases w2:iy r with
  |bad l2=>
   rw[w2] at q2;obtain⟨rfl,m2⟩:=q2;have aN:=ag.mk (A1.call m2).mu;clear A0 A1 P0 P1 P m2;refine bO rfl np rfl ?_
   repeat' (first|simp(maxSteps:=9999999) (disch:=first|exact dZ|fail) only[gW,reduceIte,ao,al,eF,aA,aJ,eC, *]|refine dX ?_ ?_<;>(intro _;try omega))
   exact⟨_,_,rfl,rfl,aN.out⟩
  |ok d l2=>
   rw[w2] at q2;obtain⟨v2,tok2,sz2,rfl,rfl,m2,P2⟩:=q2;have A2:=A1.call m2;have A3:=A2.set (ar 2 d 0 [] .nil 0 []);have P3:=P2.put (c:=h.boxes.length+1) (by have:=A0.lt;omega) (ar 2 d 0 [] .nil 0 []);obtain⟨r4,h4,c4,q4⟩:=ov n0 .tight gx P3;simp only[gx] at c4;have l2':=A2.len;have l20:=A2.pQ;have x2:=A2.res;have p2:=A2.ptr;have p3:=A3.ptr;rw[bE];cases w4:cS gx l2 with
   |bad l4=>
    rw[w4] at q4;obtain⟨rfl,m4⟩:=q4;have aN:=ag.mk (A3.call m4).mu;clear A0 A1 A2 A3 P0 P1 P2 P3 P m2 m4;refine bO rfl np rfl ?_
    repeat' (first|simp(maxSteps:=9999999) (disch:=first|exact dZ|fail) only[gW,reduceIte,ao,al,eF,aA,aJ,eC,GY,dw, *]|refine dX ?_ ?_<;>(intro _;try omega))
    exact⟨_,_,rfl,rfl,aN.out⟩
   |ok u4 l4=>
    rw[w4] at q4;obtain⟨v4,tok4,iI,rfl,rfl,m4,P4⟩:=q4;have A4:=A3.call m4;obtain⟨r5,h5,c5,q5⟩:=BS n0 P4;have p4:=A4.ptr;rw[bE];cases w5:iw l4 with
    |bad l5=>
     rw[w5] at q5;obtain⟨rfl,m5⟩:=q5;have aN:=ag.mk (A4.call m5).mu;clear A0 A1 A2 A3 A4 P0 P1 P2 P3 P4 P m2 m4 m5;refine bO rfl np rfl ?_
     repeat' (first|simp(maxSteps:=9999999) (disch:=first|exact dZ|fail) only[gW,reduceIte,ao,al,eF,aA,aJ,eC,GY,dw, *]|refine dX ?_ ?_<;>(intro _;try omega))
     exact⟨_,_,rfl,rfl,aN.out⟩
    |ok s l5=>
     rw[w5] at q5;obtain⟨v5,tok5,sz5,rfl,rfl,m5,P5⟩:=q5;have A5:=A4.call m5;have A6:=A5.set (ar 2 d 0 s .nil 0 []);have l5':=A5.len;have x5:=A5.res;have x6:=A6.res;have aN:=ag.mk A6.mu;have kP:=ag.mk (P5.put (c:=h.boxes.length+1) (by have:=A0.lt;omega) (ar 2 d 0 s .nil 0 []));clear A0 A1 A2 A3 A4 A5 A6 P0 P1 P2 P3 P4 P5 P m2 m4 m5;refine bO rfl np rfl ?_
     repeat' (first|simp(maxSteps:=9999999) (disch:=first|exact dZ|fail) only[gW,reduceIte,ao,al,eF,aA,aJ,eC,GY,dw,aeL,dC,gr,dA, *]|refine dX ?_ ?_<;>(intro _;try omega))
     exact⟨_,_,rfl,_,_,_,rfl,⟨_,_,_,rfl,PJ 2 d 0 s⟩,aN.out,kP.out⟩
end
def fM(k n no:Int)(s:List UInt8)(tok:Tok)(sz:Nat)(rows:List (List AV)):((ar k n no s tok sz rows).drop 4).head?=aa (.list tok sz rows):=rfl
def aee{l:List Ex}{rows:List (List AV)}(hr:Go.Pol.Rows l rows):pX rows rows=ab:=FC λr gg=>by obtain⟨i,hi,rfl⟩:=wN.1 gg;exact Row.same _ _ (hr.2 i _ _ (cv (by have:=hr.1;omega)) (cv hi))
def J3{l:List Ex}{rows:List (List AV)}(hr:Go.Pol.Rows l rows)(tok:Tok)(sz:Nat):fN (.list tok sz rows) (.list tok sz rows)=ab:=by simp[fN,CB,aee hr]
def PM{x:Ex}{tok:Tok}{sz:Nat}{rows:List (List AV)}(h:Row x (ar x.kind x.n x.no x.name tok sz rows)):Go.Pol.Rows [x] [ar x.kind x.n x.no x.name tok sz rows]:=Go.Pol.Rows.nil.snoc h
section
variable {b:Nat} {tok:Tok} {sz:Nat} {l:List Tk} {n:Int} {p:Po} {t:PT} {h:ae}
def Wc{m:Nat}(E:yz m)(n0:Nat)(P:Pa b tok sz l n p t h)(ho:cR h=ab)(hn:n0<=h.tn)(hl:l.length<=m)(h1:cq jz l=ak)(h2:cq lf l=ak)(hi:cq ld l=ab):Reads 132 [.ptr (.box b) 0] b n0 n p t h xf (cp (m+1) l):=by
 have a26:=eG;have s26:=ec;have z26:=nS;have a109:=wS;have s109:=yg;have a24:=jm;have s24:=wA;have A0:=At.start (n0:=n0) P.lt (ar 0 0 0 [] .nil 0 []);have P0:=(P.push [.ptr (.box b) 0]).push (ar 0 0 0 [] .nil 0 []);rw[V8 h1 h2 hi];have c0:=wE P0 h1;have c01:=wE P0 h2;have bwe:=nu nE;simp only[nE] at bwe;cases l with
 |nil=>cases hi
 |cons x r=>
  rw[dD] at hl;have c1:=CL P0 hi;have P1:=P0.next (tok':=jq tok ab ak r.length);have A1:=A0.call (.put b n0 _ (par (jq tok ab ak r.length) 4 r n p t));obtain⟨r2,h2,c2,q2⟩:=EO n0 P1;simp only[jz] at c0;simp only[lf] at c01;simp only[ld] at c1;rw[tH];have l0:=A0.len;have l00:=A0.pQ;have p0:=A0.ptr;have x0:=A0.res;have l1:=A1.len;have p1:=A1.ptr;have l10:=A1.pQ;cases w2:iy r with
  |bad l2=>
   rw[w2] at q2;obtain⟨rfl,m2⟩:=q2;have aN:=ag.mk (A1.call m2).mu;have kE:=ag.mk E;clear A0 A1 P0 P1 P m2 E;refine bO rfl np rfl ?_
   repeat' (first|simp(maxSteps:=9999999) (disch:=first|exact dZ|fail) only[gW,reduceIte,ao,al,eF,aA,aJ,eC,jI,dw,fO,dC,bZ,dA,fM,eH,bR,bT, *]|refine dX ?_ ?_<;>(intro _;try omega))
   refine JU 1 [2] ai ai ai ?_
   repeat' (first|simp(maxSteps:=9999999) (disch:=first|exact dZ|fail) only[gW,reduceIte,ao,al,eF,aA,aJ,eC,jI,dw,fO,dC,bZ,dA,fM,eH,bR,bT,di,de,sh,fc,KV,KS,KT,EF,EY,EL,DG,DH,and_true,true_and, *]|refine dX ?_ ?_<;>(intro _;try omega))
   exact⟨_,_,rfl,rfl,aN.out⟩
  |ok d l2=>
   rw[w2] at q2;obtain⟨v2,tok2,sz2,rfl,rfl,m2,P2⟩:=q2;have A2:=A1.call m2;have eQ:l2.length<r.length:=(by have:=xT w2;omega);obtain⟨r3,h3,c3,q3⟩:=N8 E n0 P2 (A2.mu.ok ho) (cY hn A2.mu.tn) aj;have l2':=A2.len;have l20:=A2.pQ;have x2:=A2.res;have p2:=A2.ptr;rw[bE];cases w3:nD (cp m) l2 with
   |bad l3=>
    rw[w3] at q3;obtain⟨rfl,m3⟩:=q3;have aN:=ag.mk (A2.call m3).mu;clear A0 A1 A2 P0 P1 P2 P m2 m3 E;refine bO rfl np rfl ?_
    repeat' (first|simp(maxSteps:=9999999) (disch:=first|exact dZ|fail) only[gW,reduceIte,ao,al,eF,aA,aJ,eC,jI,dw,fO,dC,bZ,dA,fM,eH,bR,bT, *]|refine dX ?_ ?_<;>(intro _;try omega))
    refine adW 3 [] [(1,2)] ai ai ai ai ?_ ?_
    ·intro pr hp;simp only[qi] at hp;subst hp;refine CE (x:=.ptr (.box h.boxes.length) 0) (v:=.ptr (.box b) 0) ai rfl rfl rfl ai (FD b) ?_ ?_
     ·simp only[di,de]
      repeat' (first|simp(maxSteps:=9999999) (disch:=first|exact dZ|fail) only[gW,reduceIte,ao,al,eF,aA,aJ,eC,jI,dw,fO,dC,bZ,dA,fM,eH,bR,bT, *]|refine dX ?_ ?_<;>(intro _;try omega))
      exact⟨by trivial,by trivial,by trivial⟩
     ·simp only[di,de]
      repeat' (first|simp(maxSteps:=9999999) (disch:=first|exact dZ|fail) only[gW,reduceIte,ao,al,eF,aA,aJ,eC,jI,dw,fO,dC,bZ,dA,fM,eH,bR,bT, *]|refine dX ?_ ?_<;>(intro _;try omega))
      exact⟨by trivial,by trivial⟩
    repeat' (first|simp(maxSteps:=9999999) (disch:=first|exact dZ|fail) only[gW,reduceIte,ao,al,eF,aA,aJ,eC,jI,dw,fO,dC,bZ,dA,fM,eH,bR,bT,di,de,sh,fc,KV,KS,KT,EF,EY,EL,DG,DH,and_true,true_and, *]|refine dX ?_ ?_<;>(intro _;try omega))
    exact⟨_,_,rfl,rfl,aN.out⟩
   |ok xa l3=>
    rw[w3] at q3;obtain⟨v3,tok3,bQ,rfl,⟨tka,sza,rowsa,rfl,uj⟩,m3,P3⟩:=q3;have A3:=A2.call m3;have A4:=A3.set (ar 4 d 0 [] .tight 5 [ar xa.kind xa.n xa.no xa.name tka sza rowsa]);have P4:=P3.put (c:=h.boxes.length+1) (by have:=A0.lt;omega) (ar 4 d 0 [] .tight 5 [ar xa.kind xa.n xa.no xa.name tka sza rowsa]);have xw:l3.length<=l2.length:=(by have:=(EI (s7 m)).len l2;rw[w3] at this;exact this);obtain⟨r5,h5,c5,q5⟩:=ov n0 .tight nE P4;simp only[nE] at c5;have l3':=A3.len;have l30:=A3.pQ;have x3:=A3.res;have p3:=A3.ptr;have p4:=A4.ptr;rw[bE];cases w5:cS nE l3 with
    |bad l5=>
     rw[w5] at q5;obtain⟨rfl,m5⟩:=q5;have aN:=ag.mk (A4.call m5).mu;clear A0 A1 A2 A3 A4 P0 P1 P2 P3 P4 P m2 m3 m5 E uj;refine bO rfl np rfl ?_
     repeat' (first|simp(maxSteps:=9999999) (disch:=first|exact dZ|fail) only[gW,reduceIte,ao,al,eF,aA,aJ,eC,jI,dw,fO,dC,bZ,dA,fM,eH,bR,bT, *]|refine dX ?_ ?_<;>(intro _;try omega))
     refine nM [(1,2)] ai ?_ ?_
     ·intro pr hp;simp only[qi] at hp;subst hp;refine CE (x:=.ptr (.box h.boxes.length) 0) (v:=.ptr (.box b) 0) ai rfl rfl rfl ai (FD b) ?_ ?_
      ·simp only[di,de]
       repeat' (first|simp(maxSteps:=9999999) (disch:=first|exact dZ|fail) only[gW,reduceIte,ao,al,eF,aA,aJ,eC,jI,dw,fO,dC,bZ,dA,fM,eH,bR,bT, *]|refine dX ?_ ?_<;>(intro _;try omega))
       exact⟨by trivial,by trivial,by trivial⟩
      ·simp only[di,de]
       repeat' (first|simp(maxSteps:=9999999) (disch:=first|exact dZ|fail) only[gW,reduceIte,ao,al,eF,aA,aJ,eC,jI,dw,fO,dC,bZ,dA,fM,eH,bR,bT, *]|refine dX ?_ ?_<;>(intro _;try omega))
       exact⟨by trivial,by trivial⟩
     ·repeat' (first|simp(maxSteps:=9999999) (disch:=first|exact dZ|fail) only[gW,reduceIte,ao,al,eF,aA,aJ,eC,jI,dw,fO,dC,bZ,dA,fM,eH,bR,bT, *]|refine dX ?_ ?_<;>(intro _;try omega))
      exact⟨_,_,rfl,rfl,aN.out⟩
    |ok u5 l5=>
     rw[w5] at q5;obtain⟨v5,tok5,sz5,rfl,rfl,m5,P5⟩:=q5;have A5:=A4.call m5;have H0:l5.length<l3.length:=(by have:=gX w5;omega);obtain⟨r6,h6,c6,q6⟩:=N8 E n0 P5 (A5.mu.ok ho) (cY hn A5.mu.tn) aj;have l5':=A5.len;have l50:=A5.pQ;have x5:=A5.res;have p5:=A5.ptr;have fU:=PM uj;rw[bE];cases w6:nD (cp m) l5 with
     |bad l6=>
      rw[w6] at q6;obtain⟨rfl,m6⟩:=q6;have aN:=ag.mk (A5.call m6).mu;clear A0 A1 A2 A3 A4 A5 P0 P1 P2 P3 P4 P5 P m2 m3 m5 m6 E uj fU;refine bO rfl np rfl ?_
      repeat' (first|simp(maxSteps:=9999999) (disch:=first|exact dZ|fail) only[gW,reduceIte,ao,al,eF,aA,aJ,eC,jI,dw,fO,dC,bZ,dA,fM,eH,bR,bT, *]|refine dX ?_ ?_<;>(intro _;try omega))
      refine nM [(1,2)] ai ?_ ?_
      ·intro pr hp;simp only[qi] at hp;subst hp;refine CE (x:=.ptr (.box h.boxes.length) 0) (v:=.ptr (.box b) 0) ai rfl rfl rfl ai (FD b) ?_ ?_
       ·simp only[di,de]
        repeat' (first|simp(maxSteps:=9999999) (disch:=first|exact dZ|fail) only[gW,reduceIte,ao,al,eF,aA,aJ,eC,jI,dw,fO,dC,bZ,dA,fM,eH,bR,bT, *]|refine dX ?_ ?_<;>(intro _;try omega))
        exact⟨by trivial,by trivial,by trivial⟩
       ·simp only[di,de]
        repeat' (first|simp(maxSteps:=9999999) (disch:=first|exact dZ|fail) only[gW,reduceIte,ao,al,eF,aA,aJ,eC,jI,dw,fO,dC,bZ,dA,fM,eH,bR,bT, *]|refine dX ?_ ?_<;>(intro _;try omega))
        exact⟨by trivial,by trivial⟩
      ·repeat' (first|simp(maxSteps:=9999999) (disch:=first|exact dZ|fail) only[gW,reduceIte,ao,al,eF,aA,aJ,eC,jI,dw,fO,dC,bZ,dA,fM,eH,bR,bT, *]|refine dX ?_ ?_<;>(intro _;try omega))
       refine JU 3 [] ai ai ai ?_
       repeat' (first|simp(maxSteps:=9999999) (disch:=first|exact dZ|fail) only[gW,reduceIte,ao,al,eF,aA,aJ,eC,jI,dw,fO,dC,bZ,dA,fM,eH,bR,bT,di,de,sh,fc,KV,KS,KT,EF,EY,EL,DG,DH,and_true,true_and, *]|refine dX ?_ ?_<;>(intro _;try omega))
       exact⟨_,_,rfl,rfl,aN.out⟩
     |ok xb l6=>
      rw[w6] at q6;obtain⟨v6,tok6,sz6,rfl,⟨tkb,szb,rowsb,rfl,vD⟩,m6,P6⟩:=q6;have A6:=A5.call m6;have l6':=A6.len;have l60:=A6.pQ;have x6:=A6.res;have p6:=A6.ptr;have ok6:=A6.mu.ok ho;have oI:iM aq h6 #[24,24] (.list .tight 5 [ar xa.kind xa.n xa.no xa.name tka sza rowsa]) (.list .tight 5 [ar xb.kind xb.n xb.no xb.name tkb szb rowsb])=aa (.list (.free h6.tn) 5 ([ar xa.kind xa.n xa.no xa.name tka sza rowsa]++[ar xb.kind xb.n xb.no xb.name tkb szb rowsb]),h6.app .tight):=GN (.inr (.inl rfl)) (.inl rfl) bh bh;have mA:bp b n0 h6 (h6.app .tight):=bp.app (.inr (.inl rfl));have A7:=A6.call mA;have A8:=A7.set (ar 4 d 0 [] (.free h6.tn) 5 ([ar xa.kind xa.n xa.no xa.name tka sza rowsa]++[ar xb.kind xb.n xb.no xb.name tkb szb rowsb]));have x7:=A7.res;have l7:=A7.len;have x8:=A8.res;have aN:=ag.mk A8.mu;have kP:=ag.mk ((P6.app .tight).put (c:=h.boxes.length+1) (by have:=A0.lt;omega) (ar 4 d 0 [] (.free h6.tn) 5 ([ar xa.kind xa.n xa.no xa.name tka sza rowsa]++[ar xb.kind xb.n xb.no xb.name tkb szb rowsb])));have krow:=ag.mk (PK (k:=4) (n:=d) (no:=0) (s:=[]) (l:=[xa,xb]) (tok:=.free h6.tn) (sz:=5) (fU.snoc vD) (λ_ _=>rfl) bh);have kr1:=ag.mk fU;clear A0 A1 A2 A3 A4 A5 A6 A7 A8 P0 P1 P2 P3 P4 P5 P6 P m2 m3 m5 m6 mA E uj fU vD;refine bO rfl np rfl ?_
      repeat' (first|simp(maxSteps:=9999999) (disch:=first|exact dZ|fail) only[gW,reduceIte,ao,al,eF,aA,aJ,eC,jI,dw,fO,dC,bZ,dA,fM,eH,bR,bT, *]|refine dX ?_ ?_<;>(intro _;try omega))
      refine nM [(1,2)] ai ?_ ?_
      ·intro pr hp;simp only[qi] at hp;subst hp;refine CE (x:=.ptr (.box h.boxes.length) 0) (v:=.ptr (.box b) 0) ai rfl rfl rfl ai (FD b) ?_ ?_
       ·simp only[di,de]
        repeat' (first|simp(maxSteps:=9999999) (disch:=first|exact dZ|fail) only[gW,reduceIte,ao,al,eF,aA,aJ,eC,jI,dw,fO,dC,bZ,dA,fM,eH,bR,bT, *]|refine dX ?_ ?_<;>(intro _;try omega))
        exact⟨by trivial,by trivial,by trivial⟩
       ·simp only[di,de]
        repeat' (first|simp(maxSteps:=9999999) (disch:=first|exact dZ|fail) only[gW,reduceIte,ao,al,eF,aA,aJ,eC,jI,dw,fO,dC,bZ,dA,fM,eH,bR,bT, *]|refine dX ?_ ?_<;>(intro _;try omega))
        exact⟨by trivial,by trivial⟩
      ·repeat' (first|simp(maxSteps:=9999999) (disch:=first|exact dZ|fail) only[gW,reduceIte,ao,al,eF,aA,aJ,eC,jI,dw,fO,dC,bZ,dA,fM,eH,bR,bT, *]|refine dX ?_ ?_<;>(intro _;try omega))
       refine nM [(1,3)] ai ?_ ?_
       ·intro pr hp;simp only[qi] at hp;subst hp;refine uL (x:=.ptr (.box (h.boxes.length+1)) (0+4)) (v:=.list .tight 5 [ar xa.kind xa.n xa.no xa.name tka sza rowsa]) ai rfl rfl rfl ai (J3 kr1.out _ _) ?_ ?_
        ·simp only[di,de]
         repeat' (first|simp(maxSteps:=9999999) (disch:=first|exact dZ|fail) only[gW,reduceIte,ao,al,eF,aA,aJ,eC,jI,dw,fO,dC,bZ,dA,fM,eH,bR,bT, *]|refine dX ?_ ?_<;>(intro _;try omega))
         exact⟨by trivial,by trivial,by trivial⟩
        ·simp only[di,de]
         repeat' (first|simp(maxSteps:=9999999) (disch:=first|exact dZ|fail) only[gW,reduceIte,ao,al,eF,aA,aJ,eC,jI,dw,fO,dC,bZ,dA,fM,eH,bR,bT, *]|refine dX ?_ ?_<;>(intro _;try omega))
         exact⟨by trivial,by trivial⟩
       ·repeat' (first|simp(maxSteps:=9999999) (disch:=first|exact dZ|fail) only[gW,reduceIte,ao,al,eF,aA,aJ,eC,jI,dw,fO,dC,bZ,dA,fM,eH,bR,bT, *]|refine dX ?_ ?_<;>(intro _;try omega))
        exact⟨_,_,rfl,_,_,_,rfl,⟨_,_,_,rfl,krow.out⟩,aN.out,kP.out⟩
end
end Go.Proofs.YtmdakolcndpjeaaGreatDoor
end
