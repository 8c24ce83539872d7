/-
  The engine, part 23: the memory of the evaluator: what a call leaves.
-/
import Derived.Test.YtmdakolcndpjeaaGreatDoorWB
import Derived.KernelRfl
import Derived.Test.YtmdakolcndpjeaaGreatDoorShelf
import Derived.Test.YtmdakolcndpjeaaGreatDoorRows
import Derived.Stop.LaidErr
import Derived.Stop.Joined
import Derived.Lib.LaidTab
import Derived.LaidMore
import Derived.MakeChecks
import Derived.Lib.ItoaNum
import Derived.Lib.AtoiAllCases
import Derived.Lib.Join
open True renaming intro->ev
open Option renaming some->aa,none->ah,map_some->cy,bind_some->qZ,isSome_none->De,some.injEq->aY,map_eq_some_iff->cn
open Bool renaming true->ab,and_eq_true->aL,false->ak,or_eq_true->ly,true_and->qb,eq_false_iff->ib,and_self->Rw,false_and->KD,false_eq_true->dP,not_false->uU,and_eq_false_iff->Gd,or_eq_false_iff->Ge,and_true->uS,or_false->CZ
open Nat renaming le_refl->aK,le_trans->cY,lt_of_lt_of_le->lY,le_succ->K5,lt_or_ge->dp,zero_le->cz,zero_add->gL,add_zero->gD,eq_zero_or_pos->K4,pow_succ->Sy,reduceEqDiff->ao,le_antisymm->fF,not_lt_zero->ik,mul_one->qj,strongRecOn->wP,add_sub_cancel->Sq,add_mul->ig,eq_of_beq_eq_true->iK,mul_le_mul_right->oy
open List renaming all_eq_true->dn,getElem?_eq_getElem->cv,getElem?_eq_some_iff->aF,drop_eq_getElem_cons->RS,take_succ_cons->di,range->bt,mem_range->fP,mem_cons->fe,getElem?_toArray->iB,getElem?_cons_zero->j5,getElem?_cons_succ->tD,getElem?_eq_none->oX,take_length->jk,drop_zero->fc,mem_iff_getElem->wN,getElem?_map->tF,mem_cons_self->dQ,mem_cons_of_mem->dG,toArray->Gk,getElem?_set_ne->R4,range_succ->u0,take_of_length_le->o5,filter_cons->RX,cons_append->bR,flatten_cons->oW,getElem?_take->nU,length->qY,length_take->ng,map_cons->gB,append_nil->dI,nil_append->bT,length_cons->dD,length_nil->iJ,length_append->cO,cons.injEq->C4,length_map->jj,eq_nil_of_length_eq_zero->Aq,replicate->gC,take_append_of_le_length->yw,length_singleton->oY,take_succ_eq_append_getElem->nj,mem_append->oZ,length_eq_one_iff->R7,takeWhile_cons->vd,all_cons->Ap,all_nil->RQ,all_append->yq,drop_left->Gh,drop_append_of_le_length->KR,contains_cons->KM,contains_nil->KN,mem_singleton->qi,take_zero->de,isPrefixOf->R6,drop_drop->Gg,drop_length->RT,getElem?_append_left->qh,getElem?_append_right->uZ
open Go renaming FuncId->bF,Program->aQ,TypeId->aE,IntKind->uX,Operand->bI,Value->aC,World->aT
open Array renaming getElem?_eq_getElem->fW,getElem?_eq_none->tB,getElem?_toList->sd,all_eq_true'->F6,mem_of_getElem?->Rn,getElem?_eq_some_iff->wK
open Prod renaming mk.injEq->aW
open And renaming intro->aw
open Int renaming toNat_natCast->RO,toNat_zero->RP
open Go.Proofs.Tryz renaming prog->aq,underlying135->GC,underlying208->SP,underlying210->SQ,underlying9->fH,func104->SF,underlying39->ma,func101->SE,func40->SL,func41->Gz,func42->SM,underlying20->Az,func37->SK
set_option maxHeartbeats 64000000
set_option maxRecDepth 100000
set_option linter.unusedSimpArgs false
set_option linter.unusedVariables false
set_option linter.constructorNameAsVariable false
set_option linter.defProp false
section
namespace Go.AE
def ae.push(h:ae)(cs:List AV):ae:={h with boxes:=h.boxes++[cs]}
def ae.put(h:ae)(b:Nat)(cs:List AV):ae:={h with boxes:=h.boxes.set b cs}
def AH(h:ae)(cs):h.box cs=(.ptr (.box h.boxes.length) 0,h.push cs):=rfl
def aA(h:ae)(cs):(h.push cs).boxes.length=h.boxes.length+1:=by simp[ae.push]
def bX(h:ae)(cs):(h.push cs).boxes[h.boxes.length]?=aa cs:=by simp[ae.push]
def bW{h:ae}{cs ds}{b:Nat}(hb:h.boxes[b]?=aa ds):(h.push cs).boxes[b]?=aa ds:=pz hb
def mz{h:ae}{cs}{b}(hb:b<h.boxes.length):(h.put b cs).boxes[b]?=aa cs:=by simp[ae.put,hb]
def jX{h:ae}{cs}{b c}(hb:c≠b):(h.put b cs).boxes[c]?=h.boxes[c]?:=by simp[ae.put,List.getElem?_set,Ne.symm hb]
def td(h:ae)(b)(cs):(h.put b cs).boxes.length=h.boxes.length:=by simp[ae.put]
def cR(h:ae):Bool:=h.dead.all λn=>decide (n<h.tn)
structure Ext(h h':ae):Prop where
 box:∀(b:Nat) (cs:List AV),h.boxes[b]?=aa cs->h'.boxes[b]?=aa cs
 loop:∀(l:Nat) (r:ff),h.loops[l]?=aa r->h'.loops[l]?=aa r
 tn:h.tn<=h'.tn
 dead:∀n,n<h.tn->n∈h'.dead->n∈h.dead
 ok:cR h=ab->cR h'=ab
def Ext.refl(h):Ext h h:=⟨λ_ _ h=>h,λ_ _ h=>h,aK _,λ_ _ h=>h,λh=>h⟩
def Ext.trans{a b c}(h:Ext a b)(k:Ext b c):Ext a c:=
 ⟨λi cs hb=>k.box i cs (h.box i cs hb),λl r hl=>k.loop l r (h.loop l r hl),cY h.tn k.tn,λn hn hd=>h.dead n hn (k.dead n (lY hn h.tn) hd),λho=>k.ok (h.ok ho)⟩
def Ext.push(h)(cs):Ext h (h.push cs):=⟨λ_ _ hb=>bW hb,λ_ _ h=>h,aK _,λ_ _ h=>h,λh=>h⟩
def Ext.fresh(h)(sz)(es):Ext h (h.fresh sz es).2:=⟨λ_ _ hb=>hb,λ_ _ h=>h,K5 _,λ_ _ h=>h,λho=>by
 unfold cR at *
 simp only[ae.fresh,dn,decide_eq_true_eq] at *
 exactλn hn=>fJ (Nat.lt_succ_of_lt (ho n hn))⟩
def Ext.alive{h h'}(x:Ext h h'){n}(ha:alive h n=ab):alive h' n=ab:=by
 unfold AE.alive at *
 simp only[aL,decide_eq_true_eq,Bool.not_eq_true',List.contains_eq_mem,decide_eq_false_iff_not] at *
 exact⟨lY ha.1 x.tn,λhd=>ha.2 (x.dead n ha.1 hd)⟩
def Ext.len{h h'}(x:Ext h h'):h.boxes.length<=h'.boxes.length:=by
 rcases dp h'.boxes.length h.boxes.length with ay|dy
 ·have h1:=x.box h'.boxes.length _ (cv ay);have:=(aF.1 h1).1;omega
 ·exact dy
noncomputable def Bf(R:Rec)(g:bF)(args:List AV)(h:ae):ae:=
 match R.call g args h with
 |some (_,h')=>h'
 |none=>h
def HI{R}{g}{args}{h h'}{r}(hc:R.call g args h=aa (r,h')):Bf R g args h=h':=by unfold Bf;rw[hc]
def gY(R:Rec)(g:bF)(args:List AV)(h:ae)(r:bw):Prop:=∃h',R.call g args h=aa (r,h')/\Ext h h'
def gY.eq{R}{g}{args}{h}{r}(hs:gY R g args h r):R.call g args h=aa (r,Bf R g args h):=by obtain⟨h',h1,-⟩:=hs;rw[HI h1];exact h1
def gY.ext{R}{g}{args}{h}{r}(hs:gY R g args h r):Ext h (Bf R g args h):=by obtain⟨h',h1,h2⟩:=hs;rw[HI h1];exact h2
def DO(P:aQ)(G:Nat->Option (List AV))(R:Rec)(fn:Func)(r:bw)(Post:ae->Prop):Xt->Env->ae->Prop:=λo e h=>∃h',tU P G R fn r h' o e h/\Post h'
def VY{P}{G}{R}{fn}{r}{Post}{e}{h}:DO P G R fn r Post .normal e h=∃h',eZ P G R fn e e.defers ah h=aa (r,h')/\Post h':=rfl
def V0{P}{G}{R}{fn}{r}{Post}{e}{h}:DO P G R fn r Post .ret e h=∃h',eZ P G R fn e e.defers ah h=aa (r,h')/\Post h':=rfl
def VZ{P}{G}{R}{fn}{r}{Post}{e}{h}{x}:DO P G R fn r Post (.panic x) e h=∃h',eZ P G R fn e e.defers (aa (x,ak)) h=aa (r,h')/\Post h':=rfl
def eI{P}{G}{aD}{g}{fn}{body}{args}{r}{h}{Post}(hp:aD g=ah)(fw:P.funcs[g]?=aa fn)(hb:fn.body=aa body)
 (hr:bU (whole P G aD) body (Env.start args ah) h (DO P G (whole P G aD) fn r Post)):∃h',(whole P G aD).call g args h=aa (r,h')/\Post h':=by
 obtain⟨o,e1,h1,h2,h',h3,h4⟩:=hr;exact⟨h',fg hp fw hb ⟨o,e1,h1,h2,h3⟩,h4⟩
section
variable {P:aQ} {G:Nat->Option (List AV)} {h:ae} {t:aE} {b off n:Nat} {cs:List AV}
def IV(ha:fZ P t=aa ak)(hb:h.boxes[b]?=aa cs):dz P G h t (.ptr (.box b) off)=(cs.drop off).head?:=by unfold dz w9 JE;simp only[ha,hb,cy]
def nH(ha:fZ P t=aa ab)(hs:cU P t=aa n)(hb:h.boxes[b]?=aa cs)(hl:off+n<=cs.length):dz P G h t (.ptr (.box b) off)=aa (.agg ((cs.drop off).take n)):=by unfold dz w9 JE;simp only[ha,hb,hs,cy];rw[aB (by simp;omega)]
def ck{sz i:Nat}{es:List (List AV)}(ha:fZ P t=aa ak):dz P G h t (.elem sz es i off)=(es[i]?).bind λrow=>(row.drop off).head?:=by unfold dz w9;simp only[ha];cases es[i]?<;>rfl
def aV{e:aE}{k:Tok}{kk:uX}{sz:Nat}{es:List (List AV)}{a:Int}(hu:P.underlying t=aa (.slice e))(hs:cU P e=aa sz)(h0:0<=a)(h1:a<es.length):oN P t (.list k sz es) (.v (.int kk a))=aa (.elem sz es a.toNat 0):=by unfold oN;rw[hu];simp only;rw[aB ⟨h0,h1,hs⟩]
def IE{e:aE}{kk:uX}{bb o l c sz:Nat}{a:Int}(hu:P.underlying t=aa (.slice e))(hs:cU P e=aa sz)(h0:0<=a)(h1:a<l):oN P t (.arr bb o l c) (.v (.int kk a))=aa (.ptr (.box bb) (o+a.toNat * sz)):=by unfold oN;rw[hu];simp only[hs];rw[aB ⟨h0,h1⟩]
def dK{x:AV}{xs:List AV}(hx:x.cF=aa xs)(hs:cU P t=aa n)(hb:h.boxes[b]?=aa cs)(hn:xs.length=n)(hl:off+n<=cs.length):dh P h t (.ptr (.box b) off) x=aa (h.put b (dO cs off xs)):=by unfold dh;simp only[hx,hs,hb];rw[aB ⟨hn,hl⟩];rfl
def E3(h:ae)(z cs):(h.push z).put h.boxes.length cs=h.push cs:=by simp[ae.push,ae.put,List.set_append_right]
def aeI{z xs}(hl:xs.length=z.length):dO z 0 xs=xs:=by simp[dO,hl]
def CH{x:AV}{xs z:List AV}(hx:x.cF=aa xs)(hs:cU P t=aa n)(hn:xs.length=n)(hz:z.length=n):dh P (h.push z) t (.ptr (.box h.boxes.length) 0) x=aa (h.push xs):=by rw[dK hx hs (bX h z) hn aj,aeI aj,E3]
def aak{off:Nat}{cs:List AV}(ha:fZ P t=aa ak):dz P G (h.push cs) t (.ptr (.box h.boxes.length) off)=(cs.drop off).head?:=IV ha (bX h cs)
def IW{off:Nat}{cs ds:List AV}(ha:fZ P t=aa ak):dz P G ((h.push cs).push ds) t (.ptr (.box h.boxes.length) off)=(cs.drop off).head?:=IV ha (bW (bX h cs))
def IY{cs:List AV}(ha:fZ P t=aa ab)(hs:cU P t=aa n)(hl:cs.length=n):dz P G (h.push cs) t (.ptr (.box h.boxes.length) 0)=aa (.agg cs):=by rw[nH ha hs (bX h cs) aj];simp[<-hl]
def IX{cs ds:List AV}(ha:fZ P t=aa ab)(hs:cU P t=aa n)(hl:cs.length=n):dz P G ((h.push cs).push ds) t (.ptr (.box h.boxes.length) 0)=aa (.agg cs):=by rw[nH ha hs (bW (bX h cs)) aj];simp[<-hl]
def dr{sz i:Nat}{es:List (List AV)}(ha:fZ P t=aa ab)(hs:cU P t=aa n):dz P G h t (.elem sz es i off)=(es[i]?).bind λrow=>if n<=(row.drop off).length then aa (.agg ((row.drop off).take n)) else ah:=by unfold dz w9;simp only[ha,hs];cases es[i]?<;>rfl
end
end Go.AE
end
section
namespace Go.AE
section
variable {P:aQ} {G:Nat->Option (List AV)} {R:Rec}
def Jt(ops:Array Oper):∀(n i:Nat),i+n<=ops.size->∀(e:Env) (h:ae),aG P G R ops (List.range' i n) e h=opsL P G R ops ((ops.toList.drop i).take n) e h:=by
 intro n
 induction n with
 |zero=>intro i hi e h;rfl|succ n ih=>
  intro i hi e h;have ay:i<ops.size:=by omega
  have ho:ops[i]?=aa ops[i]:=fW ay;rw[List.range'_succ,RS (by simpa using ay),di];simp only[aG,opsL,ho,Array.getElem_toList];cases cd ops e ops[i] with
  |none=>rfl|some b=>
   cases b with
   |false=>exact ih (i+1) aj _ _|true=>
    simp only;cases cA P G R e h ops[i] with
    |none=>rfl|some q=>
     obtain⟨r,e1,h1⟩:=q;cases r with|ret x=>exact ih (i+1) aj _ _|panic x=>rfl
def s8{ops:Array Oper}{m:Nat}(hm:m<=ops.size)(e:Env)(h:ae):aG P G R ops (bt m) e h=opsL P G R ops (ops.toList.take m) e h:=by rw[List.range_eq_range',Jt ops m 0 aj];rfl
def DI(ops:Array Oper)(ps:List (Nat × Nat)):Bool:=
 let b:=Region.before ops
 wW ops b&&(bt ops.size).all λj=>(bt j).all λi=>(b.getD j 0).testBit i||uE ops i j||ps.contains (i,j)
def MJ{ops:Array Oper}{ps:List (Nat × Nat)}{e:Env}{h:ae}(hd:DI ops ps=ab)(hs:∀p∈ps,hZ P G R ops e h p.1 p.2=ab):gN P G R ops e h=ab:=by
 unfold DI at hd;unfold gN;simp only[aL,dn,fP,ly] at hd ⊢;refine⟨hd.1,λj hj i hi=>?_⟩;rcases hd.2 j hj i hi with(h1|h1)|h1
 ·exact .inl (.inl (.inl h1))
 ·exact .inl (.inl (.inr h1))
 ·exact .inl (.inr (hs (i,j) (by simpa using h1)))
def uL{ops:Array Oper}{e:Env}{h:ae}{i j:Nat}{o:Oper}{t:aE}{a:bI}(oH:kQ ops i j=ab)(ho:ops[i]?=aa o)(aR:o.op=.load t a)(hg:o.guard=ah)
 (hj:(ops[j]?).map (λo=>gG o.op)=aa .fp) {x v:AV} (hv:fN v v=ab)
 (h1:bB P G R ops (ops.toList.take i) e h (λq er hr=>q=.normal/\er.eval a=x/\dz P G hr t x=aa v))
 (h2:bB P G R ops (ops.toList.take (j+1)) e h (λq _ hm=>q=.normal/\dz P G hm t x=aa v)):hZ P G R ops e h i j=ab:=by
 have hi:i<ops.size:=by
  rcases dp i ops.size with hh|hh
  ·exact hh
  ·rw[tB hh] at ho;cases ho
 have HY:j<ops.size:=by
  rcases dp j ops.size with hh|hh
  ·exact hh
  ·rw[tB hh] at hj;cases hj
 have hc:(ops[i]?).map (λo=>gG o.op)=aa .reads:=by rw[ho];simp only[cy,aR];rfl
 unfold hZ;rw[oH,hc,hj];simp only[qb];unfold lq;rw[ho,s8 aj,s8 aj];obtain⟨q1,er,hr,e1,rfl,e2,e3⟩:=h1;obtain⟨q2,em,hm,f1,rfl,f2⟩:=h2;rw[e1,f1];simp only[cd,hg,aR,e2,e3,f2,hv]
def CE{ops:Array Oper}{e:Env}{h:ae}{i j:Nat}{o:Oper}{t:aE}{a:bI}(oH:kQ ops i j=ab)(ho:ops[j]?=aa o)(aR:o.op=.load t a)(hg:o.guard=ah)
 (hj:(ops[i]?).map (λo=>gG o.op)=aa .fp) {x v:AV} (hv:fN v v=ab)
 (h1:bB P G R ops (ops.toList.take j) e h (λq er hr=>q=.normal/\er.eval a=x/\dz P G hr t x=aa v))
 (h2:bB P G R ops (ops.toList.take i) e h (λq _ hm=>q=.normal/\dz P G hm t x=aa v)):hZ P G R ops e h i j=ab:=by
 have hi:i<ops.size:=by
  rcases dp i ops.size with hh|hh
  ·exact hh
  ·rw[tB hh] at hj;cases hj
 have HY:j<ops.size:=by
  rcases dp j ops.size with hh|hh
  ·exact hh
  ·rw[tB hh] at ho;cases ho
 have hc:(ops[j]?).map (λo=>gG o.op)=aa .reads:=by rw[ho];simp only[cy,aR];rfl
 unfold hZ;rw[oH,hc,hj];simp only[qb];unfold lq;rw[ho,s8 aj,s8 aj];obtain⟨q1,er,hr,e1,rfl,e2,e3⟩:=h1;obtain⟨q2,em,hm,f1,rfl,f2⟩:=h2;rw[e1,f1];simp only[cd,hg,aR,e2,e3,f2,hv]
end
section
variable {P:aQ} {G:Nat->Option (List AV)} {aD:bF->Option (List AV->ae->Option (AV × ae))} {Q:Xt->Env->ae->Prop} {e:Env} {h:ae}
def nM{id:Nat}{ops:Array Oper}(ps:List (Nat × Nat))(hd:DI ops ps=ab)(hs:∀p∈ps,hZ P G (whole P G aD) ops e h p.1 p.2=ab)
 (hr:bB P G (whole P G aD) ops ops.toList e h (AI Q)):bU (whole P G aD) (.region id ops ab) e h Q:=
 PX (MJ hd hs) hr
end
structure bp(b n0:Nat)(h h':ae):Prop where
 box:∀(c:Nat) (cs:List AV),c≠b->h.boxes[c]?=aa cs->h'.boxes[c]?=aa cs
 len:h.boxes.length<=h'.boxes.length
 loop:∀(l:Nat) (r:ff),h.loops[l]?=aa r->h'.loops[l]?=aa r
 tn:h.tn<=h'.tn
 dead:∀n,n<n0->n∈h'.dead->n∈h.dead
 ok:cR h=ab->cR h'=ab
def bp.refl(b n0)(h):bp b n0 h h:=⟨λ_ _ _ h=>h,aK _,λ_ _ h=>h,aK _,λ_ _ h=>h,λh=>h⟩
def bp.trans{b n0}{x y z}(h:bp b n0 x y)(k:bp b n0 y z):bp b n0 x z:=
 ⟨λi cs hi hb=>k.box i cs hi (h.box i cs hi hb),cY h.len k.len,λl r hl=>k.loop l r (h.loop l r hl),cY h.tn k.tn,λn hn hd=>h.dead n hn (k.dead n hn hd),λho=>k.ok (h.ok ho)⟩
def bp.B0{b n0}{h h'}(x:Ext h h')(hn:n0<=h.tn):bp b n0 h h':=
 ⟨λc cs _ hc=>x.box c cs hc,x.len,x.loop,x.tn,λn h1 h2=>x.dead n (lY h1 hn) h2,x.ok⟩
def bp.put(b n0)(h)(cs):bp b n0 h (h.put b cs):=
 ⟨λc ds hc hb=>by rw[jX hc];exact hb,by rw[td];exact aK _,λ_ _ h=>h,aK _,λ_ _ h=>h,λh=>h⟩
def Ext.mut{b}{h0 h h'}(x:Ext h0 h)(m:bp b h0.tn h h')(hb:h0.boxes.length<=b):Ext h0 h':=
 ⟨λc cs hc=>by have ay:=(aF.1 hc).1;exact m.box c cs aj (x.box c cs hc),λl r hl=>m.loop l r (x.loop l r hl),cY x.tn m.tn,λn hn hd=>x.dead n hn (m.dead n hn hd),λho=>m.ok (x.ok ho)⟩
def ae.app(h:ae)(k:Tok):ae:=
 match k with
 | .free n=>{h with dead:=n::h.dead,tn:=h.tn+1}
 |_=>{h with tn:=h.tn+1}
def lC(h:ae)(k):(h.app k).boxes=h.boxes:=by cases k<;>rfl
def Ta(h:ae)(k):(h.app k).loops=h.loops:=by cases k<;>rfl
def GO(h:ae)(k):(h.app k).tn=h.tn+1:=by cases k<;>rfl
def dx(n0:Nat)(h:ae)(k:Tok):Prop:=k=.nil∨k=.tight∨∃n,k=.free n/\n0<=n/\alive h n=ab
def bp.app{b n0}{h}{k}(hk:dx n0 h k):bp b n0 h (h.app k):=by
 refine⟨λc cs _ hc=>by rw[lC];exact hc,by rw[lC];exact aK _,λl r hl=>by rw[Ta];exact hl,by rw[GO];exact K5 _,?_,?_⟩
 ·rcases hk with rfl|rfl|⟨m,rfl,hm,ha⟩
  ·exactλn _ hn=>hn
  ·exactλn _ hn=>hn
  ·intro n hn hd;rcases fe.1 hd with rfl|hd
   ·omega
   ·exact hd
 ·intro ho;have H4:∀n∈h.dead,n<h.tn+1:=λn hn=>by have:=dn.1 ho n hn;simp only[decide_eq_true_eq] at this;omega
  rcases hk with rfl|rfl|⟨m,rfl,hm,ha⟩
  ·exact dn.2 λn hn=>fJ (H4 n hn)
  ·exact dn.2 λn hn=>fJ (H4 n hn)
  ·refine dn.2 λn hn=>fJ ?_;rcases fe.1 hn with rfl|hn
   ·unfold alive at ha;simp only[aL,decide_eq_true_eq] at ha;show n<h.tn+1;omega
   ·exact H4 n hn
def Ext.app{h0 h}{k}(x:Ext h0 h)(hk:dx h0.tn h k):Ext h0 (h.app k):=by have m:=bp.app (b:=h.boxes.length) hk;exact x.mut m x.len
def S7{h}{k}(ho:cR h=ab)(hk:dx 0 h k):alive (h.app k) h.tn=ab:=by
 have bV:h.dead.contains h.tn=ak:=by rw[ib];intro hc;have:=dn.1 ho h.tn (by simpa using hc);simp at this
 unfold alive;rw[GO];rcases hk with rfl|rfl|⟨m,rfl,-,ha⟩
 ·simp only[ae.app,bV];simp
 ·simp only[ae.app,bV];simp
 ·unfold alive at ha;simp only[aL,decide_eq_true_eq] at ha;have h1:¬(h.tn=m):=by omega
  have h2:¬(h.tn∈h.dead):=by simpa using bV
  simp[ae.app,h1,h2]
def dx.mono{n0}{h}{k}(hk:dx n0 h k){n1}(hn:n1<=n0):dx n1 h k:=by
 rcases hk with rfl|rfl|⟨m,rfl,hm,ha⟩
 ·exact .inl rfl
 ·exact .inr (.inl rfl)
 ·exact .inr (.inr ⟨m,rfl,by omega,ha⟩)
def dx.ext{n0}{h h'}{k}(hk:dx n0 h k)(x:Ext h h'):dx n0 h' k:=by
 rcases hk with rfl|rfl|⟨m,rfl,hm,ha⟩
 ·exact .inl rfl
 ·exact .inr (.inl rfl)
 ·exact .inr (.inr ⟨m,rfl,hm,x.alive ha⟩)
def dx.next{n0}{h}{k}(hk:dx n0 h k)(ho:cR h=ab)(hn:n0<=h.tn):dx n0 (h.app k) (.free h.tn):=
 .inr (.inr ⟨h.tn,rfl,hn,S7 ho (hk.mono (cz _))⟩)
def wV{P}{t0 t1 elem}{i}{h}{k k'}{sz n0}{es new}(h0:P.underlying t0=aa (.slice elem))(h1:P.underlying t1=aa (.slice elem))
 (hi:P.info? elem=aa i) (bG:0<i.size) (hz:(i.zero.map λz=>z.cells.size)=aa i.size) (kX:new≠[]) (hb:(es.length+new.length) * i.bytes<=140737488355328) (hl:es.length+new.length<=9223372036854775807)
 (hs:sz=i.size∨(es=[]/\k=.nil)) (hk:dx n0 h k):iM P h #[t0,t1] (.list k sz es) (.list k' i.size new)=aa (.list (.free h.tn) i.size (es++new),h.app k):=by
 unfold iM;simp only[iB,j5,tD,qZ,h0,h1,hi];have hr:s6 h i.size (.list k' i.size new)=aa new:=by unfold s6 rowsOf;simp
 simp only[hr];rw[aB ⟨bG,hz⟩,aB (hs.imp_right λq=>q.1),ax kX,aB ⟨hb,hl⟩];rcases hk with rfl|rfl|⟨m,rfl,-,ha⟩
 ·rfl
 ·rfl
 ·have hs:sz=i.size:=by
   rcases hs with hs|⟨-,hs⟩
   ·exact hs
   ·cases hs
  simp only[ha,hs,decide_true,Rw,if_true];rfl
end Go.AE
end
section
namespace Go.AE
def qe.cons_inv{H}{P}{t}{ts}{xs}{ds:List (DataW H)}(h:qe P (t::ts) xs ds):∃x xs' d ds',xs=x::xs'/\ds=d::ds'/\jE P t x d/\qe P ts xs' ds':=by
 cases xs with
 |nil=>cases ds<;>exact h.elim
 |cons x xs=>
  cases ds with|nil=>exact h.elim|cons d ds=>exact⟨x,xs,d,ds,rfl,rfl,h.1,h.2⟩
def qe.aa7{H}{P}{xs}{ds:List (DataW H)}(h:qe P [] xs ds):xs=[]:=by
 cases xs with|nil=>rfl|cons x xs=>cases ds<;>exact h.elim
section
variable {P:aQ} {t:aE} {x y:bI}
def Pk{d:TypeDesc}(hu:P.underlying t=aa d):fD P (underlying t)=aa d:=by unfold underlying;simp only[vV];show(aa P).bind _=_;simp only[qZ,hu];rfl
def TY{a b:Bool}(hu:P.underlying t=aa .bool):jo P .eql t x y (.v (.bool a)) (.v (.bool b))=aa (.v (.bool (a==b))):=by
 have h1:jo P .eql t x y (.v (.bool a)) (.v (.bool b))=(fD P (do eqGuard .eql t x y (.bool a) (.bool b);binOp .eql t (.bool a) (.bool b))).bind pZ:=rfl;have h2:fD P (eqGuard .eql t x y (.bool a) (.bool b))=aa ():=rfl;have h3:fD P (Op.equal t (.bool a) (.bool b))=aa (a==b):=by unfold Op.equal Op.maxDepth Op.equalIn;rw[vV,Pk hu];rfl
 have h4:fD P (binOp .eql t (.bool a) (.bool b))=aa (.bool (a==b)):=by show fD P (do pure (Value.bool (<-Op.equal t (.bool a) (.bool b))))=_;rw[vV,h3];rfl
 rw[h1,vV,h2,qZ,h4];rfl
def yD{v:aC}{ms:Array (String × aE)}(hu:P.underlying t=aa (.interface ms)):jo P .neq t x (.const v) (.v .nilIface) (.v .nilIface)=aa (.v (.bool ak)):=by
 have h1:jo P .neq t x (.const v) (.v .nilIface) (.v .nilIface)=(fD P (do eqGuard .neq t x (.const v) .nilIface .nilIface;binOp .neq t .nilIface .nilIface)).bind pZ:=rfl;have h2:fD P (eqGuard .neq t x (.const v) .nilIface .nilIface)=aa ():=by cases x<;>rfl
 have h3:fD P (Op.equal t .nilIface .nilIface)=aa ab:=by unfold Op.equal Op.maxDepth Op.equalIn;rw[vV,Pk hu];rfl
 have h4:fD P (binOp .neq t .nilIface .nilIface)=aa (.bool ak):=by show fD P (do pure (Value.bool (!(<-Op.equal t .nilIface .nilIface))))=_;rw[vV,h3];rfl
 rw[h1,vV,h2,qZ,h4];rfl
def wX{u:aE}{z:AV}(hi:isIface P t=aa ab):jo P .neq t x y (.iface u z) (.v .nilIface)=aa (.v (.bool ab)):=by show(if isIface P t=aa ab then re .neq ak else ah)=_;rw[aB hi];rfl
end
end Go.AE
end
section
namespace Go.AE
section
variable {h:ae} {cs:List AV} {b c:Nat} {k:Tok}
def W8:(h.push cs).boxes[h.boxes.length]?=aa cs:=bX h cs
def W7(hc:c=h.boxes.length):(h.push cs).boxes[c]?=aa cs:=by subst hc;exact bX h cs
def W9(hc:c≠h.boxes.length):(h.push cs).boxes[c]?=h.boxes[c]?:=by
 unfold ae.push;simp only[List.getElem?_append];split
 ·rfl
 ·rename_i h1;rw[oX (by simp;omega),oX aj]
def AS(hb:b<h.boxes.length):(h.put b cs).boxes[b]?=aa cs:=mz hb
def Xa(hc:c≠b):(h.put b cs).boxes[c]?=h.boxes[c]?:=jX hc
def W6:(h.app k).boxes[c]?=h.boxes[c]?:=by rw[lC]
def Oo:(h.app k).boxes.length=h.boxes.length:=by rw[lC]
end
def UN{n0}{h}{cs}{k}:dx n0 (h.push cs) k=dx n0 h k:=rfl
def UO{n0 b}{h}{cs}{k}:dx n0 (h.put b cs) k=dx n0 h k:=rfl
def Ext.dm{h h'}(x:Ext h h'){b}(hb:h.boxes.length<=b)(cs):Ext h (h'.put b cs):=by refine⟨λc ds hc=>?_,x.loop,x.tn,x.dead,x.ok⟩;have ay:c<h.boxes.length:=(aF.1 hc).1;rw[jX aj];exact x.box c ds hc
section
variable {P:aQ} {G:Nat->Option (List AV)} {h:ae} {t:aE} {b off n:Nat} {cs:List AV}
def afg{z:aC}(hs:cU P t=aa 1)(hb:h.boxes[b]?=aa cs)(hl:off+1<=cs.length):dh P h t (.ptr (.box b) off) (.v z)=aa (h.put b (dO cs off [.v z])):=dK rfl hs hb rfl hl
def afe{k:Tok}{sz:Nat}{es:List (List AV)}(hs:cU P t=aa 1)(hb:h.boxes[b]?=aa cs)(hl:off+1<=cs.length):dh P h t (.ptr (.box b) off) (.list k sz es)=aa (h.put b (dO cs off [.list k sz es])):=dK rfl hs hb rfl hl
def aex{l:List UInt8}{k k':uX}{lo hi:Int}(hu:P.underlying t=aa .string)(h0:0<=lo)(h1:lo<=hi)(h2:hi<=l.length):
 qS P t (.v (.string (bs l))) (aa (.v (.int k lo))) (aa (.v (.int k' hi))) ah=aa (.v (.string (bs ((l.take hi.toNat).drop lo.toNat)))):=by
 unfold qS;simp only[De,KD,dP,if_false,hu,su];have e1:gM l.length (aa (AV.v (.int k' hi))) l.length=aa hi.toNat:=by unfold gM;simp only;rw[aB ⟨aj,h2⟩]
 have e2:gM hi.toNat (aa (AV.v (.int k lo))) 0=aa lo.toNat:=by unfold gM;simp only;rw[aB ⟨h0,by omega⟩]
 simp only[e1,e2,GU]
def aey{l:List UInt8}{k:uX}{lo:Int}(hu:P.underlying t=aa .string)(h0:0<=lo)(h1:lo<=l.length):
 qS P t (.v (.string (bs l))) (aa (.v (.int k lo))) ah ah=aa (.v (.string (bs (l.drop lo.toNat)))):=by
 unfold qS;simp only[De,KD,dP,if_false,hu,su];have e1:gM l.length ah l.length=aa l.length:=rfl;have e2:gM l.length (aa (AV.v (.int k lo))) 0=aa lo.toNat:=by unfold gM;simp only;rw[aB ⟨h0,h1⟩]
 simp only[e1,e2,GU,jk]
def aez{l:List UInt8}{k':uX}{hi:Int}(hu:P.underlying t=aa .string)(h0:0<=hi)(h2:hi<=l.length):
 qS P t (.v (.string (bs l))) ah (aa (.v (.int k' hi))) ah=aa (.v (.string (bs (l.take hi.toNat)))):=by
 unfold qS;simp only[De,KD,dP,if_false,hu,su];have e1:gM l.length (aa (AV.v (.int k' hi))) l.length=aa hi.toNat:=by unfold gM;simp only;rw[aB ⟨h0,h2⟩]
 have e2:gM hi.toNat ah 0=aa 0:=rfl;simp only[e1,e2,GU,fc]
def aa8{r:Ref}:Jm (.ptr r off)=aa (.ptr r off):=rfl
def tO{a x y}:(([a,x,y]:List AV).drop 0).head?=aa a:=rfl
def me{a x y}:(([a,x,y]:List AV).drop 1).head?=aa x:=rfl
def DC{a x y}:(([a,x,y]:List AV).drop 2).head?=aa y:=rfl
def B8{a x y z}:dO [a,x,y] 1 [z]=[a,z,y]:=rfl
def ab8{a x y z}:dO [a,x,y] 2 [z]=[a,x,z]:=rfl
end
end Go.AE
end
section
namespace Go.AE
def Env.yI(e:Env)(d:bF × List AV):Env:={e with defers:=d::e.defers}
def Env.pn(e:Env)(p:Option (AV × Bool)):Env:={e with aX:=p}
section
variable {e:Env} {d:bF × List AV} {p:Option (AV × Bool)} {t:Nat}
def VB:(e.yI d).get t=e.get t:=rfl
def VA:(e.yI d).defers=d::e.defers:=rfl
def VC:(e.yI d).aX=e.aX:=rfl
def Mh:(e.yI d).round=e.round:=rfl
def abQ:(e.pn p).get t=e.get t:=rfl
def abP:(e.pn p).defers=e.defers:=rfl
def abR:(e.pn p).aX=p:=rfl
def Pc:(e.pn p).round=e.round:=rfl
end
def KG(P:aQ)(G:Nat->Option (List AV))(R:Rec)(ops:Array Oper)(rest:List Oper)(d:Option Tmp)(args:List AV)(e:Env)(h:ae)(Q:Xt->Env->ae->Prop)(x:AV):Prop:=
 match x with
 | .func (.func g) first az=>bB P G R ops rest ((e.yI (g,first++args++az)).put d (.tuple [])) h Q
 |_=>False
def Gr(P:aQ)(G:Nat->Option (List AV))(R:Rec)(ops:Array Oper)(rest:List Oper)(d:Option Tmp)(e:Env)(h:ae)(Q:Xt->Env->ae->Prop)(p:Option (AV × Bool)):Prop:=
 match p with
 |some (x,ak)=>bB P G R ops rest ((e.pn (aa (x,ab))).put d x) h Q
 |_=>bB P G R ops rest (e.put d (.v .nilIface)) h Q
section
variable {P:aQ} {G:Nat->Option (List AV)} {R:Rec} {ops:Array Oper} {rest:List Oper} {e:Env} {h:ae} {Q:Xt->Env->ae->Prop} {d:Option Tmp} {ty:aE} {pos:String} {af:Array Edge}
def acR{f:bI}{args:Array bI}{ts:Array aE}(hr:e.round=ah):bB P G R ops (⟨d,.defer {callee:=.value f,args,argTypes:=ts},ty,pos,af,ah⟩::rest) e h Q=KG P G R ops rest d (args.toList.map e.eval) e h Q (e.eval f):=by
 rw[adL hr];generalize e.eval f=y;rcases y with _|_|_|_|_|_|_|_|⟨fn,a,b⟩|_|_
 case func=>cases fn<;>rfl
 all_goals rfl
def Vy{g:bF}{first az args:List AV}:KG P G R ops rest d args e h Q (.func (.func g) first az)=bB P G R ops rest ((e.yI (g,first++args++az)).put d (.tuple [])) h Q:=rfl
def ada{args:Array bI}{ts:Array aE}(hr:e.round=ah):bB P G R ops (⟨d,.call {callee:=.builtin .recover,args,argTypes:=ts},ty,pos,af,ah⟩::rest) e h Q=Gr P G R ops rest d e h Q e.aX:=by
 rw[adP hr];rcases hp:e.aX with _|⟨x,b⟩
 ·rfl
 ·cases b<;>rfl
def ach{x:AV}:Gr P G R ops rest d e h Q (aa (x,ak))=bB P G R ops rest ((e.pn (aa (x,ab))).put d x) h Q:=rfl
def acg:Gr P G R ops rest d e h Q ah=bB P G R ops rest (e.put d (.v .nilIface)) h Q:=rfl
def afV{fn:Func}{g:bF}{args:List AV}{ds:List (bF × List AV)}{x:AV}{h':ae}(hc:R.fS g args ah h=aa (.ret x,ah,h')):eZ P G R fn e ((g,args)::ds) ah h=eZ P G R fn e ds ah h':=by rw[eZ,hc]
def afZ{fn:Func}{g:bF}{args:List AV}{ds:List (bF × List AV)}{x y z:AV}{h':ae}(hc:R.fS g args (aa (y,ak)) h=aa (.ret x,aa (z,ab),h')):eZ P G R fn e ((g,args)::ds) (aa (y,ak)) h=eZ P G R fn e ds ah h':=by rw[eZ,hc]
end
end Go.AE
end
section
namespace Go.AE
def DN(P:aQ)(G:Nat->Option (List AV))(R:Rec)(fn:Func)(Post:bw->ae->Prop):Xt->Env->ae->Prop:=λo e h=>∃r h',tU P G R fn r h' o e h/\Post r h'
def VS{P}{G}{R}{fn}{Post}{e}{h}:DN P G R fn Post .normal e h=∃r h',eZ P G R fn e e.defers ah h=aa (r,h')/\Post r h':=rfl
def VU{P}{G}{R}{fn}{Post}{e}{h}:DN P G R fn Post .ret e h=∃r h',eZ P G R fn e e.defers ah h=aa (r,h')/\Post r h':=rfl
def VT{P}{G}{R}{fn}{Post}{e}{h}{x}:DN P G R fn Post (.panic x) e h=∃r h',eZ P G R fn e e.defers (aa (x,ak)) h=aa (r,h')/\Post r h':=rfl
def bO{P}{G}{aD}{g}{fn}{body}{args}{h}{Post}(hp:aD g=ah)(fw:P.funcs[g]?=aa fn)(hb:fn.body=aa body)
 (hr:bU (whole P G aD) body (Env.start args ah) h (DN P G (whole P G aD) fn Post)):∃r h',(whole P G aD).call g args h=aa (r,h')/\Post r h':=by
 obtain⟨o,e1,h1,h2,r,h',h3,h4⟩:=hr;exact⟨r,h',fg hp fw hb ⟨o,e1,h1,h2,h3⟩,h4⟩
def GL{x}{h}{Post:bw->ae->Prop}(hp:Post (.ret x) h):∃r h',(aa (bw.ret x,h):Option (bw × ae))=aa (r,h')/\Post r h':=⟨_,_,rfl,hp⟩
end Go.AE
end
section
namespace Go.AE
section
variable {P:aQ} {h:ae} {ts:Array aE} {ty:aE} {k:uX} {a b:Int}
def aaA:iX P h .max ts ty [.v (.int k a),.v (.int k b)]=aa (.v (.int k (if a<b then b else a)),h):=by
 have h1:iX P h .max ts ty [.v (.int k a),.v (.int k b)]=((fD P (Builtin.max_ ts ty #[.int k a,.int k b])).bind pZ).map (·,h):=rfl;rw[h1];have h2:fD P (Builtin.max_ ts ty #[.int k a,.int k b])=aa (.int k (if a<b then b else a)):=by simp[Builtin.max_,Builtin.max2];split<;>simp_all<;>rfl
 rw[h2];split<;>rfl
def aaO:iX P h .min ts ty [.v (.int k a),.v (.int k b)]=aa (.v (.int k (if b<a then b else a)),h):=by
 have h1:iX P h .min ts ty [.v (.int k a),.v (.int k b)]=((fD P (Builtin.min_ ts ty #[.int k a,.int k b])).bind pZ).map (·,h):=rfl;rw[h1];have h2:fD P (Builtin.min_ ts ty #[.int k a,.int k b])=aa (.int k (if b<a then b else a)):=by simp[Builtin.min_,Builtin.min2];split<;>simp_all<;>rfl
 rw[h2];split<;>rfl
def Z0{t:aE}{x:AV}:iX P h .len #[t] ty [x]=(sY P t x).map (·,h):=rfl
def UQ{t:aE}{x:AV}:iX P h .cap #[t] ty [x]=(DB P t x).map (·,h):=rfl
def append_eq{d:Option Tmp}{s x:AV}:oE P (λ_=>ah) d h .append ts ty [s,x]=iM P h ts s x:=rfl
def Tg{G:Nat->Option (List AV)}{d:Option Tmp}{s x:AV}(ht:Kp G d ty=ak):oE P G d h .append ts ty [s,x]=iM P h ts s x:=by unfold oE;simp only[ht,dP,if_false]
def Th{G:Nat->Option (List AV)}{d:Option Tmp}{s x:AV}(ht:Kp G d ty=ab):oE P G d h .append ts ty [s,x]=CN P h ts s x:=by unfold oE;simp only[ht,if_true]
def copy_eq{s x:AV}:iX P h .copy ts ty [s,x]=DE P h ts s x:=rfl
end
end Go.AE
end
section
namespace Go.AE
section
variable {H:Type} {P:aQ} {t e:aE} {cs xs:List AV} {x:AV} {d:DataW H}
def Has.Ah(h:Has P t cs d)(hu:P.underlying t=aa .string):∃l:List UInt8,cs=[.v (.string (bs l))]/\l.length<=maxLen:=by
 cases h with
 |str bA s hs=>exact⟨s.data.toList,by rw[<-Ds],by simpa using hs⟩|bool bA=>rw[hu] at bA;cases bA
 |int bA=>rw[hu] at bA;cases bA
 |none bA=>rw[hu] at bA;cases bA
 |list bA=>rw[hu] at bA;cases bA
 |struct bA=>rw[hu] at bA;cases bA
 |array bA=>rw[hu] at bA;cases bA
def Has.ZD{k:uX}(h:Has P t cs d)(hu:P.underlying t=aa (.int k)):∃n:Int,cs=[.v (.int k n)]/\k.min<=n/\n<=k.max:=by
 cases h with
 |int bA n hn=>rw[hu] at bA;injection bA with bA;injection bA with bA;subst bA;exact⟨n,rfl,by simpa [Lit.wf] using hn⟩
 |bool bA=>rw[hu] at bA;cases bA
 |str bA=>rw[hu] at bA;cases bA
 |none bA=>rw[hu] at bA;cases bA
 |list bA=>rw[hu] at bA;cases bA
 |struct bA=>rw[hu] at bA;cases bA
 |array bA=>rw[hu] at bA;cases bA
def Has.vG(h:Has P t cs d)(hu:P.underlying t=aa (.int .i64)):∃n:Int,cs=[.v (.int .i64 n)]/\ -9223372036854775808<=n/\n<=9223372036854775807:=by obtain⟨n,h1,h2,h3⟩:=h.ZD hu;simp[IntKind.min,IntKind.max,IntKind.signed,IntKind.bits] at h2 h3;exact⟨n,h1,h2,h3⟩
def Has.FE(h:Has P t cs d)(hu:P.underlying t=aa (.slice e)):∃(k:Tok) (es:List (List AV)),cs=[.list k (P.cellsOf e) es]/\es.length<=maxLen/\(k=.nil∨k=.held∨(k=.tight/\es=[]))/\(k=.nil->es=[])/\
 ∀r∈es,r.length=P.cellsOf e/\∃d:DataW H,Has P e r d:=by
 cases h with
 |bool bA=>rw[hu] at bA;cases bA
 |int bA=>rw[hu] at bA;cases bA
 |str bA=>rw[hu] at bA;cases bA
 |none bA=>rw[hu] at bA;injection bA with bA;injection bA with bA;subst bA;exact⟨.nil,[],rfl,by simp,.inl rfl,λ_=>rfl,λr hr=>by cases hr⟩
 |list bA k es ds sp hk hl hd he hs=>
  rw[hu] at bA;injection bA with bA;injection bA with bA;subst bA;refine⟨k,es,rfl,hl,.inr hk,?_,λr hr=>⟨hs r hr,?_⟩⟩
  ·rintro rfl;rcases hk with hk|⟨hk,-⟩<;>cases hk
  ·obtain⟨i,hi,rfl⟩:=wN.1 hr;exact⟨ds[i],he i _ _ (cv hi) (cv aj)⟩
 |struct bA=>rw[hu] at bA;cases bA
 |array bA=>rw[hu] at bA;cases bA
def Has.CI{fs:Array Field}{mV:List (aE × Nat)}(h:Has P t xs d)(hu:P.underlying t=aa (.struct fs))(hf:(fs.toList.map λf=>(f.type,f.offset))=mV):
 xs.length=P.cellsOf t/\∀(i:Nat) (u:aE) (o:Nat),mV[i]?=aa (u,o)->∃d:DataW H,Has P u ((xs.drop o).take (P.cellsOf u)) d:=by
 cases h with
 |bool bA=>rw[hu] at bA;cases bA
 |int bA=>rw[hu] at bA;cases bA
 |str bA=>rw[hu] at bA;cases bA
 |none bA=>rw[hu] at bA;cases bA
 |list bA=>rw[hu] at bA;cases bA
 |array bA=>rw[hu] at bA;cases bA
 |struct bA xs ds hl hd D8=>
  rw[hu] at bA;injection bA with bA;injection bA with bA;subst bA;refine⟨hl,λi u o ho=>?_⟩;rw[<-hf,tF] at ho;cases hq:fs.toList[i]? with
  |none=>rw[hq] at ho;cases ho
  |some f=>rw[hq] at ho;simp only[cy,aY,aW] at ho;have hi:i<ds.length:=(by have:=(aF.1 hq).1;simp at this;omega);have:=D8 i f ds[i] (by rw[<-sd];exact hq) (cv hi);rw[ho.1,ho.2] at this;exact⟨_,this⟩
def jE.plain(h:jE P t x d)(hu:∀fs,P.underlying t≠aa (.struct fs))(Is:∀n e,P.underlying t≠aa (.array n e)):Has P t [x] d:=by
 unfold jE at h;split at h
 ·rename_i h1;exact absurd h1 (hu _)
 ·rename_i h1;exact absurd h1 (Is _ _)
 ·exact h
def jE.Ah(h:jE P t x d)(hu:P.underlying t=aa .string):∃l:List UInt8,x=.v (.string (bs l))/\l.length<=maxLen:=by obtain⟨l,h1,h2⟩:=(h.plain (λ_ hq=>by rw[hu] at hq;cases hq) (λ_ _ hq=>by rw[hu] at hq;cases hq)).Ah hu;injection h1 with h1;exact⟨l,h1,h2⟩
def jE.vG(h:jE P t x d)(hu:P.underlying t=aa (.int .i64)):∃n:Int,x=.v (.int .i64 n)/\ -9223372036854775808<=n/\n<=9223372036854775807:=by obtain⟨l,h1,h2⟩:=(h.plain (λ_ hq=>by rw[hu] at hq;cases hq) (λ_ _ hq=>by rw[hu] at hq;cases hq)).vG hu;injection h1 with h1;exact⟨l,h1,h2⟩
def jE.FE(h:jE P t x d)(hu:P.underlying t=aa (.slice e)):∃(k:Tok) (es:List (List AV)),x=.list k (P.cellsOf e) es/\es.length<=maxLen/\(k=.nil∨k=.held∨(k=.tight/\es=[]))/\(k=.nil->es=[])/\
 ∀r∈es,r.length=P.cellsOf e/\∃d:DataW H,Has P e r d:=by
 obtain⟨k,es,h1,h2⟩:=(h.plain (λ_ hq=>by rw[hu] at hq;cases hq) (λ_ _ hq=>by rw[hu] at hq;cases hq)).FE hu;injection h1 with h1;exact⟨k,es,h1,h2⟩
def jE.CI{fs:Array Field}(h:jE P t x d)(hu:P.underlying t=aa (.struct fs)):∃xs,x=.agg xs/\Has P t xs d:=by unfold jE at h;rw[hu] at h;exact h
def yf(P:aQ)(t:aE)(mV:List (aE × Nat)):Bool:=
 match P.underlying t with
 |some (.struct fs)=>decide ((fs.toList.map λf=>(f.type,f.offset))=mV)
 |_=>ak
def FO{mV:List (aE × Nat)}(h:yf P t mV=ab):∃fs:Array Field,P.underlying t=aa (.struct fs)/\(fs.toList.map λf=>(f.type,f.offset))=mV:=by
 unfold yf at h;split at h
 ·rename_i fs hu;exact⟨fs,hu,by simpa using h⟩
 ·cases h
def jE.fields{mV:List (aE × Nat)}(h:jE P t x d)(hs:yf P t mV=ab):∃xs,x=.agg xs/\xs.length=P.cellsOf t/\∀(i:Nat) (u:aE) (o:Nat),mV[i]?=aa (u,o)->∃d:DataW H,Has P u ((xs.drop o).take (P.cellsOf u)) d:=by obtain⟨fs,hu,hf⟩:=FO hs;obtain⟨xs,h1,h2⟩:=h.CI hu;exact⟨xs,h1,h2.CI hu hf⟩
def Has.fields{mV:List (aE × Nat)}(h:Has P t xs d)(hs:yf P t mV=ab):xs.length=P.cellsOf t/\∀(i:Nat) (u:aE) (o:Nat),mV[i]?=aa (u,o)->∃d:DataW H,Has P u ((xs.drop o).take (P.cellsOf u)) d:=by obtain⟨fs,hu,hf⟩:=FO hs;exact h.CI hu hf
def Om{α:Type}{l:List α}(h:l.length=2):∃a b,l=[a,b]:=by
 match l,h with
 | [a,b],_=>exact⟨a,b,rfl⟩
def adq{α:Type}{f}:∀{es:List (List AV)},(∀r∈es,∃a,r=f a)->∃l:List α,es=l.map f:=by
 intro es
 induction es with
 |nil=>intro _;exact⟨[],rfl⟩|cons r es ih=>intro h;obtain⟨a,rfl⟩:=h r dQ;obtain⟨l,rfl⟩:=ih λr hr=>h r (dG _ hr);exact⟨a::l,rfl⟩
end
end Go.AE
end
section
namespace Go.AE
end Go.AE
end
section
namespace Go.AE
section
variable {a b:Nat × bI} {i k:Nat} {n:Int} {x:ByteArray} {l:List (Nat × bI)}
def UU:sw #[]=ak:=rfl
def UW:sw #[a]=ak:=by
 obtain⟨i,o⟩:=a;cases o with
 |const v=>
  cases v with
  |int k n=>cases k<;>rfl
  |_=>rfl
 |_=>rfl
def UY:sw (Gk ((i,.tmp k)::l))=ak:=rfl
def UT:sw (Gk ((i,.const (.int .i64 n))::l))=ak:=rfl
def UX:sw (Gk ((i,.const (.string x))::l))=ak:=rfl
def UZ:sw (Gk ((i,.const (.int .u8 n))::b::l))=ab:=rfl
end
set_option linter.defProp false in
def Xc:=aw @run_seq (aw @ad0 (aw @adS (aw @adR (aw @adU (aw @ad1 (aw @ad3 (aw @adV (aw @ad2 (aw @ael (aw @aen (aw @aek (aw @aem (aw @Ue (aw @Ug (aw @LJ (aw @Uf (aw @aao (aw @aaq (aw @aan (aw @aap (aw @UJ (aw @UK (aw @Uo (aw @Ul (aw @Xu (aw @Xs (aw @Xp (aw @Xo (aw @Xv (aw @Xl (aw @Xk (aw @aeA (aw @adN (aw @adM (aw @ac7 (aw @acJ (aw @ac9 (aw @acH (aw @acL (aw @acM (aw @acN (aw @acZ (aw @ade (aw @ac8 (aw @acK (aw @adg (aw @acP (aw @ac3 (aw @ac0 (aw @ac4 (aw @adb (aw @acV (aw @acU (aw @acX (aw @acW (aw @adf (aw @acT (aw @acY (aw @acO (aw @acI (aw @acQ (aw @ac6 (aw @ac5 (aw @adQ (aw @Ll (aw @SY (aw @SX (aw @UF (aw @UH (aw @Pm (aw @ab9 (aw @uK (aw @aeN (aw @aeO (aw @Qu (aw @aeV (aw @aeU (aw @aeW (aw @J8 (aw @Hg (aw @eval_const (aw @eval_func (aw @eval_global (aw @abg (aw @abf (aw @abl (aw @abi (aw @abh (aw @abj (aw @abk (aw @abe (aw @Ur (aw @su (aw @TX (aw @Uc (aw @T4 (aw @T6 (aw @T8 (aw @TZ (aw @T5 (aw @T3 (aw @T2 (aw @T1 (aw @T0 (aw @Ua (aw @Ub (aw @T9 (aw @afT (aw @afS (aw @Z3 (aw @Z1 (aw @Oq (aw @ZA (aw @abM (aw @WJ (aw @WK (aw @VV (aw @VX (aw @VW (aw @VY (aw @V0 (aw @VZ (aw @afX (aw @afY (aw @Bool.not_true (aw @uU (aw @dP (aw @decide_true (aw @decide_false (aw @not_true_eq_false (aw @not_false_eq_true (aw @RO (aw @RP (aw @Nat.succ_ne_zero (aw @aaA (aw @aaO (aw @Z0 (aw @UQ (aw @append_eq (aw @copy_eq (aw @UU (aw @UW (aw @UY (aw @UT (aw @UX (@UZ))))))))))))))))))))))))))))))))))))))))))))))))))))))))))))))))))))))))))))))))))))))))))))))))))))))))))))))))))))))))))))))))))))))))))))))))))
set_option linter.defProp false in
def Xb:=aw @VS (aw @VU (aw @VT (aw @afV (aw @afZ (aw @adO (aw @acR (aw @Vy (aw @ada (aw @ach (aw @acg (aw @VB (aw @VA (aw @VC (aw @Mh (aw @abQ (aw @abP (aw @abR (aw @Pc (aw @IV (aw @nH (aw @afg (aw @afe (aw @aex (aw @aey (aw @aez (aw @aa8 (aw @AH (aw @gL (@gD)))))))))))))))))))))))))))))
end Go.AE
end
section
namespace Go.AE
section
variable {P:aQ} {G:Nat->Option (List AV)} {aD:bF->Option (List AV->ae->Option (AV × ae))} {Q:Xt->Env->ae->Prop} {e:Env} {h:ae}
def EB(e:Env)(params:Array Tmp)(assign body:Code):ff:={tmps:=e.tmps,params,assign,body,state:=.ready,pending:=ah}
def ae.loop(h:ae)(r:ff):ae:={h with loops:=h.loops++[r]}
def ae.done(h:ae)(l:Nat)(r:ff):ae:={h with loops:=h.loops.set l {r with state:=.exhausted}}
def adY{f:bI}{params:Array Tmp}{assign body:Code}{g:bF}{first az:List AV}(hf:e.eval f=.func (.func g) first az){x:AV}{h':ae}
 (hc:(whole P G aD).call g (first++[.yield h.loops.length]++az) (h.loop (EB e params assign body))=aa (.panic x,h')) (hq:Q (.panic x) e h'):
 bU (whole P G aD) (.rangeFunc f params assign body) e h Q:=by
 unfold bU;rw[mY];unfold dB;have fh:(whole P G aD).call g (first++[.yield h.loops.length]++az) {h with loops:=h.loops++[{tmps:=e.tmps,params,assign,body,state:=.ready,pending:=ah}]}=aa (.panic x,h'):=hc;simp only[hf,fh];exact⟨_,_,_,rfl,hq⟩
def adX{f:bI}{params:Array Tmp}{assign body:Code}{g:bF}{first az:List AV}(hf:e.eval f=.func (.func g) first az){x:AV}{h':ae}{r:ff}
 (hc:(whole P G aD).call g (first++[.yield h.loops.length]++az) (h.loop (EB e params assign body))=aa (.ret x,h')) (hr:h'.loops[h.loops.length]?=aa r) (hb:r.state≠ .busy) (hp:r.pending=ah)
 (hq:Q .normal e (h'.done h.loops.length r)):bU (whole P G aD) (.rangeFunc f params assign body) e h Q:=by
 unfold bU;rw[mY];unfold dB;have fh:(whole P G aD).call g (first++[.yield h.loops.length]++az) {h with loops:=h.loops++[{tmps:=e.tmps,params,assign,body,state:=.ready,pending:=ah}]}=aa (.ret x,h'):=hc;simp only[hf,fh,hr,hp];rw[ax hb];refine⟨_,_,_,rfl,?_⟩;simpa only[ae.done,hp] using hq
def adZ{f:bI}{params:Array Tmp}{assign body:Code}{g:bF}{first az:List AV}(hf:e.eval f=.func (.func g) first az){x:AV}{h':ae}{r:ff}
 (hc:(whole P G aD).call g (first++[.yield h.loops.length]++az) (h.loop (EB e params assign body))=aa (.ret x,h')) (hr:h'.loops[h.loops.length]?=aa r) (hb:r.state≠ .busy) (hp:r.pending=aa .ret)
 (hq:Q .ret e (h'.done h.loops.length r)):bU (whole P G aD) (.rangeFunc f params assign body) e h Q:=by
 unfold bU;rw[mY];unfold dB;have fh:(whole P G aD).call g (first++[.yield h.loops.length]++az) {h with loops:=h.loops++[{tmps:=e.tmps,params,assign,body,state:=.ready,pending:=ah}]}=aa (.ret x,h'):=hc;simp only[hf,fh,hr,hp];rw[ax hb];refine⟨_,_,_,rfl,?_⟩;simpa only[ae.done,hp] using hq
def mR(l:Nat)(r:ff)(args:List AV):Env:={tmps:=zY r.params.toList args r.tmps,defers:=[],aX:=ah,round:=aa l}
def ae.busy(h:ae)(l:Nat)(r:ff):ae:={h with loops:=h.loops.set l {r with state:=.busy}}
def zN(l:Nat)(x:bw)(h':ae):Xt->Env->ae->Prop
 | .normal,_,h2=>∃r,h2.loops[l]?=aa r/\x=.ret (.v (.bool ab))/\h'={h2 with loops:=h2.loops.set l {r with state:=.ready,pending:=ah}}
 | .ret,_,h2=>∃r,h2.loops[l]?=aa r/\x=.ret (.v (.bool ak))/\h'={h2 with loops:=h2.loops.set l {r with state:=.done,pending:=aa .ret}}
 | .exit id,_,h2=>∃r,h2.loops[l]?=aa r/\x=.ret (.v (.bool ak))/\h'={h2 with loops:=h2.loops.set l {r with state:=.done,pending:=aa (.exit id)}}
 | .panic z,_,h2=>x=.panic z/\h'=h2
def PH{l:Nat}{args:List AV}{r:ff}{x:bw}{h':ae}(hr:h.loops[l]?=aa r)(hs:r.params.size=args.length)
 (ha:bU (whole P G aD) r.assign (mR l r args) h (λo e1 h1=>o=.normal/\∃r2,h1.loops[l]?=aa r2/\r2.state=.ready/\bU (whole P G aD) r.body e1 (h1.busy l r2) (zN l x h'))):
 (whole P G aD).round l args h=aa (x,h'):=by
 rw[agb];unfold rR;obtain⟨o,e1,h1,e2,rfl,r2,q1,q2,o2,e3,h3,q3,q4⟩:=ha;have e2':(whole P G aD).code r.assign {tmps:=zY r.params.toList args r.tmps,defers:=[],aX:=ah,round:=aa l} h=aa (.normal,e1,h1):=e2;have q3':(whole P G aD).code r.body e1 {h1 with loops:=h1.loops.set l {r2 with state:=.busy}}=aa (o2,e3,h3):=q3;simp only[hr,hs,if_true,e2',q1,q2];rw[show({h1 with loops:=h1.loops.set l {tmps:=r2.tmps,params:=r2.params,assign:=r2.assign,body:=r2.body,state:=LoopState.busy,pending:=r2.pending}}:ae)={h1 with loops:=h1.loops.set l {r2 with state:=.busy}} from rfl,q3'];cases o2 with
 |normal=>obtain⟨r3,w1,rfl,rfl⟩:=q4;simp only[w1,cy]
 |ret=>obtain⟨r3,w1,rfl,rfl⟩:=q4;simp only[w1,cy]
 |exit id=>obtain⟨r3,w1,rfl,rfl⟩:=q4;simp only[w1,cy]
 |panic z=>obtain⟨rfl,rfl⟩:=q4;rfl
end
end Go.AE
end
section
namespace Go.AE
structure Fr(bn l0 n0:Nat)(h h':ae):Prop where
 box:∀(c:Nat) (cs:List AV),c≠bn->h.boxes[c]?=aa cs->h'.boxes[c]?=aa cs
 len:h.boxes.length<=h'.boxes.length
 loop:∀(l:Nat) (r:ff),l<l0->h.loops[l]?=aa r->h'.loops[l]?=aa r
 qH:h.loops.length<=h'.loops.length
 tn:h.tn<=h'.tn
 dead:∀n,n<n0->n∈h'.dead->n∈h.dead
 ok:cR h=ab->cR h'=ab
def Fr.refl(bn l0 n0)(h):Fr bn l0 n0 h h:=⟨λ_ _ _ h=>h,aK _,λ_ _ _ h=>h,aK _,aK _,λ_ _ h=>h,λh=>h⟩
def Fr.trans{bn l0 n0}{a b c}(h:Fr bn l0 n0 a b)(k:Fr bn l0 n0 b c):Fr bn l0 n0 a c:=
 ⟨λi cs hi hb=>k.box i cs hi (h.box i cs hi hb),cY h.len k.len,λl r hl hr=>k.loop l r hl (h.loop l r hl hr),cY h.qH k.qH,cY h.tn k.tn,λn hn hd=>h.dead n hn (k.dead n hn hd),λho=>k.ok (h.ok ho)⟩
def Ext.qH{h h'}(x:Ext h h'):h.loops.length<=h'.loops.length:=by
 rcases dp h'.loops.length h.loops.length with ay|dy
 ·have h1:=x.loop h'.loops.length _ (cv ay);have:=(aF.1 h1).1;omega
 ·exact dy
def Fr.B0{bn l0 n0}{h h'}(x:Ext h h')(hn:n0<=h.tn):Fr bn l0 n0 h h':=
 ⟨λc cs _ hc=>x.box c cs hc,x.len,λl r _ hl=>x.loop l r hl,x.qH,x.tn,λn h1 h2=>x.dead n (lY h1 hn) h2,x.ok⟩
def Fr.push(bn l0 n0)(h)(cs):Fr bn l0 n0 h (h.push cs):=
 ⟨λ_ _ _ hb=>bW hb,by rw[aA];exact K5 _,λ_ _ _ h=>h,aK _,aK _,λ_ _ h=>h,λh=>h⟩
def Fr.put(bn l0 n0)(h)(cs):Fr bn l0 n0 h (h.put bn cs):=
 ⟨λc ds hc hb=>by rw[jX hc];exact hb,by rw[td];exact aK _,λ_ _ _ h=>h,aK _,aK _,λ_ _ h=>h,λh=>h⟩
def ae.dY(h:ae)(l:Nat)(r:ff):ae:={h with loops:=h.loops.set l r}
def Fr.dY{bn l0 n0}{h}{l}(hl:l0<=l)(r):Fr bn l0 n0 h (h.dY l r):=
 ⟨λ_ _ _ hb=>hb,aK _,λm q hm hq=>by rw[<-hq];exact R4 aj,by simp[ae.dY],aK _,λ_ _ h=>h,λh=>h⟩
def Fr.EC{bn l0 n0}(h)(r):Fr bn l0 n0 h (h.loop r):=
 ⟨λ_ _ _ hb=>hb,aK _,λm q hm hq=>pz hq,by simp[ae.loop],aK _,λ_ _ h=>h,λh=>h⟩
def Fr.ext{bn l0 n0}{h h'}(x:Fr bn l0 n0 h h')(hb:h.boxes.length<=bn)(hl:h.loops.length<=l0)(hn:h.tn<=n0):Ext h h':=
 ⟨λc cs hc=>x.box c cs (by have:=(aF.1 hc).1;omega) hc,λl r hr=>x.loop l r (by have:=(aF.1 hr).1;omega) hr,x.tn,λn h1 h2=>x.dead n (lY h1 hn) h2,x.ok⟩
def wo{h:ae}{l}{r}(hl:l<h.loops.length):(h.dY l r).loops[l]?=aa r:=by simp[ae.dY,hl]
def wm{h:ae}{l m}{r}(hl:m≠l):(h.dY l r).loops[m]?=h.loops[m]?:=by simp[ae.dY,R4 (Ne.symm hl)]
def OD{h:ae}{r}:(h.loop r).loops[h.loops.length]?=aa r:=by simp[ae.loop]
def OC{h:ae}{r q}{l:Nat}(hq:h.loops[l]?=aa q):(h.loop r).loops[l]?=aa q:=pz hq
def St(l:Nat)(h h':ae):Prop:=(∀(b:Nat) (cs:List AV),h.boxes[b]?=aa cs->h'.boxes[b]?=aa cs)/\∀(m:Nat) (r:ff),m<=l->h.loops[m]?=aa r->h'.loops[m]?=aa r
def St.refl(l)(h):St l h h:=⟨λ_ _ h=>h,λ_ _ _ h=>h⟩
def St.trans{l}{a b c}(h:St l a b)(k:St l b c):St l a c:=⟨λi cs hb=>k.1 i cs (h.1 i cs hb),λm r hm hr=>k.2 m r hm (h.2 m r hm hr)⟩
def St.push(l)(h)(cs):St l h (h.push cs):=⟨λ_ _ hb=>bW hb,λ_ _ _ h=>h⟩
def St.B0{l}{h h'}(x:Ext h h'):St l h h':=⟨x.box,λm r _ hr=>x.loop m r hr⟩
def St.dY{l k}{h}(hl:l<k)(r):St l h (h.dY k r):=⟨λ_ _ hb=>hb,λm q hm hq=>by rw[wm aj];exact hq⟩
def St.EC(l)(h)(r):St l h (h.loop r):=⟨λ_ _ hb=>hb,λm q _ hq=>OC hq⟩
def St.dm{l}{h h'}(x:St l h h'){b}(hb:h.boxes.length<=b)(cs):St l h (h'.put b cs):=
 ⟨λc ds hc=>by have ay:c<h.boxes.length:=(aF.1 hc).1;rw[jX aj];exact x.1 c ds hc,x.2⟩
inductive Nx (α:Type) where
 |cont (a:α)|stop (a:α)|panic (v:AV)
def Rk{α:Type}(l:Nat)(Inv InvS:α->ae->Prop)(h:ae)(r:bw)(h':ae):Nx α->Prop
 | .cont a=>r=.ret (.v (.bool ab))/\Inv a h'/\∀(m:Nat) (q:ff),h.loops[m]?=aa q->h'.loops[m]?=aa q
 | .stop a=>r=.ret (.v (.bool ak))/\InvS a h'/\∀(m:Nat) (q:ff),l<m->h.loops[m]?=aa q->h'.loops[m]?=aa q
 | .panic v=>r=.panic v
def bU.gen{R}{c}{e}{h}{Q}(hq:∀e2:Env,(∀t,e2.get t=e.get t)->e2.defers=e.defers->e2.aX=e.aX->e2.round=e.round->bU R c e2 h Q):bU R c e h Q:=hq e (λ_=>rfl) rfl rfl rfl
section
variable {P:aQ} {G:Nat->Option (List AV)} {aD:bF->Option (List AV->ae->Option (AV × ae))} {Q:Xt->Env->ae->Prop} {e:Env} {h:ae}
def PZ{f:bI}{params:Array Tmp}{assign body:Code}{g:bF}{first az:List AV}(hf:e.eval f=.func (.func g) first az)
 (H:∀rec:ff,rec.tmps=e.tmps->rec.params=params->rec.assign=assign->rec.body=body->rec.state=.ready->rec.pending=ah->∃r h',(whole P G aD).call g (first++[.yield h.loops.length]++az) (h.loop rec)=aa (r,h')/\
  match r with
  | .panic x=>Q (.panic x) e h'
  | .ret _=>∃rc,h'.loops[h.loops.length]?=aa rc/\rc.state≠ .busy/\((rc.pending=ah/\Q .normal e (h'.dY h.loops.length {rc with state:=.exhausted}))∨(rc.pending=aa .ret/\Q .ret e (h'.dY h.loops.length {rc with state:=.exhausted})))):
 bU (whole P G aD) (.rangeFunc f params assign body) e h Q:=by
 obtain⟨r,h',hc,hm⟩:=H (EB e params assign body) rfl rfl rfl rfl rfl rfl;cases r with
 |panic x=>exact adY hf hc hm|ret x=>
  obtain⟨rc,h1,h2,h3|h3⟩:=hm
  ·exact adX hf hc h1 h2 h3.1 h3.2
  ·exact adZ hf hc h1 h2 h3.1 h3.2
def qP{l p t:Nat}{r:ff}{x:AV}(hp:r.params=#[p])(ht:r.tmps=e.tmps):(mR l r [x]).get t=if p=t then x else e.get t:=by unfold mR;rw[hp,ht];exact zl e.tmps p t x
def St.mono{l l'}(hl:l<=l'){h h'}(x:St l' h h'):St l h h':=⟨x.1,λm r hm hr=>x.2 m r aj hr⟩
end
end Go.AE
end
section
namespace Go.AE
section
variable {P:aQ} {G:Nat->Option (List AV)} {R:Rec}
def CJ(Q:Xt->Env->ae->Prop):Xt->Env->ae->Prop
 | .normal,e,h=>Q .normal e h
 | .panic x,e,h=>Q (.panic x) e h
 |_,_,_=>False
def Oi(P:aQ)(G:Nat->Option (List AV))(R:Rec)(ops:Array Oper)(l:List Oper)(Q:Xt->Env->ae->Prop):Xt->Env->ae->Prop
 | .normal,e,h=>bB P G R ops l e h (CJ Q)
 |_,_,_=>False
def wC{Q}{e}{h}:CJ Q .normal e h=Q .normal e h:=rfl
def wD{Q}{e}{h}{x}:CJ Q (.panic x) e h=Q (.panic x) e h:=rfl
def vI{ops:Array Oper}{l:List Oper}{Q:Xt->Env->ae->Prop}{e:Env}{h:ae}:Oi P G R ops l Q .normal e h=bB P G R ops l e h (CJ Q):=rfl
end
section
variable {P:aQ} {G:Nat->Option (List AV)} {aD:bF->Option (List AV->ae->Option (AV × ae))} {Q:Xt->Env->ae->Prop} {e:Env} {h:ae}
def Zi{R:Rec}{ops:Array Oper}{n:Nat}(hn:n+1=ops.size)(hl:pP ops=ab){e1:Env}{h1:ae}(h2:aG P G R ops (bt n) e h=aa (.normal,e1,h1)):oe (aG P G R (eg ops) (bt (eg ops).size) e h)=ab:=by rw[Ep,<-hn,u0];have m1:=h2;rw[<-I0 hl (λi hi=>by have:=fP.1 hi;omega)] at m1;rw[zA m1,aG,BB,aB hn];have ho:ops[n]?=aa ops[n]:=fW aj;rw[ho];rfl
def wg{id n:Nat}{ops:Array Oper}(hn:n+1=ops.size)(hd:yJ ops=ab)(rp:yJ (eg ops)=ab)(hl:pP ops=ab)
 (hr:bB P G (whole P G aD) ops (ops.toList.take n) e h (Oi P G (whole P G aD) ops (ops.toList.drop n) Q)):bU (whole P G aD) (.region id ops ab) e h Q:=by
 obtain⟨o,e1,h1,r1,r2⟩:=hr;have ho:o=.normal:=by cases o<;>first|rfl|exact r2.elim
 subst ho;obtain⟨o2,e2,h2,q1,q2⟩:tJ (opsL P G (whole P G aD) ops (ops.toList.drop n) e1 h1) (CJ Q):=r2;rw[<-s8 aj] at r1;have X9:(ops.toList.drop n).take 1=ops.toList.drop n:=o5 (by simp;omega);have q3:=Jt (P:=P) (G:=G) (R:=whole P G aD) ops 1 n aj e1 h1;rw[X9,q1] at q3;have cH:aG P G (whole P G aD) ops (bt ops.size) e h=aa (o2,e2,h2):=by rw[<-hn,u0,zA r1];exact q3
 unfold bU;rw[mY];simp only[dB,if_true,DX hd e h];rw[cH];cases o2 with
 |normal=>exact⟨_,_,_,rfl,q2⟩|panic x=>
  simp only;rw[aB]
  ·exact⟨_,_,_,rfl,q2⟩
  ·simp only[aL];exact⟨hl,DX rp e h,Zi hn hl r1⟩
 |exit i=>exact q2.elim|ret=>exact q2.elim
end
end Go.AE
end
section
namespace Go.AE
section
variable {P:aQ} {G:Nat->Option (List AV)} {R:Rec} {ops:Array Oper} {k:Nat}
def ace{i:Nat}{l:List Nat}{e:Env}{h:ae}(hi:i<ops.size)(hq:gv ops k i=ab):aG P G R (cut ops k) (i::l) e h=aG P G R (cut ops k) l e h:=by
 have hs:eR P G R (cut ops k) i e h=aa (nK (.bool ab),e,h):=by unfold eR;rw[AM,hq,fW hi];rfl
 rw[ET hs,Ja hq];rfl
def Vo:∀(l:List Nat),(∀i∈l,i<ops.size)->∀(e:Env) (h:ae),aG P G R (cut ops k) l e h=aG P G R (cut ops k) (l.filter λi=> !gv ops k i) e h:=by
 intro l
 induction l with
 |nil=>intro _ e h;rfl|cons i l ih=>
  intro hl e h;have ih:=ih λj hj=>hl j (dG _ hj);cases hq:gv ops k i with
  |true=>rw[ace (hl i dQ) hq,ih,RX,hq];rfl|false=>
   rw[RX,hq];simp only[uU,if_true];rw[aG,aG];cases (cut ops k)[i]? with|none=>rfl|some o=>simp only[ih]
def aby:∀(l:List Nat),(∀i∈l,i<ops.size)->∀(e:Env) (h:ae),aG P G R ops l e h=opsL P G R ops (l.filterMap λi=>ops[i]?) e h:=by
 intro l
 induction l with
 |nil=>intro _ e h;rfl|cons i l ih=>
  intro hl e h;have ih:=ih λj hj=>hl j (dG _ hj);have hi:i<ops.size:=hl i dQ;have ho:ops[i]?=aa ops[i]:=fW hi;rw[List.filterMap_cons,ho];simp only[aG,opsL,ho];cases cd ops e ops[i] with
  |none=>rfl|some b=>
   cases b with
   |false=>exact ih _ _|true=>
    simp only;cases cA P G R e h ops[i] with
    |none=>rfl|some q=>
     obtain⟨r,e1,h1⟩:=q;cases r with|ret x=>exact ih _ _|panic x=>rfl
end
section
variable {P:aQ} {G:Nat->Option (List AV)} {aD:bF->Option (List AV->ae->Option (AV × ae))} {Q:Xt->Env->ae->Prop} {e:Env} {h:ae}
def EK:Xt->Env->ae->Prop
 | .normal,_,_=>True
 |_,_,_=>False
def EE(P:aQ)(G:Nat->Option (List AV))(R:Rec)(ops:Array Oper)(l m:List Oper)(Q:Xt->Env->ae->Prop):Xt->Env->ae->Prop
 | .normal,e,h=>bB P G R ops l e h Q/\bB P G R ops m e h EK
 |_,_,_=>False
def B5(ops:Array Oper)(k:Nat)(Q:Xt->Env->ae->Prop):Xt->Env->ae->Prop
 | .panic x,e,h=>Q (.panic x) (qm ops k e) h
 |_,_,_=>False
def EL:EK .normal e h=True:=rfl
def EF{R:Rec}{ops:Array Oper}{l m:List Oper}:EE P G R ops l m Q .normal e h=(bB P G R ops l e h Q/\bB P G R ops m e h EK):=rfl
def EY{ops:Array Oper}{k:Nat}{x:AV}:B5 ops k Q (.panic x) e h=Q (.panic x) (qm ops k e) h:=rfl
def DG{ops:Array Oper}{k:Nat}:(qm ops k e).defers=e.defers:=rfl
def DH{ops:Array Oper}{k:Nat}:(qm ops k e).aX=e.aX:=rfl
def B2(R:Rec)(c:Code)(Q:Xt->Env->ae->Prop):Xt->Env->ae->Prop
 | .normal,e,h=>bU R (.loop c) e h Q
 | .panic x,e,h=>Q (.panic x) e h
 | .exit i,e,h=>Q (.exit i) e h
 | .ret,e,h=>Q .ret e h
def lL{R:Rec}{c:Code}:B2 R c Q .normal e h=bU R (.loop c) e h Q:=rfl
def lM{R:Rec}{c:Code}{x:AV}:B2 R c Q (.panic x) e h=Q (.panic x) e h:=rfl
def lK{R:Rec}{c:Code}{i:Nat}:B2 R c Q (.exit i) e h=Q (.exit i) e h:=rfl
def lN{R:Rec}{c:Code}:B2 R c Q .ret e h=Q .ret e h:=rfl
def oQ{c:Code}(hr:bU (whole P G aD) c e h (B2 (whole P G aD) c Q)):bU (whole P G aD) (.loop c) e h Q:=by
 obtain⟨o,e1,h1,h2,h3⟩:=hr;unfold bU;rw[mY];simp only[dB];rw[h2];cases o with|normal=>exact h3|panic x=>exact⟨_,_,_,rfl,h3⟩|exit i=>exact⟨_,_,_,rfl,h3⟩|ret=>exact⟨_,_,_,rfl,h3⟩
def JK(ops:Array Oper)(k:Nat)(js:List Nat):Bool:=decide (((bt ops.size).filter λi=> !gv ops k i)=bt k++js)
def Vp{P}{G}{R}{ops}{e}{h}{k i j}(hc:sx ops k=ab)(oH:kQ (cut ops k) i j=ab)(hi:i<k)(hj:j<k)(hs:hZ P G R ops e h i j=ab):hZ P G R (cut ops k) e h i j=ab:=by
 obtain⟨hk,bC⟩:=Ab hc;have low:∀a,a<k->gv ops k a=ak/\rj ops k a=ab:=by
  intro a ha;cases bC a aj with|self q=>omega|ahead q1 q2 _ _=>exact⟨q1,q2⟩|beside q1 q2 _ _=>exact⟨q1,q2⟩|behind q _ _=>omega
 have pre:∀a,a<=k->∀(e:Env) (h:ae),aG P G R (cut ops k) (bt a) e h=aG P G R ops (bt a) e h:=λa ha e h=>Jc (λb hb=>low b (by have:=fP.1 hb;omega)) e h;have st:∀r m,r<k->m<=k->lq P G R ops e h r m=ab->lq P G R (cut ops k) e h r m=ab:=by
  intro r m hr hm hq;unfold lq at hq ⊢;split at hq
  ·rename_i o er gg em nz g1 g2 g3;rw[xd (low r hr).1,pre r aj,pre m hm,g1,g2,g3];simp only[Je g1 (low r hr).2];exact hq
  ·cases hq
 unfold hZ at hs ⊢;rw[oH,xd (low i hi).1,xd (low j hj).1];rw[aL] at hs;have h2:=hs.2;rw[qb];split at h2
 ·rename_i hx hy;(try simp only[hx,hy]);exact st _ _ hi aj h2
 ·rename_i hx hy;(try simp only[hx,hy]);exact st _ _ hj aj h2
 ·cases h2
def PY{id:Nat}{ops:Array Oper}(k:Nat)(js:List Nat)(hc:sx ops k=ab)(hd:gN P G (whole P G aD) (cut ops k) e h=ab)(hj:JK ops k js=ab)
 (hr:bB P G (whole P G aD) ops (ops.toList.take k) e h (EE P G (whole P G aD) ops ((ops.toList.drop k).take 1) (js.filterMap λi=>ops[i]?) (B5 ops k Q))):bU (whole P G aD) (.region id ops ab) e h Q:=by
 obtain⟨hk,bC⟩:=Ab hc;have hj:=of_decide_eq_true hj;obtain⟨o,e1,h1,r1,r2⟩:=hr;have ho:o=.normal:=by cases o<;>first|rfl|exact r2.elim
 subst ho;obtain⟨q12,n12⟩:bB P G (whole P G aD) ops ((ops.toList.drop k).take 1) e1 h1 (B5 ops k Q)/\bB P G (whole P G aD) ops (js.filterMap λi=>ops[i]?) e1 h1 EK:=r2;obtain⟨o2,e2,h2,q1,q2⟩:=q12;rw[<-s8 aj] at r1;have q3:=Jt (P:=P) (G:=G) (R:=whole P G aD) ops 1 k aj e1 h1;rw[q1] at q3;have jlt:∀i∈bt k++js,i<ops.size/\gv ops k i=ak:=by intro i hi;rw[<-hj] at hi;obtain⟨a,b⟩:=List.mem_filter.1 hi;exact⟨fP.1 a,by simpa using b⟩
 have jlow:∀i∈bt k++js,gv ops k i=ak/\rj ops k i=ab:=by
  intro i hi;obtain⟨a,b⟩:=jlt i hi;cases bC i a with
  |self q=>subst q;rw[Iw] at b;cases b
  |ahead q1 q2 _ _=>exact⟨q1,q2⟩|beside q1 q2 _ _=>exact⟨q1,q2⟩|behind _ q _=>rw[b] at q;cases q
 cases o2 with
 |panic x=>
  have hq:aG P G (whole P G aD) ops (bt (k+1)) e h=aa (.panic x,e2,h2):=by rw[u0,zA r1];exact q3
  obtain⟨o3,e3,h3,n1,n2⟩:=n12;have YT:o3=.normal:=by cases o3<;>first|rfl|exact n2.elim
  subst YT;have n3:aG P G (whole P G aD) (cut ops k) (bt (cut ops k).size) e h=aa (.normal,e3,h3):=by rw[Ha,Vo _ (λi hi=>fP.1 hi),hj,Jc jlow,zA r1,aby _ (λi hi=>(jlt i (List.mem_append_right _ hi)).1)];exact n1
  have hm:iU P G (whole P G aD) ops e h k=ab:=by unfold iU;simp only[aL];exact⟨hc,hd,by rw[n3];rfl,by rw[r1];rfl,by rw[hq];rfl⟩
  unfold bU;rw[mY,I8 (I7 hm hq)];exact⟨_,_,_,rfl,q2⟩
 |normal=>exact q2.elim|exit i=>exact q2.elim|ret=>exact q2.elim
def JU{id:Nat}{ops:Array Oper}(k:Nat)(js:List Nat)(hc:sx ops k=ab)(hd:yJ (cut ops k)=ab)(hj:JK ops k js=ab)
 (hr:bB P G (whole P G aD) ops (ops.toList.take k) e h (EE P G (whole P G aD) ops ((ops.toList.drop k).take 1) (js.filterMap λi=>ops[i]?) (B5 ops k Q))):bU (whole P G aD) (.region id ops ab) e h Q:=
 PY k js hc (DX hd e h) hj hr
def O6(ops:Array Oper)(k:Nat)(ps:List (Nat × Nat)):Bool:=ps.all λp=>kQ (cut ops k) p.1 p.2&&(decide (p.1<k)&&decide (p.2<k))
def adW{id:Nat}{ops:Array Oper}(k:Nat)(js:List Nat)(ps:List (Nat × Nat))(hc:sx ops k=ab)(hd:DI (cut ops k) ps=ab)(hp:O6 ops k ps=ab)(hj:JK ops k js=ab)
 (hs:∀p∈ps,hZ P G (whole P G aD) ops e h p.1 p.2=ab)
 (hr:bB P G (whole P G aD) ops (ops.toList.take k) e h (EE P G (whole P G aD) ops ((ops.toList.drop k).take 1) (js.filterMap λi=>ops[i]?) (B5 ops k Q))):bU (whole P G aD) (.region id ops ab) e h Q:=by
 refine PY k js hc (MJ hd λp pI=>?_) hj hr;unfold O6 at hp;rw[dn] at hp;have:=hp p pI;simp only[aL,decide_eq_true_eq] at this;exact Vp hc this.1 this.2.1 this.2.2 (hs p pI)
end
end Go.AE
end
section
namespace Go.AE
mutual
def jS(n:Nat):AV->Bool
 | .list _ _ es=>BQ n es
 | .arr b _ _ _=>decide (b<n)
 | .agg cs=>mv n cs
 | .tuple cs=>mv n cs
 | .ptr (.box b) _=>decide (b<n)
 | .elem _ es _ _=>BQ n es
 | .func _ a b=>mv n a&&mv n b
 | .iface _ x=>jS n x
 |_=>ab
def mv(n:Nat):List AV->Bool
 | []=>ab
 |x::r=>jS n x&&mv n r
def BQ(n:Nat):List (List AV)->Bool
 | []=>ab
 |r::rs=>mv n r&&BQ n rs
end
def OE(n):∀(a b:List AV),mv n (a++b)=(mv n a&&mv n b)
 | [],b=>by simp[mv]
 |x::a,b=>by rw[bR,mv,mv,OE n a b,Bool.and_assoc]
def BR(n):∀es:List (List AV),mv n es.flatten=BQ n es
 | []=>rfl
 |r::es=>by rw[oW,OE,BQ,BR n es]
def aH.low(K:aH)(n:Nat):aH:={K with β:=K.β.take n}
section
variable {K:aH}
def KB{b g:Nat}(h:K.β[b]?=aa g):b<K.β.length:=(aF.1 h).1
mutual
def aI.low:∀{x:AV} {c:aC},aI K x c->jS K.β.length x=ab
 |_,_,.bad _=>rfl
 |_,_,.v _ _=>rfl
 |_,_,.nil _=>rfl
 |_,_,.jV _ _=>rfl
 |_,_,.list _ _ es _ _ _ _ _ _ _ hv _ _ _=>by rw[jS,<-BR];exact aM.low hv
 |_,_,.arr _ _ _ _ _ _ _ hb _ _ _ _=>by rw[jS];exact fJ (KB hb)
 |_,_,.agg _ _ hv=>by rw[jS];exact aM.low hv
 |_,_,.tuple _ _ hv=>by rw[jS];exact aM.low hv
 |_,_,.box _ _ _ hb=>by rw[jS];exact fJ (KB hb)
 |_,_,.dj _ _=>rfl
 |_,_,.elem _ es _ _ _ _ _ _ _ hv _ _ _ _=>by rw[jS,<-BR];exact aM.low hv
 |_,_,.func _ _ _ _ _ h1 h2=>by rw[jS,aM.low h1,aM.low h2];rfl
 |_,_,.yield _ _ _=>rfl
 |_,_,.iface _ _ _ hx=>by rw[jS];exact aI.low hx
def aM.low:∀{xs:List AV} {cs:List aC},aM K xs cs->mv K.β.length xs=ab
 |_,_,.nil=>rfl
 |_,_,.cons _ _ _ _ hx hs=>by rw[mv,aI.low hx,aM.low hs];rfl
end
def I4{n b g:Nat}(hb:K.β[b]?=aa g)(hn:b<n):(K.low n).β[b]?=aa g:=by show(K.β.take n)[b]?=aa g;rw[nU,aB hn,hb]
def sj.low{n:Nat}{k:Tok}{g off sz m az:Nat}(h:sj K k g off sz m az):sj (K.low n) k g off sz m az:=h
mutual
def aI.cut{n:Nat}:∀{x:AV} {c:aC},aI K x c->jS n x=ab->aI (K.low n) x c
 |_,_,.bad c,_=>.bad c
 |_,_,.v x hx,_=>.v x hx
 |_,_,.nil sz,_=>.nil sz
 |_,_,.jV sz a,_=>.jV sz a
 |_,_,.list k sz es g off m az cells hn hr hv hc ht ha,h=>.list k sz es g off m az cells hn hr (aM.cut hv (by rw[BR];rw[jS] at h;exact h)) hc ht.low ha
 |_,_,.arr b g off len az fy ir hb hl hc ho hr,h=>.arr b g off len az fy ir (I4 hb (by rw[jS] at h;exact of_decide_eq_true h)) hl hc ho hr
 |_,_,.agg cs vs hv,h=>.agg cs vs (aM.cut hv (by rw[jS] at h;exact h))
 |_,_,.tuple cs vs hv,h=>.tuple cs vs (aM.cut hv (by rw[jS] at h;exact h))
 |_,_,.box b g off hb,h=>.box b g off (I4 hb (by rw[jS] at h;exact of_decide_eq_true h))
 |_,_,.dj g off,_=>.dj g off
 |_,_,.elem sz es i off g o p cells hr hv hc hi hp ha,h=>.elem sz es i off g o p cells hr (aM.cut hv (by rw[BR];rw[jS] at h;exact h)) hc hi hp ha
 |_,_,.func fn first az fs cs h1 h2,h=>.func fn first az fs cs (aM.cut h1 (by rw[jS,aL] at h;exact h.1)) (aM.cut h2 (by rw[jS,aL] at h;exact h.2))
 |_,_,.yield l g hl,_=>.yield l g hl
 |_,_,.iface t x c hx,h=>.iface t x c (aI.cut hx (by rw[jS] at h;exact h))
def aM.cut{n:Nat}:∀{xs:List AV} {cs:List aC},aM K xs cs->mv n xs=ab->aM (K.low n) xs cs
 |_,_,.nil,_=>.nil
 |_,_,.cons x c xs cs hx hs,h=>.cons x c xs cs (aI.cut hx (by rw[mv,aL] at h;exact h.1)) (aM.cut hs (by rw[mv,aL] at h;exact h.2))
end
end
section
variable {P:aQ} {G:Nat->Option (List AV)} {w0 w w':aT} {K K':aH} {h h':ae} {ok:bF->Nat->Code->Bool}
def afB{α:Type}{l m:List α}(h:l.take m.length=m){i:Nat}{x}(hx:m[i]?=aa x):l[i]?=aa x:=by have hi:=(aF.1 hx).1;rw[<-h,nU,aB hi] at hx;exact hx
def bg.forget(s:bg K G ok w0 h w)(s':bg K' G ok w0 h' w')(le:K.Le K')(hb:h'.boxes.take h.boxes.length=h.boxes)(hl:h'.loops=h.loops):bg (K'.low h.boxes.length) G ok w0 {h' with boxes:=h.boxes} w':=by
 have aP:h.boxes.length<=h'.boxes.length:=by have:=congrArg qY hb;rw[ng] at this;omega
 have low:∀{b g:Nat},(K'.low h.boxes.length).β[b]?=aa g->b<h.boxes.length/\K'.β[b]?=aa g:=by
  intro b g hg;have hg:(K'.β.take h.boxes.length)[b]?=aa g:=hg;rw[nU] at hg;split at hg
  ·exact⟨by assumption,hg⟩
  ·cases hg
 have βl:=s.ga;refine⟨s'.cr,s'.size,s'.ic,λg cs hg=>?_,?_,λb b' g h1 h2=>?_,λb g cs h1 h2=>?_,?_,s'.na,λl g r h1 h2=>?_,s'.tn,λt ht=>?_,s'.mD,s'.md,s'.all⟩
 ·obtain⟨cells,q1,q2⟩:=s'.dj g cs hg;obtain⟨cells0,p1,-⟩:=s.dj g cs hg;have ky:=aM.low p1;rw[βl] at ky;exact⟨cells,aM.cut q1 ky,q2⟩
 ·show(K'.β.take h.boxes.length).length=h.boxes.length;rw[ng,s'.ga];omega
 ·have key:∀k,k<h.boxes.length->h'.boxes[k]?=aa []->h.boxes[k]?=aa []:=λk hk q=>by rw[<-hb,nU,aB hk];exact q
  rcases s'.mF b b' g (low h1).2 (low h2).2 with p|p|p
  ·exact .inl p
  ·exact .inr (.inl (key _ (low h1).1 p))
  ·exact .inr (.inr (key _ (low h2).1 p))
 ·obtain⟨ay,h1⟩:=low h1;obtain⟨q1,q2,q3,cells,e,q4,q5⟩:=s'.box b g cs h1 (afB hb h2);obtain⟨g0,HS⟩:∃g0,K.β[b]?=aa g0:=⟨_,cv aj⟩;obtain⟨-,-,-,cells0,e0,-,p5⟩:=s.box b g0 cs HS h2;have ky:=aM.low p5.1;rw[βl] at ky;exact⟨q1,q2,q3,cells,e,q4,aM.cut q5.1 ky,q5.2⟩
 ·show K'.γ.length=h'.loops.length;exact s'.j4
 ·obtain⟨q1,fn,tmps,d,q2,q3,q4⟩:=s'.loop l g r h1 h2;have pA:h'.loops[l]?=aa r:=h2;rw[hl] at pA;obtain⟨g0,HS⟩:∃g0,K.γ[l]?=aa g0:=⟨_,cv (by rw[s.j4];exact(aF.1 pA).1)⟩;obtain⟨-,fn0,tmps0,d0,-,p3,-⟩:=s.loop l g0 r HS pA;refine⟨q1,fn,tmps,d,q2,λt=>?_,q4⟩;have ky:=aI.low (p3 t);rw[βl] at ky;exact aI.cut (q3 t) ky
 ·obtain⟨q1,q2,q3⟩:=s'.tok t ht;exact⟨q1,λb XW=>q2 b (low XW).2,q3⟩
def ab0{aD:bF->Option (List AV->ae->Option (AV × ae))}(hp:Prog P)(qE:∀g p,aD g=aa p->kN P G w0 g p){g:bF}{p:List AV->ae->Option (AV × ae)}(fw:∃fn,P.funcs[g]?=aa fn/\fn.body.isSome=ab)
 (oa:∀args h x h',p args h=some (x,h')->∃h2,(whole P G aD).call g args h=some (.ret x,h2)/\h2.boxes.take h.boxes.length=h.boxes/\h2.loops=h.loops/\h'={h2 with boxes:=h.boxes}/\jS h.boxes.length x=true):kN P G w0 g p:=by
 refine⟨fw,λargs h x h' hx K w bS hv hs cs=>?_⟩;obtain⟨h2,hc,hb,hl,rfl,ky⟩:=oa args h x h' hx;obtain⟨-,za⟩:=(QZ hp qE).call g args h _ _ hc;obtain⟨K',w',fr,le,s',bC,qy,v,xK,dS⟩:=za K w bS hv hs cs;refine⟨.returned v,w',fr,⟨v,K'.low h.boxes.length,rfl,?_,aI.cut xK ky,bg.forget hs s' le hb hl⟩,bC,qy,dS⟩;have βl:=hs.ga;exact⟨le.base,le.ic,λb g hb=>I4 (le.β b g hb) (by rw[<-βl];exact KB hb),le.γ,le.tn,le.tk,le.md,le.lb,le.new⟩
end
end Go.AE
end
section
namespace Go.AE
section
universe u
set_option linter.defProp false in
def Xd:=aw @cy.{0,0} (aw @Option.map_none.{0,0} (aw @qZ.{0,0} (aw @gB.{0,0} (aw @List.map_nil.{0,0} (aw @List.getD_cons_zero.{0} (aw @List.getD_cons_succ.{0} (aw @iB.{0} (aw @j5.{0} @tD.{0}))))))))
set_option linter.defProp false in
def Xe:=aw @dI.{0} @bT.{0}
set_option linter.defProp false in
def IS:=aw @dD.{0} (aw @iJ.{0} @cO.{0})
set_option linter.defProp false in
def df:=aw @aA (aw @td @Oo)
set_option linter.defProp false in
def ZZ:=aw @dD.{0} (aw @iJ.{0} (aw @cO.{0} (aw @aA (aw @td @Oo))))
set_option linter.defProp false in
def gZ:=aw @W8 (aw @W7 (aw @W9 (aw @AS (aw @Xa @W6))))
set_option linter.defProp false in
def UP:=aw @UN @UO
set_option linter.defProp false in
def adi:=aw @Qu (aw @Mh @Pc)
end
set_option linter.defProp false in
def RA:=@Xn
set_option linter.defProp false in
def RC:=@Xr
set_option linter.defProp false in
def Rt:=@Uk
set_option linter.defProp false in
def Rv:=@Un
set_option linter.defProp false in
def RB:=@Xq
set_option linter.defProp false in
def Ru:=@Um
set_option linter.defProp false in
def Rz:=@Xm
set_option linter.defProp false in
def Rs:=@Uj
def dZ{p:Prop}(h:p:=by first|assumption|(exact Nat.le_refl _)|omega|(simp only[ZZ]<;>omega)|(simp(disch:=(first|assumption|omega|(exact(aA _ _).symm)|(simp only[df];omega)|(refine Nat.le_antisymm ?_ ?_<;>simp only[df]<;>omega)|fail)) only[gZ]<;>first|assumption|rfl)|(simp only[UP];assumption)|(exact J8 _ _)|(simp only[adi];first|assumption|exact J8 _ _)):p:=h
def dX{a b p:Prop}(x:a)(y:b)(f:a->b->p:=by first|exact RA|exact RC|exact Rt|exact Rv|exact RB|exact Ru|exact Rz|exact Rs):p:=f x y
end Go.AE
end
section
namespace Go.Proofs.YtmdakolcndpjeaaGreatDoor
open Go.AE Go.RowKit
def AN:Nat->Nat->List UInt8->List UInt8
 |0,_,acc=>acc
 |f+1,n,acc=>if n<10 then UInt8.ofNat (48+n)::acc else AN f (n/10) (UInt8.ofNat (48+n%10)::acc)
def Mi:∀(f n:Nat) (acc:List UInt8),n<10^f->0<f->AN f n acc=Lib.decDigits n++acc:=by
 intro f
 induction f with
 |zero=>intro n acc h h0;omega|succ f ih=>
  intro n acc h _;rw[AN,Lib.decDigits];by_cases hn:n<10
  ·rw[aB hn,dif_pos hn];rfl
  ·rw[ax hn,dif_neg hn];have hf:0<f:=by
    rcases K4 f with h0|h0
    ·subst h0;simp at h;omega
    ·exact h0
   rw[ih (n/10) _ (by rw[Sy] at h;omega) hf,List.append_assoc];rfl
def IK(n:Int):List UInt8:=if n<0 then 45::AN 20 n.natAbs [] else AN 20 n.toNat []
def Oh(n:Int)(h0: -9223372036854775808<=n)(h1:n<=9223372036854775807):IK n=Lib.itoa n:=by
 unfold IK Lib.itoa;split
 ·rw[Mi _ _ _ aj aj,dI]
 ·rw[Mi _ _ _ aj aj,dI]
def qU:List (List AV)->Option (List (List UInt8))
 | []=>aa []
 | [.v (.string s)]::r=>(qU r).map (s.data.toList::·)
 |_=>ah
def xO:List (List AV)->Option (List Int)
 | []=>aa []
 | [.v (.int .i64 n)]::r=>(xO r).map (n::·)
 |_=>ah
def Ki{K:aH}:∀{rows:List (List AV)} {l:List (List UInt8)},qU rows=aa l->∀{vals:List aC},aM K rows.flatten vals->vals=l.map λs=>Value.string (bs s):=by
 intro rows
 induction rows with
 |nil=>intro l h vals hv;simp[qU] at h;subst h;cases hv;rfl
 |cons r rows ih=>
  intro l h vals hv;unfold qU at h;split at h
  ·simp at *
  ·rename_i s r' gP;simp only[C4] at gP;obtain⟨rfl,rfl⟩:=gP;simp only[cn] at h;obtain⟨l',kv,rfl⟩:=h;simp only[oW,bR,bT] at hv;cases hv with|cons _ c _ cs hx hs=>rw[ih kv hs,hx.dF.1];simp only[gB];rw[<-Ds]
  ·cases h
def ZF{K:aH}:∀{rows:List (List AV)} {l:List Int},xO rows=aa l->∀{vals:List aC},aM K rows.flatten vals->vals=l.map λn=>Value.int .i64 n:=by
 intro rows
 induction rows with
 |nil=>intro l h vals hv;simp[xO] at h;subst h;cases hv;rfl
 |cons r rows ih=>
  intro l h vals hv;unfold xO at h;split at h
  ·simp at *
  ·rename_i s r' gP;simp only[C4] at gP;obtain⟨rfl,rfl⟩:=gP;simp only[cn] at h;obtain⟨l',kv,rfl⟩:=h;simp only[oW,bR,bT] at hv;cases hv with|cons _ c _ cs hx hs=>rw[ih kv hs,hx.dF.1];rfl
  ·cases h
def EX(args:List AV)(h:ae):Option (AV × ae):=
 match args with
 | [.v (.string s),.v (.int .u8 c)]=>aa (.v (.int .i64 (Lib.indexByte s.data.toList c.toNat.toUInt8)),h)
 |_=>ah
def EV(args:List AV)(h:ae):Option (AV × ae):=
 match args with
 | [.v (.string s),.v (.string p)]=>aa (.v (.bool (Lib.hasPrefix s.data.toList p.data.toList)),h)
 |_=>ah
def zE(args:List AV)(h:ae):Option (AV × ae):=
 match args with
 | [.v (.int .i64 n)]=>if -9223372036854775808<=n/\n<=9223372036854775807 then aa (.v (.string (bs (IK n))),h) else ah
 |_=>ah
def vR(args:List AV)(h:ae):Option (AV × ae):=
 match args with
 | [.v (.string s)]=>
  if s.size<=281474976710656 then
   match Lib.atoiAll s.data.toList with
   | .ok v=>aa (.tuple [.v (.int .i64 v),.v .nilIface],h)
   | .range=>aa (.tuple [.v (.int .i64 (Lib.atoiSat s.data.toList)),.iface 182 .bad],h)
   |_=>aa (.tuple [.v (.int .i64 0),.iface 182 .bad],h)
  else ah
 |_=>ah
def zF(args:List AV)(h:ae):Option (AV × ae):=
 match args with
 | [x,.v (.string sep)]=>
  match rowsOf h 1 x with
  |some rows=>
   match qU rows with
   |some l=>if rows.length<=140737488355328/\(Lib.join l sep.data.toList).length<=140737488355328 then aa (.v (.string (bs (Lib.join l sep.data.toList))),h) else ah
   |none=>ah
  |none=>ah
 |_=>ah
def zC(args:List AV)(h:ae):Option (AV × ae):=
 match args with
 | [x,.v (.int .i64 n)]=>
  match rowsOf h 1 x with
  |some rows=>
   match xO rows with
   |some l=>if rows.length<=9223372036854775807 then aa (.v (.bool (l.contains n)),h) else ah
   |none=>ah
  |none=>ah
 |_=>ah
def zD(args:List AV)(h:ae):Option (AV × ae):=
 match args with
 | [x,.v (.string s)]=>
  match rowsOf h 1 x with
  |some rows=>
   match qU rows with
   |some l=>if rows.length<=9223372036854775807 then aa (.v (.int .i64 (Lib.idxOfS (l.map bs) s)),h) else ah
   |none=>ah
  |none=>ah
 |_=>ah
def vS(args:List AV)(h:ae):Option (AV × ae):=
 match args with
 | [x,.v (.string s)]=>
  match rowsOf h 1 x with
  |some rows=>
   match qU rows with
   |some l=>if rows.length<=9223372036854775807 then aa (.v (.bool (Lib.containsS (l.map bs) s)),h) else ah
   |none=>ah
  |none=>ah
 |_=>ah
def EW(args:List AV)(h:ae):Option (AV × ae):=
 match args with
 | [.v (.string s),.v (.string p)]=>if s.size<=9223372036854775807 then aa (.v (.bool (Lib.hasSuffix s.data.toList p.data.toList)),h) else ah
 |_=>ah
def E2(g:bF):Option (List AV->ae->Option (AV × ae)):=
 match g with
 |103=>aa EX
 |19=>aa EV
 |45=>aa zE
 |102=>aa vR
 |46=>aa zF
 |138=>aa zC
 |122=>aa zD
 |121=>aa vS
 |21=>aa EW
 |_=>ah
def Jw(args:List AV)(h:ae):Option (AV × ae):=
 match args with
 | [.v (.string s)]=>aa (.agg [.v (.int .i64 1),.v (.int .i64 0),.v (.int .i64 0),.v (.string s),.list .nil 0 []],h)
 |_=>ah
def aD(g:bF):Option (List AV->ae->Option (AV × ae)):=
 match g with
 |103=>aa EX
 |19=>aa EV
 |45=>aa zE
 |102=>aa vR
 |46=>aa zF
 |138=>aa zC
 |122=>aa zD
 |121=>aa vS
 |21=>aa EW
 |20=>aa Jw
 |_=>ah
structure Laid(W:aT):Prop where
 tab : Lib.TabIs aq W "internal/strconv.uint64pow10" .u64 Lib.pow10Tab
 syn : ∃ tp p, W.var? aq "strconv.ErrSyntax" = aa #[.iface tp p]
 rng : ∃ tp p, W.var? aq "strconv.ErrRange" = aa #[.iface tp p]
def sn{g:bF}{fn:Func}(h:aq.funcs[g]?=aa fn)(hb:fn.body.isSome=ab):∃fn,aq.funcs[g]?=aa fn/\fn.body.isSome=ab:=⟨fn,h,hb⟩
def OS(W:aT){G}:kN aq G W 103 EX:=by
 refine .uA (sn Tryz.func103 iS) λargs h x h' he=>?_;unfold EX at he;split at he
 ·rename_i s c;simp only[aY,aW] at he;obtain⟨rfl,rfl⟩:=he;refine⟨rfl,λK w bS hv hs _=>?_⟩;obtain⟨bS⟩:=bS;cases hv with|cons _ c1 _ _ h1 hv=>cases hv with|cons _ c2 _ _ h2 hv=>cases hv with|nil=>
   rw[h1.dF.1,h2.dF.1];exact(Tryz.strings_IndexByte s c w).mono λe w' ⟨h3,h4⟩=>⟨_,h3,.v _ rfl,h4 ▸ .refl _ _⟩
 ·cases he
def OW(W:aT){G}:kN aq G W 19 EV:=by
 refine .uA (sn Tryz.func19 iS) λargs h x h' he=>?_;unfold EV at he;split at he
 ·rename_i s c;simp only[aY,aW] at he;obtain⟨rfl,rfl⟩:=he;refine⟨rfl,λK w bS hv hs _=>?_⟩;obtain⟨bS⟩:=bS;cases hv with|cons _ c1 _ _ h1 hv=>cases hv with|cons _ c2 _ _ h2 hv=>cases hv with|nil=>
   rw[h1.dF.1,h2.dF.1];exact(Tryz.strings_HasPrefix s c w).mono λe w' ⟨h3,h4⟩=>⟨_,h3,.v _ rfl,h4 ▸ .refl _ _⟩
 ·cases he
def OY{W:aT}(L:Laid W){G}:kN aq G W 45 zE:=by
 refine .uA (sn Tryz.func45 iS) λargs h x h' he=>?_;unfold zE at he;split at he
 ·rename_i n;split at he
  ·rename_i hn;simp only[aY,aW] at he;obtain⟨rfl,rfl⟩:=he;refine⟨rfl,λK w bS hv hs hb=>?_⟩;obtain⟨bS⟩:=bS;cases hv with|cons _ c1 _ _ h1 hv=>cases hv with|nil=>
    rw[h1.dF.1];refine(Tryz.strconv_Itoa n hn.1 hn.2 w (Kv hb L.tab)).mono λe w' ⟨h3,k,os,h4⟩=>⟨_,h3,?_,?_⟩
    ·rw[Oh n hn.1 hn.2];exact .v _ rfl
    ·rw[h4];exact⟨rfl,rfl,rfl,by simp[Go.Sort.grow,World.drewN],λj hj=>by simp[Go.Sort.grow,World.drewN,Array.getElem?_append_left hj]⟩
  ·cases he
 ·cases he
def OR{W:aT}(L:Laid W){G}:kN aq G W 102 vR:=by
 refine .uA (sn Tryz.func102 iS) λargs h x h' he=>?_;unfold vR at he;split at he
 ·rename_i s;split at he
  ·rename_i y9;have fin:∀y,x=y->h'=h->(∀(w:aT),Below W.heap.size W w->Calls aq 102 #[.string s] w λe w'=>∃v,e=.returned v/\(∀K,aI K y v)/\Below w.heap.size w w')->
    h'=h/\∀(K:aH) (w:aT) (bS:Array aC),aM K [.v (.string s)] bS.toList->fQ aq G W K h w->Below W.heap.size W w->Calls aq 102 bS w λe w'=>∃v,e=.returned v/\aI K x v/\Below w.heap.size w w':=by
    intro y uq hh hc;refine⟨hh,λK w bS hv _ hb=>?_⟩;obtain⟨bS⟩:=bS;cases hv with|cons _ c1 _ _ h1 hv=>cases hv with|nil=>
     rw[h1.dF.1];exact(hc w hb).mono λe w' ⟨v,h3,h4,h5⟩=>⟨v,h3,uq ▸ h4 K,h5⟩
   split at he
   ·rename_i v hv;simp only[aY,aW] at he;refine fin _ he.1.symm he.2.symm λw hb=>?_;refine(Tryz.strconv_Atoi_ok s aj v hv w).mono λe w' ⟨h3,h4⟩=>⟨_,h3,λK=>.tuple _ _ (.cons _ _ _ _ (.v _ rfl) (.cons _ _ _ _ (.v _ rfl) .nil)),?_⟩;rcases h4 with rfl|⟨t,rfl⟩
    ·exact .refl _ _
    ·exact Lib.bytesWorld_below _ _ _
   ·rename_i hv;simp only[aY,aW] at he;obtain⟨tp,p,Iz⟩:=L.rng;refine fin _ he.1.symm he.2.symm λw hb=>?_;exact(Tryz.strconv_Atoi_range_var s y9 hv tp p w (Kv hb Iz)).mono λe w' ⟨N,h3,_,_,h4⟩=>⟨_,h3,λK=>.tuple _ _ (.cons _ _ _ _ (.v _ rfl) (.cons _ _ _ _ (.iface _ _ _ (.bad _)) .nil)),h4⟩
   ·rename_i YO YP;simp only[aY,aW] at he;obtain⟨tp,p,Iz⟩:=L.syn;refine fin _ he.1.symm he.2.symm λw hb=>?_;cases hv:Lib.atoiAll s.data.toList with|ok v=>exact absurd hv (YO v)|range=>exact absurd hv YP|_=>exact(Any.strconv_Atoi_syntax_var Tryz.laysC172 s y9 hv tp p w (Kv hb Iz)).mono λe w' ⟨N,h3,_,_,h4⟩=>⟨_,h3,λK=>.tuple _ _ (.cons _ _ _ _ (.v _ rfl) (.cons _ _ _ _ (.iface _ _ _ (.bad _)) .nil)),h4⟩
  ·cases he
 ·cases he
def OZ(W:aT){G}:kN aq G W 46 zF:=by
 refine .uA (sn Tryz.func46 iS) λargs h x h' he=>?_;unfold zF at he;split at he
 ·rename_i y sep;split at he
  ·rename_i rows cu;split at he
   ·rename_i l hl;split at he
    ·rename_i aP;simp only[aY,aW] at he;obtain⟨rfl,rfl⟩:=he;refine⟨rfl,λK w bS hv hs _=>?_⟩;obtain⟨bS⟩:=bS;cases hv with|cons _ c1 _ _ h1 hv=>cases hv with|cons _ c2 _ _ h2 hv=>cases hv with|nil=>
      obtain⟨a,az,vals,rfl,r1,r2,r3⟩:=Fk (P:=aq) hs cu h1;rw[h2.dF.1];have rG:=Ki hl r1;have du:l.length=rows.length:=(by rw[<-r2,rG,jj]);rcases r3 with rfl|⟨bk,o,rfl,r4,r5,r6⟩
      ·have:l=[]:=Aq du;subst this;exact(Tryz.strings_Join_none a az sep w).mono λe w' ⟨h3,h4⟩=>⟨_,h3,.v _ rfl,h4 ▸ .refl _ _⟩
      ·have Bj:((l.map bs).map λs=>s.data.toList)=l:=(by rw[List.map_map];have:((λs:ByteArray=>s.data.toList)∘bs)=id:=(by funext q;rfl);rw[this,List.map_id]);have:=Tryz.strings_Join bk o az (l.map bs) sep w (λj x hx=>by rw[tF] at hx;simp only[cn] at hx;obtain⟨q,hq,rfl⟩:=hx;exact r6 j _ (by rw[rG,tF,hq];rfl)) r5 (by rw[jj,du];exact aP.1) (by rw[jj,du];exact r4) (by rw[Bj];exact aP.2);rw[jj,du,Bj] at this;exact this.mono λe w' ⟨h3,h4⟩=>⟨_,h3,.v _ rfl,h4⟩
    ·cases he
   ·cases he
  ·cases he
 ·cases he
def OV(W:aT){G}:kN aq G W 138 zC:=by
 refine .uA (sn Tryz.func138 iS) λargs h x h' he=>?_;unfold zC at he;split at he
 ·rename_i y n;split at he
  ·rename_i rows cu;split at he
   ·rename_i l hl;split at he
    ·rename_i aP;simp only[aY,aW] at he;obtain⟨rfl,rfl⟩:=he;refine⟨rfl,λK w bS hv hs _=>?_⟩;obtain⟨bS⟩:=bS;cases hv with|cons _ c1 _ _ h1 hv=>cases hv with|cons _ c2 _ _ h2 hv=>cases hv with|nil=>
      obtain⟨a,az,vals,rfl,r1,r2,r3⟩:=Fk (P:=aq) hs cu h1;rw[h2.dF.1];have rG:=ZF hl r1;have du:l.length=rows.length:=(by rw[<-r2,rG,jj]);rcases r3 with rfl|⟨bk,o,rfl,r4,r5,r6⟩
      ·have:l=[]:=Aq du;subst this;exact(Tryz.slices_Contains_int_empty a az n w).mono λe w' ⟨h3,h4⟩=>⟨_,h3,.v _ rfl,h4 ▸ .refl _ _⟩
      ·have:=Tryz.slices_Contains_int bk o rows.length az l n w aj aP (λj hj=>by refine r6 j _ ?_;rw[rG,tF,cv hj];simp[hj]);rw[<-du,jk] at this;rw[du] at this;exact this.mono λe w' ⟨h3,h4⟩=>⟨_,h3,.v _ rfl,h4 ▸ .refl _ _⟩
    ·cases he
   ·cases he
  ·cases he
 ·cases he
def OU(W:aT){G}:kN aq G W 122 zD:=by
 refine .uA (sn Tryz.func122 iS) λargs h x h' he=>?_;unfold zD at he;split at he
 ·rename_i y s;split at he
  ·rename_i rows cu;split at he
   ·rename_i l hl;split at he
    ·rename_i aP;simp only[aY,aW] at he;obtain⟨rfl,rfl⟩:=he;refine⟨rfl,λK w bS hv hs _=>?_⟩;obtain⟨bS⟩:=bS;cases hv with|cons _ c1 _ _ h1 hv=>cases hv with|cons _ c2 _ _ h2 hv=>cases hv with|nil=>
      obtain⟨a,az,vals,rfl,r1,r2,r3⟩:=Fk (P:=aq) hs cu h1;rw[h2.dF.1];have rG:=Ki hl r1;have du:l.length=rows.length:=(by rw[<-r2,rG,jj]);rcases r3 with rfl|⟨bk,o,rfl,r4,r5,r6⟩
      ·have:l=[]:=Aq du;subst this;exact(Tryz.slices_Index_string_empty a az s w).mono λe w' ⟨h3,h4⟩=>⟨_,h3,.v _ rfl,h4 ▸ .refl _ _⟩
      ·have:=Tryz.slices_Index_string bk o rows.length az (l.map bs) s w (by rw[jj,du];exact aK _) aP (λj hj=>by rw[jj] at hj;refine r6 j _ ?_;rw[rG,tF,cv hj];simp[hj]);rw[<-du,show(l.map bs).take l.length=l.map bs by rw[<-jj (f:=bs),jk]] at this;rw[du] at this;exact this.mono λe w' ⟨h3,h4⟩=>⟨_,h3,.v _ rfl,h4 ▸ .refl _ _⟩
    ·cases he
   ·cases he
  ·cases he
 ·cases he
def OT(W:aT){G}:kN aq G W 121 vS:=by
 refine .uA (sn Tryz.func121 iS) λargs h x h' he=>?_;unfold vS at he;split at he
 ·rename_i y s;split at he
  ·rename_i rows cu;split at he
   ·rename_i l hl;split at he
    ·rename_i aP;simp only[aY,aW] at he;obtain⟨rfl,rfl⟩:=he;refine⟨rfl,λK w bS hv hs _=>?_⟩;obtain⟨bS⟩:=bS;cases hv with|cons _ c1 _ _ h1 hv=>cases hv with|cons _ c2 _ _ h2 hv=>cases hv with|nil=>
      obtain⟨a,az,vals,rfl,r1,r2,r3⟩:=Fk (P:=aq) hs cu h1;rw[h2.dF.1];have rG:=Ki hl r1;have du:l.length=rows.length:=(by rw[<-r2,rG,jj]);rcases r3 with rfl|⟨bk,o,rfl,r4,r5,r6⟩
      ·have:l=[]:=Aq du;subst this;exact(Tryz.slices_Contains_string_empty a az s w).mono λe w' ⟨h3,h4⟩=>⟨_,h3,.v _ rfl,h4 ▸ .refl _ _⟩
      ·have:=Tryz.slices_Contains_string bk o rows.length az (l.map bs) s w (by rw[jj,du];exact aK _) aP (λj hj=>by rw[jj] at hj;refine r6 j _ ?_;rw[rG,tF,cv hj];simp[hj]);rw[<-du,show(l.map bs).take l.length=l.map bs by rw[<-jj (f:=bs),jk]] at this;rw[du] at this;exact this.mono λe w' ⟨h3,h4⟩=>⟨_,h3,.v _ rfl,h4 ▸ .refl _ _⟩
    ·cases he
   ·cases he
  ·cases he
 ·cases he
def OX(W:aT){G}:kN aq G W 21 EW:=by
 refine .uA (sn Tryz.func21 iS) λargs h x h' he=>?_;unfold EW at he;split at he
 ·rename_i s c;split at he
  ·rename_i y9;simp only[aY,aW] at he;obtain⟨rfl,rfl⟩:=he;refine⟨rfl,λK w bS hv hs _=>?_⟩;obtain⟨bS⟩:=bS;cases hv with|cons _ c1 _ _ h1 hv=>cases hv with|cons _ c2 _ _ h2 hv=>cases hv with|nil=>
    rw[h1.dF.1,h2.dF.1];exact(Tryz.strings_HasSuffix s c w y9).mono λe w' ⟨h3,h4⟩=>⟨_,h3,.v _ rfl,h4 ▸ .refl _ _⟩
  ·cases he
 ·cases he
def ab1{W:World}(L:Laid W){G}:∀g p,E2 g=some p->kN Tryz.prog G W g p:=by
 intro g p h;unfold E2 at h;split at h
 ·injection h with h;subst h;exact OS W
 ·injection h with h;subst h;exact OW W
 ·injection h with h;subst h;exact OY L
 ·injection h with h;subst h;exact OR L
 ·injection h with h;subst h;exact OZ W
 ·injection h with h;subst h;exact OV W
 ·injection h with h;subst h;exact OU W
 ·injection h with h;subst h;exact OT W
 ·injection h with h;subst h;exact OX W
 ·cases h
def Qw : "*" ++ "errors.errorString" = "*errors.errorString" := by decide
def PI (u : aE) (h : aq.typeName? 3 u = aa "*errors.errorString") : u = 208 :=
 typeName_ptr_named (nm := "errors.errorString") (by rw [Qw]; kernel_rfl) (by kernel_rfl) (by decide) u (by rw [Qw]; exact h)
def ZT{W:aT}(h:laidMetH aq Rows.syntaxBackRow.laid W):Laid W:=by
 rw[MakeChecks.laidMetH_plain _ _ _ iS] at h;have h3:=h.tail.tail;have h4:=h3.tail;have h5:=h4.tail;refine⟨Lib.tabIs_of_head (n:=20) (g:=4) (t:=202) (e:=186) (zs:=Lib.pow10Tab) iS iS iS iS iS iS (by
  have e:(Lib.tabData .u64 Lib.pow10Tab:DataW Unit)=Rows.laid_internal_strconv_uint64pow10:=by kernel_rfl
  rw[e];exact h3),?_,?_⟩
 ·obtain⟨a,s,h6,-⟩:=laid_sentinel (g:=1) (ti:=135) (tp:=208) (te:=210) (ts:=9) h5 iS iS GC PI SP SQ rfl rfl fH iS iS;exact⟨_,_,h6⟩
 ·obtain⟨a,s,h6,-⟩:=laid_sentinel (g:=2) (ti:=135) (tp:=208) (te:=210) (ts:=9) h4 iS iS GC PI SP SQ rfl rfl fH iS iS;exact⟨_,_,h6⟩
def IM:List AV:=[.func (.func 199) [] [],.func (.func 200) [] [],.func (.func 201) [] [],.func (.func 202) [] [],.func (.func 203) [] []]
def Gt:Nat->Option (List AV):=λg=>if g=1039069 then aa [] else if g=0 then aa IM else ah
def Xj{V:aT}(hk:∃cells,aM (aH.init V) IM cells/\∀(j:Nat) (c:aC),cells[j]?=aa c->V.cell? ⟨0,j,ah⟩=aa c):∀g cs,Gt g=aa cs->∃cells,aM (aH.init V) cs cells/\∀(j:Nat) (c:aC),cells[j]?=aa c->V.cell? ⟨g,j,ah⟩=aa c:=by
 intro g cs h;unfold Gt at h;split at h
 ·injection h with h;subst h;exact⟨[],.nil,λj c hc=>by simp at hc⟩
 ·split at h
  ·rename_i hg;injection h with h;subst h;subst hg;exact hk
  ·cases h
def Te{h:ae}{d:Nat}{ts:Array aE}{ty:Nat}{s x:AV}(bL:1000 * ty+d≠39069):oE aq Gt (aa d) h .append ts ty [s,x]=iM aq h ts s x:=by
 refine Tg ?_;have:¬1000000+1000 * ty+d=1039069:=by omega
 show(Gt (1000000+1000 * ty+d)).isSome=ak;unfold Gt;rw[ax this,ax aj];rfl
def Tf{h:ae}{ts:Array aE}{s x:AV}:oE aq Gt (aa 69) h .append ts 39 [s,x]=CN aq h ts s x:=Th rfl
def al{α:Type}[BEq α][ReflBEq α](a:α):(a==a)=ab:=beq_self_eq_true a
def ai{p:Prop}(h:p:=by kernel_rfl):p:=h
set_option linter.defProp false in
def gW:=aw Xc (aw Xd (aw Xb (aw Xe (aw @Te (aw @Tf (aw @Ck.eq_1 (aw @rQ.eq_1 (aw @rQ.eq_2 (aw @rQ.eq_3 (aw @cB.eq_1 (aw @cB.eq_2 (aw @cB.eq_3 (aw @cB.eq_4 (aw @cB.eq_5 (aw @cB.eq_6 (aw @cB.eq_7 (aw @cB.eq_8 (aw @cB.eq_9 (aw @cB.eq_10 (aw @cB.eq_11 (aw @cB.eq_12 (aw @cB.eq_13 (aw @cB.eq_14 (aw @cB.eq_15 (aw @cB.eq_16 (aw @cB.eq_17 (aw @cB.eq_18 (aw @cB.eq_19 (aw @cB.eq_20 (aw @cB.eq_21 (aw @cB.eq_22 @cB.eq_23)))))))))))))))))))))))))))))))
def gS{p:Prop}(h:p:=by simp only[gW,reduceIte,Nat.reduceEqDiff,al]):p:=h
def gR{p:Prop}(h:p:=by simp only[gW,reduceIte,Nat.reduceEqDiff,al]<;>rfl):p:=h
end Go.Proofs.YtmdakolcndpjeaaGreatDoor
end
section
namespace Go.Lex
open Go.AE
structure ag(p:Prop):Prop where
 out:p
def letter(b:UInt8):Bool:=(decide (97<=b.toNat)&&decide (b.toNat<=122))||(decide (65<=b.toNat)&&decide (b.toNat<=90))
def digit(b:UInt8):Bool:=decide (48<=b.toNat)&&decide (b.toNat<=57)
def eS(b:UInt8):Bool:=decide (b.toNat=32)||decide (b.toNat=9)||decide (b.toNat=10)||decide (b.toNat=13)
def zZ:List UInt8:=[123,125,40,41,59,44,61,58,46,60,62,33,43,45,42,47]
def mn(b:UInt8):Bool:=zZ.contains b
def cls(b:UInt8):Int:=if letter b then 2 else if digit b then 3 else if b.toNat=95 then 5 else if eS b then 1 else if mn b then 4 else 0
def gT(b:UInt8):Bool:=letter b||digit b||decide (b.toNat=95)
def nI(l:List UInt8):Bool:=decide (1<=l.length)&&decide (l.length<=32)&&letter (l.getD 0 0)&&l.all gT
structure Tk where
 kind:Int
 text:List UInt8
 n:Int
 at_:Int
 deriving DecidableEq
def Tk.row(t:Tk):List AV:=[.v (.int .i64 t.kind),.v (.string (bs t.text)),.v (.int .i64 t.n),.v (.int .i64 t.at_)]
def db(t:Tk):Bool:=
 if t.kind=1 then nI t.text&&decide (t.n=0)
 else if t.kind=2 then decide (t.text=[])&&decide (0<=t.n)&&decide (t.n<=1099511627776)
 else if t.kind=3 then decide (t.text.length=1)&&mn (t.text.getD 0 0)&&decide (t.n=0)
 else ak
def cV(l:List Tk):List (List AV):=l.map Tk.row
def wk(x y:Tk):Bool:=decide (x.kind=y.kind)&&decide (x.text=y.text)&&decide (x.n=y.n)
def mT:List Tk->List Tk->Bool
 | [],[]=>ab
 |x::a,y::b=>wk x y&&mT a b
 |_,_=>ak
def eY(t:Tk):List UInt8:=if t.kind=2 then Lib.decDigits t.n.toNat else t.text
def kD(l:List Tk):List UInt8:=Lib.join (l.map eY) [32]
def num:List UInt8->Nat->Nat
 | [],n=>n
 |b::r,n=>num r (10 * n+(b.toNat - 48))
def vP(t:List UInt8):Bool:=decide (num t 0<=1099511627776)&&decide (Lib.decDigits (num t 0)=t)
def gJ(c:UInt8)(r:List UInt8):Option (Nat × Option (Int × List UInt8 × Int)):=
 if eS c then aa (1,ah)
 else if c=47/\r.head?=aa 47 then aa (((c::r).takeWhile (λb=>b !=10)).length,ah)
 else if letter c then
  if nI ((c::r).takeWhile gT) then aa (((c::r).takeWhile gT).length,aa (1,(c::r).takeWhile gT,0)) else ah
 else if digit c then
  if vP ((c::r).takeWhile digit) then aa (((c::r).takeWhile digit).length,aa (2,[],num ((c::r).takeWhile digit) 0)) else ah
 else if mn c then aa (1,aa (3,[c],0))
 else ah
def GG(o:Option (Int × List UInt8 × Int))(k:Nat)(l:List Tk):List Tk:=
 match o with
 |none=>l
 |some (a,t,n)=>⟨a,t,n,k⟩::l
inductive Out where
 |ok (l:List Tk)
 |nR (k:Nat)
 deriving DecidableEq
def Out.add(o:Option (Int × List UInt8 × Int))(k:Nat):Out->Out
 | .ok l=>.ok (GG o k l)
 | .nR i=>.nR i
def fx:List UInt8->Nat->Out
 | [],_=>.ok []
 |c::r,k=>
  match gJ c r with
  |none=>.nR k
  |some (n,o)=>(fx (r.drop (n - 1)) (k+n)).add o k
termination_by s=>s.length
decreasing_by simp;omega
def BM(k:Nat):fx [] k=.ok []:=by rw[fx]
def Ot{c:UInt8}{r:List UInt8}{k:Nat}(h:gJ c r=ah):fx (c::r) k=.nR k:=by rw[fx,h]
def zh{c:UInt8}{r:List UInt8}{k n:Nat}{o:Option (Int × List UInt8 × Int)}(h:gJ c r=aa (n,o)):fx (c::r) k=(fx (r.drop (n - 1)) (k+n)).add o k:=by rw[fx,h]
end Go.Lex
end
section
namespace Go.Proofs.YtmdakolcndpjeaaGreatDoor
open Go.AE Go.Lex
noncomputable abbrev W:=whole aq Gt aD
def Mr(l:List UInt8)(c:Int)(h:ae):W.call 103 [.v (.string (bs l)),.v (.int .u8 c)] h=aa (.ret (.v (.int .i64 (Lib.indexByte l c.toNat.toUInt8))),h):=by rw[rX];rfl
def Zy:∀(l:List UInt8) (c:UInt8),0<=Lib.indexByte l c↔c∈l:=by
 intro l c
 induction l with
 |nil=>simp[Lib.indexByte]|cons b l ih=>
  unfold Lib.indexByte;have dy:=Lib.indexByte_ge l c;by_cases hb:b=c
  ·simp[hb]
  ·have eJ:(b==c)=ak:=(by simpa using hb);simp only[eJ,dP,if_false,fe,Ne.symm hb,false_or];rw[<-ih];by_cases h1:Lib.indexByte l c= -1
   ·simp[h1]
   ·simp[h1];omega
def acm:Tryz.f43.results.toList=[.tmp 2]:=ai
def IL(b:UInt8):Int:=Lib.indexByte zZ b
def ZJ(b:UInt8):(0<=IL b)=(mn b=ab):=by unfold IL;rw[Zy];simp[mn]
def V4(b:UInt8)(h:ae):W.call 103 [.v (.string (bs [123,125,40,41,59,44,61,58,46,60,62,33,43,45,42,47])),.v (.int .u8 b.toNat)] h=aa (.ret (.v (.int .i64 (IL b))),h):=by
 rw[Mr];have hb:((b.toNat:Int)).toNat.toUInt8=b:=by simp
 rw[hb];rfl
def tP(b:UInt8){P:Int->Prop}(h1:letter b=ab->P 2)(h2:letter b=ak->digit b=ab->P 3)(h3:letter b=ak->digit b=ak->b.toNat=95->P 5)
 (h4:letter b=ak->digit b=ak->b.toNat≠95->eS b=ab->P 1) (h5:letter b=ak->digit b=ak->b.toNat≠95->eS b=ak->mn b=ab->P 4)
 (h6:letter b=ak->digit b=ak->b.toNat≠95->eS b=ak->mn b=ak->P 0):P (cls b):=by
 unfold cls;cases e1:letter b<;>cases e2:digit b<;>cases e4:eS b<;>cases e5:mn b<;>by_cases e3:b.toNat=95<;>simp_all
def vh(b:UInt8)(h:ae):W.call 43 [.v (.int .u8 b.toNat)] h=aa (.ret (.v (.int .i64 (cls b))),h):=by
 refine fg rfl Tryz.func43 rfl ?_
 repeat' (first|simp(maxSteps:=9999999) (disch:=first|exact dZ|fail) only[gW,reduceIte,ao,al,V4,acm,ZJ, *]|(refine dX ?_ ?_<;>(intro _;try omega))|refine bM ai ?_)
 all_goals rw[aY,aW,bw.ret.injEq,AV.v.injEq,Value.int.injEq]
 all_goals refine⟨⟨rfl,?_⟩,rfl⟩
 all_goals (apply tP b<;>intros<;>simp_all [letter,digit,eS]<;>omega)
end Go.Proofs.YtmdakolcndpjeaaGreatDoor
end
section
namespace Go.Proofs.YtmdakolcndpjeaaGreatDoor
open Go.AE Go.Lex
end Go.Proofs.YtmdakolcndpjeaaGreatDoor
end
section
namespace Go.Proofs.YtmdakolcndpjeaaGreatDoor
open Go.AE Go.Lex
def MQ{l:List UInt8}{b:UInt8}:b∈l↔∃j,j<l.length/\l.getD j 0=b:=by
 rw[wN];constructor
 ·rintro⟨j,hj,rfl⟩;exact⟨j,hj,by simp[hj]⟩
 ·rintro⟨j,hj,rfl⟩;exact⟨j,hj,by simp[hj]⟩
def JF:Tryz.f104.results.toList=[.tmp 2]:=ai
def Lt{l:List UInt8}{p:UInt8->Bool}:l.all p=ab↔∀j,j<l.length->p (l.getD j 0)=ab:=by
 rw[dn];constructor
 ·intro h j hj;exact h _ (MQ.2 ⟨j,hj,rfl⟩)
 ·intro h x hx;obtain⟨j,hj,rfl⟩:=MQ.1 hx;exact h j hj
def U9(b:UInt8):(cls b=2)=(letter b=ab):=by apply tP b (P:=λc=>(c=2)=(letter b=ab))<;>intros<;>simp_all
def Z4(b:UInt8)(h:digit b=ab):letter b=ak:=by
 unfold digit letter at *
 simp at h;rw[ib];simp;omega
def Jy(b:UInt8):gT b=(decide (cls b=2)||decide (cls b=3)||decide (cls b=5)):=by apply tP b (P:=λc=>gT b=(decide (c=2)||decide (c=3)||decide (c=5)))<;>intros<;>simp_all [gT]
def answer{b c:Bool}{h:ae}(hb:b=c):(aa (bw.ret (AV.v (.bool b)),h):Option (bw × ae))=aa (.ret (.v (.bool c)),h):=by rw[hb]
def OK(l:List UInt8)(h:ae):W.call 104 [.v (.string (bs l))] h=aa (.ret (.v (.bool (nI l))),h):=by
 have u9:=fH;rcases K4 l.length with h0|h0
 ·have:l=[]:=Aq h0;subst this;clear h0;refine fg rfl SF rfl ?_
  repeat' (first|simp(maxSteps:=9999999) (disch:=first|exact dZ|fail) only[gW,reduceIte,ao,al,JF, *]|(refine dX ?_ ?_<;>(intro _;try omega))|refine bM ai ?_)
  exact answer rfl
 have bL:¬l=[]:=by rintro rfl;simp at h0
 refine fg rfl SF rfl ?_
 repeat' (first|simp(maxSteps:=9999999) (disch:=first|exact dZ|fail) only[gW,reduceIte,ao,al,JF,vh,RP,U9, *]|(refine dX ?_ ?_<;>(intro _;try omega))|refine bM ai ?_)
 ·exact answer (by simp[nI];omega)
 ·refine eX (λn e h'=>∃i:Nat,i<=l.length/\n=l.length - i/\e.get 0=.v (.string (bs l))/\e.get 19=.v (.int .i64 l.length)/\e.get 20=.v (.int .i64 i)/\e.defers=[]/\h'=h/\∀j,j<i->gT (l.getD j 0)=ab) ?_ l.length _ _ ?_
  ·rintro n e h' ⟨i,hi,rfl,g0,g19,g20,hd,rfl,bV⟩
   repeat' (first|simp(maxSteps:=9999999) (disch:=first|exact dZ|fail) only[gW,reduceIte,ao,al,JF,vh, *]|(refine dX ?_ ?_<;>(intro _;try omega))|refine bM ai ?_)
   iterate 3
    ·refine⟨l.length - (i+1),by omega,i+1,by omega,rfl,ev,ev,by simp,ev,ev,λj hj=>?_⟩;rcases dp j i with h1|h1
     ·exact bV j h1
     ·rw[fF (Nat.lt_succ_iff.1 hj) h1,Jy];simp_all
   ·refine answer ?_;have:l.all gT=ak:=(by rw[ib];intro ha;have h1:=Lt.1 ha i aj;rw[Jy] at h1;simp_all);simp[nI,this]
   ·refine answer ?_;have:l.all gT=ab:=Lt.2 λj hj=>bV j aj;simp_all [nI];omega
  ·refine⟨0,by omega,rfl,?_,?_,?_,?_,rfl,λj hj=>absurd hj (ik j)⟩<;>exact gR
 ·exact answer (by simp_all [nI])
def dE:fZ aq 3=aa ak:=ai
def dR:fZ aq 9=aa ak:=ai
def GI:fZ aq 43=aa ab:=ai
def wB:cU aq 43=aa 4:=ai
def bQ:cU aq 3=aa 1:=ai
def oV:cU aq 9=aa 1:=ai
def DS(r:Ref)(off:Nat):cN aq 43 (.ptr r off) 0=aa (.ptr r (off+0)):=ai
def DT(r:Ref)(off:Nat):cN aq 43 (.ptr r off) 1=aa (.ptr r (off+1)):=ai
def DU(r:Ref)(off:Nat):cN aq 43 (.ptr r off) 2=aa (.ptr r (off+2)):=ai
def Wo(r:Ref)(off:Nat):cN aq 43 (.ptr r off) 3=aa (.ptr r (off+3)):=ai
def Fi(t:Tk):(AV.agg t.row).cF=aa t.row:=rfl
def DJ(t:Tk):(t.row.drop 0).head?=aa (.v (.int .i64 t.kind)):=rfl
def DK(t:Tk):(t.row.drop 1).head?=aa (.v (.string (bs t.text))):=rfl
def DL(t:Tk):(t.row.drop 2).head?=aa (.v (.int .i64 t.n)):=rfl
def aco:Tryz.f44.results.toList=[.tmp 2]:=ai
def aer(b:UInt8)(h:mn b=ab):letter b=ak/\digit b=ak/\b.toNat≠95/\eS b=ak:=by
 have hm:b∈zZ:=by simpa [mn] using h
 have:∀c∈zZ,letter c=ak/\digit c=ak/\c.toNat≠95/\eS c=ak:=by decide
 exact this b hm
def Vb(b:UInt8):(cls b=4)=(mn b=ab):=by
 have hs:=aer b;apply tP b (P:=λc=>(c=4)=(mn b=ab))<;>intros<;>simp_all
 all_goals (intro hq;have:=hs hq;simp_all)
def CR(t:Tk)(h:ae):W.call 44 [.agg t.row] h=aa (.ret (.v (.bool (db t))),h.push t.row):=by
 have u9:=fH;have a3:=dE;have a9:=dR;refine fg rfl Tryz.func44 rfl ?_
 repeat' (first|simp(maxSteps:=9999999) (disch:=first|exact dZ|fail) only[gW,reduceIte,ao,al,aco,Fi,AH,DS,DT,DU,aak,DJ,DK,DL,gL,OK,vh,Vb, *]|(refine dX ?_ ?_<;>(intro _;try omega))|refine bM ai ?_)
 all_goals exact answer (by simp_all [db]<;>(intros;omega))
def eu(l:List Tk):(cV l).length=l.length:=by simp[cV]
def Ks(l:List Tk)(i:Nat):(cV l)[i]?=(l[i]?).map Tk.row:=by simp[cV]
end Go.Proofs.YtmdakolcndpjeaaGreatDoor
end
section
namespace Go.Proofs.YtmdakolcndpjeaaGreatDoor
open Go.AE Go.Lex
end Go.Proofs.YtmdakolcndpjeaaGreatDoor
end
section
namespace Go.Proofs.YtmdakolcndpjeaaGreatDoor
open Go.AE Go.Lex
end Go.Proofs.YtmdakolcndpjeaaGreatDoor
end
section
namespace Go.Proofs.YtmdakolcndpjeaaGreatDoor
open Go.AE Go.Lex
def Tk.zero:Tk:=⟨0,[],0,0⟩
def Kz:(fa aq 43).bind AV.cF=aa Tk.zero.row:=ai
def v8(t:Tk):t.row.length=4:=rfl
def Cl(t:Tk):t.row.drop 0=t.row:=rfl
def Cm(t:Tk):t.row.take 4=t.row:=rfl
def iL{b c:Bool}{h:ae}{Post:ae->Prop}(hb:b=c)(hp:Post h):∃h',(aa (bw.ret (AV.v (.bool b)),h):Option (bw × ae))=aa (.ret (.v (.bool c)),h')/\Post h':=⟨h,by rw[hb],hp⟩
def pre(m:Nat):List UInt8:=if m<10 then [] else Lib.decDigits (m/10)
def ZL:kD []=[]:=rfl
def Vt:∀(k n:Nat),n<10^(k+1)->(Lib.decDigits n).length<=k+1:=by
 intro k
 induction k with
 |zero=>intro n h;rw[Lib.decDigits,dif_pos aj];simp|succ k ih=>
  intro n h;rw[Lib.decDigits];by_cases qs:n<10
  ·rw[dif_pos qs];simp
  ·rw[dif_neg qs,cO];have:=ih (n/10) (by rw[Sy] at h;omega);simp;omega
def QL{t:Tk}(hv:db t=ab):(eY t).length<=32:=by
 unfold db at hv;unfold eY;split at hv
 ·rename_i h1;rw[ax aj];simp[nI] at hv;omega
 ·split at hv
  ·rename_i h2;rw[aB h2];simp at hv;have:=Vt 12 t.n.toNat aj;omega
  ·rename_i h2;rw[ax h2];split at hv
   ·simp at hv;omega
   ·cases hv
def CM(l:List Tk):AV:=if l.all db then .tuple [.v (.string (bs (kD l))),.v (.int .i64 0)] else .tuple [.v (.string (bs [])),.v (.int .i64 30)]
def ZK{l:List Tk}(hv:∀t∈l,db t=ab):(kD l).length<=l.length * 33:=by
 have tail:∀r:List Tk,(∀t∈r,db t=ab)->(Lib.joinTail [32] (r.map eY)).length<=r.length * 33:=by
  intro r
  induction r with
  |nil=>intro _;simp[Lib.joinTail]|cons x r ih=>intro hr;have h1:=QL (hr x dQ);have h2:=ih λu hu=>hr u (dG _ hu);simp only[Lib.joinTail,gB,oW,cO,dD,iJ] at h2 ⊢;omega
 cases l with|nil=>simp[ZL]|cons x r=>have h1:=QL (hv x dQ);have h2:=tail r λu hu=>hv u (dG _ hu);simp only[kD,gB,Lib.join_cons,cO,dD];omega
def JM(t:Tk):t.row.head?=aa (.v (.int .i64 t.kind)):=rfl
def Lv{x y:AV}{h:ae}{Post:ae->Prop}(hb:x=y)(hp:Post h):∃h',(aa (bw.ret x,h):Option (bw × ae))=aa (.ret y,h')/\Post h':=⟨h,by rw[hb],hp⟩
def MC{h h':ae}(x:Ext h h'){b:Nat}(hb:h.boxes.length<=b)(cs:List AV):Ext h (h'.put b cs):=by refine⟨λc ds hc=>?_,x.loop,x.tn,x.dead,x.ok⟩;have ay:c<h.boxes.length:=(aF.1 hc).1;rw[jX aj];exact x.box c ds hc
def word(t:Tk):AV:=.v (.string (bs (eY t)))
def mZ(l:List Tk)(i:Nat):List AV:=(l.take i).map word++gC (l.length - i) (.v (.string (bs [])))
def agh(l:List Tk):mZ l 0=gC l.length (.v (.string (bs []))):=by simp[mZ]
def agf{l:List Tk}{i:Nat}(hi:i<=l.length):(mZ l i).length=l.length:=by simp[mZ];omega
def Q0{l:List Tk}{i:Nat}{t:Tk}(ht:l[i]?=aa t):dO (mZ l i) i [word t]=mZ l (i+1):=by
 obtain⟨hi,rfl⟩:=aF.1 ht;have hl:((l.take i).map word).length=i:=by simp;omega
 have h1:(mZ l i).take i=(l.take i).map word:=by rw[mZ,yw aj,o5 aj]
 have h2:(mZ l i).drop (i+1)=gC (l.length - (i+1)) (.v (.string (bs []))):=by rw[mZ,List.drop_append,List.drop_eq_nil_of_le aj,hl,List.drop_replicate,bT];congr 1;omega
 simp only[dO,oY];rw[h1,h2,mZ,nj hi,List.map_append];rfl
def adr(l:List Tk)(h:ae)(b:Nat)(hb:h.boxes[b]?=aa (mZ l l.length)):rowsOf h 1 (.arr b 0 l.length l.length)=aa (l.map λt=>[word t]):=by
 have hw:mZ l l.length=l.map word:=by simp[mZ]
 unfold rowsOf;simp only[hb,hw];rw[aB bh];congr 1;apply List.ext_getElem
 ·simp
 ·intro i h1 h2;simp at h1;simp[List.take_one,h1]
def afl(l:List Tk):qU (l.map λt=>[word t])=aa (l.map eY):=by
 induction l with
 |nil=>rfl|cons t l ih=>simp only[gB,word,qU];rw[show(l.map λt=>[AV.v (.string (bs (eY t)))])=l.map λt=>[word t] from rfl,ih];rfl
def ZM(l:List Tk)(h:ae)(b:Nat)(hb:h.boxes[b]?=aa (mZ l l.length))(hl:l.length<=140737488355328)(hj:(kD l).length<=140737488355328):
 W.call 46 [.arr b 0 l.length l.length,.v (.string (bs [32]))] h=aa (.ret (.v (.string (bs (kD l)))),h):=by
 rw[rX];show(zF _ _).map _=_;unfold zF;simp only[adr l h b hb,afl];rw[aB ⟨by simpa using hl,hj⟩];rfl
def BK(n:Nat)(hn:n<=9223372036854775807)(h:ae):W.call 45 [.v (.int .i64 n)] h=aa (.ret (.v (.string (bs (Lib.decDigits n)))),h):=by rw[rX];show(zE _ _).map _=_;unfold zE;simp only;rw[aB ⟨aj,by omega⟩,Oh _ aj aj,Lib.itoa,ax aj];rfl
def Cf:Tryz.f17.results.toList=[.tmp 2,.tmp 3]:=ai
def aaw(n:Nat)(hn:n<=1048576)(h:ae):zm aq h 22 (.v (.int .i64 n)) (.v (.int .i64 n))=aa (.arr h.boxes.length 0 n n,h.push (gC n (.v (.string (bs []))))):=by
 have hu:aq.underlying 22=aa (.slice 9):=ai;have hz:(fa aq 9).bind AV.cF=aa [.v (.string (bs []))]:=ai;have hi:(aq.info? 9).map (λi=>(i.bytes,i.size))=aa (16,1):=ai;cases hq:aq.info? 9 with
 |none=>rw[hq] at hi;cases hi
 |some i=>
  rw[hq] at hi;simp only[cy,aY,aW] at hi;unfold zm;simp only[hu,hq,hz];rw[aB ⟨aj,by omega,by omega,by rw[hi.1];omega,by rw[hi.2];omega,by rw[hi.2];rfl⟩];have:(gC n [AV.v (.string (bs []))]).flatten=gC n (.v (.string (bs []))):=by rw[List.flatten_replicate_singleton]
  simp only[RO,this];rfl
def afD(k:Tok)(sz:Nat)(l:List Tk)(hz:∀i:Nat,i<l.length->sz=4)(hl:l.length<=1048576)(h:ae):gY W 17 [.list k sz (cV l)] h (.ret (CM l)):=by
 have u40:aq.underlying 22=aa (.slice 9):=ai;have u9:=fH;have u39:=ma;have a3:=dE;have a9:=dR;have s35:=wB;have a35:=GI;have s9:=oV;refine eI rfl Tryz.func17 rfl ?_
 repeat' (first|simp(maxSteps:=9999999) (disch:=first|exact dZ|fail) only[gW,reduceIte,ao,al,Cf,eu,aaw, *]|(refine dX ?_ ?_<;>(intro _;try omega))|refine bM ai ?_)
 refine eX (λm e h'=>∃i:Nat,i<=l.length/\m=l.length - i/\e.get 4=.arr h.boxes.length 0 l.length l.length/\e.get 10=.list k sz (cV l)/\e.get 11=.v (.int .i64 l.length)/\e.get 12=.v (.int .i64 i)/\e.defers=[]/\Ext h h'/\
  h'.boxes[h.boxes.length]?=aa (mZ l i)/\∀t∈l.take i,db t=ab) ?_ l.length _ _ ?_
 ·rintro m e h' ⟨i,hi,rfl,g4,g10,g11,g12,hd,BF,hB,bV⟩;have hk:=ag.mk bV;have mi:=ag.mk BF;have Np:=ag.mk hB;have IA:=agf hi;by_cases ay:i<l.length
  ·obtain rfl:=hz i ay;obtain⟨t,ht⟩:∃t,l[i]?=aa t:=⟨_,cv ay⟩;have dU:(i:Int)<((cV l).length:Int):=(by rw[eu];omega);have D1:((h'.push t.row).push t.row).boxes[h.boxes.length]?=aa (mZ l i):=bW (bW hB);have r1:=Fi t;have r3:=v8 t;have r5:=v8 Tk.zero;have xu:ag (db t=ab->∀u∈l.take (i+1),db u=ab):=.mk (by
    intro hv u hu;obtain⟨ku,rfl⟩:=aF.1 ht;rw[nj ku] at hu;rcases oZ.1 hu with h1|h1
    ·exact hk.out u h1
    ·simp at h1;subst h1;exact hv)
   clear bV BF hB;by_cases hv:db t=ab
   ·by_cases h2:t.kind=2
    ·have hn:∃n:Nat,t.n=n/\n<=9223372036854775807:=(by refine⟨t.n.toNat,?_,?_⟩<;>(simp[db,h2] at hv;omega));obtain⟨n,Bk,NA⟩:=hn;have rF:eY t=Lib.decDigits n:=(by rw[eY,aB h2,Bk];rfl);have hw:(AV.v (.string (bs (Lib.decDigits n)))).cF=aa [word t]:=(by rw[word,rF];rfl);have bC:=dK (P:=aq) (off:=i) hw s9 D1 rfl (by rw[IA];omega);rw[Q0 ht] at bC;clear hw;clear rF
     repeat' (first|simp(maxSteps:=9999999) (disch:=first|exact dZ|fail) only[gW,reduceIte,ao,al,Cf,eu,Ks,aV,IE,dr,Kz,AH,CH,IY,IX,IW,DS,DT,DU,Cl,Cm,v8,JM,gD,qj,DJ,DK,DL,gL,aK,CR,BK, *]|(refine dX ?_ ?_<;>(intro _;try omega))|refine bM ai ?_)
     exact⟨l.length - (i+1),by omega,i+1,by omega,rfl,ev,ev,ev,by simp,ev,MC ((mi.out.trans (.push _ _)).trans (.push _ _)) (aK _) _,
      mz (aF.1 D1).1,xu.out hv⟩
    ·have rF:eY t=t.text:=(by rw[eY,ax h2]);have hw:(AV.v (.string (bs t.text))).cF=aa [word t]:=(by rw[word,rF];rfl);have bC:=dK (P:=aq) (off:=i) hw s9 D1 rfl (by rw[IA];omega);rw[Q0 ht] at bC;clear hw;clear rF
     repeat' (first|simp(maxSteps:=9999999) (disch:=first|exact dZ|fail) only[gW,reduceIte,ao,al,Cf,eu,Ks,aV,IE,dr,Kz,AH,CH,IY,IX,IW,DS,DT,DU,Cl,Cm,v8,JM,gD,qj,DJ,DK,DL,gL,aK,CR,BK, *]|(refine dX ?_ ?_<;>(intro _;try omega))|refine bM ai ?_)
     exact⟨l.length - (i+1),by omega,i+1,by omega,rfl,ev,ev,ev,by simp,ev,MC ((mi.out.trans (.push _ _)).trans (.push _ _)) (aK _) _,
      mz (aF.1 D1).1,xu.out hv⟩
   ·have hv:db t=ak:=by simpa using hv
    repeat' (first|simp(maxSteps:=9999999) (disch:=first|exact dZ|fail) only[gW,reduceIte,ao,al,Cf,eu,Ks,aV,IE,dr,Kz,AH,CH,IY,IX,IW,DS,DT,DU,Cl,Cm,v8,JM,gD,qj,DJ,DK,DL,gL,aK,CR,BK, *]|(refine dX ?_ ?_<;>(intro _;try omega))|refine bM ai ?_)
    refine Lv ?_ ((mi.out.trans (.push h' t.row)).trans (.push _ t.row));have:l.all db=ak:=(by rw[ib];intro ha;have:=dn.1 ha t (List.mem_of_getElem? ht);rw[hv] at this;cases this);rw[CM,this];rfl
  ·have cJ:i=l.length:=(by omega);subst cJ;have cH:∀u∈l,db u=ab:=λu hu=>bV u (by rw[jk];exact hu);have Yw:l.all db=ab:=dn.2 cH;have hj:=ZK cH;have hje:=ZM l h' h.boxes.length hB aj aj;clear bV hi ay BF hk hB cH hj IA Np
   repeat' (first|simp(maxSteps:=9999999) (disch:=first|exact dZ|fail) only[gW,reduceIte,ao,al,Cf,eu, *]|(refine dX ?_ ?_<;>(intro _;try omega))|refine bM ai ?_)
   refine Lv ?_ mi.out;rw[CM,Yw];rfl
 ·refine⟨0,by omega,rfl,?_,?_,?_,?_,?_,.push _ _,?_,λt ht=>by simp at ht⟩
  iterate 5
   ·exact gR
  ·rw[agh];exact bX _ _
def FV(l:List Tk):List UInt8:=if l.all db then kD l else []
def Aj(l:List Tk):Int:=if l.all db then 0 else 30
def afC(l:List Tk):CM l=.tuple [.v (.string (bs (FV l))),.v (.int .i64 (Aj l))]:=by unfold CM FV Aj;split<;>rfl
end Go.Proofs.YtmdakolcndpjeaaGreatDoor
end
section
namespace Go.Proofs.YtmdakolcndpjeaaGreatDoor
open Go.AE
def Ol{α:Type}{l:List α}(h:l.length=1):∃a,l=[a]:=R7.1 h
def aej:ownKnob aq.godebug=ah:=ai
def aeh:(aq.funcs.all λfn=>match fn.body with|some c=>codeOk fn.ntmps c|none=>ab)=ab:=ai
def aei : (aq.funcs.all λfn => !(fn.name == "runtime.NumGoroutine")) = ab := ai
def Qm:Prog aq:=⟨λg fn h=>by
 have:=F6.1 aei fn (Rn h);simpa using this,ai,λg fn c h hb=>by
 have:=F6.1 aeh fn (Rn h);simpa [hb] using this⟩
end Go.Proofs.YtmdakolcndpjeaaGreatDoor
end
section
namespace Go.Lex
open Go.AE
def Qn(b:UInt8)(h:mn b=ab):letter b=ak/\digit b=ak/\b.toNat≠95/\eS b=ak:=by
 have hm:b∈zZ:=by simpa [mn] using h
 have:∀c∈zZ,letter c=ak/\digit c=ak/\c.toNat≠95/\eS c=ak:=by decide
 exact this b hm
def BL(b:UInt8)(h:letter b=ab):digit b=ak/\eS b=ak/\b≠47/\gT b=ab:=by
 refine⟨?_,?_,?_,by simp[gT,h]⟩
 ·simp only[letter,digit,ly,aL,decide_eq_true_eq,Gd,decide_eq_false_iff_not] at *;omega
 ·simp only[letter,eS,ly,aL,decide_eq_true_eq,Ge,decide_eq_false_iff_not] at *;omega
 ·rintro rfl;revert h;decide
def Hc(b:UInt8)(h:digit b=ab):letter b=ak/\eS b=ak/\b≠47:=by
 refine⟨?_,?_,?_⟩
 ·simp only[letter,digit,Ge,aL,decide_eq_true_eq,Gd,decide_eq_false_iff_not] at *;omega
 ·simp only[digit,eS,aL,decide_eq_true_eq,Ge,decide_eq_false_iff_not] at *;omega
 ·rintro rfl;revert h;decide
def CW(b:UInt8)(h:eS b=ab):gT b=ak/\digit b=ak/\b≠47:=by
 refine⟨?_,?_,?_⟩
 ·simp only[gT,letter,digit,eS,Ge,ly,aL,decide_eq_true_eq,Gd,decide_eq_false_iff_not] at *;omega
 ·simp only[digit,eS,ly,Gd,decide_eq_true_eq,decide_eq_false_iff_not] at *;omega
 ·rintro rfl;revert h;decide
section
variable {p:UInt8->Bool}
def afQ{s x:List UInt8}{b:UInt8}(hb:p b=false):(s++b::x).takeWhile p=s.takeWhile p:=by
 induction s with
 |nil=>simp[hb]|cons c s ih=>simp only[bR,vd,ih]
def Kt{s:List UInt8}(h:s.all p=ab):s.takeWhile p=s:=by
 induction s with
 |nil=>rfl|cons c s ih=>simp only[Ap,aL] at h;simp[vd,h.1,ih h.2]
def QS(s:List UInt8):(s.takeWhile p).length<=s.length:=by
 induction s with
 |nil=>simp|cons c s ih=>rw[vd];split<;>simp;exact ih
def QR(s:List UInt8):(s.takeWhile p).all p=ab:=by
 induction s with
 |nil=>rfl|cons c s ih=>
  rw[vd];split
  ·rename_i hc;simp[hc,ih]
  ·rfl
def CO{c:UInt8}{s:List UInt8}(h:p c=ab):1<=((c::s).takeWhile p).length:=by simp[vd,h]
end
def Ac{c:UInt8}{r:List UInt8}{n:Nat}{o:Option (Int × List UInt8 × Int)}(h:gJ c r=aa (n,o)):1<=n/\n<=r.length+1:=by
 have hl:∀p:UInt8->Bool,((c::r).takeWhile p).length<=r.length+1:=λp=>QS (c::r);unfold gJ at h;split at h
 ·simp only[aY,aW] at h;omega
 split at h
 ·rename_i hc;simp only[aY,aW] at h;rw[<-h.1];exact⟨CO (by rw[hc.1];decide),hl _⟩
 split at h
 ·rename_i hc;split at h
  ·simp only[aY,aW] at h;rw[<-h.1];exact⟨CO (BL _ hc).2.2.2,hl _⟩
  ·cases h
 split at h
 ·rename_i hc;split at h
  ·simp only[aY,aW] at h;rw[<-h.1];exact⟨CO hc,hl _⟩
  ·cases h
 split at h
 ·simp only[aY,aW] at h;omega
 ·cases h
def Out.then(x:Out)(f:Unit->Out):Out:=
 match x with
 | .nR i=>.nR i
 | .ok l=>match f () with
  | .nR i=>.nR i
  | .ok l'=>.ok (l++l')
def Ox{b:UInt8}{r:List UInt8}{k:Nat}(hb:eS b=ab):fx (b::r) k=fx r (k+1):=by
 have:gJ b r=aa (1,ah):=by unfold gJ;rw[aB hb]
 rw[zh this];show(fx r (k+1)).add ah k=fx r (k+1);cases fx r (k+1)<;>rfl
def aba(a b:List UInt8)(n:Nat):num (a++b) n=num b (num a n):=by
 induction a generalizing n with
 |nil=>rfl|cons c a ih=>exact ih _
def OQ(n:Nat):num (Lib.decDigits n) 0=n:=by
 induction n using wP with
 |_ n ih=>
  rw[Lib.decDigits];by_cases h:n<10
  ·rw[dif_pos h];have:(UInt8.ofNat (48+n)).toNat=48+n:=(by simp;omega);simp only[num,this];omega
  ·rw[dif_neg h,aba,ih _ aj];have:(UInt8.ofNat (48+n%10)).toNat=48+n%10:=(by simp;omega);simp only[num,this];omega
def Vr(n:Nat):(Lib.decDigits n).all digit=ab:=by
 induction n using wP with
 |_ n ih=>
  have hd:∀m,m<10->digit (UInt8.ofNat (48+m))=ab:=by intro m hm;have:(UInt8.ofNat (48+m)).toNat=48+m:=(by simp;omega);simp[digit,this];omega
  rw[Lib.decDigits];by_cases h:n<10
  ·rw[dif_pos h];simp only[Ap,RQ,hd n h,uS]
  ·rw[dif_neg h,yq,ih _ aj];simp only[Ap,RQ,hd (n%10) aj,uS]
def Vu(n:Nat):Lib.decDigits n≠[]:=by
 rw[Lib.decDigits];split
 ·simp
 ·simp
def Ow{t:Tk}(hv:db t=ab){x:List UInt8}(hx:x=[]∨∃b y,x=b::y/\eS b=ab)(k:Nat):
 fx (eY t++x) k=(fx x (k+(eY t).length)).add (aa (t.kind,t.text,t.n)) k:=by
 have stop:∀(p:UInt8->Bool) (w:List UInt8),(∀b,eS b=ab->p b=ak)->w.all p=ab->(w++x).takeWhile p=w:=by
  intro p w hp hw;rcases hx with rfl|⟨b,y,rfl,hb⟩
  ·rw[dI];exact Kt hw
  ·rw[afQ (hp b hb)];exact Kt hw
 unfold db at hv;split at hv
 ·rename_i h1;simp only[nI,aL,decide_eq_true_eq] at hv;obtain⟨⟨⟨⟨q1,q2⟩,q3⟩,q4⟩,q5⟩:=hv;have rF:eY t=t.text:=by rw[eY,ax aj]
  rw[rF];obtain⟨c,r,mL⟩:∃c r,t.text=c::r:=by
   cases ht:t.text with|nil=>rw[ht] at q1;simp at q1|cons c r=>exact⟨c,r,rfl⟩
  have hl:letter c=ab:=by rw[mL] at q3;exact q3
  have Nt:=BL c hl;have Bz:=stop gT t.text (λb hb=>(CW b hb).1) q4;have bC:gJ c (r++x)=aa (t.text.length,aa (t.kind,t.text,t.n)):=by unfold gJ;rw[ax (by rw[Nt.2.1];decide),ax (λhq=>Nt.2.2.1 hq.1),aB hl];rw[mL,bR] at Bz;rw[Bz,<-mL,aB (by simp only[nI,q1,q2,q3,q4,decide_true,Rw]),h1,q5]
  have aP:t.text.length=r.length+1:=by rw[mL];rfl
  rw[show t.text++x=c::(r++x) by rw[mL];rfl,zh bC,aP,Sq,Gh]
 ·split at hv
  ·rename_i h0 h2;simp only[aL,decide_eq_true_eq] at hv;obtain⟨⟨q1,q2⟩,q3⟩:=hv;have rF:eY t=Lib.decDigits t.n.toNat:=(by rw[eY,aB h2]);rw[rF];obtain⟨c,r,mL⟩:∃c r,Lib.decDigits t.n.toNat=c::r:=by
    cases ht:Lib.decDigits t.n.toNat with|nil=>exact absurd ht (Vu _)|cons c r=>exact⟨c,r,rfl⟩
   have cH:=Vr t.n.toNat;have hd:digit c=ab:=(by rw[mL] at cH;simp at cH;exact cH.1);have vt:=Hc c hd;have Bz:=stop digit _ (λb hb=>(CW b hb).2.1) cH;have bC:gJ c (r++x)=aa ((Lib.decDigits t.n.toNat).length,aa (t.kind,t.text,t.n)):=(by unfold gJ;rw[ax (by rw[vt.2.1];decide),ax (λhq=>vt.2.2 hq.1),ax (by rw[vt.1];decide),aB hd];rw[mL,bR] at Bz;rw[Bz,<-mL,OQ,aB (by simp[vP,OQ];omega),h2,q1];have:(t.n.toNat:Int)=t.n:=(by omega);rw[this]);have aP:(Lib.decDigits t.n.toNat).length=r.length+1:=(by rw[mL];rfl);rw[show Lib.decDigits t.n.toNat++x=c::(r++x) by rw[mL];rfl,zh bC,aP,Sq,Gh]
  ·split at hv
   ·rename_i h0 h2 h3;simp only[aL,decide_eq_true_eq] at hv;obtain⟨⟨q1,q2⟩,q3⟩:=hv;have rF:eY t=t.text:=(by rw[eY,ax h2]);rw[rF];obtain⟨c,mL⟩:=R7.1 q1;have hs:mn c=ab:=(by rw[mL] at q2;exact q2);have Io:=Qn c hs;have bC:gJ c x=aa (1,aa (t.kind,t.text,t.n)):=by
     unfold gJ;have bV:¬(c=47/\x.head?=aa 47):=by
      rintro⟨-,hq⟩;rcases hx with rfl|⟨b,y,rfl,hb⟩
      ·cases hq
      ·simp only[List.head?_cons,aY] at hq;exact(CW b hb).2.2 hq
     rw[ax (by rw[Io.2.2.2];decide),ax bV,ax (by rw[Io.1];decide),ax (by rw[Io.2.1];decide),aB hs,h3,q3,mL]
    rw[show t.text++x=c::x by rw[mL];rfl,zh bC,q1];rfl
   ·cases hv
def Ov{x:Out}{m:List Tk}(h:x=.ok m)(o:Int × List UInt8 × Int)(k:Nat):x.add (aa o) k=.ok (⟨o.1,o.2.1,o.2.2,k⟩::m):=by subst h;rfl
def JY(x y:Tk)(a b:List Tk):mT (x::a) (y::b)=(wk x y&&mT a b):=rfl
def Qj(t:Tk)(k:Int):wk t ⟨t.kind,t.text,t.n,k⟩=ab:=by simp[wk]
def aab:∀(r:List Tk),(∀t∈r,db t=ab)->∀k,∃m,fx (Lib.joinTail [32] (r.map eY)) k=.ok m/\mT r m=ab:=by
 intro r
 induction r with
 |nil=>intro _ k;exact⟨[],by simp[Lib.joinTail,BM],rfl⟩|cons t r ih=>
  intro hv k;have Zd:Lib.joinTail [32] ((t::r).map eY)=32::(eY t++Lib.joinTail [32] (r.map eY)):=by simp[Lib.joinTail]
  have hx:Lib.joinTail [32] (r.map eY)=[]∨∃b y,Lib.joinTail [32] (r.map eY)=b::y/\eS b=ab:=by
   cases r with|nil=>left;simp[Lib.joinTail]|cons u r=>right;exact⟨32,eY u++Lib.joinTail [32] (r.map eY),by simp[Lib.joinTail],by decide⟩
  obtain⟨m,h1,h2⟩:=ih (λu hu=>hv u (dG _ hu)) (k+1+(eY t).length);refine⟨⟨t.kind,t.text,t.n,((k+1:Nat):Int)⟩::m,?_,?_⟩
  ·rw[Zd,Ox bq,Ow (hv t dQ) hx];exact Ov h1 _ _
  ·rw[JY,Qj,h2];rfl
def Z7{l:List Tk}(hv:∀t∈l,db t=ab):∃m,fx (kD l) 0=.ok m/\mT l m=ab:=by
 cases l with
 |nil=>exact⟨[],by simp[kD,Lib.join,BM],rfl⟩|cons t r=>
  have hj:kD (t::r)=eY t++Lib.joinTail [32] (r.map eY):=by simp only[kD,gB,Lib.join_cons]
  have hx:Lib.joinTail [32] (r.map eY)=[]∨∃b y,Lib.joinTail [32] (r.map eY)=b::y/\eS b=ab:=by
   cases r with|nil=>left;simp[Lib.joinTail]|cons u r=>right;exact⟨32,eY u++Lib.joinTail [32] (r.map eY),by simp[Lib.joinTail],by decide⟩
  obtain⟨m,h1,h2⟩:=aab r (λu hu=>hv u (dG _ hu)) (0+(eY t).length);refine⟨⟨t.kind,t.text,t.n,((0:Nat):Int)⟩::m,?_,?_⟩
  ·rw[hj,Ow (hv t dQ) hx];exact Ov h1 _ _
  ·rw[JY,Qj,h2];rfl
end Go.Lex
end
section
namespace Go.Proofs.YtmdakolcndpjeaaGreatDoor
open Go.AE Go.Lex
def tX(r:Ref)(off:Nat):cN aq 82 (.ptr r off) 0=aa (.ptr r (off+0)):=ai
def mf(r:Ref)(off:Nat):cN aq 82 (.ptr r off) 1=aa (.ptr r (off+1)):=ai
def DV(r:Ref)(off:Nat):cN aq 82 (.ptr r off) 2=aa (.ptr r (off+2)):=ai
def sl:fZ aq 39=aa ak:=ai
def yi:cU aq 39=aa 1:=ai
def ints(l:List Int):List (List AV):=l.map λn=>[.v (.int .i64 n)]
def ZE(l:List Int):xO (ints l)=aa l:=by
 induction l with
 |nil=>rfl|cons n l ih=>simp only[ints,gB,xO] at ih ⊢;rw[ih];rfl
def G7(k:Tok)(l:List Int)(n:Int)(hl:l.length<=9223372036854775807)(h:ae):W.call 138 [.list k 1 (ints l),.v (.int .i64 n)] h=aa (.ret (.v (.bool (l.contains n))),h):=by
 rw[rX];show(zC _ _).map _=_;have hr:rowsOf h 1 (.list k 1 (ints l))=aa (ints l):=by unfold rowsOf;simp
 unfold zC;simp only[hr,ZE];rw[aB (by simpa [ints] using hl)];rfl
def MP{l:List UInt8}{i:Nat}(h:i<l.length):l.drop i=l.getD i 0::l.drop (i+1):=by rw[RS h];simp[h]
def Fb:Tryz.f100.results.toList=[.tmp 4]:=ai
def Lx{x y:List UInt8}{h:ae}(hb:x=y):(aa (bw.ret (AV.v (.string (bs x))),h):Option (bw × ae))=aa (.ret (.v (.string (bs y))),h):=by rw[hb]
def adT(b:Nat)(src:List UInt8)(at_:Nat)(L:AV)(k:Tok)(cl:List Int)(h:ae)(hb:h.boxes[b]?=aa [.v (.string (bs src)),.v (.int .i64 at_),L])(jt:at_<=src.length)(hs:src.length<=70000)(hc:cl.length<=6):
 W.call 100 [.ptr (.box b) 0,.list k 1 (ints cl)] h=aa (.ret (.v (.string (bs ((src.drop at_).takeWhile (λc=>cl.contains (cls c)))))),h):=by
 have u9:=fH;have u39:=ma;have a3:=dE;have a9:=dR;refine fg rfl Tryz.func100 rfl ?_
 repeat' (first|simp(maxSteps:=9999999) (disch:=first|exact dZ|fail) only[gW,reduceIte,ao,al,Fb,mf,me, *]|(refine dX ?_ ?_<;>(intro _;try omega))|refine bM ai ?_)
 refine eX (λn e h'=>∃i:Nat,at_<=i/\i<=src.length/\n=src.length - i/\e.get 0=.ptr (.box b) 0/\e.get 1=.list k 1 (ints cl)/\e.get 5=.v (.int .i64 i)/\e.defers=[]/\h'=h/\
  (src.drop at_).takeWhile (λc=>cl.contains (cls c))=(src.take i).drop at_++(src.drop i).takeWhile (λc=>cl.contains (cls c))) ?_ (src.length - at_) _ _ ?_
 ·rintro n e h' ⟨i,hi0,hi,rfl,g0,g1,g5,hd,rfl,bV⟩;have hk:=ag.mk bV;clear bV;by_cases ay:i<src.length
  ·have mh:=ag.mk (MP ay);by_cases cQ:cl.contains (cls (src.getD i 0))=ab
   ·repeat' (first|simp(maxSteps:=9999999) (disch:=first|exact dZ|fail) only[gW,reduceIte,ao,al,Fb,tX,mf,tO,me,vh,G7, *]|(refine dX ?_ ?_<;>(intro _;try omega))|refine bM ai ?_)
    refine⟨src.length - (i+1),by omega,i+1,by omega,by omega,rfl,ev,ev,by simp,ev,ev,?_⟩;rw[hk.out,mh.out,vd,aB cQ];rw[nj ay,KR (by simp;omega)];simp[ay]
   ·have cQ:cl.contains (cls (src.getD i 0))=ak:=by simpa using cQ
    repeat' (first|simp(maxSteps:=9999999) (disch:=first|exact dZ|fail) only[gW,reduceIte,ao,al,Fb,tX,mf,tO,me,vh,G7, *]|(refine dX ?_ ?_<;>(intro _;try omega))|refine bM ai ?_)
    refine Lx ?_;rw[hk.out,mh.out,vd,cQ];simp
  ·have cJ:i=src.length:=(by omega);subst cJ;clear hi ay
   repeat' (first|simp(maxSteps:=9999999) (disch:=first|exact dZ|fail) only[gW,reduceIte,ao,al,Fb,tX,mf,tO,me,vh,G7, *]|(refine dX ?_ ?_<;>(intro _;try omega))|refine bM ai ?_)
   refine Lx ?_;rw[hk.out];simp
 ·refine⟨at_,by omega,by omega,rfl,?_,?_,?_,?_,rfl,?_⟩
  iterate 4
   ·exact gR
  ·rw[List.drop_take];simp
def scan(src:List UInt8)(at_:Nat)(tok:Tok)(sz:Nat)(l:List Tk):List AV:=[.v (.string (bs src)),.v (.int .i64 at_),.list tok sz (cV l)]
def afO(l:List Tk)(t:Tk):cV l++[t.row]=cV (l++[t]):=by simp[cV]
def Td{h:ae}{k:Tok}{sz:Nat}{l:List Tk}{t:Tk}(hk:dx 0 h k)(hs:sz=4∨(l=[]/\k=.nil))(hl:l.length<=70000):
 iM aq h #[39,39] (.list k sz (cV l)) (.list .tight 4 [t.row])=aa (.list (.free h.tn) 4 (cV (l++[t])),h.app k):=by
 have hi:(aq.info? 43).map (λi=>(i.bytes,i.size,i.zero.map λz=>z.cells.size))=aa (40,4,aa 4):=ai;cases hq:aq.info? 43 with
 |none=>rw[hq] at hi;cases hi
 |some i=>
  rw[hq] at hi;simp only[cy,aY,aW] at hi;obtain⟨i1,i2,i3⟩:=hi;have:=wV (k':=.tight) (new:=[t.row]) (es:=cV l) ma ma hq aj (by rw[i3,i2]) bh (by rw[i1,eu];simp only[oY];omega) (by rw[eu];simp only[oY];omega)
   (by rw[i2];exact hs.imp_right λq=>⟨by rw[q.1];rfl,q.2⟩) hk
  rw[i2,afO] at this;exact this
def Uy(t:Tk):gl aq 39 1 [(0,.agg t.row)]=aa (.list .tight 4 [t.row]):=ai
def adl(t:Tk)(n:Int):dO t.row 3 [.v (.int .i64 n)]=({t with at_:=n}:Tk).row:=rfl
def Eu:isIface aq 75=aa ak:=ai
def PA:Tryz.f101.results.toList=[]:=ai
def Dj(b n0:Nat)(src text:List UInt8)(at_:Nat)(L:AV)(t:Tk)(h:ae)(hb:h.boxes[b]?=aa [.v (.string (bs src)),.v (.int .i64 at_),L])(hv:db t=ak)(hn:n0<=h.tn):
 ∃h',W.call 101 [.ptr (.box b) 0,.v (.string (bs text)),.agg t.row] h=aa (.panic (.iface 75 (.v (.int .i64 at_))),h')/\bp b n0 h h':=by
 have u9:=fH;have u39:=ma;have a3:=dE;have a9:=dR;have a35:=GI;have s35:=wB;have i42:=Eu;have rl:=v8 t;have ay:=(aF.1 hb).1;have key:=ag.mk ((Ext.push h t.row).trans (.push _ t.row));refine eI rfl SE rfl ?_
 repeat' (first|simp(maxSteps:=9999999) (disch:=first|exact dZ|fail) only[gW,reduceIte,ao,al,PA,Fi,Cl,Cm,CR,mf,me, *]|(refine dX ?_ ?_<;>(intro _;try omega))|refine bM ai ?_)
 exact⟨_,rfl,.B0 key.out hn⟩
def AB(b n0:Nat)(src text:List UInt8)(at_:Nat)(tok:Tok)(sz:Nat)(l:List Tk)(t:Tk)(h:ae)(hb:h.boxes[b]?=aa [.v (.string (bs src)),.v (.int .i64 at_),.list tok sz (cV l)])(hv:db t=ab)(hn:n0<=h.tn)
 (hk:dx n0 h tok) (bG:sz=4∨(l=[]/\tok=.nil)) (ho:cR h=ab) (hl:l.length<=70000) (jt:at_+text.length<=70000):
 ∃h',W.call 101 [.ptr (.box b) 0,.v (.string (bs text)),.agg t.row] h=aa (.ret (.tuple []),h')/\bp b n0 h h'/\∃tok',h'.boxes[b]?=aa (scan src (at_+text.length) tok' 4 (l++[{t with at_:=at_}]))/\dx n0 h' tok':=by
 have u9:=fH;have u39:=ma;have a3:=dE;have a9:=dR;have a35:=GI;have s35:=wB;have i42:=Eu;have a23:=sl;have s23:=yi;have s3:=bQ;have rl:=v8 t;have rl2:=v8 {t with at_:=at_};have ay:=(aF.1 hb).1;have key:=ag.mk (((Ext.push h t.row).trans (.push _ t.row)).dm (aK _) ({t with at_:=at_}:Tk).row);have mi:dx n0 (((h.push t.row).push t.row).put h.boxes.length ({t with at_:=at_}:Tk).row) tok:=hk;have Np:dx 0 (((h.push t.row).push t.row).put h.boxes.length ({t with at_:=at_}:Tk).row) tok:=hk.mono (cz _);refine eI rfl SE rfl ?_
 repeat' (first|simp(maxSteps:=9999999) (disch:=first|exact dZ|fail) only[gW,reduceIte,ao,al,PA,Fi,Cl,Cm,CR,mf,DV,Wo,me,DC,B8,ab8,adl,Uy,Td, *]|(refine dX ?_ ?_<;>(intro _;try omega))|refine bM ai ?_)
 ·refine⟨_,rfl,?_,.free h.tn,?_,?_⟩
  ·exact((((bp.B0 key.out hn).trans (bp.app mi)).trans (.put _ _ _ _)).trans (.put _ _ _ _))
  ·simp(disch:=first|assumption|omega|(simp only[df];omega)|fail) only[AS];rfl
  ·exact mi.next (key.out.ok ho) (cY hn key.out.tn)
structure Sc(b n0:Nat)(src:List UInt8)(at_:Nat)(tok:Tok)(sz:Nat)(l:List Tk)(h:ae):Prop where
 box:h.boxes[b]?=aa [.v (.string (bs src)),.v (.int .i64 at_),.list tok sz (cV l)]
 le:at_<=src.length
 len:src.length<=65536
 tn:n0<=h.tn
 can:dx n0 h tok
 size:sz=4∨(l=[]/\tok=.nil)
 ok:cR h=ab
 cI:l.length<=at_
def yx(f b n0:Nat)(src:List UInt8)(at_:Nat)(l:List Tk)(h:ae)(n:Nat)(new:List Tk):Prop:=
 ∃h',W.call f [.ptr (.box b) 0] h=aa (.ret (.tuple []),h')/\bp b n0 h h'/\∃tok sz,h'.boxes[b]?=aa (scan src (at_+n) tok sz (l++new))/\dx n0 h' tok/\(sz=4∨(l++new=[]/\tok=.nil))
def C1(f b n0:Nat)(at_:Nat)(h:ae):Prop:=∃h',W.call f [.ptr (.box b) 0] h=aa (.panic (.iface 75 (.v (.int .i64 at_))),h')/\bp b n0 h h'
section
variable {b n0:Nat} {src:List UInt8} {at_:Nat} {tok:Tok} {sz:Nat} {l:List Tk} {h:ae}
def Sc.AB(S:Sc b n0 src at_ tok sz l h){text:List UInt8}{t:Tk}(hv:db t=ab)(hl:at_+text.length<=src.length):
 ∃h',W.call 101 [.ptr (.box b) 0,.v (.string (bs text)),.agg t.row] h=aa (.ret (.tuple []),h')/\bp b n0 h h'/\∃tok',h'.boxes[b]?=aa (scan src (at_+text.length) tok' 4 (l++[{t with at_:=at_}]))/\dx n0 h' tok':=by
 have h1:=S.le;have h2:=S.len;have h3:=S.cI;exact YtmdakolcndpjeaaGreatDoor.AB b n0 src text at_ tok sz l t h S.box hv S.tn S.can S.size S.ok aj aj
def Sc.Dj(S:Sc b n0 src at_ tok sz l h){text:List UInt8}{t:Tk}(hv:db t=ak):
 ∃h',W.call 101 [.ptr (.box b) 0,.v (.string (bs text)),.agg t.row] h=aa (.panic (.iface 75 (.v (.int .i64 at_))),h')/\bp b n0 h h':=
 YtmdakolcndpjeaaGreatDoor.Dj b n0 src text at_ _ t h S.box hv S.tn
def Sc.run(S:Sc b n0 src at_ tok sz l h){k:Tok}{cl:List Int}{p:UInt8->Bool}(hp:(λc=>cl.contains (cls c))=p)(hc:cl.length<=6):
 W.call 100 [.ptr (.box b) 0,.list k 1 (ints cl)] h=aa (.ret (.v (.string (bs ((src.drop at_).takeWhile p)))),h):=by
 have h2:=S.len;have:=adT b src at_ _ k cl h S.box S.le aj hc;rw[hp] at this;exact this
def Sc.tw(S:Sc b n0 src at_ tok sz l h){p:UInt8->Bool}:at_+((src.drop at_).takeWhile p).length<=src.length:=by have h1:=S.le;have:=QS (p:=p) (src.drop at_);simp at this;omega
def Oa:(λc=>([2,3,5]:List Int).contains (cls c))=gT:=by funext c;rw[Jy];simp only[KM,KN,CZ];apply tP c (P:=λx=>(x==2||(x==3||x==5))=(decide (x=2)||decide (x=3)||decide (x=5)))<;>intros<;>rfl
def N9:(λc=>([3]:List Int).contains (cls c))=digit:=by funext c;simp only[KM,KN,CZ];have hd:=Z4 c;apply tP c (P:=λx=>(x==3)=digit c)<;>intros<;>simp_all
def ZG:(λc=>([1]:List Int).contains (cls c))=eS:=by
 funext c;simp only[KM,KN,CZ];have hw:=CW c;have hl:letter c=ab->eS c=ak:=λq=>(BL c q).2.1;have hd:digit c=ab->eS c=ak:=λq=>(Hc c q).2.1;have D0:c.toNat=95->eS c=ak:=λq=>by simp[eS,q]
 apply tP c (P:=λx=>(x==1)=eS c)<;>intros<;>simp_all
def LP:gl aq 170 3 [(0,.v (.int .i64 2)),(1,.v (.int .i64 3)),(2,.v (.int .i64 5))]=aa (.list .tight 1 (ints [2,3,5])):=ai
def wY(n:Int):gl aq 170 1 [(0,.v (.int .i64 n))]=aa (.list .tight 1 (ints [n])):=ai
def GX(s:ByteArray)(k:Int):gb aq 43 [(0,.v (.int .i64 k)),(1,.v (.string s))]=aa (.agg [.v (.int .i64 k),.v (.string s),.v (.int .i64 0),.v (.int .i64 0)]):=ai
def Dw(k n:Int):gb aq 43 [(0,.v (.int .i64 k)),(2,.v (.int .i64 n))]=aa (.agg [.v (.int .i64 k),.v (.string (bs [])),.v (.int .i64 n),.v (.int .i64 0)]):=ai
def acj:Tryz.f38.results.toList=[]:=ai
def ack:Tryz.f39.results.toList=[]:=ai
def Pz:Tryz.f40.results.toList=[]:=ai
def E8:Tryz.f41.results.toList=[]:=ai
def JG:Tryz.f42.results.toList=[]:=ai
def agj(S:Sc b n0 src at_ tok sz l h):C1 38 b n0 at_ h:=by
 have u9:=fH;have u39:=ma;have a3:=dE;have a9:=dR;have i42:=Eu;have hb:=S.box;refine eI rfl Tryz.func38 rfl ?_
 repeat' (first|simp(maxSteps:=9999999) (disch:=first|exact dZ|fail) only[gW,reduceIte,ao,al,acj,mf,me, *]|(refine dX ?_ ?_<;>(intro _;try omega))|refine bM ai ?_)
 exact⟨_,rfl,.refl _ _ _⟩
def aaW(S:Sc b n0 src at_ tok sz l h)(hv:nI ((src.drop at_).takeWhile gT)=ak):C1 40 b n0 at_ h:=by
 have hb:=S.box;have r1:=S.run (k:=.tight) Oa bq;obtain⟨h',r2,r3⟩:=S.Dj (text:=(src.drop at_).takeWhile gT) (t:=⟨1,(src.drop at_).takeWhile gT,0,0⟩) (by simp[db,hv]);simp only[Tk.row] at r2;have r4:=ag.mk r3;clear r3;refine eI rfl SL rfl ?_
 repeat' (first|simp(maxSteps:=9999999) (disch:=first|exact dZ|fail) only[gW,reduceIte,ao,al,Pz,LP,GX, *]|(refine dX ?_ ?_<;>(intro _;try omega))|refine bM ai ?_)
 exact⟨_,rfl,r4.out⟩
def aaX(S:Sc b n0 src at_ tok sz l h)(hv:nI ((src.drop at_).takeWhile gT)=ab):
 yx 40 b n0 src at_ l h ((src.drop at_).takeWhile gT).length [⟨1,(src.drop at_).takeWhile gT,0,at_⟩]:=by
 have hb:=S.box;have r1:=S.run (k:=.tight) Oa bq;obtain⟨h',r2,r3,tok',r5,r6⟩:=S.AB (text:=(src.drop at_).takeWhile gT) (t:=⟨1,(src.drop at_).takeWhile gT,0,0⟩) (by simp[db,hv]) S.tw;simp only[Tk.row] at r2;have r4:=ag.mk r3;have r7:=ag.mk r5;have r8:=ag.mk r6;clear r3 r5 r6;refine eI rfl SL rfl ?_
 repeat' (first|simp(maxSteps:=9999999) (disch:=first|exact dZ|fail) only[gW,reduceIte,ao,al,Pz,LP,GX, *]|(refine dX ?_ ?_<;>(intro _;try omega))|refine bM ai ?_)
 exact⟨_,rfl,r4.out,tok',4,r7.out,r8.out,.inl rfl⟩
def aeH(S:Sc b n0 src at_ tok sz l h):yx 39 b n0 src at_ l h ((src.drop at_).takeWhile eS).length []:=by
 have u9:=fH;have u39:=ma;have a3:=dE;have a9:=dR;have s3:=bQ;have hb:=S.box;have ay:=(aF.1 hb).1;have r1:=S.run (k:=.tight) ZG bq;have r2:=S.tw (p:=eS);have r3:=S.len;have r4:=ag.mk S;refine eI rfl Tryz.func39 rfl ?_;refine nM [(3,6)] ai ?_ ?_
 ·intro p hp;simp only[qi] at hp;subst hp;refine uL (x:=.ptr (.box b) 1) (v:=.v (.int .i64 at_)) ai rfl rfl rfl ai (by simp[fN,pY]) ?_ ?_
  ·simp only[di,de]
   repeat' (first|simp(maxSteps:=9999999) (disch:=first|exact dZ|fail) only[gW,reduceIte,ao,al,mf,me,wY, *]|(refine dX ?_ ?_<;>(intro _;try omega))|refine bM ai ?_)
   simp only[and_self]
  ·simp only[di,de]
   repeat' (first|simp(maxSteps:=9999999) (disch:=first|exact dZ|fail) only[gW,reduceIte,ao,al,mf,me,wY, *]|(refine dX ?_ ?_<;>(intro _;try omega))|refine bM ai ?_)
   simp only[and_self]
 ·repeat' (first|simp(maxSteps:=9999999) (disch:=first|exact dZ|fail) only[gW,reduceIte,ao,al,ack,mf,me,B8,wY, *]|(refine dX ?_ ?_<;>(intro _;try omega))|refine bM ai ?_)
  refine⟨_,rfl,.put _ _ _ _,tok,sz,?_,r4.out.can,?_⟩
  ·rw[AS ay];(try rw[dI]);rfl
  ·(try rw[dI]);exact r4.out.size
end
def abb:∀(t:List UInt8) (n:Nat),n<=num t n:=by
 intro t
 induction t with
 |nil=>intro n;exact aK _|cons b t ih=>intro n;exact cY aj (ih _)
def abE:∀(t:List UInt8) (acc:Nat),t.all digit=ab->acc<18446744073709551616->
 Lib.parseUint10 acc t=if num t acc<18446744073709551616 then .ok (num t acc) else .range:=by
 intro t
 induction t with
 |nil=>intro acc _ h;have e:num [] acc=acc:=rfl;rw[e,aB h];rfl|cons b t ih=>
  intro acc ht h;simp only[Ap,aL] at ht;have hd:48<=b.toNat/\b.toNat<=57:=by simpa [digit] using ht.1
  have hg:=abb t (10 * acc+(b.toNat - 48));have e:num (b::t) acc=num t (10 * acc+(b.toNat - 48)):=rfl;rw[e];unfold Lib.parseUint10;rw[aB hd];split
  ·rw[ax aj]
  ·split
   ·rw[ax aj]
   ·rw[ih _ ht.2 aj,Nat.mul_comm acc 10]
def LB{t:List UInt8}(ht:t.all digit=ab)(bL:t≠[]):Lib.atoiAll t=if num t 0<9223372036854775808 then .ok (num t 0) else .range:=by
 cases t with
 |nil=>exact absurd rfl bL|cons b t=>
  have hd:48<=b.toNat/\b.toNat<=57:=by simp[digit] at ht;exact ht.1
  rw[Lib.atoiAll_plain b t aj aj];have:Lib.parseMag (b::t)=Lib.parseUint10 0 (b::t):=by unfold Lib.parseMag;rw[ax bh]
  rw[this,abE (b::t) 0 ht aj];by_cases h1:num (b::t) 0<9223372036854775808
  ·rw[aB h1,aB aj];simp only[Lib.signless];rw[ax aj]
  ·rw[ax h1];by_cases h2:num (b::t) 0<18446744073709551616
   ·rw[aB h2];simp only[Lib.signless];rw[aB aj]
   ·rw[ax h2];rfl
def LC{t:List UInt8}(ht:t.all digit=ab)(bL:t≠[])(hl:t.length<=281474976710656)(hn:num t 0<9223372036854775808)(h:ae):W.call 102 [.v (.string (bs t))] h=aa (.ret (.tuple [.v (.int .i64 (num t 0)),.v .nilIface]),h):=by
 rw[rX];show(vR _ _).map _=_;unfold vR;have ha:Lib.atoiAll (bs t).data.toList=.ok (num t 0):=by rw[LN,LB ht bL,aB hn]
 dsimp only;rw[aB (show(bs t).size<=281474976710656 from hl),ha];rfl
def TA{t:List UInt8}(ht:t.all digit=ab)(bL:t≠[])(hl:t.length<=281474976710656)(hn:¬num t 0<9223372036854775808)(h:ae):W.call 102 [.v (.string (bs t))] h=aa (.ret (.tuple [.v (.int .i64 (Lib.atoiSat t)),.iface 182 .bad]),h):=by
 rw[rX];show(vR _ _).map _=_;unfold vR;have ha:Lib.atoiAll (bs t).data.toList=.range:=by rw[LN,LB ht bL,ax hn]
 dsimp only;rw[aB (show(bs t).size<=281474976710656 from hl),ha];rfl
def Zv:isIface aq 135=aa ab:=ai
section
variable {b n0:Nat} {src:List UInt8} {at_:Nat} {tok:Tok} {sz:Nat} {l:List Tk} {h:ae}
def abc(S:Sc b n0 src at_ tok sz l h)(bL:(src.drop at_).takeWhile digit≠[])(hv:vP ((src.drop at_).takeWhile digit)=ak):C1 41 b n0 at_ h:=by
 have hb:=S.box;have i42:=Eu;have i61:=Zv;have a3:=dE;have u61:=GC;have r1:=S.run (k:=.tight) N9 bq;have cH:=QR (p:=digit) (src.drop at_);have aP:=S.tw (p:=digit);have eQ:=S.len;generalize (src.drop at_).takeWhile digit=T at *
 by_cases hn:num T 0<9223372036854775808
 ·have ha:=λh=>LC cH bL aj hn h;have hi:=BK (num T 0) aj ;have q:=ag.mk hv;by_cases hd:Lib.decDigits (num T 0)=T
  ·have xl:¬num T 0<=1099511627776:=(by intro hq;simp[vP,hq,hd] at hv);obtain⟨h',r2,r3⟩:=S.Dj (text:=T) (t:=⟨2,[],num T 0,0⟩) (by simp[db];omega);simp only[Tk.row] at r2;have r4:=ag.mk r3;clear r3 hv cH bL;refine eI rfl Gz rfl ?_
   repeat' (first|simp(maxSteps:=9999999) (disch:=first|exact dZ|fail) only[gW,reduceIte,ao,al,E8,wY,Dw,yD, *]|(refine dX ?_ ?_<;>(intro _;try omega))|refine bM ai ?_)
   exact⟨_,rfl,r4.out⟩
  ·clear hv cH bL;refine eI rfl Gz rfl ?_
   repeat' (first|simp(maxSteps:=9999999) (disch:=first|exact dZ|fail) only[gW,reduceIte,ao,al,E8,wY,Dw,yD,mf,me, *]|(refine dX ?_ ?_<;>(intro _;try omega))|refine bM ai ?_)
   exact⟨_,rfl,.refl _ _ _⟩
 ·have ha:=λh=>TA cH bL aj hn h;clear hv cH bL;refine eI rfl Gz rfl ?_
  repeat' (first|simp(maxSteps:=9999999) (disch:=first|exact dZ|fail) only[gW,reduceIte,ao,al,E8,wY,Dw,wX,mf,me, *]|(refine dX ?_ ?_<;>(intro _;try omega))|refine bM ai ?_)
  exact⟨_,rfl,.refl _ _ _⟩
def abd(S:Sc b n0 src at_ tok sz l h)(bL:(src.drop at_).takeWhile digit≠[])(hv:vP ((src.drop at_).takeWhile digit)=ab):
 yx 41 b n0 src at_ l h ((src.drop at_).takeWhile digit).length [⟨2,[],num ((src.drop at_).takeWhile digit) 0,at_⟩]:=by
 have hb:=S.box;have u61:=GC;have r1:=S.run (k:=.tight) N9 bq;have cH:=QR (p:=digit) (src.drop at_);have aP:=S.tw (p:=digit);have eQ:=S.len;generalize (src.drop at_).takeWhile digit=T at *
 simp[vP] at hv;obtain⟨hn,hd⟩:=hv;have ha:=λh=>LC cH bL aj aj h;have hi:=BK (num T 0) aj ;obtain⟨h',r2,r3,tok',r5,r6⟩:=S.AB (text:=T) (t:=⟨2,[],num T 0,0⟩) (by simp[db];omega) aP;simp only[Tk.row] at r2;have r4:=ag.mk r3;have r7:=ag.mk r5;have r8:=ag.mk r6;clear r3 r5 r6 cH bL;refine eI rfl Gz rfl ?_
 repeat' (first|simp(maxSteps:=9999999) (disch:=first|exact dZ|fail) only[gW,reduceIte,ao,al,E8,wY,Dw,yD, *]|(refine dX ?_ ?_<;>(intro _;try omega))|refine bM ai ?_)
 exact⟨_,rfl,r4.out,tok',4,r7.out,r8.out,.inl rfl⟩
def Hf(l p:List UInt8)(h:ae):W.call 19 [.v (.string (bs l)),.v (.string (bs p))] h=aa (.ret (.v (.bool (Lib.hasPrefix l p))),h):=by rw[rX];rfl
def ZB:∀(s:List UInt8),Lib.indexByte s 10=if 10∈s then (((s.takeWhile (λb=>b !=10)).length:Nat):Int) else -1:=by
 intro s
 induction s with
 |nil=>simp[Lib.indexByte]|cons c s ih=>
  unfold Lib.indexByte;by_cases hc:c=10
  ·subst hc;simp
  ·have h1:(c==10)=ak:=(by simpa using hc);have h2:(c !=10)=ab:=(by simp[hc]);have bL:¬(10=c):=λq=>hc q.symm;rw[ih,vd,aB h2];simp only[h1,dP,if_false,fe,bL,false_or,dD];by_cases qs:10∈s
   ·simp only[qs,if_true];have:¬((((s.takeWhile (λb=>b !=10)).length:Nat):Int)= -1):=(by omega);simp[this]
   ·simp[qs]
def Ms(s:List UInt8)(h:ae):W.call 103 [.v (.string (bs s)),.v (.int .u8 10)] h=aa (.ret (.v (.int .i64 (if 10∈s then (((s.takeWhile (λb=>b !=10)).length:Nat):Int) else -1))),h):=by rw[Mr,<-ZB];rfl
def afR{s:List UInt8}(h:¬10∈s):s.takeWhile (λb=>b !=10)=s:=by
 apply Kt;rw[dn];intro x hx;have:x≠10:=by rintro rfl;exact h hx
 simpa using this
def aa9(S:Sc b n0 src at_ tok sz l h)(hc:Lib.hasPrefix (src.drop at_) [47,47]=ab):yx 42 b n0 src at_ l h ((src.drop at_).takeWhile (λb=>b !=10)).length []:=by
 have u9:=fH;have u39:=ma;have a3:=dE;have a9:=dR;have s3:=bQ;have hb:=S.box;have ay:=(aF.1 hb).1;have dS:=S.le;have aP:=S.len;have r2:=S.tw (p:=λb=>b !=10);have r4:=ag.mk S;refine eI rfl SM rfl ?_;by_cases qs:10∈src.drop at_
 ·have ei:=λh=>(Ms (src.drop at_) h);rw[aB qs] at ei
  repeat' (first|simp(maxSteps:=9999999) (disch:=first|exact dZ|fail) only[gW,reduceIte,ao,al,JG,tX,mf,tO,me,B8,Hf, *]|(refine dX ?_ ?_<;>(intro _;try omega))|refine bM ai ?_)
  refine⟨_,rfl,.put _ _ _ _,tok,sz,?_,r4.out.can,?_⟩
  ·rw[AS ay];(try rw[dI]);rfl
  ·(try rw[dI]);exact r4.out.size
 ·have ei:=λh=>(Ms (src.drop at_) h);rw[ax qs] at ei;have hq:=ag.mk (afR qs)
  repeat' (first|simp(maxSteps:=9999999) (disch:=first|exact dZ|fail) only[gW,reduceIte,ao,al,JG,tX,mf,tO,me,B8,Hf, *]|(refine dX ?_ ?_<;>(intro _;try omega))|refine bM ai ?_)
  refine⟨_,rfl,.put _ _ _ _,tok,sz,?_,r4.out.can,?_⟩
  ·rw[AS ay,hq.out,List.length_drop];(try rw[dI]);have:at_+(src.length - at_)=src.length:=(by omega);rw[this];rfl
  ·(try rw[dI]);exact r4.out.size
def aeq(S:Sc b n0 src at_ tok sz l h)(H5:at_<src.length)(hc:Lib.hasPrefix (src.drop at_) [47,47]=ak)(hv:mn (src.getD at_ 0)=ab):yx 42 b n0 src at_ l h 1 [⟨3,[src.getD at_ 0],0,at_⟩]:=by
 have u9:=fH;have u39:=ma;have a3:=dE;have a9:=dR;have s3:=bQ;have hb:=S.box;have ay:=(aF.1 hb).1;have dS:=S.le;have aP:=S.len;have agJ:(src.take (at_+1)).drop at_=[src.getD at_ 0]:=by rw[nj H5,KR (by simp;omega)];simp[H5]
 obtain⟨h',r2,r3,tok',r5,r6⟩:=S.AB (text:=[src.getD at_ 0]) (t:=⟨3,[src.getD at_ 0],0,0⟩) (by simp[db] at hv ⊢;exact hv) (by simp;omega);simp only[Tk.row] at r2;have r4:=ag.mk r3;have r7:=ag.mk r5;have r8:=ag.mk r6;clear r3 r5 r6;have e1:((at_:Int)+1).toNat=at_+1:=by omega
 refine eI rfl SM rfl ?_
 repeat' (first|simp(maxSteps:=9999999) (disch:=first|exact dZ|fail) only[gW,reduceIte,ao,al,JG,tX,mf,tO,me,B8,Hf,GX, *]|(refine dX ?_ ?_<;>(intro _;try omega))|refine bM ai ?_)
 exact⟨_,rfl,r4.out,tok',4,r7.out,r8.out,.inl rfl⟩
end
def G3{a:AV}:(([a]:List AV).drop 0).head?=aa a:=rfl
def JB{a z:AV}:dO [a] 0 [z]=[z]:=rfl
def Py:Tryz.f37.results.toList=[]:=ai
def Dk:fZ aq 31=aa ak:=ai
def Kl:cU aq 31=aa 1:=ai
def Tn(x:AV):nr aq (.iface 75 x) 75 ak=aa x:=ai
def N7:isIface aq 20=aa ab:=ai
def back(n:Nat):List AV:=[.ptr (.box n) 0,.ptr (.box (n+1)) 0,.ptr (.box (n+1+1)) 0]
def TC(n:Nat)(h:ae):W.fS 37 (back n) ah h=aa (.ret (.tuple []),ah,h):=by
 have u20:=Az;refine yH SK rfl ?_;unfold back
 repeat' (first|simp(maxSteps:=9999999) (disch:=first|exact dZ|fail) only[gW,reduceIte,ao,al,Py,yD,and_self, *]|(refine dX ?_ ?_<;>(intro _;try omega))|refine bM ai ?_)
def TF(n:Nat)(h:ae)(p:Int){x y z:AV}(h0:h.boxes[n]?=aa [x])(h1:h.boxes[n+1]?=aa [y])(h2:h.boxes[n+1+1]?=aa [z]):
 W.fS 37 (back n) (aa (.iface 75 (.v (.int .i64 p)),ak)) h=
  aa (.ret (.tuple []),aa (.iface 75 (.v (.int .i64 p)),ab),((h.put n [.list .nil 0 []]).put (n+1) [.v (.int .i64 p)]).put (n+1+1) [.v (.int .i64 30)]):=by
 have u20:=Az;have i20:=N7;have s23:=yi;have s24:=Kl;have s3:=bQ;refine yH SK rfl ?_;unfold back
 repeat' (first|simp(maxSteps:=9999999) (disch:=first|exact dZ|fail) only[gW,reduceIte,ao,al,Py,wX,Tn,JB,and_self, *]|(refine dX ?_ ?_<;>(intro _;try omega))|refine bM ai ?_)
 all_goals trace_state
def AQ(c:Int):Nat:=if c=1 then 39 else if c=2 then 40 else if c=3 then 41 else if c=4 then 42 else 38
def tR:List AV:=[.func (.func 38) [] [],.func (.func 39) [] [],.func (.func 40) [] [],.func (.func 41) [] [],.func (.func 42) [] [],.func (.func 38) [] []]
def Mk(b:UInt8):(tR.drop (cls b).toNat).head?=aa (.func (.func (AQ (cls b))) [] []):=by apply tP b (P:=λc=>(tR.drop c.toNat).head?=aa (.func (.func (AQ c)) [] []))<;>intros<;>rfl
def Va(b:UInt8):0<=cls b/\cls b<6:=by apply tP b (P:=λc=>0<=c/\c<6)<;>intros<;>decide
def ahead(new:List Tk):Out->Out
 | .ok m=>.ok (new++m)
 | .nR k=>.nR k
def GK(x:Out):ahead [] x=x:=by cases x<;>rfl
def ahead_ahead(a b:List Tk)(x:Out):ahead a (ahead b x)=ahead (a++b) x:=by cases x<;>simp[ahead]
def GH(x:Out)(k:Nat)(a:Int)(t:List UInt8)(n:Int):x.add (aa (a,t,n)) k=ahead [⟨a,t,n,k⟩] x:=by cases x<;>rfl
def im(x:Out)(k:Nat):x.add ah k=x:=by cases x<;>rfl
def aac:∀(s:List UInt8) (k:Nat),fx s k=fx (s.drop (s.takeWhile eS).length) (k+(s.takeWhile eS).length):=by
 intro s
 induction s with
 |nil=>intro k;rfl|cons c s ih=>
  intro k;rw[vd];by_cases hc:eS c=ab
  ·rw[aB hc,Ox hc,ih (k+1),dD,List.drop_succ_cons];congr 1;omega
  ·rw[ax hc];rfl
def Pf(c:UInt8)(r:List UInt8):Lib.hasPrefix (c::r) [47,47]=ab↔c=47/\r.head?=aa 47:=by
 unfold Lib.hasPrefix;cases r with|nil=>simp[R6]|cons d r=>simp[R6];exact⟨λq=>⟨q.1.symm,q.2.symm⟩,λq=>⟨q.1.symm,q.2.symm⟩⟩
section
variable {b n0:Nat} {src:List UInt8} {at_:Nat} {tok:Tok} {sz:Nat} {l:List Tk} {h:ae}
def VL{n:Nat}(ay:at_<src.length)(hn:1<=n):(src.drop (at_+1)).drop (n - 1)=src.drop (at_+n):=by rw[Gg];congr 1;omega
def aeg(S:Sc b n0 src at_ tok sz l h)(ay:at_<src.length):
 (∃n new,1<=n/\at_+n<=src.length/\yx (AQ (cls (src.getD at_ 0))) b n0 src at_ l h n new/\fx (src.drop at_) at_=ahead new (fx (src.drop (at_+n)) (at_+n))/\new.length<=n)∨
 (C1 (AQ (cls (src.getD at_ 0))) b n0 at_ h/\fx (src.drop at_) at_=.nR at_):=by
 have hd:=MP ay;have main:∀n o,gJ (src.getD at_ 0) (src.drop (at_+1))=aa (n,o)->fx (src.drop at_) at_=(fx (src.drop (at_+n)) (at_+n)).add o at_:=by intro n o hs;have hn:=Ac hs;rw[hd,zh hs,VL ay hn.1]
 have bad:gJ (src.getD at_ 0) (src.drop (at_+1))=ah->fx (src.drop at_) at_=.nR at_:=by intro hs;rw[hd,Ot hs]
 have hw:=S.tw (p:=eS);have hp:=S.tw (p:=gT);have X8:=S.tw (p:=digit);have YS:=S.tw (p:=λb=>b !=10);generalize hc:src.getD at_ 0=c at *
 by_cases w:eS c=ab
 ·have ey:cls c=1:=by
   have h1:=CW c w;have h2:letter c=ak:=by
    cases h3:letter c with|false=>rfl|true=>have:=(BL c h3).2.1;rw[w] at this;cases this
   unfold cls;simp[h2,h1.2.1,w];intro D0;simp[eS,D0] at w
  rw[ey];refine .inl ⟨((src.drop at_).takeWhile eS).length,[],?_,hw,aeH S,?_,by simp⟩
  ·rw[hd];exact CO w
  ·rw[GK,aac,Gg]
 ·have w:eS c=ak:=by simpa using w
  by_cases lt:letter c=ab
  ·have ey:cls c=2:=(by unfold cls;simp[lt]);rw[ey];have hn:=BL c lt;by_cases nb:nI ((src.drop at_).takeWhile gT)=ab
   ·have hs:gJ c (src.drop (at_+1))=aa (((src.drop at_).takeWhile gT).length,aa (1,(src.drop at_).takeWhile gT,0)):=(by unfold gJ;rw[ax (by rw[w];decide),ax (λq=>hn.2.2.1 q.1),aB lt,<-hd,aB nb]);refine .inl ⟨_,_,(Ac hs).1,hp,aaX S nb,?_,by simpa using (Ac hs).1⟩;rw[main _ _ hs,GH]
   ·have nb:nI ((src.drop at_).takeWhile gT)=ak:=(by simpa using nb);refine .inr ⟨aaW S nb,bad ?_⟩;unfold gJ;rw[ax (by rw[w];decide),ax (λq=>hn.2.2.1 q.1),aB lt,<-hd,ax (by rw[nb];decide)]
  ·have lt:letter c=ak:=(by simpa using lt);by_cases dg:digit c=ab
   ·have ey:cls c=3:=(by unfold cls;simp[lt,dg]);rw[ey];have hn:=Hc c dg;have bL:(src.drop at_).takeWhile digit≠[]:=(by intro hq;have:=CO (p:=digit) (s:=src.drop (at_+1)) dg;rw[<-hd,hq] at this;cases this);by_cases nb:vP ((src.drop at_).takeWhile digit)=ab
    ·have hs:gJ c (src.drop (at_+1))=aa (((src.drop at_).takeWhile digit).length,aa (2,[],(num ((src.drop at_).takeWhile digit) 0:Int))):=(by unfold gJ;rw[ax (by rw[w];decide),ax (λq=>hn.2.2 q.1),ax (by rw[lt];decide),aB dg,<-hd,aB nb]);refine .inl ⟨_,_,(Ac hs).1,X8,abd S bL nb,?_,by simpa using (Ac hs).1⟩;rw[main _ _ hs,GH]
    ·have nb:vP ((src.drop at_).takeWhile digit)=ak:=(by simpa using nb);refine .inr ⟨abc S bL nb,bad ?_⟩;unfold gJ;rw[ax (by rw[w];decide),ax (λq=>hn.2.2 q.1),ax (by rw[lt];decide),aB dg,<-hd,ax (by rw[nb];decide)]
   ·have dg:digit c=ak:=(by simpa using dg);by_cases sg:mn c=ab
    ·have D0:=(Qn c sg).2.2.1;have ey:cls c=4:=(by unfold cls;simp[lt,dg,D0,w,sg]);rw[ey];by_cases nt:c=47/\(src.drop (at_+1)).head?=aa 47
     ·have hs:gJ c (src.drop (at_+1))=aa (((src.drop at_).takeWhile (λb=>b !=10)).length,ah):=(by unfold gJ;rw[ax (by rw[w];decide),aB nt,<-hd]);refine .inl ⟨_,[],(Ac hs).1,YS,aa9 S (by rw[hd];exact(Pf _ _).2 nt),?_,by simp⟩;rw[main _ _ hs,im,GK]
     ·have hs:gJ c (src.drop (at_+1))=aa (1,aa (3,[c],0)):=(by unfold gJ;rw[ax (by rw[w];decide),ax nt,ax (by rw[lt];decide),ax (by rw[dg];decide),aB sg]);have hm:=aeq S ay (by rw[hd,ib];intro hq;exact nt ((Pf _ _).1 hq)) (by rw[hc];exact sg);rw[hc] at hm;refine .inl ⟨1,_,aK _,ay,hm,?_,by simp⟩;rw[main _ _ hs,GH]
    ·have sg:mn c=ak:=(by simpa using sg);have hs:gJ c (src.drop (at_+1))=ah:=(by have n47:c≠47:=(by rintro rfl;revert sg;decide);unfold gJ;rw[ax (by rw[w];decide),ax (λq=>n47 q.1),ax (by rw[lt];decide),ax (by rw[dg];decide),ax (by rw[sg];decide)]);have hf:AQ (cls c)=38:=(by unfold cls;simp only[lt,dg,w,sg,dP,if_false];split<;>rfl);rw[hf];exact .inr ⟨agj S,bad hs⟩
end
def fj(src:List UInt8):List Tk × Int × Int:=
 if 65536<src.length then ([],0,2) else
 match fx src 0 with
 | .ok l=>(l,0,0)
 | .nR k=>([],(k:Int),30)
def C3(src:List UInt8)(h:ae)(r:bw)(h':ae):Prop:=
 ∃tok sz,r=.ret (.tuple [.list tok sz (cV (fj src).1),.v (.int .i64 (fj src).2.1),.v (.int .i64 (fj src).2.2)])/\Ext h h'/\dx h.tn h' tok/\(sz=4∨((fj src).1=[]/\tok=.nil))
def Rj:(fa aq 39).bind AV.cF=aa [.list .nil 0 []]:=ai
def Rh:(fa aq 3).bind AV.cF=aa [.v (.int .i64 0)]:=ai
def Ri:(fa aq 31).bind AV.cF=aa [.v (.int .i64 0)]:=ai
def BZ:List AV:=[.v .nilFunc,.v .nilFunc,.v .nilFunc,.v .nilFunc,.v .nilFunc,.v .nilFunc]
def agt:(fa aq 79).bind AV.cF=aa BZ:=ai
def afx:cU aq 77=aa 6:=ai
def Ut:gb aq 77 [(0,.func (.func 38) [] []),(1,.func (.func 39) [] []),(2,.func (.func 40) [] []),(3,.func (.func 41) [] []),(4,.func (.func 42) [] []),(5,.func (.func 38) [] [])]=aa (.agg tR):=ai
def afd{h:ae}{c:Nat}(hc:c=h.boxes.length):dh aq (h.push BZ) 77 (.ptr (.box c) 0) (.agg tR)=aa ((h.push BZ).put c tR):=by subst hc;rw[dK (xs:=tR) rfl afx (bX h BZ) rfl bq,show dO BZ 0 tR=tR from rfl]
def Hj(r:Ref)(off:Nat):cN aq 79 (.ptr r off) 0=aa (.ptr r (off+0)):=ai
def Uu(s:ByteArray):gb aq 82 [(0,.v (.string s))]=aa (.agg [.v (.string s),.v (.int .i64 0),.list .nil 0 []]):=ai
def U0(s:ByteArray):(AV.agg [.v (.string s),.v (.int .i64 0),.list .nil 0 []]).cF=aa [.v (.string s),.v (.int .i64 0),.list .nil 0 []]:=rfl
def afw:cU aq 76=aa 1:=ai
def S5:fZ aq 76=aa ak:=ai
def N1{b off:Nat}{i:Int}(h0:0<=i)(h1:i<6):oN aq 77 (.ptr (.box b) off) (.v (.int .i64 i))=aa (.ptr (.box b) (off+i.toNat)):=by have hu:=Tryz.underlying77;unfold oN;rw[hu];simp only[afw];rw[aB ⟨h0,h1⟩,qj]
def Cd:Tryz.f16.results.toList=[.cell 2 39,.cell 3 3,.cell 4 31]:=ai
def LD(n:Nat)(h:ae):W.fS 37 [.ptr (.box n) 0,.ptr (.box (n+1)) 0,.ptr (.box (n+1+1)) 0] ah h=aa (.ret (.tuple []),ah,h):=TC n h
def rI{h:ae}{cs:List AV}:(h.push cs).boxes.length=h.boxes.length+1:=aA h cs
def Ew{h:ae}{b:Nat}{cs:List AV}:(h.put b cs).boxes.length=h.boxes.length:=td h b cs
structure C2(src:List UInt8)(h:ae)(at_:Nat)(tok:Tok)(sz:Nat)(l:List Tk)(h':ae):Prop where
 ext:Ext h h'
 b0:h'.boxes[h.boxes.length]?=aa [.list .nil 0 []]
 b1:h'.boxes[h.boxes.length+1]?=aa [.v (.int .i64 0)]
 b2:h'.boxes[h.boxes.length+1+1]?=aa [.v (.int .i64 0)]
 b3:h'.boxes[h.boxes.length+1+1+1]?=aa tR
 sc:Sc (h.boxes.length+1+1+1+1) h.tn src at_ tok sz l h'
 eq:fx src 0=ahead l (fx (src.drop at_) at_)
def C2.next{src:List UInt8}{h h' h2:ae}{at_ n:Nat}{tok tok':Tok}{sz sz':Nat}{l new:List Tk}(V:C2 src h at_ tok sz l h')(hm:bp (h.boxes.length+1+1+1+1) h.tn h' h2)
 (hb:h2.boxes[h.boxes.length+1+1+1+1]?=aa (scan src (at_+n) tok' sz' (l++new))) (hk:dx h.tn h2 tok') (hs:sz'=4∨(l++new=[]/\tok'=.nil)) (dS:at_+n<=src.length) (kX:new.length<=n)
 (xx:fx (src.drop at_) at_=ahead new (fx (src.drop (at_+n)) (at_+n))):C2 src h (at_+n) tok' sz' (l++new) h2 where
 ext:=V.ext.mut hm aj
 b0:=hm.box _ _ aj V.b0
 b1:=hm.box _ _ aj V.b1
 b2:=hm.box _ _ aj V.b2
 b3:=hm.box _ _ aj V.b3
 sc:=⟨hb,dS,V.sc.len,cY V.sc.tn hm.tn,hk,hs,hm.ok V.sc.ok,by have:=V.sc.cI;simp;omega⟩
 eq:=by rw[V.eq,xx,ahead_ahead]
def aaa(src:List UInt8)(hs:src.length<=9223372036854775807)(h:ae)(ho:cR h=ab):∃r h',W.call 16 [.v (.string (bs src))] h=aa (r,h')/\C3 src h r h':=by
 have u9:=fH;have u39:=ma;have a3:=dE;have a9:=dR;have a23:=sl;have a24:=Dk;have a43:=S5;have s3:=bQ;have s23:=yi;have s24:=Kl;refine bO rfl Tryz.func16 rfl ?_;by_cases xl:65536<src.length
 ·have key:=ag.mk (((Ext.push h [.list .nil 0 []]).trans (.push _ [.v (.int .i64 0)])).trans (.push _ [.v (.int .i64 0)]))
  repeat' (first|simp(maxSteps:=9999999) (disch:=first|exact dZ|fail) only[gW,reduceIte,ao,al,Cd,Rj,Rh,Ri,rI,Ew,JB,G3, *]|(refine dX ?_ ?_<;>(intro _;try omega))|refine bM ai ?_)
  refine GL (Post:=C3 src h) ?_;refine⟨.nil,0,?_,?_,.inl rfl,.inr ⟨?_,rfl⟩⟩
  ·simp only[fj,aB xl];rfl
  ·exact((key.out.dm (aK _) _).dm aj _).dm aj _
  ·simp only[fj,aB xl]
 ·have aP:src.length<=65536:=by omega
  have hF:fj src=match fx src 0 with| .ok l=>(l,0,0)| .nR k=>([],(k:Int),30):=by unfold fj;rw[ax xl]
  have kF:=ag.mk hF;clear hF
  repeat' (first|simp(maxSteps:=9999999) (disch:=first|exact dZ|fail) only[gW,reduceIte,ao,al,Cd,Rj,Rh,Ri,agt,rI,Ew,Ut,Hj,afd,Uu,U0, *]|(refine dX ?_ ?_<;>(intro _;try omega))|refine bM ai ?_)
  refine eX (λm e h'=>∃at_ tok sz l,m=src.length - at_/\e.get 0=.v (.string (bs src))/\e.get 2=.ptr (.box h.boxes.length) 0/\e.get 3=.ptr (.box (h.boxes.length+1)) 0/\e.get 4=.ptr (.box (h.boxes.length+1+1)) 0/\
   e.get 5=.ptr (.box (h.boxes.length+1+1+1)) 0/\e.get 6=.ptr (.box (h.boxes.length+1+1+1+1)) 0/\
   e.defers=[(37,[.ptr (.box h.boxes.length) 0,.ptr (.box (h.boxes.length+1)) 0,.ptr (.box (h.boxes.length+1+1)) 0])]/\C2 src h at_ tok sz l h') ?_ src.length _ _ ?_
  ·rintro m e h' ⟨at_,tok,sz,l,rfl,g0,g2,g3,g4,g5,g6,hd,V⟩;have kV:=ag.mk V;have b0:=V.b0;have b1:=V.b1;have b2:=V.b2;have b3:=V.b3;have b4:=V.sc.box;have dS:=V.sc.le;have l4:=(aF.1 b4).1;have mL:=Va (src.getD at_ 0);obtain⟨HC,pC⟩:=mL;clear V;by_cases ay:at_<src.length
   ·rcases aeg kV.out.sc ay with⟨n',new,q1,q2,⟨h2,hc,hm,tok',sz',eJ,qB,Bv⟩,xx,kX⟩|⟨⟨h2,hc,hm⟩,xx⟩
    ·have kq:=ag.mk (aw hm (aw eJ (aw qB (aw Bv (aw xx kX)))));clear hm eJ qB Bv xx kX
     repeat' (first|simp(maxSteps:=9999999) (disch:=first|exact dZ|fail) only[gW,reduceIte,ao,al,Cd,tX,mf,DV,tO,me,DC,vh,Hj,N1,Mk, *]|(refine dX ?_ ?_<;>(intro _;try omega))|refine bM ai ?_)
     refine⟨src.length - (at_+n'),by omega,at_+n',tok',sz',l++new,rfl,?_⟩;simp only[true_and];exact kV.out.next kq.out.1 kq.out.2.1 kq.out.2.2.1 kq.out.2.2.2.1 q2 kq.out.2.2.2.2.2 kq.out.2.2.2.2.1
    ·have e0:=hm.box _ _ aj b0;have e1:=hm.box _ _ aj b1;have e2:=hm.box _ _ aj b2;have kq:=ag.mk (aw hm xx);have l2:=(aF.1 e2).1;have Y9:=TF h.boxes.length h2 at_ e0 e1 e2;unfold back at Y9;clear hm xx
     repeat' (first|simp(maxSteps:=9999999) (disch:=first|exact dZ|fail) only[gW,reduceIte,ao,al,Cd,tX,mf,DV,tO,me,DC,vh,Hj,N1,Mk,G3,Ew, *]|(refine dX ?_ ?_<;>(intro _;try omega))|refine bM ai ?_)
     refine GL (Post:=C3 src h) ?_;have hl:fx src 0=.nR at_:=(by rw[kV.out.eq,kq.out.2];rfl);refine⟨.nil,0,?_,?_,.inl rfl,.inr ⟨?_,rfl⟩⟩
     ·rw[kF.out,hl];rfl
     ·exact(((kV.out.ext.mut kq.out.1 aj).dm (aK _) _).dm aj _).dm aj _
     ·rw[kF.out,hl]
   ·have cJ:at_=src.length:=(by omega);subst cJ;have MZ:=LD h.boxes.length (((h'.put h.boxes.length [.list tok sz (cV l)]).put (h.boxes.length+1) [.v (.int .i64 0)]).put (h.boxes.length+1+1) [.v (.int .i64 0)])
    repeat' (first|simp(maxSteps:=9999999) (disch:=first|exact dZ|fail) only[gW,reduceIte,ao,al,Cd,tX,mf,DV,tO,me,DC,LD,JB,G3,Ew, *]|(refine dX ?_ ?_<;>(intro _;try omega))|refine bM ai ?_)
    have hl:fx src 0=.ok l:=(by rw[kV.out.eq,RT,BM];simp[ahead]);refine GL (Post:=C3 src h) ?_;refine⟨tok,sz,?_,?_,?_,?_⟩
    ·rw[kF.out,hl]
    ·exact((kV.out.ext.dm (aK _) _).dm aj _).dm aj _
    ·exact kV.out.sc.can
    ·rw[kF.out,hl];exact kV.out.sc.size
  ·refine⟨0,.nil,0,[],rfl,?_,?_,?_,?_,?_,?_,?_,?_⟩
   iterate 7
    ·exact gR
   ·constructor
    ·exact((((((Ext.push h _).trans (.push _ _)).trans (.push _ _)).trans (.push _ _)).dm aj _).trans (.push _ _))
    ·simp(disch:=(first|assumption|omega|(exact(aA _ _).symm)|(simp only[df];omega)|(refine fF ?_ ?_<;>simp only[df]<;>omega)|fail)) only[gZ]
    ·simp(disch:=(first|assumption|omega|(exact(aA _ _).symm)|(simp only[df];omega)|(refine fF ?_ ?_<;>simp only[df]<;>omega)|fail)) only[gZ]
    ·simp(disch:=(first|assumption|omega|(exact(aA _ _).symm)|(simp only[df];omega)|(refine fF ?_ ?_<;>simp only[df]<;>omega)|fail)) only[gZ]
    ·simp(disch:=(first|assumption|omega|(exact(aA _ _).symm)|(simp only[df];omega)|(refine fF ?_ ?_<;>simp only[df]<;>omega)|fail)) only[gZ]
    ·refine⟨?_,cz _,aP,aK _,.inl rfl,.inr ⟨rfl,rfl⟩,ho,aK _⟩;simp(disch:=(first|assumption|omega|(exact(aA _ _).symm)|(simp only[df];omega)|(refine fF ?_ ?_<;>simp only[df]<;>omega)|fail)) only[gZ];rfl
    ·rw[fc,GK]
end Go.Proofs.YtmdakolcndpjeaaGreatDoor
end
section
namespace Go.AE
open Go.RowKit Go.WideShapes Go.ChangeShapes
def B1(P:aQ)(S:List aE)(t:aE):Bool:=
 match P.underlying t with
 |some .bool|some (.int _)|some .string=>ab
 |some (.slice e)=>S.contains e&&decide (0<P.cellsOf e)
 |some (.struct fs)=>yj P 0 fs.toList (P.cellsOf t)&&fs.toList.all λf=>S.contains f.type
 |some (.array m e)=>Nat.beq (P.cellsOf t) (m * P.cellsOf e)&&S.contains e
 |_=>ak
def ER(P:aQ)(S:List aE):Bool:=S.all (B1 P S)
section
variable {H:Type} {enc:aE × aC->H} {P:aQ} {W:aT}
def afP{S:List aE}(hS:ER P S=ab):∀(fuel:Nat) (t:aE) (cs:List aC) (x:DataW H × List MemPlace),DataW.trod enc P W 0 (λ_=>ab) ab fuel t cs=aa x->S.contains t=ab->
 ∃xs,aM (aH.init W) xs cs/\xs.all AV.eM=ab/\Has P t xs x.1:=by
 intro fuel
 induction fuel with
 |zero=>intro t cs x h;simp[DataW.trod] at h|succ fuel ih=>
  intro t cs x h cQ;have aU:B1 P S t=ab:=dn.1 hS t (by simpa using cQ);unfold B1 at aU;split at aU
  ·rename_i hu;obtain⟨b,rfl,rfl⟩:=DataW.trod_bool hu h;exact⟨_,.cons _ _ _ _ (.v _ rfl) .nil,rfl,.bool hu b⟩
  ·rename_i k hu;obtain⟨m,rfl,rfl,hw⟩:=DataW.trod_int hu h;exact⟨_,.cons _ _ _ _ (.v _ rfl) .nil,rfl,.int hu m hw⟩
  ·rename_i hu;obtain⟨s,rfl,rfl,hs⟩:=DataW.trod_string hu h;exact⟨_,.cons _ _ _ _ (.v _ rfl) .nil,rfl,.str hu s hs⟩
  ·rename_i e hu;rw[aL,decide_eq_true_eq] at aU;obtain⟨YX,Eh⟩:=aU;rcases DataW.trod_slice hu h with⟨rfl,rfl⟩|⟨a,len,az,elems,rest,m,hm,rfl,rfl,-,H2,vr,Nc,Yf,Y7,-⟩
   ·exact⟨_,.cons _ _ _ _ (.nil _) .nil,rfl,.none hu⟩
   ·have hm:m=fuel:=(by omega);subst hm;obtain⟨gh,Bu⟩:=Y7 rfl;have elemAt:∀i,i<len->∃vs r y,W.cells? 0 (a.add (i * P.cellsOf e)) (P.cellsOf e)=aa vs/\elems[i]?=aa y/\aM (aH.init W) r vs/\r.all AV.eM=ab/\Has P e r y.1:=by
     intro i hi;have h1:=Yf i hi;rw[cv (by omega:i<elems.length)] at h1;cases hc:W.cells? 0 (a.add (i * P.cellsOf e)) (P.cellsOf e) with
     |none=>rw[hc] at h1;cases h1
     |some vs=>rw[hc] at h1;obtain⟨r,g1,g2,g3⟩:=ih e vs _ h1 YX;exact⟨vs,r,_,rfl,cv _,g1,g2,g3⟩
    by_cases gu:az=0
    ·have aP:len=0:=(by omega);subst gu;subst aP;have he:elems=[]:=Aq Nc;subst he;refine⟨[.list .tight (P.cellsOf e) []],.cons _ _ _ _ (.jV _ _) .nil,rfl,?_⟩;show Has P t _ (.slice [] (rest.map (·.1)));exact .list hu .tight [] [] (rest.map (·.1)) (.inr ⟨rfl,rfl⟩) (cz _) rfl bh bh
    ·-- the block is there
     have NL:a.spot=ah:=by
      have:∃vs,W.cells? 0 (a.add 0) (P.cellsOf e)=aa vs:=by
       rcases K4 len with h0|h0
       ·have h1:=Bu 0 aj;rw[cv (by omega:0<rest.length)] at h1;cases hc:W.cells? 0 (a.add ((len+0) * P.cellsOf e)) (P.cellsOf e) with
        |none=>rw[hc] at h1;cases h1
        |some vs=>rw[h0] at hc;exact⟨vs,by simpa using hc⟩
       ·obtain⟨vs,_,_,hc,_⟩:=elemAt 0 h0;exact⟨vs,by simpa using hc⟩
      obtain⟨vs,dJ⟩:=this;obtain⟨hl,hg⟩:=L4 dJ;have h0:=hg 0 Eh;rw[cv (by omega:0<vs.length)] at h0;have:(a.add 0).add 0=a:=(by simp[Addr.add]);rw[this] at h0;exact aeK h0
     obtain⟨g,off,sp⟩:=a;simp only at NL;subst NL;have rows:∀k,k<=len->∃es:List (List AV),es.length=k/\(∀r∈es,r.length=P.cellsOf e/\r.all AV.eM=ab)/\(∀(i:Nat) (r:List AV) (d:DataW H),es[i]?=aa r->(elems.map (·.1))[i]?=aa d->Has P e r d)/\
      ∃cells:List aC,cells.length=k * P.cellsOf e/\aM (aH.init W) es.flatten cells/\∀(j:Nat) (c:aC),cells[j]?=aa c->W.cell? ⟨g,off+j,ah⟩=aa c:=by
      intro k
      induction k with
      |zero=>intro _;exact⟨[],rfl,by simp,by simp,[],by simp,.nil,by simp⟩|succ k ihk=>
       intro hk;obtain⟨es,e1,e2,e3,cells,c1,c2,c3⟩:=ihk aj;obtain⟨vs,r,y,hc,hy,g1,g2,g3⟩:=elemAt k aj;obtain⟨vE,Zm⟩:=L4 hc;refine⟨es++[r],by simp[e1],λr' gg=>?_,λi r' d hi hd=>?_,cells++vs,by simp[c1,vE,ig],?_,λj c hj=>?_⟩
       ·rcases oZ.1 gg with h1|h1
        ·exact e2 r' h1
        ·simp only[qi] at h1;subst h1;exact⟨by rw[g1.length,vE],g2⟩
       ·rcases kS hi with h1|⟨h1,rfl⟩
        ·exact e3 i r' d h1 hd
        ·rw[h1,e1,tF,hy] at hd;simp only[cy,aY] at hd;subst hd;exact g3
       ·rw[List.flatten_append];simpa using c2.append g1
       ·rcases dp j cells.length with h1|h1
        ·rw[qh h1] at hj;exact c3 j c hj
        ·rw[uZ h1] at hj;have HX:j - cells.length<P.cellsOf e:=(by have:=(aF.1 hj).1;omega);have h2:=Zm _ HX;rw[hj,Addr.im,Addr.im] at h2;rw[(aj:off+j=off+k * P.cellsOf e+(j - cells.length))];exact h2
     obtain⟨es,e1,e2,e3,cells,c1,c2,c3⟩:=rows len (aK _);have cH:es.flatten.all AV.eM=ab:=(by rw[List.all_flatten];simp only[dn];intro r hr;have:=(e2 r hr).2;simpa using this);refine⟨[.list .held (P.cellsOf e) es],.cons _ _ _ _ (.list .held (P.cellsOf e) es g off len az cells e1.symm (λr hr=>(e2 r hr).1) c2 c3 ⟨H2,ev⟩ cH) .nil,rfl,?_⟩;exact .list hu .held es (elems.map (·.1)) (rest.map (·.1)) (.inl rfl) aj (by simp[e1,Nc]) e3 (λr hr=>(e2 r hr).1)
  ·rename_i fs hu;rw[aL,dn] at aU;obtain⟨Zf,cH⟩:=aU;obtain⟨ys,m,hm,rfl,ey,zd,jt⟩:=DataW.trod_struct hu h;have hm:m=fuel:=(by omega);subst hm;have fld:∀(i:Nat) (f:Field),fs[i]?=aa f->∃r y,ys[i]?=aa y/\aM (aH.init W) r ((cs.drop f.offset).take (P.cellsOf f.type))/\r.all AV.eM=ab/\Has P f.type r y.1:=(by intro i f hf;have h1:=jt i f hf;have ay:i<ys.length:=(by rw[zd];exact(wK.1 hf).1);rw[cv ay] at h1;obtain⟨r,g1,g2,g3⟩:=ih f.type _ _ h1 (cH f (by obtain⟨hi,rfl⟩:=wK.1 hf;exact Array.mem_toList_iff.2 (Array.getElem_mem hi)));exact⟨r,_,cv ay,g1,g2,g3⟩);have build:∀(l:List Field) (i off:Nat),(∀j f,l[j]?=aa f->fs[i+j]?=aa f)->yj P off l (P.cellsOf t)=ab->off<=cs.length->
    ∃xs,aM (aH.init W) xs (cs.drop off)/\xs.all AV.eM=ab/\∀j f,l[j]?=aa f->off<=f.offset/\∃r y,ys[i+j]?=aa y/\(xs.drop (f.offset - off)).take (P.cellsOf f.type)=r/\Has P f.type r y.1:=by
    intro l
    induction l with
    |nil=>intro i off _ ht _;have YU:off=P.cellsOf t:=iK ht;refine⟨[],?_,rfl,λj f hj=>by simp at hj⟩;rw[YU,<-ey,RT];exact .nil|cons f l ihl=>
     intro i off hl ht dS;rw[yj,aL] at ht;have ho:f.offset=off:=iK ht.1;obtain⟨r,y,hy,g1,g2,g3⟩:=fld i f (by simpa using hl 0 f rfl);have oc:off+P.cellsOf f.type<=cs.length:=by
      rw[ey];have:∀(l:List Field) (o:Nat),yj P o l (P.cellsOf t)=ab->o<=P.cellsOf t:=by
       intro l
       induction l with
       |nil=>intro o h;exact Nat.le_of_eq (iK h)|cons f l ih=>intro o h;rw[yj,aL] at h;exact cY (Nat.le_add_right _ _) (ih _ h.2)
      exact this l _ ht.2
     obtain⟨xs,x1,x2,x3⟩:=ihl (i+1) (off+P.cellsOf f.type) (λj f' hj=>by
      have:=hl (j+1) f' (by simpa using hj)
      rwa [(aj:i+(j+1)=i+1+j)] at this) ht.2 oc
     rw[ho] at g1;have gh:r.length=P.cellsOf f.type:=(by rw[g1.length];simp;omega);refine⟨r++xs,?_,by rw[yq,g2,x2];rfl,λj f' hj=>?_⟩
     ·have:=g1.append x1;rw[<-Gg,List.take_append_drop] at this;exact this
     ·cases j with|zero=>simp only[j5,aY] at hj;subst hj;refine⟨aj,r,y,hy,?_,g3⟩;rw[ho,Nat.sub_self,fc,<-gh,List.take_left]|succ j=>obtain⟨dy,r',y',lH,gg,hh⟩:=x3 j f' (by simpa using hj);refine⟨aj,r',y',by rw[(aj:i+(j+1)=i+1+j)];exact lH,?_,hh⟩;rw[show f'.offset - off=r.length+(f'.offset - (off+P.cellsOf f.type)) by omega,<-Gg,Gh];exact gg
   obtain⟨xs,x1,x2,x3⟩:=build fs.toList 0 0 (λj f hj=>by simpa using hj) Zf (cz _);rw[fc] at x1;refine⟨xs,x1,x2,.struct hu xs (ys.map (·.1)) (by rw[x1.length,ey]) (by simp[zd]) λi f d hf hd=>?_⟩;obtain⟨-,r,y,hy,hr,hh⟩:=x3 i f (by simpa using hf);rw[gL] at hy;rw[tF,hy] at hd;simp only[cy,aY] at hd;subst hd;rw[Nat.sub_zero] at hr;rw[hr];exact hh
  ·rename_i m e hu;rw[aL] at aU;have bG:P.cellsOf t=m * P.cellsOf e:=iK aU.1;obtain⟨ys,fu,HO,rfl,ey,zd,jt⟩:=DataW.trod_array hu h;have HO:fu=fuel:=(by omega);subst HO;have rows:∀k,k<=m->∃xs,aM (aH.init W) xs (cs.take (k * P.cellsOf e))/\xs.all AV.eM=ab/\∀i,i<k->∃y,ys[i]?=aa y/\Has P e ((xs.drop (i * P.cellsOf e)).take (P.cellsOf e)) y.1:=by
    intro k
    induction k with
    |zero=>intro _;exact⟨[],by simp;exact .nil,rfl,λi hi=>absurd hi (ik i)⟩
    |succ k ihk=>
     intro hk;obtain⟨xs,x1,x2,x3⟩:=ihk aj;have h1:=jt k aj;rw[cv (by omega:k<ys.length)] at h1;obtain⟨r,g1,g2,g3⟩:=ih e _ _ h1 aU.2;have aP:(k+1) * P.cellsOf e<=cs.length:=(by rw[ey,bG];exact oy _ hk);have Zo:xs.length=k * P.cellsOf e:=(by rw[x1.length,ng];rw[ig] at aP;omega);have gh:r.length=P.cellsOf e:=(by rw[g1.length];simp;rw[ig] at aP;omega);refine⟨xs++r,?_,by rw[yq,x2,g2];rfl,λi hi=>?_⟩
     ·have:=x1.append g1
      rwa [<-List.take_add,<-Nat.succ_mul] at this
     ·rcases dp i k with h2|h2
      ·obtain⟨y,hy,hh⟩:=x3 i h2;refine⟨y,hy,?_⟩;have h3:(i+1) * P.cellsOf e<=k * P.cellsOf e:=oy _ h2;rw[ig] at h3;rw[KR aj,yw (by simp;omega)];exact hh
      ·have:i=k:=(by omega);subst this;refine⟨_,cv aj,?_⟩;rw[<-Zo,Gh,<-gh,jk];exact g3
   obtain⟨xs,x1,x2,x3⟩:=rows m (aK _);rw[<-bG,<-ey,jk] at x1;refine⟨xs,x1,x2,.array hu xs (ys.map (·.1)) (by rw[x1.length,ey]) (by simp[zd]) λi d hd=>?_⟩;have hi:i<m:=(by have:=(aF.1 hd).1;simpa [zd] using this);obtain⟨y,hy,hh⟩:=x3 i hi;rw[tF,hy] at hd;simp only[cy,aY] at hd;subst hd;exact hh
  ·cases aU
def Tj{S:List aE}(hS:ER P S=ab){t:aE}{v:aC}{d:DataW H}{p:List MemPlace}{base:Nat}(h:DataW.Trod enc P W 0 (λ_=>ab) ab t v d p)(hv:Value.okWide P W .any base t v)(cQ:S.contains t=ab):
 ∃x,aI (aH.init W) x v/\jE P t x d:=by
 obtain⟨fuel,hf⟩:=h;obtain⟨xs,h1,h2,h3⟩:=afP hS fuel t _ _ hf cQ;have single:∀c,v.cells.toList=[c]->v=c->(∀cs,P.underlying t≠aa (.struct cs))->(∀m e,P.underlying t≠aa (.array m e))->∃x,aI (aH.init W) x v/\jE P t x d:=by
  intro c hc Zl YR YN;rw[hc] at h1;cases h1 with
  |cons x _ _ _ hx hs=>
   cases hs;refine⟨x,Zl ▸ hx,?_⟩;unfold jE;split
   ·rename_i hu;exact absurd hu (YR _)
   ·rename_i hu;exact absurd hu (YN _ _)
   ·exact h3
 have aU:B1 P S t=ab:=dn.1 hS t (by simpa using cQ);unfold B1 at aU;unfold Value.okWide at hv;split at aU
 ·rename_i hu;rw[hu] at hv;simp only[Cell.okWide,Cell.ok,hu] at hv;cases v<;>simp at hv;exact single _ rfl rfl (by rw[hu];simp) (by rw[hu];simp)
 ·rename_i k hu;rw[hu] at hv;simp only[Cell.okWide,Cell.ok,hu] at hv;cases v<;>simp at hv;exact single _ rfl rfl (by rw[hu];simp) (by rw[hu];simp)
 ·rename_i hu;rw[hu] at hv;simp only[Cell.okWide,Cell.ok,hu] at hv;cases v<;>simp at hv;exact single _ rfl rfl (by rw[hu];simp) (by rw[hu];simp)
 ·rename_i e hu;rw[hu] at hv;simp only[Cell.okWide,Cell.ok,hu] at hv;cases v<;>simp at hv;exact single _ rfl rfl (by rw[hu];simp) (by rw[hu];simp)
 ·rename_i fs hu;rw[hu] at hv;obtain⟨cs,rfl,-,-⟩:=hv;exact⟨.agg xs,.agg _ _ h1,by unfold jE;rw[hu];exact⟨xs,rfl,h3⟩⟩
 ·rename_i m e hu;rw[hu] at hv;obtain⟨cs,rfl,-,-⟩:=hv;exact⟨.agg xs,.agg _ _ h1,by unfold jE;rw[hu];exact⟨xs,rfl,h3⟩⟩
 ·cases aU
def Tl{S:List aE}(hS:ER P S=ab){base:Nat}:∀{ts:List aE} {vs:List aC} {ds:List (DataW H)} {p:List MemPlace},DataW.TrodAll enc P W 0 (λ_=>ab) ab ts vs ds p->
 (∀(j:Nat) t v,ts[j]?=aa t->vs[j]?=aa v->Value.okWide P W .any base t v)->(∀t∈ts,S.contains t=ab)->∃xs,aM (aH.init W) xs vs/\qe P ts xs ds:=by
 intro ts
 induction ts with
 |nil=>intro vs ds p h _ _;obtain⟨rfl,rfl,rfl⟩:=trodAll_nil h;exact⟨[],.nil,ev⟩
 |cons t ts ih=>intro vs ds p h hv aU;obtain⟨v,vs',d,ds',p1,q1,rfl,rfl,rfl,h1,h2⟩:=trodAll_cons h;obtain⟨x,g1,g2⟩:=Tj hS h1 (hv 0 t v rfl rfl) (aU t dQ);obtain⟨xs,g3,g4⟩:=ih h2 (λj t v ht xK=>hv (j+1) t v (by simpa using ht) (by simpa using xK)) (λt ht=>aU t (dG _ ht));exact⟨x::xs,.cons _ _ _ _ g1 g3,g2,g4⟩
structure KK(P:aQ)(S:List aE)(f:bF)(fn:Func)(tb:aE):Prop where
 func:P.funcs[f]?=aa fn
 laid:laidOutB P=ab
 set:ER P S=ab
 mV:∀t∈fn.params.toList,S.contains t=ab/\P.readableRec t=ab/\t<P.types.size
 res:fn.resultTypes=#[tb]
 bool:P.underlying tb=aa .bool
variable {G:Nat->Option (List AV)} {aD:bF->Option (List AV->ae->Option (AV × ae))}
def ZW{S:List aE}(hp:Prog P){f:bF}{fn:Func}{tb:aE}(F:KK P S f fn tb){s:ChangeSpec}{apart fresh handsOn again:Bool}{base:Nat}{args:Array aC}{ds gs:List (DataW H)}{before:List MemPlace}
 (BC:s.vars=[]) (Y8:∀ds:List (DataW H),ds.length=fn.params.size->(s.fn H ds).results=[.lit (.bool ab)]/\(s.fn H ds).args=ds/\(s.fn H ds).vars=[])
 (Iy:∀(j:Nat) t v,fn.params[j]?=aa t->args[j]?=aa v->Value.okWide P W .any base t v)
 (hW:DataW.Whole enc P fn.params.toList s.vars apart W args.toList ds gs before)
 (hG:∀g cs,G g=aa cs->∃cells,aM (aH.init W) cs cells/\∀(j:Nat) (c:aC),cells[j]?=aa c->W.cell? ⟨g,j,ah⟩=aa c)
 (qE:∀g p,aD g=aa p->kN P G W g p)
 (YB:∀xs:List AV,qe P fn.params.toList xs ds->∃h',(whole P G aD).call f xs ae.init=aa (.ret (.v (.bool ab)),h')):
 Calls P f args W λe W'=>∃v,e=.returned v/\s.post enc P fn apart fresh handsOn again W args v W':=by
 have MT:=hW;obtain⟨p,q,hA,hV,MX,D9,H8⟩:=hW;have XI:DataW.TrodVars enc P W (λ_=>ab) [] gs q:=BC ▸ hV;obtain⟨rfl,rfl⟩:=trodVars_none XI;rw[dI] at MX;subst MX;obtain⟨xs,IB,cH⟩:=Tl F.set hA (λj t v ht hv=>Iy j t v (by simpa using ht) (by simpa using hv)) (λt ht=>(F.mV t ht).1);obtain⟨h',oa⟩:=YB xs cH;have za:fQ P G W (aH.init W) ae.init W:=aes W hG;obtain⟨-,hc⟩:=(QZ hp qE).call f xs ae.init _ _ oa;intro cs;obtain⟨K',w',fr,le,s',bC,qy,v,hx,hl⟩:=hc (aH.init W) W args IB za cs;have hv:=hx.dF.1;subst hv;have hb:Below W.heap.size W w':=by have:=s'.cr;rw[le.base] at this;exact this
 have aP:ds.length=fn.params.size:=by
  have:∀{ts:List aE} {xs:List AV} {ds:List (DataW H)},qe P ts xs ds->ds.length=ts.length:=by
   intro ts
   induction ts with
   |nil=>intro xs ds h;cases xs<;>cases ds<;>simp[qe] at h ⊢
   |cons t ts ih=>intro xs ds h;cases xs<;>cases ds<;>simp[qe] at h ⊢;exact ih h.2
  simpa using this cH
 obtain⟨r1,r2,r3⟩:=Y8 ds aP;refine⟨.returned (.bool ab),w',fr,⟨_,rfl,?_⟩,bC,qy,hl⟩;refine abY (pa:=before) (pv:=[]) MT (λb sp hd=>?_) (λsp uk=>?_) (λsp _=>?_) bh hb (ok_one F.res rfl (okWide_bool_mk F.bool _))
 ·rw[F.res,dI,r1];exact trodAll_cons_mk (shut_bool F.bool _) trodAll_mk0
 ·rw[dI,r2];exact Tm F.laid hA (λt ht=>(F.mV t ht).2) (λx hx=>hb.same (MT.lt x hx)) uk
 ·rw[BC,dI,r3];exact rfl
end
end Go.AE
end
section
namespace Go.Pol
open Go.AE
inductive Ex where
 |mk (kind n no:Int) (name:List UInt8) (l:List Ex)
def Ex.kind:Ex->Int| .mk k _ _ _ _=>k
def Ex.n:Ex->Int| .mk _ n _ _ _=>n
def Ex.no:Ex->Int| .mk _ _ i _ _=>i
def Ex.name:Ex->List UInt8| .mk _ _ _ s _=>s
def Ex.l:Ex->List Ex| .mk _ _ _ _ l=>l
def Ex.ind{p:Ex->Prop}(h:∀k n no name l,(∀x∈l,p x)->p (.mk k n no name l)):∀x,p x
 | .mk k n no name l=>h k n no name l λx hx=>Ex.ind h x
termination_by x=>SizeOf.sizeOf x
decreasing_by
 have:=List.sizeOf_lt_of_mem hx;simp;omega
inductive Row:Ex->List AV->Prop
 |mk (k n no:Int) (name:List UInt8) (l:List Ex) (tok:Tok) (sz:Nat) (rows:List (List AV)) (hl:rows.length=l.length) (bG:∀i:Nat,i<l.length->sz=5) (hb:l.length<=9223372036854775807)
  (h:∀(i:Nat) (x:Ex) (r:List AV),l[i]?=aa x->rows[i]?=aa r->Row x r):
  Row (.mk k n no name l) [.v (.int .i64 k),.v (.int .i64 n),.v (.int .i64 no),.v (.string (bs name)),.list tok sz rows]
def Row.len{x:Ex}{r:List AV}(h:Row x r):r.length=5:=by cases h;rfl
def Rows(l:List Ex)(rows:List (List AV)):Prop:=rows.length=l.length/\∀(i:Nat) (x:Ex) (r:List AV),l[i]?=aa x->rows[i]?=aa r->Row x r
def Row.inv{x:Ex}{r:List AV}(h:Row x r):∃tok sz rows,r=[.v (.int .i64 x.kind),.v (.int .i64 x.n),.v (.int .i64 x.no),.v (.string (bs x.name)),.list tok sz rows]/\Rows x.l rows/\(∀i:Nat,i<x.l.length->sz=5)/\x.l.length<=9223372036854775807:=by
 cases h with|mk k n no name l tok sz rows hl bG hb h=>exact⟨tok,sz,rows,rfl,⟨hl,h⟩,bG,hb⟩
def Rows.get{l:List Ex}{rows:List (List AV)}(h:Rows l rows){i:Nat}(hi:i<l.length):∃x r,l[i]?=aa x/\rows[i]?=aa r/\Row x r:=
 ⟨l[i],rows[i]'(by rw[h.1];exact hi),cv hi,cv _,h.2 i _ _ (cv hi) (cv _)⟩
def Rows.nil:Rows [] []:=⟨rfl,λi x r h=>by simp at h⟩
def Rows.snoc{l:List Ex}{rows:List (List AV)}(h:Rows l rows){x:Ex}{r:List AV}(hx:Row x r):Rows (l++[x]) (rows++[r]):=by
 refine⟨by simp[h.1],λi y s h1 h2=>?_⟩;rcases dp i l.length with hi|hi
 ·rw[qh hi] at h1;rw[qh (by rw[h.1];exact hi)] at h2;exact h.2 i y s h1 h2
 ·rw[uZ hi] at h1;rw[uZ (by rw[h.1];exact hi),h.1] at h2;have hz:i - l.length=0:=by have:=(aF.1 h1).1;simp at this;omega
  rw[hz] at h1 h2;simp at h1 h2;subst h1;subst h2;exact hx
mutual
def parts:Ex->Int->Int
 | .mk _ _ _ _ l,lim=>oh l 1 lim
def oh:List Ex->Int->Int->Int
 | [],n,_=>n
 |x::r,n,lim=>if n<=lim then oh r (n+parts x (lim - n)) lim else n
end
def abI:∀(l:List Ex) (n lim:Int),lim<n->oh l n lim=n:=by
 intro l;cases l with|nil=>intro n lim _;rw[oh]|cons x r=>intro n lim h;rw[oh,ax aj]
def abJ:∀(x:Ex) (lim:Int),0<=lim->1<=parts x lim/\parts x lim<=lim+1:=by
 intro x
 induction x using Ex.ind with
 |h k n no name l ih=>
  intro lim Ea;have key:∀(r:List Ex) (m:Int),(∀x∈r,x∈l)->1<=m->m<=lim+1->1<=oh r m lim/\oh r m lim<=lim+1:=by
   intro r
   induction r with
   |nil=>intro m _ h1 h2;rw[oh];exact⟨h1,h2⟩|cons x r ihr=>
    intro m cQ h1 h2;rw[oh];split
    ·have:=ih x (cQ x dQ) (lim - m) aj;exact ihr _ (λy hy=>cQ y (dG _ hy)) aj aj
    ·exact⟨h1,h2⟩
  rw[parts];exact key l 1 (λ_ h=>h) (Int.le_refl _) aj
noncomputable def qR(x y:Ex):Bool:=@decide (x=y) (Classical.propDecidable _)
def wh{x y:Ex}:qR x y=ab↔x=y:=by unfold qR;exact @decide_eq_true_iff _ (Classical.propDecidable _)
def uJ{x y:Ex}(h:x≠y):qR x y=ak:=by rw[ib];exactλq=>h (wh.1 q)
def zU{x y:Ex}(h:x=y):qR x y=ab:=wh.2 h
structure Rl where
 kind:List UInt8
 kG:Int
 gz:Int
 expr:Ex
structure Po where
 name:List UInt8
 kinds:List (List UInt8)
 aO:List (List UInt8)
 rules:List Rl
 change:Ex
 mode:Int
def texts(l:List (List UInt8)):List (List AV):=l.map λs=>[.v (.string (bs s))]
def oz(x:Rl)(r:List AV):Prop:=∃e,Row x.expr e/\r=[.v (.string (bs x.kind)),.v (.int .i64 x.kG),.v (.int .i64 x.gz)]++e
def eo(l:List Rl)(rows:List (List AV)):Prop:=rows.length=l.length/\∀(i:Nat) (x:Rl) (r:List AV),l[i]?=aa x->rows[i]?=aa r->oz x r
structure agA(p:Po)(r:List AV)(tk to tr:Tok)(sk so sr:Nat)(rr:List (List AV))(e:List AV):Prop where
 row:r=[.v (.string (bs p.name)),.list tk sk (texts p.kinds),.list to so (texts p.aO),.list tr sr rr]++(e++[.v (.int .i64 p.mode)])
 expr:Row p.change e
 rules:eo p.rules rr
 zk:∀i:Nat,i<p.kinds.length->sk=1
 zo:∀i:Nat,i<p.aO.length->so=1
 zr:∀i:Nat,i<p.rules.length->sr=8
 bk:p.kinds.length<=9223372036854775807
 bo:p.aO.length<=9223372036854775807
 br:p.rules.length<=9223372036854775807
section
variable {H:Type} {P:aQ}
structure KH(P:aQ)(tE tL:aE):Prop where
 fields:yf P tE [(3,0),(3,1),(3,2),(9,3),(tL,4)]=ab
 slice:P.underlying tL=aa (.slice tE)
 int:P.underlying 3=aa (.int .i64)
 str:P.underlying 9=aa .string
 c3:P.cellsOf 3=1
 c9:P.cellsOf 9=1
 cE:P.cellsOf tE=5
 cL:P.cellsOf tL=1
def On{α:Type}{l:List α}(h:l.length=5):∃a b c d e,l=[a,b,c,d,e]:=by
 match l,h with
 | [a,b,c,d,e],_=>exact⟨a,b,c,d,e,rfl⟩
def adp:∀{es:List (List AV)},(∀r∈es,∃x,Row x r)->∃l:List Ex,Rows l es:=by
 intro es
 induction es with
 |nil=>intro _;exact⟨[],Rows.nil⟩|cons r es ih=>
  intro h;obtain⟨x,hx⟩:=h r dQ;obtain⟨l,h1,h2⟩:=ih λr hr=>h r (dG _ hr);refine⟨x::l,by simp[h1],λi y s q1 q2=>?_⟩;cases i with|zero=>simp at q1 q2;subst q1;subst q2;exact hx|succ i=>exact h2 i y s (by simpa using q1) (by simpa using q2)
def MV{tE tL:aE}(T:KH P tE tL):∀{t:aE} {cs:List AV} {d:DataW H},Has P t cs d->
 (t=tE->∃x,Row x cs)/\(t=tL->∃(tok:Tok) (sz:Nat) (rows:List (List AV)) (l:List Ex),cs=[.list tok sz rows]/\Rows l rows/\(∀i:Nat,i<l.length->sz=5)/\l.length<=9223372036854775807):=by
 intro t cs d h;obtain⟨fs,hE,Ng⟩:=FO T.fields;have hL:=T.slice
 induction h with
 |bool hu b=>exact⟨λq=>(by subst q;rw[hE] at hu;cases hu),λq=>(by subst q;rw[hL] at hu;cases hu)⟩
 |int hu n hn=>exact⟨λq=>(by subst q;rw[hE] at hu;cases hu),λq=>(by subst q;rw[hL] at hu;cases hu)⟩
 |str hu s hs=>exact⟨λq=>(by subst q;rw[hE] at hu;cases hu),λq=>(by subst q;rw[hL] at hu;cases hu)⟩
 |none hu=>refine⟨λq=>(by subst q;rw[hE] at hu;cases hu),λq=>?_⟩;exact⟨.nil,_,[],[],rfl,Rows.nil,λi hi=>absurd hi (ik i),cz _⟩
 |list hu k es ds sp hk hl hd he hs ih=>
  refine⟨λq=>(by subst q;rw[hE] at hu;cases hu),λq=>?_⟩;subst q;rw[hL] at hu;injection hu with hu;injection hu with hu;subst hu;obtain⟨l,hr⟩:=adp (es:=es) λr hr=>by obtain⟨i,hi,rfl⟩:=wN.1 hr;exact(ih i _ ds[i] (cv hi) (cv aj)).1 rfl
  refine⟨k,_,es,l,rfl,hr,λi _=>T.cE,?_⟩;have:=hr.1;simp[maxLen] at hl;omega
 |array hu xs ds hl hd he ih=>exact⟨λq=>(by subst q;rw[hE] at hu;cases hu),λq=>(by subst q;rw[hL] at hu;cases hu)⟩
 |struct hu xs ds hl hd hf ih=>
  refine⟨λq=>?_,λq=>(by subst q;rw[hL] at hu;cases hu)⟩;subst q;rw[hE] at hu;injection hu with hu;injection hu with hu;subst hu;rw[T.cE] at hl;obtain⟨a,b,c,e,g,rfl⟩:=On hl;have hn:fs.size=5:=by have:=congrArg qY Ng;simpa using this
  have get:∀(i:Nat) (u o:Nat),[(3,0),(3,1),(3,2),(9,3),(tL,4)][i]?=aa (u,o)->∃f dd,fs[i]?=aa f/\ds[i]?=aa dd/\f.type=u/\f.offset=o:=by
   intro i u o ho;rw[<-Ng,tF] at ho;cases hq:fs.toList[i]? with
   |none=>rw[hq] at ho;cases ho
   |some f=>rw[hq] at ho;simp only[cy,aY,aW] at ho;have hi:i<ds.length:=(by have:=(aF.1 hq).1;simp at this;omega);exact⟨f,ds[i],by rw[<-sd];exact hq,cv hi,ho.1,ho.2⟩
  obtain⟨f0,d0,e0,g0,t0,o0⟩:=get 0 3 0 rfl;obtain⟨f1,d1,e1,g1,t1,o1⟩:=get 1 3 1 rfl;obtain⟨f2,d2,e2,g2,t2,o2⟩:=get 2 3 2 rfl;obtain⟨f3,d3,e3,g3,t3,o3⟩:=get 3 9 3 rfl;obtain⟨f4,d4,e4,g4,t4,o4⟩:=get 4 tL 4 rfl;have q0:=hf 0 f0 d0 e0 g0;have q1:=hf 1 f1 d1 e1 g1;have q2:=hf 2 f2 d2 e2 g2;have q3:=hf 3 f3 d3 e3 g3;have q4:=(ih 4 f4 d4 e4 g4).2 t4;rw[t0,o0,T.c3] at q0;rw[t1,o1,T.c3] at q1;rw[t2,o2,T.c3] at q2;rw[t3,o3,T.c9] at q3;rw[t4,o4,T.cL] at q4;obtain⟨n0,r0,-⟩:=q0.vG T.int;obtain⟨n1,r1,-⟩:=q1.vG T.int;obtain⟨n2,r2,-⟩:=q2.vG T.int;obtain⟨s3,r3,-⟩:=q3.Ah T.str;obtain⟨tok,sz,rows,l,r4,w1,w2,w3⟩:=q4;simp at r0 r1 r2 r3 r4;subst r0;subst r1;subst r2;subst r3;subst r4;exact⟨.mk n0 n1 n2 s3 l,.mk n0 n1 n2 s3 l tok sz rows w1.1 w2 w3 w1.2⟩
end
end Go.Pol
end
