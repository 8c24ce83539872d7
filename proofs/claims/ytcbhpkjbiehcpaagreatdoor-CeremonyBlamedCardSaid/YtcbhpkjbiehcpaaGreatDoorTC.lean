/-
  The engine, part 55: what copy and slices.overlaps do at the machine, where the target is a block that nobody has frozen.
-/
import Derived.Test.YtcbhpkjbiehcpaaGreatDoorTB
import Derived.WalkKit
import Derived.Shelf.Spec.SlicesInsert
import Derived.Lib.AppendZerosOnto
import Derived.Laws.Externs
import Derived.Test.YtcbhpkjbiehcpaaGreatDoorTA
import Derived.KernelRfl
import Derived.Test.YtcbhpkjbiehcpaaGreatDoorChecked
open True renaming intro->ba
open Go renaming TypeId->aX,Value->a_,Program->bO,World->cC,FuncId->bk,Operand->b9
open Option renaming some->J,none->ao,some.injEq->eo,getD_some->rK,bind_some->qO
open Nat renaming min->nN,le_refl->aT,zero_add->oy,add_mul->jt,one_mul->xT,mul_pos->HV,mul_le_mul->lu,mul_le_mul_right->mn,min_eq_left->BO,lt_or_ge->dR,le_trans->ff,zero_le->ck,beq->iJ,eq_zero_or_pos->HR,eq_of_beq_eq_true->nM,not_lt_zero->qc,reduceEqDiff->aR,mod_two_eq_zero_or_one->HU,Coprime->nL,mod_lt->ml,le_of_lt->mJ,add_zero->BN,mul_mod->rJ,pow_mod->EJ,mul_assoc->MO,pow_two->aeh,pow_mul->EK,mul_one->nO,mod_eq_of_lt->mM,lt_trans->pS,pow_succ->zL,shiftLeft_eq->aek,shiftLeft_add_eq_or_of_lt->aej,lt_of_lt_of_le->mK,pow_le_pow_right->TJ,sub_self->tU,sub_zero->ael,le_of_ble_eq_true->kj,and_two_pow_sub_one_eq_mod->ad4,pow_pos->MP,lt_irrefl->EH
open List renaming length->F,length_drop->fL,length_take->dF,append_assoc->jq,take_append_of_le_length->HO,take_take->HP,take_left'->uS,length_append->db,getElem?_eq_some_iff->aU,getElem?_eq_getElem->aW,length_cons->eR,length_nil->gh,flatten_cons->mj,append_nil->g',mem_cons_self->gj,take_of_length_le->gm,drop_of_length_le->ot,all_append->rE,all_eq_true->e8,mem_of_mem_take->uR,getElem?_set->j',getElem?_take->qb,getElem?_drop->qM,eq_nil_of_length_eq_zero->adB,mem_append->uQ,mem_singleton->js,flatten_append->tR,getElem?_append_right->wg,drop_drop->rF,take_append_drop->wn,drop_zero->iI,take_length->gu,mem_cons_of_mem->gi,foldl_append->nJ,take_succ_eq_append_getElem->ad3,set_append_right->HM,set_eq_of_length_le->adY,ext_getElem?->ou,set_set->HN,take->MG,getD_eq_getElem?_getD->fc,replicate->bT,head?_drop->HL,getElem?_map->ek,length_map->bI,set_eq_take_append_cons_drop->xS,length_replicate->oY,getElem?_append_left->qL,replicate_succ->BM,set_cons_zero->Tw,nil_append->fE,map_replicate->wj,range->bE,range_succ->jH,zipWith->ED,take_succ_cons->fe,take_zero->eE,drop_succ_cons->xP,head?_cons->EB,map_drop->adM,mem_cons->gX,not_mem_nil->rI,getElem_map->rG,getElem_range->HK,drop_append_of_le_length->ady,drop_replicate->My,map_append->jr,map_cons->dK,drop_append->zG,mem_map->iW,cons_append->fw,length_set->ox,getElem?_toArray->je,getElem?_cons_zero->jF,getElem?_cons_succ->oX,mem_of_getElem?->dk,mem_flatten->adP,replicate_zero->adV,map_set->Ts,contains_eq_mem->wd,getElem?_set_self->MC,mem_or_eq_of_mem_set->wm,set_set_perm->adZ,getElem?_of_mem->sK,getElem?_concat_length->Ez
open Bool renaming true->aa,false->ar,and_eq_true->bR,true_and->pP,not_eq_true'->Hw
open Prod renaming mk.injEq->dw
open Int renaming toNat_natCast->eD,tmod_eq_emod_of_nonneg->HH,mul_nonneg->adi,mul_le_mul->adh,pow_succ->xN,mul_emod->zF,emod_emod_of_dvd->Es,dvd_refl->Er,pow_mul->Eu,pow_zero->Tj,one_mul->Mr,tdiv_eq_ediv_of_nonneg->adr,natCast_zero->uP,natCast_one->Th,natCast_mul->xM,fdiv_eq_ediv_of_nonneg->Mo,sub_zero->Tl
open Go.Proofs.Tryz renaming prog->af
open And renaming intro->au
set_option maxHeartbeats 64000000
set_option maxRecDepth 100000
set_option linter.unusedSimpArgs false
set_option linter.unusedVariables false
set_option linter.constructorNameAsVariable false
set_option linter.defProp false
section
namespace Go.AE
variable{b g j m n s:Nat}{T e:aX}{d:List I}{c:a_}{R:Rec}{h:am}{x:I}
section
variable {P:bO}
def IC{w:cC}{dT sT:aX}{i:TypeInfo}(A:P.underlying dT=J (.slice T))(hi:P.info? T=J i){o dl sl:Nat}{a:Addr}{cells:Array a_}{vs:List a_}
 (u:w.heap[g]?=J (.cells cells e (0,0))) (y:nN sl dl=m) (l:F vs=m*i.size) (c:∀j v,vs[j]?=J v->w.cell? (a.add j)=J v) (r:o+F vs<=cells.size) (q:∀v∈vs,nt v=aa):
 ∃w' dS,(∀ty d p,(Builtin.copy_ #[dT,sT] ty #[.slice (J ⟨g,o,ao⟩) dl d,.slice (J a) sl p]).run P w=.ok (goInt m) w')/\mi w w' g (.cells dS e (0,0))/\dS.toList=cells.toList.take o++vs++cells.toList.drop (o+F vs):=by
 obtain⟨w',dS,B,C,D⟩:=D' (P:=P) o e (0,0) vs 0 cells w u ag q λj _ _=>Cv j;refine⟨w',dS,λty d p=>?_,C,by rw[D];rfl⟩;have f:=run_loadCells_list (P:=P) w a vs c;rw[l]at f;simp[Builtin.copy_,run_underlying A,Builtin.lenOf,Builtin.firstCells,sizeOf,typeInfo,hi,y,f,B]
def aur(w:cC)(f Y e:aX)(L:P.underlying f=J (.slice e))(size:Nat)(N:∀w,(Go.sizeOf e).run P w=.ok size w)
 (a b:Addr) (g ca i R:Nat) (o:a.block≠b.block) (T X:aX) (d c:Nat) (D:w.shape? a.block=J (T,d)) (E:w.shape? b.block=J (X,c)) (A:d≠0) (B:c≠0) (m:∀j,w.frozen? ⟨b.block,j,ao⟩=ar) (l:b.spot=ao):
 (Extern.SlicesOverlaps.overlaps #[f,f] #[Y] #[.slice (J a) g ca,.slice (J b) i R]).run P w=.ok (.bool ar) w:=by
 have C:(a.block !=b.block)=aa:=by simpa using o
 have p:(a.block==b.block)=ar:=by simpa using o
 have r:w.frozen? b=ar:=by obtain⟨z0,Z,sp⟩:=b;simp only at l;subst l;exact m Z
 have u:w.frozen? {block:=b.block,off:=c}=ar:=m c;change Sem.run P (α:=a_) (do
  let J t := (#[f, f] : Array aX)[0]? | stuck "slices.overlaps: no parameter types"
  let .slice elem <- underlying t | stuck "slices.overlaps: slice type expected"
  let size <-sizeOf elem
  match (J a:Option Addr),(J b:Option Addr) with
  |some a,J b=>
   if g=0∨i=0∨size=0 then pure (Value.bool ar)
   else if a.block !=b.block&&(<-frozen a)&&(<-frozen b) then unsupported .addressObserved
   else do
    if a.block !=b.block then do
     noView a;noView b
     if <- mayBeOne a b then return Value.bool ((<- choose (.extern "sameAddr.stringBytes" 2)) == 1)
    pure (Value.bool (a.block==b.block&&a.off<b.off+i*size&&b.off<a.off+g*size))
  |_,_=>pure (Value.bool ar)) w=_
 by_cases q:g=0∨i=0∨size=0
 .simp[run_underlying L,N,q]
 .cases c with
  |zero=>exact absurd O B|succ c=>cases d with
  |zero=>exact absurd O A|succ d=>
   cases v:w.frozen? a<;>cases y:w.frozen? {block:=a.block,off:=d+1}<;>
   simp[run_underlying L,N,q,C,p,frozen,noView,viewAt,mayBeOne,stringish,shape,Sem.run,D,E,r,u,v,y]
def amC{α:Type}{L vs T c:List α}{a}(l:b+s<=F L)(m:a<=b)(j:F vs=s)(i:T=(L.take b).drop a)(d:c=L.take (a+s)++T++L.drop (a+s+F T)):
 (c.take a++vs++c.drop (a+s)).take (b+s)=L.take a++vs++T:=by
 have e:F T=b-a:=by rw[i,fL,dF];omega
 have f:c.take a=L.take a:=by rw[d,jq,HO (by rw[dF];omega),HP];congr 1;omega
 have g:c.drop (a+s)=T++L.drop (a+s+F T):=by rw[d,jq];exact List.drop_left' (by rw[dF];omega)
 rw[f,g,<-jq];exact uS (by simp only[db,dF,e,j];omega)
end
section
open Go.RowKit (Below)
def yK(z:Nat)(args:List I)(h:am):Option (I × am):=
 match args with
 | [.arr b d n f,.v (.int .i64 e),.ac _ s [row]]=>
  match h.V[b]? with
  |some c=>if d=0/\f=n/\0<n/\n<1000000/\0<=e/\e<=n/\s=z/\F c=n*z then
   J (.arr (F h.V) 0 (n+1) (n+1),(h.put b []).push (c.take (e.toNat*z)++row++c.drop (e.toNat*z))) else ao
  |none=>ao
 | [.ac k _ [],.v (.int .i64 0),.ac _ s [row]]=>if (k=.nil∨k=.aK)/\s=z then J (.arr (F h.V) 0 1 1,h.push row) else ao
 |_=>ao
structure Mn(P:bO)(f t:Nat)(E:aX)(z:Nat):Prop where
 body:∃fn,P.funcs[f]?=J fn/\fn.body.isSome=aa
 pos:0<z
 LN:P.underlying t=J (.slice E)
 inf:∃i,P.info? E=J i/\i.size=z/\i.bytes<=64/\∃v,i.zero=J v/\v.cells.size=z
 shift:∀(w:cC) (g n c i gv ov vc:Nat) (cells:Array a_) (e:aX) (_:w.heap[g]?=J (.cells cells e (0,0))) (_:i<n) (_:n+1<=c) (_:n<1000000) (_:c * z<=cells.size) (_:gv≠g) (vs:List a_) (_:vs.length=z) (_:∀j v,vs[j]?=J v->w.cell? ⟨gv,ov+j,ao⟩=J v) (_:∀v∈vs,nt v=aa) (_:∀v∈cells.toList.take (n * z),nt v=aa) (tA:aX) (kA:Nat) (_:w.shape? gv=J (tA,kA)),
  Calls P f #[.slice (J ⟨g,0,ao⟩) n c,.int .i64 i,.slice (J ⟨gv,ov,ao⟩) 1 vc] w λr w'=>r=.returned (.slice (J ⟨g,0,ao⟩) (n+1) c)/\
   ∃dS,mi w w' g (.cells dS e (0,0))/\dS.size=cells.size/\dS.toList.take ((n+1) * z)=cells.toList.take (i * z)++vs++(cells.toList.take (n * z)).drop (i * z)
 fin:∀(w w':cC) (base:Option Addr) (n c vc:Nat) (a:Addr) (vr:a_) (_:n<=c) (_:∀ty,(Builtin.append_ #[t,t] ty #[.slice base n c,.slice (J a) 1 vc]).run P w=.ok vr w'),
  Calls P f #[.slice base n c,.int .i64 n,.slice (J a) 1 vc] w λr w2=>r=.returned vr/\w2=w'
 grow:∀(w:cC) (g n c i gv ov vc:Nat) (cells:Array a_) (e:aX) (_:w.heap[g]?=J (.cells cells e (0,0))) (_:i<n) (_:n<=c) (_:c<n+1) (_:n<1000000) (_:n * z<=cells.size) (vs:List a_) (_:vs.length=z) (_:∀j v,vs[j]?=J v->w.cell? ⟨gv,ov+j,ao⟩=J v) (_:∀v∈vs,nt v=aa) (_:∀v∈cells.toList.take (n * z),nt v=aa),
  Calls P f #[.slice (J ⟨g,0,ao⟩) n c,.int .i64 i,.slice (J ⟨gv,ov,ao⟩) 1 vc] w λr w'=>∃c2 N c0 dS,r=.returned (.slice (J ⟨w.heap.size,0,ao⟩) (n+1) c2)/\n+1<=c2/\mi {w with drawn:=N,heap:=w.heap.push (.cells c0 E)} w' w.heap.size (.cells dS E (0,0))/\dS.size=c2 * z/\dS.toList.take ((n+1) * z)=cells.toList.take (i * z)++vs++(cells.toList.take (n * z)).drop (i * z)
section
variable {P:bO} {G:Nat->Option (List I)} {ok:bk->Nat->Code->Bool} {w0 w w':cC} {K:bj} {h:am} {z:Nat}
def bW.LW(s:bW K G ok w0 h w)(c:K.β[b]?=J g):g<w.heap.size:=by have d:=(aU.1 c).1;rw[s.jd]at d;obtain⟨-,-,-,cells,f,e,-⟩:=s.box b g _ c (aW d);exact qw e
def YQ(s:bW K G ok w0 h w){c2:Nat}{cells c0:Array a_}{B:aX}{Y:Nat × Nat}(C:K.base<=g)(v:∀j,K.ic g j=ao)(f:∀b:Nat,K.β[b]?=J g->h.V[b]?=J [])
 (o:∀t,alive h t=aa->(K.tk t).1≠g) (p:w.heap[g]?=J (.cells c0 B Y)) (c:mi w w' g (.cells cells e (0,0))) (E:0<z) (y:F d=(n+1)*z) (D:aN K d (cells.toList.take ((n+1)*z))) (q:d.all I.dm=aa) (u:n+1<=c2) (i:c2*z<=cells.size):
 ∃l,K.Le l/\aV l (.arr (F h.V) 0 (n+1) (n+1)) (.slice (J ⟨g,0,ao⟩) (n+1) c2)/\bW l G ok w0 (h.push d) w':=by
 obtain⟨X,r⟩:=s.acH (g:=g) (cs:=d) (cells:=cells) (e:=e) C v f o p (J (n+1,z,cells.size)) (λZ sz T A=>by injection A with A;injection A with L A;injection A with N R;subst L N R;exact .inr ⟨y,aT _⟩) c (by rw[y];exact D) q;refine⟨_,K.Bc _ _,.arr _ _ _ _ _ _ _ r (aT _) u (.inl O) (.inr (.inr (.inr ⟨z,cells.size,?_,E,i⟩))),X⟩;have m:F h.V=F K.β:=s.jd.symm;simp only[bj.nS,m,if_true]
def Zy{k:Tok}{row:List I}(p:aV K (.ac k s [row]) c):∃d e i vs,c=.slice (J ⟨d,e,ao⟩) 1 i/\F row=s/\aN K row vs/\(∀j v,vs[j]?=J v->K.ic d (e+j)=J v)/\row.all I.dm=aa:=by
 cases p with|ac _ _ _ d e r i vs l m g o q f=>simp only[eR,gh,oy]at l;subst l;simp only[mj,List.flatten_nil,g']at g f;exact⟨d,e,i,vs,O,m row gj,g,o,f⟩
def afg(o:aV K (.arr b 0 n n) c)(v:0<n):∃g d,c=.slice (J ⟨g,0,ao⟩) n d/\K.β[b]?=J g/\n<=d/\(d=n∨∃sz e,K.lb b=J (n,sz,e)/\0<sz/\d*sz<=e):=by
 cases o with
 |arr _ g _ _ _ f d q u i l m=>
  have j:f=0:=by rcases l with p|p<;>omega
  subst j;refine⟨g,d,O,q,i,?_⟩;rcases m with r|r|r|r
  .exact .inl r
  .omega
  .exact absurd O r
  .exact .inr r
def acK{d e f:I}{l:List a_}(o:aN K [d,e,f] l):∃c c2 g,l=[c,c2,g]/\aV K d c/\aV K e c2/\aV K f g:=by rcases o with _|⟨_,c0,_,_,j,_|⟨_,c,_,_,i,_|⟨_,c2,_,_,m,_|_⟩⟩⟩;exact⟨_,_,_,O,j,i,m⟩
def YP{f t:Nat}{E:aX}(o:Mn P f t E z)(z8:cC):mo P G z8 f (yK z):=by
 refine⟨o.body,λargs h x h' c K w i hv l=>?_⟩;obtain⟨X,XP,m,yx,v0,wS,hvz⟩:=o.inf;have A1:(X.zero.map λz=>z.cells.size)=J X.size:=by rw[wS,m];simp[hvz]
 unfold yK at c;split at c
 .rename_i b off n e g k s row;split at c
  .rename_i j B;split at c
   .rename_i hc;obtain⟨rfl,rfl,R,wN,O0,jW,rfl,r⟩:=hc;obtain⟨g,rfl⟩:=Int.eq_ofNat_of_zero_le O0;simp only[eo,dw]at c;obtain⟨rfl,rfl⟩:=c;have jW:g<=e:=(by omega);have hti:(g:Int).toNat=g:=eD g;rw[hti];obtain⟨i⟩:=i;obtain⟨c0,c1,c2,rfl,ha,CN,hr⟩:=acK hv;cases CN;have eg:=hr;have CF:=ha;obtain⟨v,ov,vc,vs,rfl,lT,T,PS,OJ⟩:=Zy hr;obtain⟨z2,z1,rfl,hb,qo,qs⟩:=afg ha R;have rg:F vs=s:=(by rw[<-T.length,lT]);have vt:=zR T OJ;have PU:∀z4 z0,vs[z4]?=J z0->w.cell? ⟨v,ov+z4,ao⟩=J z0:=λz4 z0 hj=>l.ic _ _ _ (PS z4 z0 hj);have ak1:(e+1)*s=e * s+s:=(by rw[jt,xT]);obtain⟨k1,k2,ka,cells,z6,k3,k4⟩:=l.box b z2 j hb B;have fH:j≠[]:=λz3=>(by subst z3;have:=HV R o.pos;simp only[gh]at r;omega);have Xo:=(aU.1 B).1;have L:=l.VP b;have N:F (h.put b []).V=F h.V:=(by simp[am.put]);have C:=k4.1;have mU:=k4.le;rw[r]at C mU;have vq:∀z0∈cells.toList.take (e * s),nt z0=aa:=zR C ka;have hgv:v≠z2:=λz3=>(by subst z3;have Y:=o.pos;have:=PS 0 _ (aW ag);rw[k2]at this;cases this);by_cases AD:g=e
    .subst AD;have PN:=Hk (P:=P) (t0:=t) (t1:=t) (h:=h) (b:=b) (len:=g) (cs:=j) (new:=[row]) (i:=X) (x:=.ac k s [row]) o.LN o.LN XP (by rw[m];exact o.pos) A1 cB (by have:=lu (show g+F [row]<=1000001 by simp;omega) yx;omega) (by simp;omega) B R (by rw[m];exact r.symm) (by rw[m];exact Ds);obtain⟨u,z0,w',le,A,d,y⟩:=SK (P:=P) (ty:=0) l PN CF eg;have alM:∀ty,(Builtin.append_ #[t,t] ty #[.slice (J ⟨z2,0,ao⟩) g z1,.slice (J ⟨v,ov,ao⟩) 1 vc]).run P w=.ok z0 w':=λty=>y;refine Calls.mono (o.fin w w' _ g z1 vc _ z0 qo alM) ?_;rintro z5 w2 ⟨rfl,rfl⟩;refine⟨z0,u,O,le,d,?_⟩;rw[gm ag,ot ag,g'];simpa using A
    .have fG:g<e:=(by omega);have XQ:F (j.take (g*s)++row++j.drop (g*s))=(e+1)*s:=(by have:=mn s jW;simp only[db,dF,fL,lT,r];omega);have wK:(j.take (g*s)++row++j.drop (g*s)).all I.dm=aa:=(by rw[rE,rE,OJ];simp only[bR,e8]at ka ⊢;exact⟨⟨λx c=>ka x (uR c),ba⟩,λx c=>ka x (List.mem_of_mem_drop c)⟩);have Yq:aN K (j.take (g*s)++row++j.drop (g*s)) (cells.toList.take (g*s)++vs++(cells.toList.take (e * s)).drop (g*s)):=by
      refine((?_:aN K (j.take (g*s)) (cells.toList.take (g*s))).append T).append (C.drop _);have:=C.take (g*s)
      rwa [HP,BO (mn s jW)]at this
     rcases dR z1 (e+1) with q|q
     .refine Calls.mono (o.grow w z2 e z1 g v ov vc cells z6 k3 fG qo q wN mU vs rg PU vt vq) ?_;rintro z5 w2 ⟨c2,z7,c0,dS,rfl,q1,q2,q3,q4⟩;have s1:=(L.drew z7).push (.cells c0 E);obtain⟨u,le,d,A⟩:=YQ (h:=h.put b []) (z:=s) (n:=e) (c2:=c2) s1 (g:=w.heap.size) l.size (λz4=>by
       cases hq:K.ic w.heap.size z4 with
       |none=>rfl|some z1=>have:=l.w7 hq;omega) (λb2 mT=>by have:=l.LW mT;omega) (λt Z hq=>by obtain⟨-,-,-,z1,z6,z,z3,-⟩:=l.tok t Z;have:=qw z3;omega) (by show(w.heap.push _)[w.heap.size]?=_;rw[Array.getElem?_push,aC O]) q2 o.pos XQ (by rw[q4];exact Yq) wK q1 (by rw[q3];exact aT _)
      rw[N]at d;exact⟨_,u,O,le,d,A⟩
     .rcases qs with z5|⟨sz,room,r1,r2,r3⟩
      .omega
      .rcases k4.2 _ _ _ r1 with z3|⟨q1,q2⟩
       .exact absurd z3 fH
       .have ga:s=sz:=Nat.eq_of_mul_eq_mul_left R (r.symm.trans q1);subst ga;have OQ:z1*s<=cells.size:=ff r3 q2;have Y:=PU 0 _ (aW (by have:=o.pos;omega));obtain⟨tA,kA,AW⟩:∃tA kA,w.shape? v=J (tA,kA):=by
         unfold World.cell? at Y;unfold World.shape?;split at Y
         .rename_i D;rw[D];exact⟨_,_,O⟩
         .cases Y
        refine Calls.mono (o.shift w z2 e z1 g v ov vc cells z6 k3 fG q wN OQ hgv vs rg PU vt vq tA kA AW) ?_;rintro z5 w2 ⟨rfl,dS,p1,p2,p3⟩;obtain⟨u,le,d,A⟩:=YQ (h:=h.put b []) (z:=s) (n:=e) (c2:=z1) L (g:=z2) k1 k2 (λb2 mT=>by
         show(h.V.set b [])[b2]?=J [];rw[j'];by_cases jO:b=b2
         .subst jO;rw[aC O,aC Xo]
         .rw[aL jO];rcases l.oq _ _ _ hb mT with p|p|p
          .exact absurd p jO
          .rw[B]at p;injection p with p;exact absurd p fH
          .exact p) (λt Z hq=>by
         obtain⟨_,z3,_⟩:=l.tok t Z;exact z3 b (by rw[hq];exact hb)) k3 p1 o.pos XQ (by rw[p3];exact Yq) wK q (by rw[p2];exact OQ)
        rw[N]at d;exact⟨_,u,O,le,d,A⟩
   .cases c
  .cases c
 .rename_i k s0 k2 s row;split at c
  .rename_i hc;obtain⟨hk,rfl⟩:=hc;simp only[eo,dw]at c;obtain⟨rfl,rfl⟩:=c;obtain⟨i⟩:=i;obtain⟨c0,c1,c2,rfl,ha,CN,hr⟩:=acK hv;cases CN;have eg:=hr;obtain⟨v,ov,vc,vs,rfl,lT,T,PS,OJ⟩:=Zy hr;have PN:=Bt (P:=P) (t0:=t) (t1:=t) (h:=h) (k:=k) (sz:=s0) (es:=[]) (new:=[row]) (i:=X) (x:=.ac k2 s [row]) o.LN o.LN XP (by rw[m];exact o.pos) A1 cB (by simp;omega) cB (.inr O) hk (by rw[m];exact Ds);obtain⟨z1,rfl⟩:∃b,c0=.slice b 0 0:=by
    cases ha with
    |nil=>exact⟨_,O⟩|gI=>exact⟨_,O⟩|ac _ _ _ z2 off z9 aY cells hn th d OG Z yq=>
     have Y:z9=0:=(by simpa using hn);subst Y;rcases hk with rfl|rfl
     .exact Z.2.elim
     .have:=Z.2;simp only at this;subst this;exact⟨_,O⟩
   obtain⟨u,z0,w',le,A,d,y⟩:=SK (P:=P) (ty:=0) l PN ha eg;refine Calls.mono (o.fin w w' z1 0 0 vc _ z0 (aT _) λty=>y) ?_;rintro z5 w2 ⟨rfl,rfl⟩;exact⟨z0,u,O,le,d,by simpa using A⟩
  .cases c
 .cases c
end
end
section
open Go
def Code.tl:Nat->Code->Code
 |n+1,.seq _ b=>Code.tl n b
 |_,c=>c
def Code.pI:Nat->Code->Code->Code
 |n+1,.seq a c,b=>.seq a (Code.pI n c b)
 |0,_,b=>b
 |_,c,_=>c
def arK:∀(n:Nat) (c:Code),Code.pI n c (Code.tl n c)=c:=by
 intro n
 induction n with
 |zero=>intro c;cases c<;>rfl
 |succ n d=>intro c;cases c<;>first|rfl|(simp only[Code.pI,Code.tl,d])
def D_(n){c}{e}{Q}(g:Env->am->Prop)(d:∀b,(∀e h,g e h->bJ R b e h Q)->bJ R (Code.pI n c b) e h Q)(f:∀e h,g e h->bJ R (Code.tl n c) e h Q):bJ R c e h Q:=by
 have:=d _ f
 rwa [arK]at this
end
section
open Go.RowKit (Below)
mutual
def og:I->Bool
 | .v _=>aa
 | .agg c=>yZ c
 | .tuple c=>yZ c
 | .ac .nil _ []=>aa
 |_=>ar
def yZ:List I->Bool
 | []=>aa
 |x::c=>og x&&yZ c
end
def rN(z:Nat)(h:am):I->Bool
 | .arr b c len _=>match h.V[b]? with
  |some d=>decide (c+len*z<=F d)&&decide (0<z)&&yZ ((d.drop c).take (len*z))|none=>ar
 | .ac (.free t) _ e=>alive h t&&yZ e.flatten
 |x=>og x
def zS(z:Nat)(h:am):I->I
 | .arr b c len _=>match h.V[b]? with
  |some d=>.ac .held z (oR z d c len)
  |none=>.bad
 | .ac (.free _) sz e=>.ac .held sz e
 |x=>x
section
variable {P:bO} {G:Nat->Option (List I)} {ok:bk->Nat->Code->Bool} {w0 w w':cC} {K K1 K2:bj} {h h2:am} {z:Nat}
mutual
def aV.plain:∀{x:I} {c:a_},aV K1 x c->og x=aa->aV K2 x c
 |_,_,.bad c,_=>.bad c
 |_,_,.v x m,_=>.v x m
 |_,_,.nil sz,_=>.nil sz
 |_,_,.gI sz a,_=>.gI sz a
 |_,_,.ac k sz p i d Z f cells N l e u y q,h=>by
  cases k with|nil=>exact y.2.elim|aK=>simp[og]at h|free X=>simp[og]at h|held=>simp[og]at h
 |_,_,.arr b i d len f A o r v B R l,h=>by simp[og]at h
 |_,_,.agg j g e,h=>.agg _ g (aN.plain e (by simpa only[og] using h))
 |_,_,.tuple j g e,h=>.tuple _ g (aN.plain e (by simpa only[og] using h))
 |_,_,.box b i d r,h=>by simp[og]at h
 |_,_,.dU i d,h=>.dU i d
 |_,_,.elem sz p X d i z0 z1 cells l e u L T q,h=>by simp[og]at h
 |_,_,.func C first f D j E h2,h=>by simp[og]at h
 |_,_,.yield Y i v,h=>by simp[og]at h
 |_,_,.iface t x c m,h=>by simp[og]at h
def aN.plain:∀{xs:List I} {cs:List a_},aN K1 xs cs->yZ xs=aa->aN K2 xs cs
 |_,_,.nil,_=>.nil
 |_,_,.cons x e xs cs d c,h=>by simp only[yZ,bR]at h;exact .cons _ e _ cs (aV.plain d h.1) (aN.plain c h.2)
end
def aV.BW(D:bW K1 G ok w h2 w')(o:∀g j c,K1.base<=g->w'.cell? ⟨g,j,ao⟩=J c->K2.ic g j=J c)(f:aV K1 x c)(h:rN z h2 x=aa):aV K2 (zS z h2 x) c:=by
 cases f with
 |arr b g e len l d m L hl qo ho q=>
  simp only[rN,zS]at h ⊢;cases r:h2.V[b]? with
  |none=>simp_all|some i=>
   rw[r]at h;simp only[bR,decide_eq_true_eq]at h ⊢;obtain⟨⟨R,hz⟩,Z⟩:=h;obtain⟨q1,q2,q3,cells,z2,q4,Y⟩:=D.box b g i L r;have O':=Y.le;by_cases h0:l=0
   .have:len=0:=(by omega);subst this;exact .ac .held z [] g d 0 m [] O (λ_ h=>by cases h) .nil (λ_ _ h=>by grind) ⟨ck _,ba⟩ O
   .have B:d=e:=(by simp_all);subst B;have f:aN K1 ((i.drop d).take (len*z)) (((cells.toList.take (F i)).drop d).take (len*z)):=(Y.1.drop d).take (len*z);refine .ac .held z _ g d len m (((cells.toList.take (F i)).drop d).take (len*z)) (by rw[RA]) (RB R) ?_ (λj c p=>?_) ⟨ag,ba⟩ ?_
    .rw[xj];exact aN.plain f Z
    .refine o _ _ _ q1 ?_;have N:j<len*z:=(by have:=(aU.1 p).1;rw[dF]at this;omega);rw[qb,aC N,qM,qb,aC ag]at p;rw[cell_of q4];simp_all
    .rw[xj]
     grind
 |bad c=>exact .bad c|v _ X=>exact .v _ X|nil sz=>exact .nil sz|gI sz a=>exact .gI sz a|ac k sz u g e z0 l cells T q f A C y=>
  cases k with|free t=>simp only[rN,zS,bR]at h ⊢;have z1:=(D.tok t h.1).1;rw[C.2.2.1]at z1;exact .ac .held sz u g e z0 l cells T q (aN.plain f h.2) (λj c p=>o _ _ _ z1 (D.ic _ _ _ (A j c p))) ⟨C.1,ba⟩ y|_=>exact aV.plain (.ac _ sz u g e z0 l cells T q f A C y) h
 |agg i E f=>exact aV.plain (.agg i E f) h|tuple i E f=>exact aV.plain (.tuple i E f) h|box b g e L=>simp[rN,og]at h|dU g e=>exact .dU g e|elem sz u z3 e g z5 z6 cells q f A hi hp y=>simp[rN,og]at h|func fn first l fs i h1 h2=>simp[rN,og]at h
 |yield z4 g hl=>simp[rN,og]at h|iface t x c X=>simp[rN,og]at h
def aN.BW(e:bW K1 G ok w h2 w')(d:∀g j c,K1.base<=g->w'.cell? ⟨g,j,ao⟩=J c->K2.ic g j=J c):∀{xs:List I} {cs:List a_},aN K1 xs cs->xs.all (rN z h2)=aa->aN K2 (xs.map (zS z h2)) cs
 |_,_,.nil,_=>.nil
 |_,_,.cons x c xs cs i f,h=>by rw[List.all_cons,bR]at h;exact .cons _ c _ cs (aV.BW e d i h.1) (aN.BW e d f h.2)
def Cw(z:Nat)(R:Rec)(g:bk)(args:List I)(h:am):Option (I × am):=
 if aJ 0 0 0 (iM z h args)=aa then
  match R.call g (iM z h args) ⟨[],[],0,[]⟩ with
  |some (.ret (.tuple c),h2)=>if c.all (rN z h2)=aa then J (.tuple (c.map (zS z h2)),h) else ao
  |_=>ao
 else ao
def Wm{aO:bk->Option (List I->am->Option (I × am))}(T:Prog P)(E:∀g cs,G g=J cs->aJ 0 0 0 cs=aa)(d:∀B g p,aO g=J p->mo P G B g p){g:bk}(l:∃fn,P.funcs[g]?=J fn/\fn.body.isSome=aa)(B:cC):
 mo P G B g (Cw z (whole P G aO) g):=by
 refine⟨l,λC h x h' c K w f X e cs=>?_⟩;unfold Cw at c;split at c
 .rename_i R;split at c
  .rename_i ys h2 i;split at c
   .rename_i L;injection c with c;injection c with v y;subst v;subst y;obtain⟨-,j⟩:=(LQ T (d w)).call g _ _ _ _ i;have Y:=bW.still e E;obtain⟨K1,w',D,le,A,r,m,z1,u,q⟩:=j (K.still w) w f (aN.mz e X R) Y cs;have N:Below w.heap.size w w':=(by have:=A.fM;rwa [le.base]at this);refine⟨.returned z1,w',D,⟨z1,_,O,bj.J8 e,?_,bW.oT e N⟩,r,m,q⟩;cases u with|tuple _ Z z0=>refine .tuple _ Z (aN.BW (K2:=K.oT w.heap.size w') A (λg z3 z2 o i=>?_) z0 L);have z0:w.heap.size<=g:=(by rw[le.base]at o;exact o);simp only[bj.oT,aL (ag:¬g<w.heap.size)];exact i
   grind
  grind
 grind
def Wl{L:List bk}{Z:bk->Nat}{q:bk->Option (List I->am->Option (I × am))}{g:bk}{R0:Rec}{args A zs:List I}{h c:am}(p:L.contains g=ar)(o:Z g=0)(l:q g=J (Cw z R0 g))(f:iM z h args=A)(j:aJ 0 0 0 A=aa)(i:R0.call g A ⟨[],[],0,[]⟩=J (.ret (.tuple d),c))(m:d.all (rN z c)=aa)(e:d.map (zS z c)=zs):
 (whole P G (nu R L Z q)).call g args h=J (.ret (.tuple zs),h):=by
 subst f;subst e;rw[tO];unfold mA nu;rw[aL (by simp_all),o];simp only[l,Cw,aC j,i,aC m];rfl
end
end
section
open Go.RowKit Go.WideShapes Go.ChangeShapes
def Gm(P:bO)(S:List aX)(t:aX):Bool:=
 match P.underlying t with
 |some .bool|some (.int _)|some .string=>aa
 |some (.slice c)=>S.contains c&&decide (0<P.cellsOf c)
 |some (.struct d)=>Bu P 0 d.toList (P.cellsOf t)&&d.toList.all λe=>S.contains e.type
 |some (.array f c)=>iJ (P.cellsOf t) (f*P.cellsOf c)&&S.contains c
 |_=>ar
def Kh(P:bO)(S:List aX):Bool:=S.all (Gm P S)
section
variable {H:Type} {Y:aX × a_->H} {P:bO} {W:cC}
def axa{S:List aX}(hS:Kh P S=aa):∀(fuel:Nat) (t:aX) (cs:List a_) (x:DataW H × List MemPlace),DataW.trod Y P W 0 (λ_=>aa) aa fuel t cs=J x->S.contains t=aa->
 ∃xs,aN (bj.init W) xs cs/\xs.all I.dm=aa/\Has P t xs x.1:=by
 intro fuel
 induction fuel with
 |zero=>intro t cs x h;simp[DataW.trod]at h|succ fuel ih=>
  intro t cs x h jW;have j:Gm P S t=aa:=e8.1 hS t (by simp_all);unfold Gm at j;split at j
  .rename_i d;obtain⟨b,rfl,rfl⟩:=DataW.trod_bool d h;exact⟨_,.cons _ _ _ _ (.v _ O) .nil,O,.bool d b⟩
  .rename_i k d;obtain⟨z0,rfl,rfl,hw⟩:=DataW.trod_int d h;exact⟨_,.cons _ _ _ _ (.v _ O) .nil,O,.int d z0 hw⟩
  .rename_i d;obtain⟨s,rfl,rfl,hs⟩:=DataW.trod_string d h;exact⟨_,.cons _ _ _ _ (.v _ O) .nil,O,.str d s hs⟩
  .rename_i l d;rw[bR,decide_eq_true_eq]at j;obtain⟨azu,Yk⟩:=j;rcases DataW.trod_slice d h with⟨rfl,rfl⟩|⟨a,len,aY,i,y,z0,hm,rfl,rfl,-,O_,OL,Jg,ak8,alS,-⟩
   .exact⟨_,.cons _ _ _ _ (.nil _) .nil,O,.none d⟩
   .have hm:z0=fuel:=(by omega);subst hm;obtain⟨lT,alH⟩:=alS O;have Z:∀e,e<len->∃r f B,W.cells? 0 (a.add (e*P.cellsOf l)) (P.cellsOf l)=J r/\i[e]?=J B/\aN (bj.init W) f r/\f.all I.dm=aa/\Has P l f B.1:=by
     intro e hi;have h1:=ak8 e hi;rw[aW (by omega:e<F i)]at h1;cases hc:W.cells? 0 (a.add (e*P.cellsOf l)) (P.cellsOf l) with
     |none=>simp_all|some r=>
      grind
    by_cases Xs:aY=0
    .have u:len=0:=(by omega);subst Xs;subst u;have he:i=[]:=adB Jg;subst he;refine⟨[.ac .aK (P.cellsOf l) []],.cons _ _ _ _ (.gI _ _) .nil,O,?_⟩;show Has P t _ (.slice [] (y.map (·.1)));exact .ac d .aK [] [] (y.map (·.1)) (.inr ⟨O,O⟩) (ck _) O cB cB
    .-- the block is there
     have N:a.spot=ao:=by
      have:∃r,W.cells? 0 (a.add 0) (P.cellsOf l)=J r:=by
       rcases HR len with h0|h0
       .have h1:=alH 0 ag;rw[aW (by omega:0<F y)]at h1;cases hc:W.cells? 0 (a.add ((len+0)*P.cellsOf l)) (P.cellsOf l) with|none=>simp_all|some r=>simp_all
       .grind
      obtain⟨r,jx⟩:=this;obtain⟨hl,hg⟩:=Vc jx;have h0:=hg 0 Yk;rw[aW (by omega:0<F r)]at h0;have:(a.add 0).add 0=a:=(by simp[Addr.add]);rw[this]at h0;exact avC h0
     obtain⟨z4,c,sp⟩:=a;simp only at N;subst N;have U:∀k,k<=len->∃o:List (List I),F o=k/\(∀f∈o,F f=P.cellsOf l/\f.all I.dm=aa)/\(∀(e:Nat) (f:List I) (z1:DataW H),o[e]?=J f->(i.map (·.1))[e]?=J z1->Has P l f z1)/\
      ∃cells:List a_,F cells=k*P.cellsOf l/\aN (bj.init W) o.flatten cells/\∀(v:Nat) (z3:a_),cells[v]?=J z3->W.cell? ⟨z4,c+v,ao⟩=J z3:=by
      intro k
      induction k with
      |zero=>intro _;exact⟨[],O,by simp,by simp,[],by simp,.nil,by simp⟩|succ k ihk=>
       intro hk;obtain⟨o,e1,e2,e3,cells,c1,c2,c3⟩:=ihk ag;obtain⟨r,f,B,hc,E,p,g2,g3⟩:=Z k ag;obtain⟨rg,hvg⟩:=Vc hc;refine⟨o++[f],by grind,λr' th=>?_,λe r' z1 hi hd=>?_,cells++r,by grind,?_,λv z3 L=>?_⟩
       .rcases uQ.1 th with h1|h1
        .grind
        .simp only[js]at h1;subst h1;exact⟨by rw[p.length,rg],g2⟩
       .grind
       .rw[tR];simpa using c2.append p
       .rcases dR v (F cells) with h1|h1
        .grind
        .rw[wg h1]at L;have ue:v-F cells<P.cellsOf l:=(by have:=(aU.1 L).1;omega);have h2:=hvg _ ue;rw[L,Addr.jg,Addr.jg]at h2
         grind
     obtain⟨o,e1,e2,e3,cells,c1,c2,c3⟩:=U len (aT _);have C:o.flatten.all I.dm=aa:=(by rw[List.all_flatten];simp only[e8];intro f R;have:=(e2 f R).2;simpa using this);refine⟨[.ac .held (P.cellsOf l) o],.cons _ _ _ _ (.ac .held (P.cellsOf l) o z4 c len aY cells e1.symm (λf R=>(e2 f R).1) c2 c3 ⟨O_,ba⟩ C) .nil,O,?_⟩;exact .ac d .held o (i.map (·.1)) (y.map (·.1)) (.inl O) ag (by simp_all) e3 (λf R=>(e2 f R).1)
  .rename_i fs d;rw[bR,e8]at j;obtain⟨alX,C⟩:=j;obtain⟨A,z0,hm,rfl,q,F9,ud⟩:=DataW.trod_struct d h;have hm:z0=fuel:=(by omega);subst hm;have fld:∀(e:Nat) (g:Field),fs[e]?=J g->∃f B,A[e]?=J B/\aN (bj.init W) f ((cs.drop g.offset).take (P.cellsOf g.type))/\f.all I.dm=aa/\Has P g.type f B.1:=by
    intro e g hf;have h1:=ud e g hf;have dx:e<F A:=(by rw[F9];exact(Array.getElem?_eq_some_iff.1 hf).1);rw[aW dx]at h1;obtain⟨f,p,g2,g3⟩:=ih g.type _ _ h1 (C g (by
     grind))
    exact⟨f,_,aW dx,p,g2,g3⟩
   have build:∀(X:List Field) (e c:Nat),(∀v g,X[v]?=J g->fs[e+v]?=J g)->Bu P c X (P.cellsOf t)=aa->c<=F cs->
    ∃xs,aN (bj.init W) xs (cs.drop c)/\xs.all I.dm=aa/\∀v g,X[v]?=J g->c<=g.offset/\∃f B,A[e+v]?=J B/\(xs.drop (g.offset-c)).take (P.cellsOf g.type)=f/\Has P g.type f B.1:=by
    intro X
    induction X with
    |nil=>intro e c _ T _;have AL:c=P.cellsOf t:=nM T;refine⟨[],?_,O,λv g L=>by grind⟩;rw[AL,<-q,List.drop_length];exact .nil|cons g X ihl=>
     intro e c hl T mU;rw[Bu,bR]at T;have ho:g.offset=c:=nM T.1;obtain⟨f,B,E,p,g2,g3⟩:=fld e g (by simpa using hl 0 g O);have alm:c+P.cellsOf g.type<=F cs:=by
      rw[q];have:∀(X:List Field) (z2:Nat),Bu P z2 X (P.cellsOf t)=aa->z2<=P.cellsOf t:=by
       intro X
       induction X with
       |nil=>intro z2 h;exact Nat.le_of_eq (nM h)|cons g X ih=>intro z2 h;rw[Bu,bR]at h;grind
      exact this X _ T.2
     obtain⟨xs,m,x2,x3⟩:=ihl (e+1) (c+P.cellsOf g.type) (λv f' L=>by
      have:=hl (v+1) f' (by simp_all)
      grind) T.2 alm
     rw[ho]at p;have lT:F f=P.cellsOf g.type:=(by rw[p.length];simp;omega);refine⟨f++xs,?_,by simp_all,λv f' L=>?_⟩
     .have:=p.append m;rw[<-rF,wn]at this;omega
     .cases v with|zero=>simp_all|succ v=>obtain⟨po,r',y',hy',th,D⟩:=x3 v f' (by simp_all);refine⟨ag,r',y',by grind,?_,D⟩;rw[show f'.offset-c=F f+(f'.offset-(c+P.cellsOf g.type)) by omega,<-rF,List.drop_left];omega
   obtain⟨xs,m,x2,x3⟩:=build fs.toList 0 0 (λv g L=>by simp_all) alX (ck _);rw[iI]at m;refine⟨xs,m,x2,.struct d xs (A.map (·.1)) (by rw[m.length,q]) (by grind) λe g z1 hf hd=>?_⟩;obtain⟨-,f,B,E,R,D⟩:=x3 e g (by simp_all)
   grind
  .rename_i z0 l d;rw[bR]at j;have ga:P.cellsOf t=z0*P.cellsOf l:=nM j.1;obtain⟨A,fu,XK,rfl,q,F9,ud⟩:=DataW.trod_array d h;have XK:fu=fuel:=(by omega);subst XK;have U:∀k,k<=z0->∃xs,aN (bj.init W) xs (cs.take (k*P.cellsOf l))/\xs.all I.dm=aa/\∀e,e<k->∃B,A[e]?=J B/\Has P l ((xs.drop (e*P.cellsOf l)).take (P.cellsOf l)) B.1:=by
    intro k
    induction k with
    |zero=>intro _;exact⟨[],by simp;exact .nil,O,λe hi=>absurd hi (qc e)⟩
    |succ k ihk=>
     intro hk;obtain⟨xs,m,x2,x3⟩:=ihk ag;have h1:=ud k ag;rw[aW (by omega:k<F A)]at h1;obtain⟨f,p,g2,g3⟩:=ih l _ _ h1 j.2;have u:(k+1)*P.cellsOf l<=F cs:=(by rw[q,ga];exact mn _ hk);have gH:F xs=k*P.cellsOf l:=(by rw[m.length,dF];rw[jt]at u;omega);have lT:F f=P.cellsOf l:=(by rw[p.length];simp;rw[jt]at u;omega);refine⟨xs++f,?_,by simp_all,λe hi=>?_⟩
     .have:=m.append p
      rwa [<-List.take_add,<-Nat.succ_mul]at this
     .rcases dR e k with h2|h2
      .obtain⟨B,E,D⟩:=x3 e h2;refine⟨B,E,?_⟩;have h3:(e+1)*P.cellsOf l<=k*P.cellsOf l:=mn _ h2
       grind
      grind
   obtain⟨xs,m,x2,x3⟩:=U z0 (aT _);rw[<-ga,<-q,gu]at m;refine⟨xs,m,x2,.array d xs (A.map (·.1)) (by rw[m.length,q]) (by grind) λe z1 hd=>?_⟩
   grind
  simp_all
def ZT40{p:Prop}(h:p:=by
 rename_i e;rw[e]at c;simp only[Cell.okWide,Cell.ok,e]at c;cases v<;>simp at c;exact f _ O O (by simp_all) (by simp_all)):p:=h
def afb{S:List aX}(o:Kh P S=aa){t:aX}{v:a_}{d:DataW H}{p:List MemPlace}(h:DataW.Trod Y P W 0 (λ_=>aa) aa t v d p)(c:Value.okWide P W .any j t v)(q:S.contains t=aa):
 ∃x,aV (bj.init W) x v/\lq P t x d:=by
 obtain⟨m,C⟩:=h;obtain⟨u,g,h2,X⟩:=axa o m t _ _ C q;have f:∀y,v.cells.toList=[y]->v=y->(∀l,P.underlying t≠J (.struct l))->(∀R A,P.underlying t≠J (.array R A))->∃x,aV (bj.init W) x v/\lq P t x d:=by
  intro y B r N L;rw[B]at g;cases g with|cons x _ _ _ E D=>cases D;refine⟨x,r ▸ E,?_⟩;unfold lq;simp_all
 have i:Gm P S t=aa:=e8.1 o t (by simp_all);unfold Gm at i;unfold Value.okWide at c;split at i
 .exact ZT40
 .rename_i k e;rw[e]at c;simp only[Cell.okWide,Cell.ok,e]at c;cases v<;>simp at c;exact f _ O O (by simp_all) (by simp_all)
 .exact ZT40
 .rename_i A e;rw[e]at c;simp only[Cell.okWide,Cell.ok,e]at c;cases v<;>simp at c;exact f _ O O (by simp_all) (by simp_all)
 .rename_i T e;rw[e]at c;obtain⟨l,rfl,-,-⟩:=c;exact⟨.agg u,.agg _ _ g,by unfold lq;simp_all⟩
 .rename_i R A e;rw[e]at c;obtain⟨l,rfl,-,-⟩:=c;exact⟨.agg u,.agg _ _ g,by unfold lq;simp_all⟩
 simp_all
def afe{S:List aX}(r:Kh P S=aa){e:Nat}:∀{ts:List aX} {vs:List a_} {c:List (DataW H)} {p:List MemPlace},DataW.TrodAll Y P W 0 (λ_=>aa) aa ts vs c p->
 (∀(j:Nat) t v,ts[j]?=J t->vs[j]?=J v->Value.okWide P W .any e t v)->(∀t∈ts,S.contains t=aa)->∃xs,aN (bj.init W) xs vs/\sJ P ts xs c:=by
 intro ts
 induction ts with
 |nil=>intro vs c p h _ _;obtain⟨rfl,rfl,rfl⟩:=trodAll_nil h;exact⟨[],.nil,ba⟩
 |cons t ts u=>intro vs c p h g d;obtain⟨v,B,E,y,C,D,rfl,rfl,rfl,q,h2⟩:=trodAll_cons h;obtain⟨x,i,l⟩:=afb r q (g 0 t v O O) (d t gj);obtain⟨xs,m,o⟩:=u h2 (λj t v f A=>g (j+1) t v (by simp_all) (by simp_all)) (λt f=>d t (gi _ f));exact⟨x::xs,.cons _ _ _ _ i m,l,o⟩
structure Tn(P:bO)(S:List aX)(f:bk)(fn:Func)(tb:aX):Prop where
 func:P.funcs[f]?=J fn
 laid:laidOutB P=aa
 set:Kh P S=aa
 SP:∀t∈fn.params.toList,S.contains t=aa/\P.readableRec t=aa/\t<P.types.size
 res:fn.resultTypes=#[tb]
 bool:P.underlying tb=J .bool
variable {G:Nat->Option (List I)} {aO:bk->Option (List I->am->Option (I × am))}
def ank{S:List aX}(hp:Prog P){f:bk}{fn:Func}(D:Tn P S f fn e){s:ChangeSpec}{apart fresh m u:Bool}{L:Nat}{args:Array a_}{d gs:List (DataW H)}{i:List MemPlace}
 (l:s.vars=[]) (B:∀d:List (DataW H),F d=fn.params.size->(s.fn H d).results=[.lit (.bool aa)]/\(s.fn H d).args=d/\(s.fn H d).vars=[])
 (X:∀(j:Nat) t v,fn.params[j]?=J t->args[j]?=J v->Value.okWide P W .any L t v)
 (hW:DataW.Whole Y P fn.params.toList s.vars apart W args.toList d gs i)
 (hG:∀g cs,G g=J cs->∃cells,aN (bj.init W) cs cells/\∀(j:Nat) (c:a_),cells[j]?=J c->W.cell? ⟨g,j,ao⟩=J c)
 (A:∀g p,aO g=J p->mo P G W g p)
 (N:∀xs:List I,sJ P fn.params.toList xs d->∃h',(whole P G aO).call f xs am.init=J (.ret (.v (.bool aa)),h')):
 Calls P f args W λtb W'=>∃v,tb=.returned v/\s.post Y P fn apart fresh m u W args v W':=by
 have E:=hW;obtain⟨p,z0,hA,hV,q,yw,hnd⟩:=hW;have hV0:DataW.TrodVars Y P W (λ_=>aa) [] gs z0:=l ▸ hV;obtain⟨rfl,rfl⟩:=trodVars_none hV0;rw[g']at q;subst q;obtain⟨xs,hxs,o⟩:=afe D.set hA (λj t v C hv=>X j t v (by simp_all) (by simp_all)) (λt C=>(D.SP t C).1);obtain⟨h',y⟩:=N xs o;have T:jJ P G W (bj.init W) am.init W:=avd W hG;obtain⟨-,hc⟩:=(LQ hp A).call f xs am.init _ _ y;intro cs;obtain⟨K',w',fr,le,s',gG,OX,v,Z,hl⟩:=hc (bj.init W) W args hxs T cs;have hv:=Z.hY.1;subst hv;have hb:Below W.heap.size W w':=by have:=s'.fM;rw[le.base]at this;exact this
 have R:F d=fn.params.size:=by
  have:∀{r:List aX} {xs:List I} {d:List (DataW H)},sJ P r xs d->F d=F r:=by
   intro r
   induction r with
   |nil=>intro xs d h;cases xs<;>cases d<;>simp[sJ]at h ⊢
   |cons t r ih=>intro xs d h;cases xs<;>cases d<;>simp[sJ]at h ⊢;grind
  simpa using this o
 obtain⟨r1,r2,r3⟩:=B d R;refine⟨.returned (.bool aa),w',fr,⟨_,O,?_⟩,gG,OX,hl⟩;refine aqy (pa:=i) (pv:=[]) E (λb sp hd=>?_) (λsp AX=>?_) (λsp _=>?_) cB hb (ok_one D.res O (okWide_bool_mk D.bool _))
 .rw[D.res,g',r1];exact trodAll_cons_mk (shut_bool D.bool _) trodAll_mk0
 .rw[g',r2];exact aff D.laid hA (λt C=>(D.SP t C).2) (λx Z=>hb.same (E.lt x Z)) AX
 .rw[l,g',r3];exact rfl
end
end
end Go.AE
end
section
namespace Go.Proofs.YtcbhpkjbiehcpaaGreatDoor
open Go.AE Go.RowKit Go.Proofs.Tryz
variable{H h h':am}{l own:List Int}{a b c aY d f i j k m n n0 o off q sz ty w:Nat}{x:I}{cs r xs z:List I}{T t:aX}{y:b9}{R:Rec}{e:Env}{es rest s:List UInt8}{U:List (List I)}{v:Go.NT.Vl}{B:List Nat}
def Sl:List I:=NT.start.map bY
def Gk:List I:=NT.Dh.map λ(n:Nat)=>I.v (.int .u32 (n:Int))
def Gt:Nat->Option (List I):=λc=>if c=0 then J Sl else if c=1 then J Gk else if c=1022017∨c=1022035∨c=1023037∨c=1023048∨c=1023063∨c=1023125∨c=1116104∨c=1032007∨c=1033007∨c=1033257 then J [] else ao
def aO:bk->Option (List I->am->Option (I × am)):=λ_=>ao
noncomputable abbrev W:=whole af Gt aO
structure aj(p:Prop):Prop where
 M:p
def im(n:Int):I:=.v (.int .i64 n)
def wT(n:Int):List I:=[im n]
def ay(l:List Int):List (List I):=l.map wT
def c'(l):F (ay l)=F l:=by simp[ay]
def YS(l)(i:Nat):(ay l)[i]?=(l[i]?).map wT:=by simp[ay]
def i64(n:Int):Prop:= -9223372036854775808<=n/\n<=9223372036854775807
def eu:fR af 3=J ar:=by kernel_rfl
def eQ:cN af 3=J 1:=by kernel_rfl
def Zh{x}(d:l[i]?=J x):aF af Gt h 3 (.elem 1 (ay l) i 0)=J (im x):=by
 have c:(ay l)[i]?=J (wT x):=by rw[YS,d];rfl
 rw[rm eu c];rfl
def ae7{ts}{s}(c:1000*ty+d≠22017/\1000*ty+d≠22035/\1000*ty+d≠23037/\1000*ty+d≠23048/\1000*ty+d≠23063/\1000*ty+d≠23125/\1000*ty+d≠116104/\1000*ty+d≠32007/\1000*ty+d≠33007/\1000*ty+d≠33257):qV af Gt (J d) h .append ts ty [s,x]=gB af h ts s x:=by refine ae9 ?_;unfold Hl Gt;rw[aL ag,aL ag,aL (by simp only[rK];omega)];rfl
def ae8{ts}{s}(c:1000*ty+d=22017∨1000*ty+d=22035∨1000*ty+d=23037∨1000*ty+d=23048∨1000*ty+d=23063∨1000*ty+d=23125∨1000*ty+d=116104∨1000*ty+d=32007∨1000*ty+d=33007∨1000*ty+d=33257):qV af Gt (J d) h .append ts ty [s,x]=nD af h ts s x:=by refine afa ?_;unfold Hl Gt;rw[aL ag,aL ag,aC (by simp only[rK];omega)];rfl
def aM{α:Type}[BEq α][ReflBEq α](a:α):(a==a)=aa:=beq_self_eq_true a
def ax{p:Prop}(h:p:=by kernel_rfl):p:=h
def gW:=au goS (au goT (au goH (au goU (au @ae7 (au @ae8 (au @GE.eq_1 (au @uC.eq_1 (au @uC.eq_2 (au @uC.eq_3 (au @dH.eq_1 (au @dH.eq_2 (au @dH.eq_3 (au @dH.eq_4 (au @dH.eq_5 (au @dH.eq_6 (au @dH.eq_7 (au @dH.eq_8 (au @dH.eq_9 (au @dH.eq_10 (au @dH.eq_11 (au @dH.eq_12 (au @dH.eq_13 (au @dH.eq_14 (au @dH.eq_15 (au @dH.eq_16 (au @dH.eq_17 (au @dH.eq_18 (au @dH.eq_19 (au @dH.eq_20 (au @dH.eq_21 (au @dH.eq_22 @dH.eq_23)))))))))))))))))))))))))))))))
def gS{p:Prop}(h:p:=by simp only[gW,reduceIte,Nat.reduceEqDiff,aM]):p:=h
def gR{p:Prop}(h:p:=by simp only[gW,reduceIte,Nat.reduceEqDiff,aM]<;>rfl):p:=h
def gA{p:Prop}(h:p:=by simp only[gW,reduceIte,Nat.reduceEqDiff,aM]<;>assumption):p:=h
def wH{p q:Prop}(x:q)(f:aj q->p:=by intro h;(repeat' (first|simp(maxSteps:=9^9) (disch:=first|exact dZ|fail) only[gW,reduceIte,Nat.reduceEqDiff,aM, *,-h]|refine dX ?_ ?_<;>(intro _;try omega)));exact h.M;fail_if_success refine ?_):p:=f ⟨x⟩
def br{a0:Prop}{p q:Prop}(c:a0)(x:q)(f:a0->aj q->p:=by intro c h;(repeat' (first|simp(maxSteps:=9^9) (disch:=first|exact dZ|fail) only[gW,reduceIte,Nat.reduceEqDiff,aM, *,-h]|refine dX ?_ ?_<;>(intro _;try omega)));exact h.M;fail_if_success refine ?_):p:=f c ⟨x⟩
def iT{a0:Prop}{p:Prop}(c:a0)(f:a0->p:=by intro c;(repeat' (first|simp(maxSteps:=9^9) (disch:=first|exact dZ|fail) only[gW,reduceIte,Nat.reduceEqDiff,aM, *]|refine dX ?_ ?_<;>(intro _;try omega)));fail_if_success refine ?_):p:=f c
def bB{a0 c:Prop}{p q:Prop}(d:a0)(e:c)(x:q)(f:a0->c->aj q->p:=by intro d e h;(repeat' (first|simp(maxSteps:=9^9) (disch:=first|exact dZ|fail) only[gW,reduceIte,Nat.reduceEqDiff,aM, *,-h]|refine dX ?_ ?_<;>(intro _;try omega)));exact h.M;fail_if_success refine ?_):p:=f d e ⟨x⟩
def f_{a0 c:Prop}{p:Prop}(d:a0)(e:c)(f:a0->c->p:=by intro d e;(repeat' (first|simp(maxSteps:=9^9) (disch:=first|exact dZ|fail) only[gW,reduceIte,Nat.reduceEqDiff,aM, *]|refine dX ?_ ?_<;>(intro _;try omega)));fail_if_success refine ?_):p:=f d e
def dL{a0 c d:Prop}{p q:Prop}(e:a0)(g:c)(i:d)(x:q)(f:a0->c->d->aj q->p:=by intro e g i h;(repeat' (first|simp(maxSteps:=9^9) (disch:=first|exact dZ|fail) only[gW,reduceIte,Nat.reduceEqDiff,aM, *,-h]|refine dX ?_ ?_<;>(intro _;try omega)));exact h.M;fail_if_success refine ?_):p:=f e g i ⟨x⟩
def qm{a0 c d:Prop}{p:Prop}(e:a0)(g:c)(i:d)(f:a0->c->d->p:=by intro e g i;(repeat' (first|simp(maxSteps:=9^9) (disch:=first|exact dZ|fail) only[gW,reduceIte,Nat.reduceEqDiff,aM, *]|refine dX ?_ ?_<;>(intro _;try omega)));fail_if_success refine ?_):p:=f e g i
def b_{a0 c d e:Prop}{p q:Prop}(g:a0)(i:c)(j:d)(y3:e)(x:q)(f:a0->c->d->e->aj q->p:=by intro g i j y3 h;(repeat' (first|simp(maxSteps:=9^9) (disch:=first|exact dZ|fail) only[gW,reduceIte,Nat.reduceEqDiff,aM, *,-h]|refine dX ?_ ?_<;>(intro _;try omega)));exact h.M;fail_if_success refine ?_):p:=f g i j y3 ⟨x⟩
def jN{a0 c d e:Prop}{p:Prop}(g:a0)(i:c)(j:d)(y3:e)(f:a0->c->d->e->p:=by intro g i j y3;(repeat' (first|simp(maxSteps:=9^9) (disch:=first|exact dZ|fail) only[gW,reduceIte,Nat.reduceEqDiff,aM, *]|refine dX ?_ ?_<;>(intro _;try omega)));fail_if_success refine ?_):p:=f g i j y3
def nX{a0:Prop}{p q:Prop}(c:a0)(x:q)(f:a0->aj q->p:=by intro c h;(repeat' (first|simp(maxSteps:=9^9) (disch:=first|exact dZ|fail) only[gW,reduceIte,Nat.reduceEqDiff,aM, *,-h]|(refine dX ?_ ?_<;>(intro _;try omega))|refine tJ ax ?_));exact h.M;fail_if_success refine ?_):p:=f c ⟨x⟩
def jU{a0:Prop}{p:Prop}(c:a0)(f:a0->p:=by intro c;(repeat' (first|simp(maxSteps:=9^9) (disch:=first|exact dZ|fail) only[gW,reduceIte,Nat.reduceEqDiff,aM, *]|(refine dX ?_ ?_<;>(intro _;try omega))|refine tJ ax ?_));fail_if_success refine ?_):p:=f c
def Og{a0 c:Prop}{p q:Prop}(d:a0)(e:c)(x:q)(f:a0->c->aj q->p:=by intro d e h;(repeat' (first|simp(maxSteps:=9^9) (disch:=first|exact dZ|fail) only[gW,reduceIte,Nat.reduceEqDiff,aM, *,-h]|(refine dX ?_ ?_<;>(intro _;try omega))|refine tJ ax ?_));exact h.M;fail_if_success refine ?_):p:=f d e ⟨x⟩
def WE{a0 c:Prop}{p:Prop}(d:a0)(e:c)(f:a0->c->p:=by intro d e;(repeat' (first|simp(maxSteps:=9^9) (disch:=first|exact dZ|fail) only[gW,reduceIte,Nat.reduceEqDiff,aM, *]|(refine dX ?_ ?_<;>(intro _;try omega))|refine tJ ax ?_));fail_if_success refine ?_):p:=f d e
def Oh{a0 c d:Prop}{p q:Prop}(e:a0)(g:c)(i:d)(x:q)(f:a0->c->d->aj q->p:=by intro e g i h;(repeat' (first|simp(maxSteps:=9^9) (disch:=first|exact dZ|fail) only[gW,reduceIte,Nat.reduceEqDiff,aM, *,-h]|(refine dX ?_ ?_<;>(intro _;try omega))|refine tJ ax ?_));exact h.M;fail_if_success refine ?_):p:=f e g i ⟨x⟩
def vp{a0 c d:Prop}{p:Prop}(e:a0)(g:c)(i:d)(f:a0->c->d->p:=by intro e g i;(repeat' (first|simp(maxSteps:=9^9) (disch:=first|exact dZ|fail) only[gW,reduceIte,Nat.reduceEqDiff,aM, *]|(refine dX ?_ ?_<;>(intro _;try omega))|refine tJ ax ?_));fail_if_success refine ?_):p:=f e g i
def Oi{a0 c d e:Prop}{p:Prop}(g:a0)(i:c)(j:d)(y3:e)(f:a0->c->d->e->p:=by intro g i j y3;(repeat' (first|simp(maxSteps:=9^9) (disch:=first|exact dZ|fail) only[gW,reduceIte,Nat.reduceEqDiff,aM, *]|(refine dX ?_ ?_<;>(intro _;try omega))|refine tJ ax ?_));fail_if_success refine ?_):p:=f g i j y3
section
open Go.AE Go.NT Go.Proofs.Tryz
def LK(n):(n.tmod 1073741789<0->fmod n=n.tmod 1073741789+1073741789)/\(¬n.tmod 1073741789<0->fmod n=n.tmod 1073741789)/\ -1073741789<n.tmod 1073741789/\n.tmod 1073741789<1073741789:=by
 unfold fmod Qi;rcases Int.le_total 0 n with h|h
 .rw[HH h];omega
 .obtain⟨c,rfl⟩:∃c,n= -c:=⟨-n,by omega⟩;rw[Int.neg_tmod,HH ag];omega
def aAG:Tryz.f162.results.toList=[.tmp 2]:=ax
def RW:Tryz.f161.results.toList=[.tmp 2]:=ax
def atY:Tryz.f80.results.toList=[.tmp 4]:=ax
def aAD:Tryz.f81.results.toList=[.tmp 4]:=ax
def ZS3{p:Prop}(h:p:=by
 obtain⟨c,d,g,i⟩:=LK n;unfold im;refine cX O Q3 O ?_;by_cases e:n.tmod 1073741789<0
 .have f:=c e;clear c d;exact jU @Q4
 .have f:=d e;clear c d;exact jU @Q4):p:=h
section
open Tryz renaming func162->Q3
open YtcbhpkjbiehcpaaGreatDoor renaming aAG->Q4
def ZQ(n:Int)(h:am):W.call 162 [im n] h=J (.ret (im (fmod n)),h):=ZS3
end
def Fh(n):0<=fmod n/\fmod n<1073741789:=Cu n
def Hm{a:Int}(h:0<=a):a.tmod 1073741789=a%1073741789:=HH h
def ZS4{p:Prop}(h:p:=by
 have ca:=Q5 a;have i:=Q5 b;obtain⟨d,f⟩:=Fh a;obtain⟨c,g⟩:=Fh b;have e:0<=fmod a*fmod b:=adi d c;have l:fmod a*fmod b<=1073741789*1073741789:=adh ag ag c ag;have j:cO a b=(fmod a*fmod b).tmod 1073741789:=by rw[Hm e];rfl
 rw[j];unfold im at *
 refine cX O Q6 O ?_;exact jU @Q7):p:=h
section
open YtcbhpkjbiehcpaaGreatDoor renaming ZQ->Q5,aAD->Q7
open Tryz renaming func81->Q6
def QC(a b:Int)(h:am):W.call 81 [im a,im b] h=J (.ret (im (cO a b)),h):=ZS4
end
def tM(l:List Int):Int:=l.foldl cV 0
def acs(l)(x):tM (l++[x])=cV (tM l) x:=by unfold tM;rw[nJ];rfl
def acr(l):okF (tM l):=by
 rcases List.eq_nil_or_concat l with rfl|⟨c,x,rfl⟩
 .exact yS
 .rw[List.concat_eq_append,acs];exact IM _ _
def fS{α:Type}{l:List α}{x}(h:l[i]?=J x):l.take (i+1)=l.take i++[x]:=by obtain⟨c,rfl⟩:=aU.1 h;rw[ad3 c]
def ZT39{p:Prop}(h:p:=by
 refine⟨0,ck _,O,?_,?_,?_,?_,?_,O⟩<;>(first|assumption|(simp only[gW,reduceIte,aR,aM,c']<;>rfl))):p:=h
def aww(l:List Int)(k:Tok)(D:F l<=9223372036854775807)(h:am):W.call 161 [.ac k 1 (ay l)] h=J (.ret (im (tM l)),h):=by
 have r:=underlying23;have u:=eu;have N:=eQ;refine cX O func161 O ?_;refine Og @RW @c' ?_;refine cK (λq e h'=>∃c:Nat,c<=F l/\q=F l-c/\e.get 6=.ac k 1 (ay l)/\e.get 7=(F l:Nat)/\e.get 8=(c:Int)/\e.get 3=(tM (l.take c):Int)/\e.defers=[]/\h'=h) ?_ (F l) _ _ ?_;rotate_left 1
 .exact ZT39
 rintro q e h' ⟨c,C,rfl,v,y,A,o,B,rfl⟩;by_cases g:c<F l
 .obtain⟨x,d⟩:∃x,l[c]?=J x:=⟨_,aW g⟩;have E:(ay l)[c]?=J (wT x):=by rw[YS,d];rfl
  have p:(c:Int)<(F (ay l):Int):=by rw[c'];omega
  have j:=ZQ x;obtain⟨R,T⟩:=Fh x;obtain⟨L,i⟩:=acr (l.take c);have i:tM (l.take c)<1073741789:=i;have m:tM (l.take (c+1))=(tM (l.take c)+fmod x).tmod 1073741789:=by rw[fS d,acs,Hm ag];show(fmod (tM (l.take c))+fmod x)%Qi=_;rw[Ap (acr _)];rfl
  unfold im at j;generalize tM (l.take c)=s at *
  have f:=Zh (h:=h') d;unfold im at f;refine Oh @RW @c' @bh ?_;exact⟨F l-(c+1),by omega,c+1,by omega,O,by trivial,by trivial,by simp,by rw[m],by trivial,by trivial⟩
 .have:c=F l:=by omega
  subst this;rw[gu]at o
  repeat' (first|simp(maxSteps:=9^9) (disch:=first|exact dZ|fail) only[gW,reduceIte,aR,aM,RW,c',im, *]|(refine dX ?_ ?_<;>(intro _;try omega))|refine tJ ax ?_)
def aeJ(a b:Int)(h:am):W.call 80 [im a,im b] h=J (.ret (im (cV a b)),h):=by
 have d:=aww [a,b] .aK cB h;have e:tM [a,b]=cV a b:=by show cV (cV 0 a) b=cV a b;rw[Ai,Ai,Ai,Int.zero_add,Int.emod_add_emod]
 rw[e]at d;have c:fF af 23 2 [(0,im a),(1,im b)]=J (.ac .aK 1 (ay [a,b])):=ax;unfold im at *
 refine cX O func80 O ?_;exact jU @atY
end
section
open Go.AE Go.NT Go.Proofs.Tryz
def Ra(a):∀k:Nat,(a%Qi)^k%Qi=a^k%Qi:=by
 intro k
 induction k with
 |zero=>simp|succ k c=>rw[xN,xN,zF,c,Es _ (Er _),<-zF]
def aoH(n)(k):(((fmod n).toNat^k%Q:Nat):Int)=n^k%Qi:=by rw[Int.natCast_emod,Int.natCast_pow,Aq,<-zN];exact Ra n k
def qg(r:Int)(l:Nat)(s x:Int):Prop:=okF x/\(x*s^l)%Qi=r
def qg.odd{r s x}{l}(h:qg r l s x)(d:l%2=1):qg r (l/2) (cO s s) (cO x s):=by
 refine⟨Fi _ _,?_⟩;rw[<-h.2,rR,rR,zF,Ra,Es _ (Er _),<-zF,Int.mul_assoc];congr 2;have c:l=2*(l/2)+1:=by omega
 rw[show s^l=s^(2*(l/2)+1) by rw[<-c],xN,Eu,Int.mul_comm,show s*s=s^2 by rw[xN,xN,Tj,Mr]]
def qg.even{r s x}{l}(h:qg r l s x)(d:l%2=0):qg r (l/2) (cO s s) x:=by
 refine⟨h.1,?_⟩;rw[<-h.2,rR,zF,Ra,<-zF];congr 2;have c:l=2*(l/2):=by omega
 rw[show s^l=s^(2*(l/2)) by rw[<-c],Eu,show s*s=s^2 by rw[xN,xN,Tj,Mr]]
def qg.done{r s x}(h:qg r 0 s x):x=r:=by rw[<-h.2,Tj,Int.mul_one];exact(Int.emod_eq_of_lt h.1.1 h.1.2).symm
def qg.start(n):qg (eK n) 1073741787 n 1:=by
 refine⟨by unfold okF;decide,?_⟩;have c:(eK n)=(((fmod n).toNat^(Q-2)%Q:Nat):Int):=by unfold eK;rw[IN aZ aZ aZ,xT]
 rw[c,aoH,Mr];rfl
def GS:Tryz.f222.results.toList=[.tmp 2,.tmp 3]:=ax
def amM(n:Int)(h:am):W.call 222 [im n] h=J (.ret (.tuple [im (if fmod n=0 then 0 else eK n),im (if fmod n=0 then 90 else 0)]),h):=by
 have v:=ZQ n;by_cases f:fmod n=0
 .rw[aC f,aC f];unfold im at *
  refine cX O func222 O ?_;exact jU @GS
 .rw[aL f,aL f];have l:=aj.mk (qg.start n);unfold im at *
  refine cX O func222 O ?_;refine nX @GS ?_;refine cK (λr i h'=>∃(s x:Int),r<=1073741787/\qg (eK n) r s x/\i.get 4=(r:Nat)/\i.get 5=(s:Int)/\i.get 2=(x:Int)/\i.defers=[]/\h'=h) ?_ 1073741787 _ _ ?_;rotate_left 1
  .exact⟨n,1,aT _,l.M,by exact gR,by exact gR,by exact gR,by exact gR,O⟩
  rintro g i h' ⟨s,x,D,e,A,B,y,C,rfl⟩;have j:=aj.mk e;have m:=QC x s;have o:=QC s s;unfold im at m o;by_cases p:g=0
  .subst p;have E:=e.done;clear e;exact jU @GS
  .have q:((g:Nat):Int).tdiv 2=((g/2:Nat):Int):=(by rw[adr ag];omega);have c:((g:Nat):Int).tmod 2=((g%2:Nat):Int):=(by rw[HH ag];omega);have u:¬((g:Nat):Int)=0:=(by omega);clear e;rcases HU g with d|d
   .rw[d]at c;refine nX @GS ?_;exact⟨g/2,by omega,_,_,by omega,j.M.even d,by trivial,by trivial,by trivial,by trivial,by trivial⟩
   .rw[d]at c;refine nX @GS ?_;exact⟨g/2,by omega,_,_,by omega,j.M.odd d,by trivial,by trivial,by trivial,by trivial,by trivial⟩
end
section
open Go.AE Go.NT Go.Proofs.Tryz
def Lp(b:Bool):Nat:=if b=aa then 0 else 1
def qP(x a n:Nat)(c:Bool):Prop:=1<=a/\n%2=1/\nL a n/\a<=P/\n<=P/\mu x P%2=(mu a n+Lp c)%2
def abX(b):(Lp (!b)+1)%2=Lp b%2:=by cases b<;>rfl
def qP.even{x}{c}(h:qP x a n c)(p:a%2=0):qP x (a/2) n (if n%8=3∨n%8=5 then !c else c):=by
 obtain⟨m,h2,f,o,g,i⟩:=h;have j:a=2*(a/2):=by omega
 have d:nL (2*(a/2)) n:=by rw[<-j];exact f
 have e:=av6 h2 d;rw[<-j]at e;refine⟨ag,h2,Nat.Coprime.coprime_mul_left d,by omega,g,?_⟩;rw[i];have:=abX c;split at e<;>rename_i l
 .rw[aC l];omega
 .rw[aL l];omega
def qP.odd{x}{c}(h:qP x a n c)(e:a%2=1)(q:1<a):qP x (n%a) a (if a%4=3/\n%4=3 then !c else c):=by
 obtain⟨o,h2,d,g,p,i⟩:=h;have l:=av8 h2 e d;have r:=ml n (ag:0<a);have m:n%a≠0:=λf=>by have j:=Nat.dvd_of_mod_eq_zero f;have:=Nat.dvd_gcd (Nat.dvd_refl a) j;rw[d]at this;have:=Nat.le_of_dvd aZ this;omega
 refine⟨ag,e,aif d,by omega,g,?_⟩;rw[i];have:=abX c;split at l<;>rename_i f
 .rw[aC f];omega
 .rw[aL f];omega
def qP.done{x}{d}(e:1<=x)(f:x<P)(h:qP x 1 n d):elem x=d:=by
 obtain⟨-,h2,-,-,-,c⟩:=h;rw[aoC (h:=n/2) ag]at c;rw[aiS e f];cases d
 .rw[cR];rw[c];decide
 .rw[cy];rw[c];rfl
def qP.start{x}(c:1<=x)(d:x<P):qP x x P aa:=⟨c,by decide,TM.coprime c d,mJ d,aT _,by rw[show Lp aa=0 from O,BN]⟩
def tH:Tryz.f66.results.toList=[.tmp 2]:=ax
def LJ(a b):((a:Nat):Int).tdiv (b:Nat)=((a/b:Nat):Int):=by rw[adr ag];simp
def rA(a b):((a:Nat):Int).tmod (b:Nat)=((a%b:Nat):Int):=by rw[HH ag];simp
def IG{x}(h:x<1∨2147483579<=x):b8 x=ar:=by
 unfold b8;rcases h with h|h
 .rw[cR ag];rfl
 .have:elem x.toNat=ar:=by rw[Bool.eq_false_iff];intro d;have:=(elem_iff.1 d).2.1;have c:P=2147483579:=rfl;omega
  rw[this,Bool.and_false]
def LP(x:Int)(h:am):W.call 66 [im x] h=J (.ret (.v (.bool (b8 x))),h):=by
 by_cases hx:x<1
 .rw[IG (.inl hx)];unfold im;refine cX O func66 O ?_;exact jU @tH
 by_cases E:2147483579<=x
 .rw[IG (.inr E)];unfold im;refine cX O func66 O ?_;exact jU @tH
 obtain⟨n0,rfl⟩:∃n:Nat,x=n:=⟨x.toNat,by omega⟩;have Y:1<=n0:=by omega
 have h2:n0<P:=by have:P=2147483579:=rfl;omega
 have o:∀{v:Nat} {d:Bool},qP n0 1 v d->b8 (n0:Int)=d:=λD=>by unfold b8;rw[cy ag,eD,D.done Y h2];rfl
 have k0:=aj.mk (qP.start Y h2);have kf:=aj.mk @o;clear o;unfold im;generalize b8 (n0:Int)=res at *
 have hnP:(n0:Int)<2147483579:=by omega
 clear h2;refine cX O func66 O ?_;refine nX @tH ?_;refine cK (λv l h'=>∃(n:Nat) (d:Bool),qP n0 v n d/\l.get 0=(v:Nat)/\l.get 3=(n:Nat)/\l.get 4=(d:Bool)/\l.defers=[]/\h'=h) ?_ n0 _ _ ?_;rotate_left 1
 .exact⟨2147483579,aa,k0.M,by exact gR,by exact gR,by exact gR,by exact gR,O⟩
 rintro a l h' ⟨n,d,c,R,T,X,Z,rfl⟩;have i:=aj.mk c;have Jb:=c.1;have ha4:a<=2147483579:=c.2.2.2.1;by_cases C:a=1
 .subst C;have hr:=kf.M c;clear c;exact jU @tH
 have hgt:(1:Int)<(a:Int):=by omega
 clear c;refine nX @tH ?_;refine cK (λv l u=>∃(d:Bool),v<=a/\qP n0 v n d/\l.get 0=(v:Nat)/\l.get 3=(n:Nat)/\l.get 4=(d:Bool)/\l.defers=[]/\u=h') ?_ a _ _ ?_;rotate_left 1
 .exact⟨d,aT _,i.M,by first|assumption|(exact gA),by first|assumption|(exact gA),by first|assumption|(exact gA),by first|assumption|(exact gA),O⟩
 clear R T X Z i d;rintro b l u ⟨d,hba,c,R,T,X,Z,rfl⟩;have i:=aj.mk c;have sX:=c.1;have hn2:=c.2.1;have azt:n<=2147483579:=c.2.2.2.2.1;clear c;have m2:((b:Nat):Int).tmod 2=((b%2:Nat):Int):=rA b 2;have d2:((b:Nat):Int).tdiv 2=((b/2:Nat):Int):=LJ b 2;have r:((n:Nat):Int).tmod 8=((n%8:Nat):Int):=rA n 8;have g:((b:Nat):Int).tmod 4=((b%4:Nat):Int):=rA b 4;have y:((n:Nat):Int).tmod 4=((n%4:Nat):Int):=rA n 4;have mnb:=rA n b;rcases HU b with m|m
 .have e:=i.M.even m;rw[m,uP]at m2;by_cases L:n%8=3
  .rw[aC (.inl L)]at e;have r:((n:Nat):Int).tmod 8=3:=(by rw[r,L];rfl);have p:=aj.mk e;clear e;refine nX @tH ?_;exact⟨b/2,by omega,_,by omega,p.M,(by first|exact ba|exact rfl),(by first|exact ba|exact rfl),(by first|exact ba|exact rfl),(by first|exact ba|exact rfl),(by first|exact ba|exact rfl)⟩
  .by_cases j:n%8=5
   .rw[aC (.inr j)]at e;have r:((n:Nat):Int).tmod 8=5:=(by rw[r,j];rfl);have p:=aj.mk e;clear e;refine nX @tH ?_;exact⟨b/2,by omega,_,by omega,p.M,(by first|exact ba|exact rfl),(by first|exact ba|exact rfl),(by first|exact ba|exact rfl),(by first|exact ba|exact rfl),(by first|exact ba|exact rfl)⟩
   .rw[aL ag]at e;have p:=aj.mk e;have c3':¬(((n%8:Nat):Int)=3):=(by omega);have N:¬(((n%8:Nat):Int)=5):=(by omega);clear e;refine nX @tH ?_;exact⟨b/2,by omega,_,by omega,p.M,(by first|exact ba|exact rfl),(by first|exact ba|exact rfl),(by first|exact ba|exact rfl),(by first|exact ba|exact rfl),(by first|exact ba|exact rfl)⟩
 .rw[m,Th]at m2;by_cases B:b=1
  .subst B;have hr:=kf.M i.M;exact jU @tH
  .have f:=i.M.odd m ag;have fH:¬((b:Nat):Int)=1:=(by omega);have hnz:¬((b:Nat):Int)=0:=(by omega);have dx:=ml n (ag:0<b);by_cases A:b%4=3
   .by_cases j:n%4=3
    .rw[aC ⟨A,j⟩]at f;have g:((b:Nat):Int).tmod 4=3:=(by rw[g,A];rfl);have y:((n:Nat):Int).tmod 4=3:=(by rw[y,j];rfl);have q:=aj.mk f;clear f;refine nX @tH ?_;exact⟨n%b,by omega,b,_,q.M,(by first|exact ba|exact rfl),(by first|exact ba|exact rfl),(by first|exact ba|exact rfl),(by first|exact ba|exact rfl),(by first|exact ba|exact rfl)⟩
    .rw[aL ag]at f;have g:((b:Nat):Int).tmod 4=3:=(by rw[g,A];rfl);have N:¬(((n%4:Nat):Int)=3):=(by omega);have q:=aj.mk f;clear f;refine nX @tH ?_;exact⟨n%b,by omega,b,_,q.M,(by first|exact ba|exact rfl),(by first|exact ba|exact rfl),(by first|exact ba|exact rfl),(by first|exact ba|exact rfl),(by first|exact ba|exact rfl)⟩
   .rw[aL ag]at f;have c4':¬(((b%4:Nat):Int)=3):=(by omega);have q:=aj.mk f;clear f;refine nX @tH ?_;exact⟨n%b,by omega,b,_,q.M,(by first|exact ba|exact rfl),(by first|exact ba|exact rfl),(by first|exact ba|exact rfl),(by first|exact ba|exact rfl),(by first|exact ba|exact rfl)⟩
end
section
open Go.AE Go.NT Go.Proofs.Tryz
def aAx:Tryz.f193.results.toList=[.tmp 2]:=ax
def at2:Tryz.f130.results.toList=[.tmp 4]:=ax
def aAF:Tryz.f202.results.toList=[.tmp 4]:=ax
def Lc:Tryz.f250.results.toList=[.tmp 4]:=ax
def abD:Tryz.f231.results.toList=[.tmp 2,.tmp 3]:=ax
def aAA:Tryz.f244.results.toList=[.tmp 2]:=ax
def KX:Tryz.f177.results.toList=[.tmp 4]:=ax
def RZ:Tryz.f111.results.toList=[.tmp 2]:=ax
def abx:Tryz.f203.results.toList=[.tmp 4,.tmp 5]:=ax
section
open Tryz renaming func193->Q3
open YtcbhpkjbiehcpaaGreatDoor renaming aAx->Q4
def Ru(n:Int)(h:am):W.call 193 [im n] h=J (.ret (im (fmod n)),h):=ZS3
end
section
open Tryz renaming func244->Q3
open YtcbhpkjbiehcpaaGreatDoor renaming aAA->Q4
def ajd(n:Int)(h:am):W.call 244 [im n] h=J (.ret (im (fmod n)),h):=ZS3
end
section
open YtcbhpkjbiehcpaaGreatDoor renaming Ru->Q5,aAF->Q7
open Tryz renaming func202->Q6
def Rv(a b:Int)(h:am):W.call 202 [im a,im b] h=J (.ret (im (cO a b)),h):=ZS4
end
def arw(a b:Int)(h:am):W.call 130 [im a,im b] h=J (.ret (im (cV a b)),h):=by
 have ca:=Ru a;have g:=Ru b;obtain⟨c,d⟩:=Fh a;obtain⟨e,f⟩:=Fh b;have i:cV a b=(fmod a+fmod b).tmod 1073741789:=by rw[Hm ag];rfl
 rw[i];unfold im at *
 refine cX O func130 O ?_;exact jU @at2
def ato(r a:Int)(n:Nat)(q:n<=1073741787)(c:qg r n a 1)(h:am):W.call 250 [im a,im (n:Nat)] h=J (.ret (im r),h):=by
 have j:=aj.mk c;clear c;unfold im at *
 refine cX O func250 O ?_;refine nX @Lc ?_;refine cK (λu g h'=>∃(s x:Int),u<=1073741787/\qg r u s x/\g.get 1=(u:Nat)/\g.get 0=(s:Int)/\g.get 5=(x:Int)/\g.defers=[]/\h'=h) ?_ n _ _ ?_;rotate_left 1
 .exact⟨a,1,q,j.M,by exact gR,by exact gR,by exact gR,by exact gR,O⟩
 rintro f g h' ⟨s,x,D,c,A,y,B,C,rfl⟩;have i:=aj.mk c;have l:=Rv x s;have m:=Rv s s;unfold im at l m;by_cases o:f=0
 .subst o;have E:=c.done;clear c;exact jU @Lc
 .have p:((f:Nat):Int).tdiv 2=((f/2:Nat):Int):=LJ f 2;have d:((f:Nat):Int).tmod 2=((f%2:Nat):Int):=rA f 2;have v:(0:Int)<((f:Nat):Int):=by omega
  clear c;rcases HU f with e|e
  .rw[e,uP]at d;refine nX @Lc ?_;exact⟨f/2,by omega,_,_,by omega,i.M.even e,(by first|exact ba|exact rfl),(by first|exact ba|exact rfl),(by first|exact ba|exact rfl),(by first|exact ba|exact rfl),(by first|exact ba|exact rfl)⟩
  .rw[e,Th]at d;refine nX @Lc ?_;exact⟨f/2,by omega,_,_,by omega,i.M.odd e,(by first|exact ba|exact rfl),(by first|exact ba|exact rfl),(by first|exact ba|exact rfl),(by first|exact ba|exact rfl),(by first|exact ba|exact rfl)⟩
def ash(n:Int)(h:am):W.call 231 [im n] h=J (.ret (.tuple [im (if fmod n=0 then 0 else eK n),im (if fmod n=0 then 90 else 0)]),h):=by
 have e:=Ru n;have d:=ato (eK n) n 1073741787 (aT _) (qg.start n);by_cases c:fmod n=0
 .rw[aC c,aC c];clear d;unfold im at *
  refine cX O func231 O ?_;exact jU @abD
 .rw[aL c,aL c];have d:∀h,W.call 250 [((n:Int):I),.v (.int .i64 1073741787)] h=J (.ret ((eK n:Int):I),h):=d;unfold im at *
  refine cX O func231 O ?_;exact jU @abD
def ni(r n a c:Nat):Prop:=c<P/\a<P/\c*a^n%P=r
def ni.odd{r}(h:ni r n a c)(d:n%2=1):ni r (n/2) (a*a%P) (c*a%P):=by refine⟨ml _ aZ,ml _ aZ,?_⟩;rw[<-h.2.2,Nat.mod_mul_mod,rJ,<-EJ,<-rJ,MO,<-aeh,<-EK,<-Nat.pow_succ',show(2*(n/2)).succ=n by omega]
def ni.even{r}(h:ni r n a c)(d:n%2=0):ni r (n/2) (a*a%P) c:=by refine⟨h.1,ml _ aZ,?_⟩;rw[<-h.2.2,rJ,<-EJ,<-rJ,<-aeh,<-EK,(ag:2*(n/2)=n)]
def ni.done{r}(h:ni r 0 a c):c=r:=by rw[<-h.2.2,Nat.pow_zero,nO,mM h.1]
def ni.start(c:a<P)(d:n<2^31):ni (ru a n) n a 1:=⟨aZ,c,by rw[Q9 d,xT]⟩
def ni.bound{r}(h:ni r n a c):c*a<=4611685722074649241/\a*a<=4611685722074649241:=by obtain⟨d,h2,-⟩:=h;have d:c<=2147483579:=mJ d;have h2:a<=2147483579:=mJ h2;exact⟨lu d h2,lu h2 h2⟩
def abw(r a n:Nat)(o:n<=2147483647)(c:ni r n a 1)(h:am):W.call 177 [im (a:Nat),im (n:Nat)] h=J (.ret (im (r:Nat)),h):=by
 have j:=aj.mk c;clear c;unfold im at *
 refine cX O func177 O ?_;refine nX @KX ?_;refine cK (λp g h'=>∃(s x:Nat),p<=2147483647/\ni r p s x/\g.get 1=(p:Nat)/\g.get 0=(s:Nat)/\g.get 5=(x:Nat)/\g.defers=[]/\h'=h) ?_ n _ _ ?_;rotate_left 1
 .exact⟨a,1,o,j.M,by exact gR,by exact gR,by exact gR,by exact gR,O⟩
 rintro f g h' ⟨s,x,R,c,E,D,L,N,rfl⟩;have i:=aj.mk c;obtain⟨u,v⟩:=c.bound;by_cases l:f=0
 .subst l;have T:=c.done;clear c;exact jU @KX
 .have m:((f:Nat):Int).tdiv 2=((f/2:Nat):Int):=LJ f 2;have d:((f:Nat):Int).tmod 2=((f%2:Nat):Int):=rA f 2;have q:(0:Int)<((f:Nat):Int):=by omega
  have y:((x:Nat):Int)*(s:Nat)=((x*s:Nat):Int):=(xM _ _).symm;have A:((s:Nat):Int)*(s:Nat)=((s*s:Nat):Int):=(xM _ _).symm;have B:((x*s:Nat):Int).tmod 2147483579=((x*s%P:Nat):Int):=rA (x*s) 2147483579;have C:((s*s:Nat):Int).tmod 2147483579=((s*s%P:Nat):Int):=rA (s*s) 2147483579;clear c;rcases HU f with e|e
  .rw[e,uP]at d;refine nX @KX ?_;exact⟨f/2,by omega,_,_,by omega,i.M.even e,(by first|exact ba|exact rfl),(by first|exact ba|exact rfl),(by first|exact ba|exact rfl),(by first|exact ba|exact rfl),(by first|exact ba|exact rfl)⟩
  .rw[e,Th]at d;refine nX @KX ?_;exact⟨f/2,by omega,_,_,by omega,i.M.odd e,(by first|exact ba|exact rfl),(by first|exact ba|exact rfl),(by first|exact ba|exact rfl),(by first|exact ba|exact rfl),(by first|exact ba|exact rfl)⟩
def eO(a n:Int):Int:=if b8 a=aa then ((bZ a.toNat n:Nat):Int) else 0
def lQ(a:Int):Int:=if b8 a=aa then 0 else 100
def pm(a b:Int):Int:=if b8 a=aa/\b8 b=aa then ((a.toNat*b.toNat%P:Nat):Int) else 0
def rT(a b:Int):Int:=if b8 a=aa/\b8 b=aa then 0 else 100
def Fa{a}(h:b8 a=aa):∃n:Nat,a=n/\elem n=aa/\1<=n/\n<P:=by unfold b8 at h;rw[bR,decide_eq_true_eq]at h;have:=elem_iff.1 h.2;exact⟨a.toNat,by omega,h.2,this.1,this.2.1⟩
def abK(x:Int)(h:am):W.call 111 [im x] h=J (.ret (.v (.bool (b8 x))),h):=by
 by_cases c:x<1
 .rw[IG (.inl c)];unfold im;refine cX O func111 O ?_;exact jU @RZ
 by_cases d:2147483579<=x
 .rw[IG (.inr d)];unfold im;refine cX O func111 O ?_;exact jU @RZ
 obtain⟨n0,rfl⟩:∃n:Nat,x=n:=⟨x.toNat,by omega⟩;have h2:n0<P:=by have:P=2147483579:=rfl;omega
 have j:∀h,W.call 177 [((n0:Nat):I),.v (.int .i64 1073741789)] h=J (.ret ((ru n0 Q:Nat):I),h):=abw (ru n0 Q) n0 1073741789 aZ (ni.start h2 aZ);have e:b8 (n0:Int)=decide (((ru n0 Q:Nat):Int)=1):=by
  unfold b8 elem;rw[cy ag,eD,cy ag,cy h2,pP,pP,pP,Bool.eq_iff_iff,decide_eq_true_eq];constructor
  .intro i;rw[nM i];rfl
  .intro i;have:ru n0 Q=1:=(by omega);rw[this];rfl
 rw[e];generalize ru n0 Q=l at *
 have f:(1:Int)<=(n0:Int):=by omega
 have g:(n0:Int)<2147483579:=by omega
 clear e h2 c d;unfold im;refine cX O func111 O ?_;exact jU @RZ
end
section
open Go.AE Go.NT Go.Proofs.Tryz
def RT:Tryz.f67.results.toList=[.tmp 4,.tmp 5]:=ax
def RX:Tryz.f148.results.toList=[.tmp 2]:=ax
def mul_tmod(d:a<P)(e:b<P):((a:Nat):Int)*(b:Nat)<=4611685722074649241/\(0:Int)<=((a:Nat):Int)*(b:Nat)/\(((a:Nat):Int)*(b:Nat)).tmod 2147483579=((a*b%P:Nat):Int):=by have c:a<=2147483579:=mJ d;have h2:b<=2147483579:=mJ e;have:=lu c h2;have f:((a:Nat):Int)*(b:Nat)=((a*b:Nat):Int):=(xM _ _).symm;rw[f];exact⟨ag,by omega,rA (a*b) 2147483579⟩
def akl(a b:Int)(h:am):W.call 67 [im a,im b] h=J (.ret (.tuple [im (pm a b),im (rT a b)]),h):=by
 have ca:=LP a;have g:=LP b;unfold pm rT;by_cases c:b8 a=aa
 .by_cases d:b8 b=aa
  .rw[aC ⟨c,d⟩,aC ⟨c,d⟩];rw[c]at ca;rw[d]at g;obtain⟨x,rfl,-,-,p⟩:=Fa c;obtain⟨f,rfl,-,-,q⟩:=Fa d;obtain⟨m,o,-⟩:=mul_tmod p q;simp only[eD];have l:((x:Nat):Int)*(f:Nat)=((x*f:Nat):Int):=(xM _ _).symm;have r:((x*f:Nat):Int).tmod 2147483579=((x*f%P:Nat):Int):=rA (x*f) 2147483579;rw[l]at m o;have u:x*f%P<2147483579:=ml _ aZ;clear c d;unfold im at *
   refine cX O func67 O ?_;exact jU @RT
  .have j:b8 b=ar:=(by simpa using d);rw[aL (λe=>d e.2),aL (λe=>d e.2)];rw[c]at ca;rw[j]at g;unfold im at *
   refine cX O func67 O ?_;exact jU @RT
 .have i:b8 a=ar:=by simpa using c
  rw[aL (λe=>c e.1),aL (λe=>c e.1)];rw[i]at ca;unfold im at *
  refine cX O func67 O ?_;exact jU @RT
def tB(l:List Int):Int:=l.foldl (λa x=>(a*(x.tmod 1073741789+1073741789)).tmod 1073741789) 1
def anB(l)(x):tB (l++[x])=(tB l*(x.tmod 1073741789+1073741789)).tmod 1073741789:=by unfold tB;rw[nJ];rfl
def anA(n):tB [n]=fmod n:=by
 obtain⟨c,d,f,g⟩:=LK n;show(1*(n.tmod 1073741789+1073741789)).tmod 1073741789=fmod n;rw[Mr,Hm ag];by_cases e:n.tmod 1073741789<0
 .rw[c e];omega
 .rw[d e];omega
def Zn{a x:Int}(h:0<=a/\a<1073741789):0<=a*(x.tmod 1073741789+1073741789)/\a*(x.tmod 1073741789+1073741789)<=2305843013508661242/\0<=(a*(x.tmod 1073741789+1073741789)).tmod 1073741789/\(a*(x.tmod 1073741789+1073741789)).tmod 1073741789<1073741789:=by obtain⟨-,-,d,e⟩:=LK x;have c:0<=a*(x.tmod 1073741789+1073741789):=adi h.1 ag;have f:a*(x.tmod 1073741789+1073741789)<=1073741789*2147483578:=adh ag ag ag ag;rw[Hm c];omega
def anz(l):0<=tB l/\tB l<1073741789:=by
 unfold tB;have c:∀(l:List Int) (a:Int),0<=a/\a<1073741789->0<=l.foldl (λa x=>(a*(x.tmod 1073741789+1073741789)).tmod 1073741789) a/\l.foldl (λa x=>(a*(x.tmod 1073741789+1073741789)).tmod 1073741789) a<1073741789:=by
  intro l
  induction l with
  |nil=>intro a h;exact h|cons x l d=>intro a h;exact d _ (Zn h).2.2
 exact c l 1 ⟨aZ,by decide⟩
def anC(l:List Int)(k:Tok)(C:F l<=9223372036854775807)(h:am):W.call 148 [.ac k 1 (ay l)] h=J (.ret (im (tB l)),h):=by
 have q:=underlying23;have r:=eu;have L:=eQ;refine cX O func148 O ?_;refine Og @RX @c' ?_;refine cK (λo d h'=>∃c:Nat,c<=F l/\o=F l-c/\d.get 6=.ac k 1 (ay l)/\d.get 7=(F l:Nat)/\d.get 8=(c:Int)/\d.get 3=(tB (l.take c):Int)/\d.defers=[]/\h'=h) ?_ (F l) _ _ ?_;rotate_left 1
 .exact ZT39
 rintro o d h' ⟨c,B,rfl,u,v,y,j,A,rfl⟩;by_cases f:c<F l
 .obtain⟨x,g⟩:∃x,l[c]?=J x:=⟨_,aW f⟩;have m:(c:Int)<(F (ay l):Int):=by rw[c'];omega
  obtain⟨-,-,R,T⟩:=LK x;obtain⟨D,E,p,N⟩:=Zn (x:=x) (anz (l.take c));have i:tB (l.take (c+1))=(tB (l.take c)*(x.tmod 1073741789+1073741789)).tmod 1073741789:=by rw[fS g,anB]
  generalize tB (l.take c)=s at *
  have e:=Zh (h:=h') g;unfold im at e;refine Oh @RX @c' @bh ?_;exact⟨F l-(c+1),by omega,c+1,by omega,O,by trivial,by trivial,by simp,by rw[i],by trivial,by trivial⟩
 .have:c=F l:=by omega
  subst this;rw[gu]at j
  repeat' (first|simp(maxSteps:=9^9) (disch:=first|exact dZ|fail) only[gW,reduceIte,aR,aM,RX,c',im, *]|(refine dX ?_ ?_<;>(intro _;try omega))|refine tJ ax ?_)
end
section
open Go.AE Go.NT Go.Proofs.Tryz
def aa4(c:b=F h.V):(h.push z).put b cs=h.push cs:=by subst c;exact mF h z cs
def aq2(e:b≠F h.V):(h.push z).put b cs=(h.put b cs).push z:=by
 unfold am.push am.put;simp only;congr 1;rcases dR b (F h.V) with d|c
 .rw[List.set_append_left _ _ d]
 .rw[HM _ _ c,adY (by simp;omega),adY c]
def at5:Tryz.f147.results.toList=[.tmp 4]:=ax
def RG:Tryz.f216.results.toList=[]:=ax
def RQ:Tryz.f75.results.toList=[.cell 4 3,.tmp 5]:=ax
def LU:(fY af 3).bind I.bL=J [im 0]:=ax
def ae0{x}(f:n<=9223372036854775807):de af .and t x y ((n:Nat):I) (.v (.int .i64 1))=J ((n%2:Nat):I):=by
 rw[rO];congr 3;have c:BitVec.ofInt IntKind.i64.bits (n:Int)=BitVec.ofNat 64 n:=by apply BitVec.eq_of_toNat_eq;show(BitVec.ofInt 64 (n:Int)).toNat=(BitVec.ofNat 64 n).toNat;rw[BitVec.toNat_ofInt,BitVec.toNat_ofNat];omega
 have d:(BitVec.ofNat 64 n&&&1#64).toNat=n%2:=by rw[BitVec.toNat_and,BitVec.toNat_ofNat,show(1#64:BitVec 64).toNat=1 from O,Nat.and_one_is_mod];omega
 have e:(BitVec.ofInt IntKind.i64.bits (n:Int)&&&BitVec.ofInt IntKind.i64.bits 1).toNat=n%2:=by rw[c];exact d
 rw[e,ji ag ag]
def avc{x}:de af .shr t x y ((n:Nat):I) (.v (.int .u64 1))=J ((n/2:Nat):I):=by rw[BY aZ];congr 3;show((n:Nat):Int).fdiv (2^1)=_;rw[Mo _ aZ];simp
def jb(c:h.V[b]?=J cs):h.put b cs=h:=by
 unfold am.put;have:h.V.set b cs=h.V:=by
  apply ou;intro k;rw[j'];split
  .rename_i d;subst d;rw[aC (aU.1 c).1,c]
  .rfl
 rw[this]
def mB(c:H.V[b]?=J [x]):aF af Gt H 3 (.ptr (.box b) 0)=J x:=by rw[fI eu c];rfl
def Ee{n}(c:H.V[b]?=J [x]):bU af H 3 (.ptr (.box b) 0) ((n:Int):I)=J (H.put b [((n:Int):I)]):=e7 (off:=0) (cs:=[x]) (xs:=[im n]) O eQ c O (aT 1)
def TN(l c:Nat)(rec:iq):Prop:=∀(s d:Nat) (b:Bool) (H:am),s<P->d<P->H.aB[l]?=J rec->H.V[c]?=J [im (d:Nat)]->W.round l [im (s:Nat),((b:Bool):I)] H=J (.ret (aa:I),H.put c [im ((if b=aa then d*s%P else d:Nat):Int)])
def B8{P}{t l:Nat}{args}{ts}(c:e.get t=.yield l):lI P R e h {callee:=.value (.tmp t),args,argTypes:=ts}=R.round l (args.toList.map e.eval) h:=by rw[U2,c]
def avH(l bn e f:Nat)(rec:iq)(R:TN l f rec)(y:bn≠e)(h2:bn≠f)(A:e≠f)(r n a c:Nat)(Y:n<=2147483647)(g:ni r n a c)(h:am)
 (j:h.V[bn]?=J [im (n:Nat)]) (i:h.V[e]?=J [im (a:Nat)]) (m:h.V[f]?=J [im (c:Nat)]) (X:h.aB[l]?=J rec):
 ∃h',W.call 216 [.yield l,.ptr (.box bn) 0,.ptr (.box e) 0] h=J (.ret (.tuple []),h')/\h'.V[f]?=J [im (r:Nat)]/\h'.aB=h.aB/\∀d:am,Ext d h->F d.V<=bn->F d.V<=e->F d.V<=f->Ext d h':=by
 have kR:=aj.mk R;have E:=aj.mk g;clear R g;refine ie O func216 O ?_;refine br @RG ?_;refine cK (λo L h'=>∃(a c:Nat),o<=2147483647/\ni r o a c/\L.get 0=.yield l/\L.get 1=.ptr (.box bn) 0/\L.get 2=.ptr (.box e) 0/\L.defers=[]/\h'.V[bn]?=J [im (o:Nat)]/\h'.V[e]?=J [im (a:Nat)]/\h'.V[f]?=J [im (c:Nat)]/\h'.aB=h.aB/\∀d:am,Ext d h->F d.V<=bn->F d.V<=e->F d.V<=f->Ext d h') ?_ n _ _ ?_;rotate_left 1
 .exact⟨a,c,Y,E.M,by exact gR,by exact gR,by exact gR,by exact gR,j,i,m,O,λ_ x _ _ _=>x⟩
 clear j i m E n a c Y;rintro o L H ⟨a,c,hm,g,g0,g1,g2,hd,j,i,m,p,T⟩;have E:=aj.mk g;have kX:=aj.mk T;have ln:=mB j;have la:=mB i;clear T;by_cases d:o=0
 .subst d;have hx:=g.done;subst hx;unfold im at ln la;clear g;refine br @RG ?_;exact⟨_,O,m,p,kX.M⟩
 have Yk:(0:Int)<((o:Nat):Int):=by omega
 have q1:∀(t:aX) (x u:b9),de af .and t x u ((o:Nat):I) (.v (.int .i64 1))=J ((o%2:Nat):I):=λt x u=>ae0 ag;obtain⟨m1,m2,m3⟩:=mul_tmod g.2.1 g.2.1;have N:H.aB[l]?=J rec:=by rw[p];exact X
 have rd:=kR.M a c (decide ((o%2:Nat)=1)) H g.2.1 g.1 N m;have v:ni r (o/2) (a*a%P) (if decide (o%2=1)=aa then c*a%P else c):=by
  rcases HU o with q|q
  .rw[q];exact g.even q
  .rw[q];exact g.odd q
 have Z:=aj.mk v;have azd:decide (((o%2:Nat):Int)=1)=decide (o%2=1):=by rw[decide_eq_decide];omega
 have D:=(aU.1 j).1;have B:=(aU.1 i).1;have C:=(aU.1 m).1;clear g v X;generalize (if decide (o%2=1)=aa then c*a%P else c)=c2 at *
 generalize decide (o%2=1)=bt at *
 unfold im at *
 have la2:∀x,aF af Gt (H.put f x) 3 (.ptr (.box e) 0)=J ((a:Nat):I):=λx=>mB (by rw[cG A];exact i);have sa2:∀x n,bU af (H.put f x) 3 (.ptr (.box e) 0) ((n:Int):I)=J ((H.put f x).put e [((n:Int):I)]):=λx n=>Ee (by rw[cG A];exact i);have ln2:∀x u,aF af Gt ((H.put f x).put e u) 3 (.ptr (.box bn) 0)=J ((o:Nat):I):=λx u=>mB (by rw[cG y,cG h2];exact j);have sn2:∀x u n,bU af ((H.put f x).put e u) 3 (.ptr (.box bn) 0) ((n:Int):I)=J (((H.put f x).put e u).put bn [((n:Int):I)]):=λx u n=>Ee (by rw[cG y,cG h2];exact j);refine dL @RG @B8 @avc ?_;refine⟨o/2,by omega,a*a%P,c2,by omega,Z.M,ba,ba,ba,ba,?_,?_,?_,p,λd x p1 p2 p3=>(((kX.M d x p1 p2 p3).gg p3 _).gg p2 _).gg p1 _⟩
 .exact dy (by rw[jA,jA];exact D)
 .rw[cG (Ne.symm y)];exact dy (by rw[jA];exact B)
 .rw[cG (Ne.symm h2),cG (Ne.symm A)];exact dy C
def GF{l p t:Nat}{r:iq}{y}(d:r.params=#[p,q])(f:r.tmps=e.tmps):(mG l r [x,y]).get t=if q=t then y else if p=t then x else e.get t:=by unfold mG;rw[d,f];have c:=Dp (e.tmps.set p x) q t y;have h2:=Dp e.tmps p t x;show((e.tmps.set p x).set q y).get t=_;rw[c,h2];rfl
def avI(a n:Int)(h:am):W.call 147 [im a,im n] h=J (.ret (.func (.func 216) [] [.ptr (.box (F h.V+1)) 0,.ptr (.box (F h.V)) 0]),(h.push [im a]).push [im n]):=by have c:∀n:Int,(I.v (.int .i64 n)).bL=J [((n:Int):I)]:=λ_=>rfl;unfold im;refine cX O func147 O ?_;exact qm @at5 @bG @bP
def akr(a n:Int)(h:am):∃h',W.call 75 [im a,im n] h=J (.ret (.tuple [im (eO a n),im (lQ a)]),h')/\Ext h h':=by
 have ca:=LP a;have z3:=LU;have a3:=eu;unfold eO lQ;by_cases c:b8 a=aa;rotate_left 1
 .have yq:b8 a=ar:=by simpa using c
  rw[aL c,aL c];rw[yq]at ca;unfold im at *
  refine ie O func75 O ?_;refine b_ @RQ @Ee @mB (au @aa4 @bP) ?_;exact⟨_,O,.push _ _⟩
 rw[aC c,aC c];rw[c]at ca;obtain⟨x,rfl,-,x1,Y⟩:=Fa c;clear c;have E:=anC [n] .aK cB;rw[anA]at E;obtain⟨j,r⟩:∃j:Nat,fmod n=j:=⟨(fmod n).toNat,(Aq n).symm⟩;have e:j<Q:=by have:=Oa n;rw[r,eD]at this;exact this
 have m:bZ (x:Int).toNat n=ru x j:=by unfold bZ;rw[r,eD,eD]
 rw[m];rw[r]at E;have bl:fF af 23 1 [(0,im n)]=J (.ac .aK 1 (ay [n])):=ax;have bx:∀n:Int,(im n).bL=J [im n]:=λ_=>rfl;have csq:=λH=>avI (x:Nat) (j:Nat) H;have f:=ni.start (n:=j) Y (pS e aZ);generalize ru x j=z1 at *
 clear m r;have kS:=aj.mk (au f (au Y (au e x1)));clear f Y e x1;unfold im at *
 refine ie O func75 O ?_;refine b_ @RQ @Ee @mB (au @aa4 @bP) ?_;refine bJ.gen λZ m hd hp oC=>?_;have g4:Z.get 4=.ptr (.box (F h.V)) 0:=by rw[m];exact gS
 have v:Z.get 15=.func (.func 216) [] [.ptr (.box (F h.V+1+1)) 0,.ptr (.box (F h.V+1)) 0]:=by rw[m];exact gS
 have hdf:Z.defers=[]:=by rw[hd];exact gS
 clear m hd hp oC;refine Bn (by rw[yj];exact v) λrec w1 T w3 w4 q X=>?_;have hL:F (((h.push [I.v (.int .i64 1)]).push [I.v (.int .i64 (x:Nat))]).push [I.v (.int .i64 (j:Nat))]).aB=F h.aB:=rfl;rw[hL];have PR:TN (F h.aB) (F h.V) rec:=by
  intro s C b H hs hc R l;obtain⟨m1,m2,-⟩:=mul_tmod hc hs;have e1:((C:Nat):Int)*(s:Nat)=((C*s:Nat):Int):=(xM _ _).symm;have e3:((C*s:Nat):Int).tmod 2147483579=((C*s%P:Nat):Int):=rA (C*s) 2147483579;rw[e1]at m1 m2;have u:∀t,(mG (F h.aB) rec [im (s:Nat),((b:Bool):I)]).get t=if 17=t then ((b:Bool):I) else if 16=t then im (s:Nat) else Z.get t:=λt=>GF T w1
  have d:(H.busy (F h.aB) rec).V[F h.V]?=J [im (C:Nat)]:=l;have l1:=mB d;have AK:=l;have s1:=λn=>Ee (n:=n) d;refine KL R (by rw[T];rfl) ?_;rw[w3];unfold im at *
  refine bJ.gen λL g jV pq C4=>?_;have q16:L.get 16=(s:Nat):=by rw[g,u];rfl
  have q17:L.get 17=(b:Bool):=by rw[g,u];rfl
  have q4:L.get 4=.ptr (.box (F h.V)) 0:=by rw[g,u];exact g4
  clear g u g4 v E csq ca bl;have B:F h.aB<F H.aB:=(aU.1 R).1;have i:H.aB.set (F h.aB) rec=H.aB:=by
   apply ou;intro k;rw[j'];split
   .rename_i Z;subst Z;exact R.symm
   .rfl
  have p:{rec with state:=LoopState.ready,pending:=ao}=rec:=by cases rec;cases q;cases X;rfl
  cases b with
  |true=>
   refine wH ?_;refine⟨ba,rec,O,q,?_⟩;refine bB @l1 @s1 ?_;refine⟨{rec with state:=.busy},?_,O,?_⟩
   .show(H.aB.set (F h.aB) _)[F h.aB]?=_;simp[B]
   .show(H.put (F h.V) _)=_;simp only[am.put,am.busy,HN,p,i]
  |false=>
   refine wH ?_;refine⟨ba,rec,O,q,{rec with state:=.busy},?_,O,?_⟩
   .show(H.aB.set (F h.aB) _)[F h.aB]?=_;simp[B]
   .have hq:H.put (F h.V) [I.v (Value.int IntKind.i64 (C:Nat))]=H:=jb AK;refine(show H.put (F h.V) _=H from hq).trans ?_;simp only[am.busy,HN,p,i]
 have y:∀{z:iq},((((h.push [I.v (.int .i64 1)]).push [I.v (.int .i64 (x:Nat))]).push [I.v (.int .i64 (j:Nat))]).loop z).V[F h.V]?=J [im ((1:Nat):Int)]:=λ{z}=>aP (aP (aQ _ _));have A:∀{z:iq},((((h.push [I.v (.int .i64 1)]).push [I.v (.int .i64 (x:Nat))]).push [I.v (.int .i64 (j:Nat))]).loop z).V[F h.V+1]?=J [im (x:Nat)]:=λ{z}=>aP (np (by rw[bP]));have d:∀{z:iq},((((h.push [I.v (.int .i64 1)]).push [I.v (.int .i64 (x:Nat))]).push [I.v (.int .i64 (j:Nat))]).loop z).V[F h.V+1+1]?=J [im (j:Nat)]:=λ{z}=>np (by rw[bP,bP]);have o:=@Be (((h.push [I.v (.int .i64 1)]).push [I.v (.int .i64 (x:Nat))]).push [I.v (.int .i64 (j:Nat))]) rec;have e:=kS.M.2.2.1;obtain⟨h',c1,D,c3,c4⟩:=avH (F h.aB) (F h.V+1+1) (F h.V+1) (F h.V) rec PR ag ag ag z1 j x 1 (by unfold Q at e;omega) kS.M.1 _ d A y o;refine⟨_,h',c1,rec,by rw[c3];exact o,by rw[q];decide,.inl ⟨X,?_⟩⟩;have hX:Ext h h':=c4 h ((((Ext.push h _).trans (Ext.push _ _)).trans (Ext.push _ _)).trans ((Fr.yO (bn:=F h.V+3) (l0:=h.aB.length) (n0:=h.tn) _ _).ext (by simp only[bP];omega) (aT _) (aT _))) ag ag (aT _);have dx:F h.V<F h'.V:=(aU.1 D).1;generalize N:h'.eM (F h.aB) {rec with state:=.exhausted}=H;have l:H.V[F h.V]?=J [im (z1:Nat)]:=by rw[<-N];exact D
 have hX2:Ext h H:=by rw[<-N];exact((Fr.Bh (bn:=h.V.length) (l0:=h.aB.length) (n0:=h.tn) hX (aT _)).trans (.eM (aT _) _)).ext (aT _) (aT _) (aT _)
 clear c1 D c3 c4 N o y A d PR w1 T w3 w4 q X hX dx;have l1:=mB l;unfold im at *
 have s1:=λn=>Ee (n:=n) l;have l2:∀z0,aF af Gt (H.put (F h.V) [((z0:Int):I)]) 3 (.ptr (.box (F h.V)) 0)=J ((z0:Int):I):=λz0=>mB (dy (aU.1 l).1);refine br @RQ ?_;exact⟨_,O,hX2.gg (aT _) _⟩
end
section
open Go.AE Go.NT Go.Proofs.Tryz
abbrev bV(b:List UInt8):List (List I):=b.map iL
def abE:Tryz.f255.results.toList=[.tmp 2]:=ax
def vQ:Tryz.f256.results.toList=[.tmp 4]:=ax
def abF:Tryz.f257.results.toList=[.tmp 8]:=ax
def Ig:fR af 5=J ar:=ax
def tN:cN af 5=J 1:=ax
def ais(n)(h):lM af h 5 69 (.v (.int .u8 n))=J (.v (.int .u32 (IntKind.u32.wrap n)),h):=ax
def pW(n)(h):lM af h 3 176 ((n:Int):I)=J (.v (.int .u64 (IntKind.u64.wrap n)),h):=ax
def mq(b:List UInt8):Nat->Nat
 |0=>0
 |c+1=>mq b c*256+(eS b c).toNat
def Hn(b:UInt8):b.toNat<256:=b.toNat_lt
def TZ(b):∀i,mq b i<256^i
 |0=>Nat.zero_lt_one
 |i+1=>by have:=TZ b i;have:=Hn (eS b i);unfold mq;rw[zL];omega
def aev(b):BitVec.ofNat 32 (mq b 4)=xy b 0:=by unfold xy;refine congrArg (BitVec.ofNat 32) ?_;show(((0*256+(eS b 0).toNat)*256+(eS b 1).toNat)*256+(eS b 2).toNat)*256+(eS b 3).toNat=((eS b 0).toNat*256+(eS b 1).toNat)*256*256+(eS b 2).toNat*256+(eS b 3).toNat;omega
def or8{x}(f:n<16777216)(e:m<256):de af .or t x y (bY (BitVec.ofNat 32 n<<<8)) (.v (.int .u32 (IntKind.u32.wrap (m:Nat))))=J (bY (BitVec.ofNat 32 (n*256+m))):=by
 have c:I.v (.int .u32 (IntKind.u32.wrap (m:Nat)))=bY (BitVec.ofNat 32 m):=by unfold bY;rw[AE.wrap32,BitVec.toNat_ofNat];congr 2
 rw[c,qB];congr 2;apply BitVec.eq_of_toNat_eq;rw[BitVec.toNat_or,BitVec.toNat_shiftLeft,BitVec.toNat_ofNat,BitVec.toNat_ofNat,BitVec.toNat_ofNat];have:n%2^32=n:=mM ag;rw[this];have d:n<<<8=n*256:=by rw[aek]
 have h2:n<<<8%2^32=n<<<8:=mM ag;rw[h2,mM (ag:m<2^32),<-aej (ag:m<2^8),d];exact(mM ag).symm
def au8{x}{u}:de af .shl t x y (bY u) (.v (.int .u64 8))=J (bY (u<<<8)):=uG (n:=8) aZ
def axO(b:List UInt8)(x:I)(h:am)(s:d_ 1 h x (bV b))(q:4<=F b):W.call 255 [x] h=J (.ret (bY (xy b 0)),h):=by
 have d:=underlying60;have B:=Ig;have X:=tN;obtain⟨Y,Z,f⟩:=s.slice (t:=60) (lo:=ao) (hi:=J (.v (.int .i64 4))) (l:=0) (m:=4) aZ d tN (.inr ⟨.i64,O,by simpa using q⟩) (.inl ⟨O,O⟩) aZ;have y3:=f.len d;rw[show(F ((MG 4 (bV b)).drop 0))=4 by simp;omega]at y3;have v:=aj.mk f;clear s f;refine cX O func255 O ?_;refine nX @abE ?_;refine cK (λy g h'=>∃c:Nat,c<=4/\y=4-c/\g.get 6=Y/\g.get 7=(4:Nat)/\g.get 8=(c:Int)/\g.get 2=bY (BitVec.ofNat 32 (mq b c))/\g.defers=[]/\h'=h) ?_ 4 _ _ ?_;rotate_left 1
 .refine⟨0,ck _,O,?_,?_,?_,?_,?_,O⟩<;>(first|assumption|(exact gR))
 rintro y g h' ⟨c,u,rfl,C,D,E,p,L,rfl⟩;by_cases r:c=4
 .subst r;rw[aev]at p;exact jU @abE
 .have j:c<4:=by omega
  have e:c<F b:=by omega
  obtain⟨z0,T,o,-⟩:=v.M.index (G:=Gt) (t:=60) (i:=c) (row:=iL (b[c])) aZ d tN (by simp[j,e]);have A:=o Ig;have i:(iL b[c]).head?=J (.v (.int .u8 (((eS b c).toNat:Nat):Int))):=by unfold eS;rw[fc,aW e];rfl
  rw[i]at A;have m:=TZ b c;have N:mq b c<16777216:=mK m (by have:256^c<=256^3:=TJ aZ ag;exact this);have R:=Hn (eS b c);clear o i m;refine Oh @ais @or8 @au8 ?_;refine⟨4-(c+1),by omega,c+1,by omega,O,ba,ba,?_,?_,ba,ba⟩
  .rfl
  .rfl
def vN(v:fx)(n)(c:n<32):(v<<<(32-n))|||(v>>>n)=NT.fO v n:=by unfold NT.fO;rw[BitVec.or_comm]
def as3(v:fx)(h:am):W.call 256 [bY v,.v (.int .i64 (-2))] h=J (.ret (bY (NT.fO v 2)),h):=by
 have d:∀(t:aX) (x c:b9),de af .and t x c (.v (.int .u64 (IntKind.u64.wrap (-2)))) (.v (.int .u64 31))=J (.v (.int .u64 30)):=λt x c=>by rw[rO];rfl
 have e:∀(t:aX) (x c:b9),de af .shl t x c (bY v) (.v (.int .u64 30))=J (bY (v<<<30)):=λt x c=>uG (n:=30) aZ;have f:∀(t:aX) (x c:b9),de af .shr t x c (bY v) (.v (.int .u64 (IntKind.u64.wrap (32-30))))=J (bY (v>>>2)):=λt x c=>tL (n:=2) aZ;have g:=vN v 2 aZ;refine cX O func256 O ?_;exact vp @vQ @pW @qB
def as6(v:fx)(h:am):W.call 256 [bY v,.v (.int .i64 (-6))] h=J (.ret (bY (NT.fO v 6)),h):=by
 have d:∀(t:aX) (x c:b9),de af .and t x c (.v (.int .u64 (IntKind.u64.wrap (-6)))) (.v (.int .u64 31))=J (.v (.int .u64 26)):=λt x c=>by rw[rO];rfl
 have e:∀(t:aX) (x c:b9),de af .shl t x c (bY v) (.v (.int .u64 26))=J (bY (v<<<26)):=λt x c=>uG (n:=26) aZ;have f:∀(t:aX) (x c:b9),de af .shr t x c (bY v) (.v (.int .u64 (IntKind.u64.wrap (32-26))))=J (bY (v>>>6)):=λt x c=>tL (n:=6) aZ;have g:=vN v 6 aZ;refine cX O func256 O ?_;exact vp @vQ @pW @qB
def as7(v:fx)(h:am):W.call 256 [bY v,.v (.int .i64 (-7))] h=J (.ret (bY (NT.fO v 7)),h):=by
 have d:∀(t:aX) (x c:b9),de af .and t x c (.v (.int .u64 (IntKind.u64.wrap (-7)))) (.v (.int .u64 31))=J (.v (.int .u64 25)):=λt x c=>by rw[rO];rfl
 have e:∀(t:aX) (x c:b9),de af .shl t x c (bY v) (.v (.int .u64 25))=J (bY (v<<<25)):=λt x c=>uG (n:=25) aZ;have f:∀(t:aX) (x c:b9),de af .shr t x c (bY v) (.v (.int .u64 (IntKind.u64.wrap (32-25))))=J (bY (v>>>7)):=λt x c=>tL (n:=7) aZ;have g:=vN v 7 aZ;refine cX O func256 O ?_;exact vp @vQ @pW @qB
def asY(v:fx)(h:am):W.call 256 [bY v,.v (.int .i64 (-11))] h=J (.ret (bY (NT.fO v 11)),h):=by
 have d:∀(t:aX) (x c:b9),de af .and t x c (.v (.int .u64 (IntKind.u64.wrap (-11)))) (.v (.int .u64 31))=J (.v (.int .u64 21)):=λt x c=>by rw[rO];rfl
 have e:∀(t:aX) (x c:b9),de af .shl t x c (bY v) (.v (.int .u64 21))=J (bY (v<<<21)):=λt x c=>uG (n:=21) aZ;have f:∀(t:aX) (x c:b9),de af .shr t x c (bY v) (.v (.int .u64 (IntKind.u64.wrap (32-21))))=J (bY (v>>>11)):=λt x c=>tL (n:=11) aZ;have g:=vN v 11 aZ;refine cX O func256 O ?_;exact vp @vQ @pW @qB
def asZ(v:fx)(h:am):W.call 256 [bY v,.v (.int .i64 (-13))] h=J (.ret (bY (NT.fO v 13)),h):=by
 have d:∀(t:aX) (x c:b9),de af .and t x c (.v (.int .u64 (IntKind.u64.wrap (-13)))) (.v (.int .u64 31))=J (.v (.int .u64 19)):=λt x c=>by rw[rO];rfl
 have e:∀(t:aX) (x c:b9),de af .shl t x c (bY v) (.v (.int .u64 19))=J (bY (v<<<19)):=λt x c=>uG (n:=19) aZ;have f:∀(t:aX) (x c:b9),de af .shr t x c (bY v) (.v (.int .u64 (IntKind.u64.wrap (32-19))))=J (bY (v>>>13)):=λt x c=>tL (n:=13) aZ;have g:=vN v 13 aZ;refine cX O func256 O ?_;exact vp @vQ @pW @qB
def as0(v:fx)(h:am):W.call 256 [bY v,.v (.int .i64 (-17))] h=J (.ret (bY (NT.fO v 17)),h):=by
 have d:∀(t:aX) (x c:b9),de af .and t x c (.v (.int .u64 (IntKind.u64.wrap (-17)))) (.v (.int .u64 31))=J (.v (.int .u64 15)):=λt x c=>by rw[rO];rfl
 have e:∀(t:aX) (x c:b9),de af .shl t x c (bY v) (.v (.int .u64 15))=J (bY (v<<<15)):=λt x c=>uG (n:=15) aZ;have f:∀(t:aX) (x c:b9),de af .shr t x c (bY v) (.v (.int .u64 (IntKind.u64.wrap (32-15))))=J (bY (v>>>17)):=λt x c=>tL (n:=17) aZ;have g:=vN v 17 aZ;refine cX O func256 O ?_;exact vp @vQ @pW @qB
def as1(v:fx)(h:am):W.call 256 [bY v,.v (.int .i64 (-18))] h=J (.ret (bY (NT.fO v 18)),h):=by
 have d:∀(t:aX) (x c:b9),de af .and t x c (.v (.int .u64 (IntKind.u64.wrap (-18)))) (.v (.int .u64 31))=J (.v (.int .u64 14)):=λt x c=>by rw[rO];rfl
 have e:∀(t:aX) (x c:b9),de af .shl t x c (bY v) (.v (.int .u64 14))=J (bY (v<<<14)):=λt x c=>uG (n:=14) aZ;have f:∀(t:aX) (x c:b9),de af .shr t x c (bY v) (.v (.int .u64 (IntKind.u64.wrap (32-14))))=J (bY (v>>>18)):=λt x c=>tL (n:=18) aZ;have g:=vN v 18 aZ;refine cX O func256 O ?_;exact vp @vQ @pW @qB
def as2(v:fx)(h:am):W.call 256 [bY v,.v (.int .i64 (-19))] h=J (.ret (bY (NT.fO v 19)),h):=by
 have d:∀(t:aX) (x c:b9),de af .and t x c (.v (.int .u64 (IntKind.u64.wrap (-19)))) (.v (.int .u64 31))=J (.v (.int .u64 13)):=λt x c=>by rw[rO];rfl
 have e:∀(t:aX) (x c:b9),de af .shl t x c (bY v) (.v (.int .u64 13))=J (bY (v<<<13)):=λt x c=>uG (n:=13) aZ;have f:∀(t:aX) (x c:b9),de af .shr t x c (bY v) (.v (.int .u64 (IntKind.u64.wrap (32-13))))=J (bY (v>>>19)):=λt x c=>tL (n:=19) aZ;have g:=vN v 19 aZ;refine cX O func256 O ?_;exact vp @vQ @pW @qB
def as4(v:fx)(h:am):W.call 256 [bY v,.v (.int .i64 (-22))] h=J (.ret (bY (NT.fO v 22)),h):=by
 have d:∀(t:aX) (x c:b9),de af .and t x c (.v (.int .u64 (IntKind.u64.wrap (-22)))) (.v (.int .u64 31))=J (.v (.int .u64 10)):=λt x c=>by rw[rO];rfl
 have e:∀(t:aX) (x c:b9),de af .shl t x c (bY v) (.v (.int .u64 10))=J (bY (v<<<10)):=λt x c=>uG (n:=10) aZ;have f:∀(t:aX) (x c:b9),de af .shr t x c (bY v) (.v (.int .u64 (IntKind.u64.wrap (32-10))))=J (bY (v>>>22)):=λt x c=>tL (n:=22) aZ;have g:=vN v 22 aZ;refine cX O func256 O ?_;exact vp @vQ @pW @qB
def as5(v:fx)(h:am):W.call 256 [bY v,.v (.int .i64 (-25))] h=J (.ret (bY (NT.fO v 25)),h):=by
 have d:∀(t:aX) (x c:b9),de af .and t x c (.v (.int .u64 (IntKind.u64.wrap (-25)))) (.v (.int .u64 31))=J (.v (.int .u64 7)):=λt x c=>by rw[rO];rfl
 have e:∀(t:aX) (x c:b9),de af .shl t x c (bY v) (.v (.int .u64 7))=J (bY (v<<<7)):=λt x c=>uG (n:=7) aZ;have f:∀(t:aX) (x c:b9),de af .shr t x c (bY v) (.v (.int .u64 (IntKind.u64.wrap (32-7))))=J (bY (v>>>25)):=λt x c=>tL (n:=25) aZ;have g:=vN v 25 aZ;refine cX O func256 O ?_;exact vp @vQ @pW @qB
def as9(v:fx)(h:am):W.call 257 [bY v,.v (.int .i64 6),.v (.int .i64 11),.v (.int .i64 25)] h=J (.ret (bY (NT.fO v 6^^^NT.fO v 11^^^NT.fO v 25)),h):=by
 have f:IntKind.i64.wrap (0-6)= -6:=by decide
 have g:IntKind.i64.wrap (0-11)= -11:=by decide
 have i:IntKind.i64.wrap (0-25)= -25:=by decide
 have c:=as6 v;have d:=asY v;have e:=as5 v;refine cX O func257 O ?_;exact WE @abF @uJ
def as8(v:fx)(h:am):W.call 257 [bY v,.v (.int .i64 2),.v (.int .i64 13),.v (.int .i64 22)] h=J (.ret (bY (NT.fO v 2^^^NT.fO v 13^^^NT.fO v 22)),h):=by
 have f:IntKind.i64.wrap (0-2)= -2:=by decide
 have g:IntKind.i64.wrap (0-13)= -13:=by decide
 have i:IntKind.i64.wrap (0-22)= -22:=by decide
 have c:=as3 v;have d:=asZ v;have e:=as4 v;refine cX O func257 O ?_;exact WE @abF @uJ
end
section
open Go.AE Go.NT Go.Proofs.Tryz
def qE:Tryz.f245.results.toList=[]:=ax
def EP:fR af 69=J ar:=ax
def xr:cN af 69=J 1:=ax
def M_:fR af 257=J aa:=ax
def Hd:cN af 257=J 8:=ax
def ax6:(fY af 266).bind I.bL=J (bT 64 (bY 0#32)):=ax
def acW:(fY af 257).bind I.bL=J (bT 8 (bY 0#32)):=ax
abbrev fa(l:List fx):List I:=l.map bY
def A_{k}(d:n<64):dM af 266 (.ptr (.box b) 0) (.v (.int k (n:Nat)))=J (.ptr (.box b) n):=by have c:=underlying266;unfold dM;rw[c];simp only[xr];rw[aC ⟨ag,by omega⟩];simp
def amR{g}{k}(d:n<64):dM af 266 (.ptr (.dU g) 0) (.v (.int k (n:Nat)))=J (.ptr (.dU g) n):=by have c:=underlying266;unfold dM;rw[c];simp only[xr];rw[aC ⟨ag,by omega⟩];simp
def wW{k}(d:n<8):dM af 257 (.ptr (.box b) 0) (.v (.int k (n:Nat)))=J (.ptr (.box b) n):=by have c:=underlying257;unfold dM;rw[c];simp only[xr];rw[aC ⟨ag,by omega⟩];simp
def Bb{l}(c:H.V[b]?=J (fa l))(d:n<F l):aF af Gt H 69 (.ptr (.box b) n)=J (bY (fm l n)):=by rw[fI EP c,HL,fm,fc,ek,aW d];rfl
def Si{l}{x:fx}(d:H.V[b]?=J (fa l))(e:n<F l):bU af H 69 (.ptr (.box b) n) (bY x)=J (H.put b (fa (l.set n x))):=by
 have c:n+1<=F (fa l):=by rw[bI];omega
 rw[e7 (xs:=[bY x]) O xr d O c];congr 2;unfold dW fa;rw[xS,aC e];simp
def anr{t}(d:t<64):aF af Gt H 69 (.ptr (.dU 1) t)=J (bY (Dg t)):=by
 have c:t<F Dh:=d;unfold aF;rw[EP];show((Gk.drop t).head?)=_;rw[HL];unfold Gk Dg;rw[ek,fc,aW c];show J _=J (bY (BitVec.ofNat 32 Dh[t]));unfold bY;rw[BitVec.toNat_ofNat];have:∀x∈Dh,x<2^32:=by decide
 rw[mM (this _ (List.getElem_mem c))]
def GX(b):∀n,F (me b n)=n
 |0=>rfl|n+1=>by rw[me,db,GX b n];rfl
def wl(b:List UInt8)(i:Nat):List fx:=me b i++bT (64-i) 0#32
def Eh{b}(hi:i<=64):F (wl b i)=64:=by unfold wl;rw[db,GX,oY];omega
def axL{b}(c:k<i):fm (wl b i) k=fm (me b i) k:=by unfold wl fm;rw[fc,qL (by rw[GX];exact c),fc]
def acU{b}{x}(hi:i<64)(e:x=if i<16 then xy b (4*i) else Kd (me b i) i):(wl b i).set i x=wl b (i+1):=by subst e;unfold wl;have c:=GX b i;obtain⟨k,d⟩:∃k,64-i=k+1:=⟨63-i,by omega⟩;rw[HM _ _ ag,c,tU,d,BM,Tw,(ag:64-(i+1)=k),me,jq];rfl
def axM(b):fa (wl b 0)=bT 64 (bY 0#32):=by show List.map bY ([]++bT 64 0#32)=_;rw[fE,wj]
def axK(b):wl b 64=me b 64:=by unfold wl;simp
def axN(b)(k):xy (b.drop k) 0=xy b k:=by unfold xy eS;simp only[fc,qM,BN,oy]
def ata(w v)(t)(a b c d e f g i)(j:v=[a,b,c,d,e,f,g,i]):KK w v t=
 [i+(NT.fO e 6^^^NT.fO e 11^^^NT.fO e 25)+(g^^^(e&&&(f^^^g)))+Dg t+fm w t+((NT.fO a 2^^^NT.fO a 13^^^NT.fO a 22)+((a&&&b)|||(c&&&(a|||b)))),
  a,b,c,d+(i+(NT.fO e 6^^^NT.fO e 11^^^NT.fO e 25)+(g^^^(e&&&(f^^^g)))+Dg t+fm w t),e,f,g]:=by
 subst j;rw[ahs,aoi];rfl
def eight{l:List fx}(h:F l=8):∃a b c d e f g i,l=[a,b,c,d,e,f,g,i]:=by
 match l,h with
 | [a,b,c,d,e,f,g,i],_=>exact⟨a,b,c,d,e,f,g,i,O⟩
def vF(s:List fx)(b:List UInt8)(t:Nat):List fx:=(bE t).foldl (KK (me b 64)) s
def acN(s)(b)(t):vF s b (t+1)=KK (me b 64) (vF s b t) t:=by unfold vF;rw[jH,nJ];rfl
def SX{s}(b)(c:F s=8):∀t,F (vF s b t)=8
 |0=>c
 |t+1=>by rw[acN];rfl
def xA(s v:List fx)(i:Nat):List fx:=ED (·+·) (s.take i) (v.take i)++s.drop i
def ayk{s v}(c:F s=8)(d:F v=8)(hi:i<=8):F (xA s v i)=8:=by unfold xA;simp;omega
def ayj{s v}(c:F s=8)(d:F v=8)(hi:i<8):fm (xA s v i) i=fm s i:=by unfold xA fm;rw[fc,wg (by simp;omega),qM,fc];congr 2;simp;omega
def ayl{s v}(c:F s=8)(d:F v=8)(hi:i<8):(xA s v i).set i (fm s i+fm v i)=xA s v (i+1):=by
 obtain⟨a,b,q,r,u,y,A,B,rfl⟩:=eight c;obtain⟨e,f,g,j,l,m,o,p,rfl⟩:=eight d;have:i=0∨i=1∨i=2∨i=3∨i=4∨i=5∨i=6∨i=7:=by omega
 rcases this with rfl|rfl|rfl|rfl|rfl|rfl|rfl|rfl<;>rfl
def ayi{s b}(c:F s=8)(d:F b=8):xA s b 8=ED (·+·) s b:=by unfold xA;rw[gm ag,gm ag,ot ag,g']
end
section
open Go.AE Go.NT Go.Proofs.Tryz
def G1{x}{u}:de af .shr t x y (bY u) (.v (.int .u64 3))=J (bY (u>>>3)):=tL (n:=3) aZ
def GZ{x}{u}:de af .shr t x y (bY u) (.v (.int .u64 10))=J (bY (u>>>10)):=tL (n:=10) aZ
def Ix{s}(c:F s=8):(I.agg (fa s)).bL=J (fa s):=by obtain⟨a,b,d,e,f,g,i,j,rfl⟩:=eight c;rfl
def acR(n):fa (bT n 0#32)=bT n (bY 0#32):=by simp[fa]
def wG{c}{g}{d}(f:∀Q,bJ R c e h (Bd g m Q)):bJ R c e h (Bd g m d):=f d
def Kz{c}:(h.put b xs).put b c=h.put b c:=by unfold am.put;simp only[HN]
def J7(c:b<F H.V):aF af Gt (H.put b cs) 69 (.ptr (.box b) k)=(cs.drop k).head?:=fI EP (dy c)
def stp{x:fx}(d:b<F H.V)(c:k+1<=F cs):bU af (H.put b cs) 69 (.ptr (.box b) k) (bY x)=J (H.put b (cs.set k (bY x))):=by rw[e7 (xs:=[bY x]) O xr (dy d) O c,Kz];congr 2;unfold dW;rw[xS,aC (show k<F cs from c)];simp
def avh:gV af 257 (.ptr (.box b) 0) (J (.v (.int .i64 1))) ao ao=J (.arr b 1 7 7):=ax
def avi:gV af 257 (.ptr (.box b) 0) ao (J (.v (.int .i64 7))) ao=J (.arr b 0 7 8):=ax
def aih{d e f g i j p}(l:H.V[b]?=J [x,d,e,f,g,i,j,p]):yd af H #[68,68] (.arr b 1 7 7) (.arr b 0 7 8)=J (.v (.int .i64 7),H.put b [x,x,d,e,f,g,i,j]):=by
 have u:jX H 1 (.arr b 0 7 8)=J [[x],[d],[e],[f],[g],[i],[j]]:=by show rowsOf H 1 (.arr b 0 7 8)=_;unfold rowsOf;simp only[l];rfl
 have r:∃o,af.info? 69=J o/\o.size=1:=by
  have c:=xr;unfold cN at c;cases m:af.info? 69 with
  |none=>rw[m]at c;cases c
  |some o=>rw[m]at c;exact⟨o,O,by simpa using c⟩
 obtain⟨o,q,h2⟩:=r;have v:((#[68,68]:Array Nat)[0]?).bind af.underlying=J (.slice 69):=ax;unfold yd;rw[v];simp only[q,h2,u,l];rfl
def ZT13{p:Prop}(h:p:=by
 simp only[fe,eE]
 repeat' (first|simp(maxSteps:=9^9) (disch:=first|exact dZ|fail) only[gW,reduceIte,aR,aM,xP,iI,EB, *]|refine dX ?_ ?_<;>(intro _;try omega))
 exact⟨by trivial,λ_=>by trivial⟩):p:=h
def ZT14{p:Prop}(h:p:=by
 simp only[fe,eE]
 repeat' (first|simp(maxSteps:=9^9) (disch:=first|exact dZ|fail) only[gW,reduceIte,aR,aM,uJ,tW,G1,GZ, *]|refine dX ?_ ?_<;>(intro _;try omega))
 exact⟨by trivial,λ_=>by trivial⟩):p:=h
def ZT21{p:Prop}(h:p:=by
 simp only[fe,eE]
 repeat' (first|simp(maxSteps:=9^9) (disch:=first|exact dZ|fail) only[gW,reduceIte,aR,aM, *]|refine dX ?_ ?_<;>(intro _;try omega))
 exact⟨by trivial,λ_=>by trivial⟩):p:=h
def ZT23{p:Prop}(h:p:=by
 repeat' (first|simp(maxSteps:=9^9) (disch:=first|exact dZ|fail) only[gW,reduceIte,aR,aM,uJ,tW,Ih,qB,xP,iI,EB, *]|refine dX ?_ ?_<;>(intro _;try omega))):p:=h
def ZT4{p:Prop}(h:p:=by
 repeat' (first|simp(maxSteps:=9^9) (disch:=first|exact dZ|fail) only[gW,reduceIte,aR,aM,uJ,tW,G1,GZ, *]|refine dX ?_ ?_<;>(intro _;try omega))):p:=h
def MZ(s:List fx)(b:List UInt8)(i:Nat)(x:I)(h:am)(y:F s=8)(hb:64<=F b)(N:h.V[i]?=J (fa s))
 (hx:∀H,fV i h.tn h H->d_ 1 H x (bV b)):
 ∃h',W.call 245 [.ptr (.box i) 0,x] h=J (.ret (.tuple []),h')/\h'.V[i]?=J (fa (zY s b))/\fV i h.tn h h':=by
 have kX:=aj.mk hx;clear hx;have azJ:=(aU.1 N).1;have kz:=aj.mk (axM b);have z242:=ax6;refine ie O func245 O ?_
 repeat' (first|simp(maxSteps:=9^9) (disch:=first|exact dZ|fail) only[gW,reduceIte,aR,aM,qE,bP, *]|refine dX ?_ ?_<;>(intro _;try omega))
 refine cK (λY q H=>∃c:Nat,c<=16/\Y=16-c/\q.get 0=.ptr (.box i) 0/\q.get 1=x/\q.get 4=.ptr (.box (F h.V)) 0/\q.get 14=(c:Int)/\q.defers=[]/\H.V[F h.V]?=J (fa (wl b c))/\H.V[i]?=J (fa s)/\fV i h.tn h H) ?_ 16 _ _ ?_;rotate_left 1
 .refine⟨0,ck _,O,?_,?_,?_,?_,?_,?_,aP N,(fV.refl _ _ _).push _⟩
  iterate 5 (first|assumption|(exact gR))
  rw[kz.M];exact aQ _ _
 clear z242 kz;rintro Y q H ⟨c,r,rfl,T,g1,Z,g14,X,e,d,m⟩;have o:=aj.mk m;have C:=m.len;clear m;by_cases L:c=16;rotate_left 1
 .refine wG λQ=>?_;have j:c<16:=by omega
  have JR:=kX.M H o.M;obtain⟨z2,y1,y2⟩:=JR.slice (t:=60) (lo:=J ((4*c:Nat):I)) (hi:=ao) (l:=4*c) (m:=b.length) aZ underlying60 tN (.inl ⟨O,by rw[bI]⟩) (.inr ⟨.i64,O⟩) ag;have y3:d_ 1 H z2 (bV (b.drop (4*c))):=by have q:(MG (F b) (bV b)).drop (4*c)=bV (b.drop (4*c)):=(by rw[gm (by rw[bI];exact aT _),<-adM]);rw[<-q];exact y2
  have cw:=axO _ z2 H y3 (by rw[fL];omega);rw[axN]at cw;have e4:IntKind.i64.wrap (4*((c:Nat):Int))=((4*c:Nat):Int):=by rw[ji ag ag];omega
  have st:=λz=>Si (x:=z) e (n:=c) (by rw[Eh ag];omega);have gG:=λz hz=>acU (b:=b) (i:=c) (x:=z) ag hz;have u:=gG (xy b (4*c)) (by rw[aC j]);have kst:=aj.mk u;have R:=(aU.1 e).1;have p:=aj.mk d;clear gG u JR y2 y3 e d N;have ix:=A_ (b:=h.V.length) (n:=c) (k:=.i64) ag
  repeat' (first|simp(maxSteps:=9^9) (disch:=first|exact dZ|fail) only[gW,reduceIte,aR,aM,qE, *]|refine dX ?_ ?_<;>(intro _;try omega))
  refine⟨16-(c+1),by omega,c+1,by omega,O,ba,ba,ba,O,ba,?_,?_,o.M.gg (aT _) _⟩
  .rw[kst.M];exact dy R
  .rw[cG ag];exact p.M
 subst L;have A:=aj.mk e;have p:=aj.mk d;clear e d N
 repeat' (first|simp(maxSteps:=9^9) (disch:=first|exact dZ|fail) only[gW,reduceIte,aR,aM,qE, *]|refine dX ?_ ?_<;>(intro _;try omega))
 refine cK (λY q H=>∃c:Nat,16<=c/\c<=64/\Y=64-c/\q.get 0=.ptr (.box i) 0/\q.get 4=.ptr (.box (F h.V)) 0/\q.get 6=(c:Int)/\q.defers=[]/\H.V[F h.V]?=J (fa (wl b c))/\H.V[i]?=J (fa s)/\fV i h.tn h H) ?_ 48 _ _ ?_;rotate_left 1
 .refine⟨16,by decide,by decide,O,?_,?_,?_,?_,A.M,p.M,o.M⟩<;>(first|assumption|(exact gR))
 clear A p o T g1 Z g14 X C r;rintro Y q H ⟨c,alh,r,rfl,T,Z,g6,X,e,d,m⟩;have o:=aj.mk m;have C:=m.len;clear m;by_cases L:c=64;rotate_left 1
 .refine wG λQ=>?_;have l0:=Bb e (n:=c-16) (by rw[Eh r];omega);have l1:=Bb e (n:=c-15) (by rw[Eh r];omega);have l2:=Bb e (n:=c-7) (by rw[Eh r];omega);have l3:=Bb e (n:=c-2) (by rw[Eh r];omega);rw[axL ag]at l0 l1 l2 l3;have i0:=A_ (b:=h.V.length) (n:=c-16) (k:=.i64) ag;have i1:=A_ (b:=h.V.length) (n:=c-15) (k:=.i64) ag;have i2:=A_ (b:=h.V.length) (n:=c-7) (k:=.i64) ag;have i3:=A_ (b:=h.V.length) (n:=c-2) (k:=.i64) ag;have i4:=A_ (b:=h.V.length) (n:=c) (k:=.i64) ag;have e0:IntKind.i64.wrap (((c:Nat):Int)-16)=((c-16:Nat):Int):=by rw[ji ag ag];omega
  have e1:IntKind.i64.wrap (((c:Nat):Int)-15)=((c-15:Nat):Int):=by rw[ji ag ag];omega
  have e2:IntKind.i64.wrap (((c:Nat):Int)-7)=((c-7:Nat):Int):=by rw[ji ag ag];omega
  have e3:IntKind.i64.wrap (((c:Nat):Int)-2)=((c-2:Nat):Int):=by rw[ji ag ag];omega
  have st:=λz=>Si (x:=z) e (n:=c) (by rw[Eh r];omega);have u:=acU (b:=b) (i:=c) (x:=Kd (me b c) c) ag (by rw[aL ag]);unfold Kd at u;have kst:=aj.mk u;have r7:=λH=>as7 (fm (me b c) (c-15)) H;have r18:=λH=>as1 (fm (me b c) (c-15)) H;have r17:=λH=>as0 (fm (me b c) (c-2)) H;have r19:=λH=>as2 (fm (me b c) (c-2)) H;have A:=aj.mk e;have p:=aj.mk d;clear u e d
  repeat' (first|simp(maxSteps:=9^9) (disch:=first|exact dZ|fail) only[gW,reduceIte,aR,aM,qE,uJ,tW,G1,GZ, *]|refine dX ?_ ?_<;>(intro _;try omega))
  refine tJ ax ?_
  repeat' (first|simp(maxSteps:=9^9) (disch:=first|exact dZ|fail) only[gW,reduceIte,aR,aM,qE,uJ,tW,G1,GZ, *]|refine dX ?_ ?_<;>(intro _;try omega))
  refine D4 [6,8,20,22] [] ax ?_ (λz1 hp=>nomatch hp) ?_
  .intro k D;simp only[gX,rI,or_false]at D;rcases D with rfl|rfl|rfl|rfl
   .refine Ac (x:=bY (NT.fO (fm (me b c) (c-15)) 7)) O O ?_ ?_
    .exact ZT21
    .exact ZT4
   .refine Ac (x:=bY (NT.fO (fm (me b c) (c-15)) 18)) O O ?_ ?_
    .exact ZT21
    .exact ZT4
   .refine Ac (x:=bY (NT.fO (fm (me b c) (c-2)) 17)) O O ?_ ?_
    .exact ZT14
    .exact ZT4
   .refine Ac (x:=bY (NT.fO (fm (me b c) (c-2)) 19)) O O ?_ ?_
    .exact ZT14
    .exact ZT4
  repeat' (first|simp(maxSteps:=9^9) (disch:=first|exact dZ|fail) only[gW,reduceIte,aR,aM,qE,uJ,tW,G1,GZ, *]|refine dX ?_ ?_<;>(intro _;try omega))
  refine⟨64-(c+1),by omega,c+1,by omega,by omega,O,ba,ba,O,ba,?_,?_,o.M.gg (aT _) _⟩
  .rw[kst.M];exact dy (aU.1 A.M).1
  .rw[cG ag];exact p.M
 subst L;rw[axK]at e;have a230:=M_;have s230:=Hd;have lds:aF af Gt H 257 (.ptr (.box i) 0)=J (.agg (fa s)):=by
  have E:F (fa s)=8:=by rw[bI];exact y
  rw[gt M_ Hd d (by rw[E];exact aT _),iI,gm (by rw[E];exact aT _)]
 have cs8:(I.agg (fa s)).bL=J (fa s):=Ix y;have zz:(fY af 257).bind I.bL=J (fa (bT 8 0#32)):=by rw[acR];exact acW
 have spz:∀H:am,bU af (H.push (fa (bT 8 0#32))) 257 (.ptr (.box (F H.V)) 0) (.agg (fa s))=J (H.push (fa s)):=λH=>jC (Ix y) Hd (by rw[bI];exact y) (by rw[bI];rfl);have R:=(aU.1 e).1;have A:=aj.mk e;have p:=aj.mk d;clear e d;have m:=o.M
 repeat' (first|simp(maxSteps:=9^9) (disch:=first|exact dZ|fail) only[gW,reduceIte,aR,aM,qE, *]|refine dX ?_ ?_<;>(intro _;try omega))
 refine cK (λY q B=>∃c:Nat,c<=64/\Y=64-c/\q.get 0=.ptr (.box i) 0/\q.get 4=.ptr (.box (F h.V)) 0/\q.get 9=.ptr (.box (F H.V)) 0/\q.get 69=(c:Int)/\q.defers=[]/\B.V[F h.V]?=J (fa (me b 64))/\B.V[i]?=J (fa s)/\B.V[F H.V]?=J (fa (vF s b c))/\fV i h.tn h B) ?_ 64 _ _ ?_;rotate_left 1
 .refine⟨0,by decide,O,?_,?_,?_,?_,?_,aP A.M,aP p.M,aQ _ _,o.M.push _⟩<;>(first|assumption|(exact gR))
 clear A p o T Z g6 X lds cs8 zz spz r alh m;have hHL:F h.V<F H.V:=R;generalize PQ:F H.V=f at *
 clear PQ R C;rintro Y q H ⟨c,r,rfl,T,Z,g9,g69,X,e,d,v,m⟩;have o:=aj.mk m;have C:=m.len;clear m;by_cases L:c=64;rotate_left 1
 .refine wG λQ=>?_;have j:c<64:=by omega
  have lw:=Bb e (n:=c) (by rw[GX];exact j);have lk:=λH=>anr (H:=H) j;have iw:=A_ (b:=h.V.length) (n:=c) (k:=.i64) j;have ik:=amR (g:=1) (n:=c) (k:=.i64) j;have kR:=aj.mk (acN s b c);obtain⟨v0,v1,v2,v3,v4,v5,v6,v7,C9⟩:=eight (SX b y c);have kE:=aj.mk (ata (me b 64) _ c _ _ _ _ _ _ _ _ C9);rw[C9]at v;have r1:=λH=>as9 v4 H;have r2:=λH=>as8 v0 H;have yF:H.V[f]?=J [bY v0,bY v1,bY v2,bY v3,bY v4,bY v5,bY v6,bY v7]:=v;have A:=aj.mk e;have p:=aj.mk d;clear e d v C9;have j0:dM af 257 (.ptr (.box f) 0) (.v (.int .i64 0))=J (.ptr (.box f) 0):=wW (n:=0) aZ;have j1:dM af 257 (.ptr (.box f) 0) (.v (.int .i64 1))=J (.ptr (.box f) 1):=wW (n:=1) aZ;have j2:dM af 257 (.ptr (.box f) 0) (.v (.int .i64 2))=J (.ptr (.box f) 2):=wW (n:=2) aZ;have j4:dM af 257 (.ptr (.box f) 0) (.v (.int .i64 4))=J (.ptr (.box f) 4):=wW (n:=4) aZ;have j5:dM af 257 (.ptr (.box f) 0) (.v (.int .i64 5))=J (.ptr (.box f) 5):=wW (n:=5) aZ;have j6:dM af 257 (.ptr (.box f) 0) (.v (.int .i64 6))=J (.ptr (.box f) 6):=wW (n:=6) aZ;have j7:dM af 257 (.ptr (.box f) 0) (.v (.int .i64 7))=J (.ptr (.box f) 7):=wW (n:=7) aZ;have rg:=(aU.1 yF).1;have a42:=EP;have s42:=xr;have cp:=aih yF;have sla:=avh (b:=f);have slb:=avi (b:=f)
  repeat' (first|simp(maxSteps:=9^9) (disch:=first|exact dZ|fail) only[gW,reduceIte,aR,aM,qE,uJ,tW,Ih,qB,xP,iI,EB, *]|refine dX ?_ ?_<;>(intro _;try omega))
  refine D4 [4] [] ax ?_ (λz1 hp=>nomatch hp) ?_
  .intro k D;simp only[js]at D;subst D;refine Ac (x:=bY (NT.fO v4 6^^^NT.fO v4 11^^^NT.fO v4 25)) O O ?_ ?_
   .exact ZT13
   .exact ZT23
  repeat' (first|simp(maxSteps:=9^9) (disch:=first|exact dZ|fail) only[gW,reduceIte,aR,aM,qE,uJ,tW,Ih,qB,xP,iI,EB, *]|refine dX ?_ ?_<;>(intro _;try omega))
  refine D4 [2] [] ax ?_ (λz1 hp=>nomatch hp) ?_
  .intro k D;simp only[js]at D;subst D;refine Ac (x:=bY (NT.fO v0 2^^^NT.fO v0 13^^^NT.fO v0 22)) O O ?_ ?_
   .exact ZT13
   .exact ZT23
  repeat' (first|simp(maxSteps:=9^9) (disch:=first|exact dZ|fail) only[gW,reduceIte,aR,aM,qE,uJ,tW,Ih,qB,xP,iI,EB, *]|refine dX ?_ ?_<;>(intro _;try omega))
  refine tJ ax ?_;clear yF
  repeat' (first|simp(maxSteps:=9^9) (disch:=first|exact dZ|fail) only[gW,reduceIte,aR,aM,qE,J7,stp,Kz,tW,xP,iI,EB,Tw,List.set_cons_succ, *]|refine dX ?_ ?_<;>(intro _;try omega))
  refine⟨64-(c+1),by omega,c+1,by omega,O,ba,ba,ba,O,ba,?_,?_,?_,o.M.gg ag _⟩
  .rw[cG ag];exact A.M
  .rw[cG ag];exact p.M
  .rw[dy rg,kR.M,kE.M];rfl
 subst L;have Xn:zY s b=ED (·+·) s (vF s b 64):=rfl;rw[Xn];have E:=SX b y 64;generalize vF s b 64=z0 at *
 have rg:=(aU.1 v).1;have p:=aj.mk d;have kv:=aj.mk v;clear e d v Xn
 repeat' (first|simp(maxSteps:=9^9) (disch:=first|exact dZ|fail) only[gW,reduceIte,aR,aM,qE, *]|refine dX ?_ ?_<;>(intro _;try omega))
 refine cK (λY q B=>∃c:Nat,c<=8/\Y=8-c/\q.get 0=.ptr (.box i) 0/\q.get 9=.ptr (.box f) 0/\q.get 129=(c:Int)/\q.defers=[]/\B.V[i]?=J (fa (xA s z0 c))/\B.V[f]?=J (fa z0)/\fV i h.tn h B) ?_ 8 _ _ ?_;rotate_left 1
 .refine⟨0,by decide,O,?_,?_,?_,?_,p.M,kv.M,o.M⟩<;>(first|assumption|(exact gR))
 clear p kv o T Z g9 g69 X C r;rintro Y q H ⟨c,r,rfl,T,g9,g129,X,d,v,m⟩;have o:=aj.mk m;clear m;by_cases L:c=8;rotate_left 1
 .refine wG λQ=>?_;have j:c<8:=by omega
  have hz:=ayk y E r;have l1:=Bb d (n:=c) ag;have l2:=Bb v (n:=c) ag;rw[ayj y E j]at l1;have j1:=wW (b:=i) (n:=c) (k:=.i64) j;have j2:=wW (b:=f) (n:=c) (k:=.i64) j;have st:=Si (x:=fm s c+fm z0 c) d (n:=c) ag;rw[ayl y E j]at st;have oE:=(aU.1 d).1;have kv:=aj.mk v;clear d v
  repeat' (first|simp(maxSteps:=9^9) (disch:=first|exact dZ|fail) only[gW,reduceIte,aR,aM,qE, *]|refine dX ?_ ?_<;>(intro _;try omega))
  refine tJ ax ?_
  repeat' (first|simp(maxSteps:=9^9) (disch:=first|exact dZ|fail) only[gW,reduceIte,aR,aM,qE,tW, *]|refine dX ?_ ?_<;>(intro _;try omega))
  refine⟨8-(c+1),by omega,c+1,by omega,O,ba,ba,O,ba,dy oE,?_,o.M.trans (.put _ _ _ _)⟩;rw[cG ag];exact kv.M
 subst L;rw[ayi y E]at d;have p:=aj.mk d;clear d v
 repeat' (first|simp(maxSteps:=9^9) (disch:=first|exact dZ|fail) only[gW,reduceIte,aR,aM,qE, *]|refine dX ?_ ?_<;>(intro _;try omega))
 exact⟨_,O,p.M,o.M⟩
end
section
open Go.AE Go.NT Go.Proofs.Tryz
def RJ:Tryz.f246.results.toList=[]:=ax
def aiq(n)(h):lM af h 69 238 (.v (.int .u32 n))=J (.v (.int .u64 (IntKind.u64.wrap n)),h):=ax
def qY(n)(h):lM af h 3 238 ((n:Int):I)=J (.v (.int .u64 (IntKind.u64.wrap n)),h):=ax
def E8(n)(h):lM af h 238 5 (.v (.int .u64 n))=J (.v (.int .u8 (IntKind.u8.wrap n)),h):=ax
def du(b:UInt8):I:=.v (.int .u8 b.toNat)
abbrev dN(l:List UInt8):List I:=l.map du
def tX(n k:Nat):List UInt8:=(bE k).map λc=>UInt8.ofNat (n/256^(k-1-c))
def Nj(n k):F (tX n k)=k:=by simp[tX]
def uy(cs:List I)(off len n i:Nat):List I:=cs.take (off+len-i)++dN ((tX n len).drop (len-i))++cs.drop (off+len)
def aq0{len}:uy cs off len n 0=cs:=by unfold uy;rw[ael,ael,ot (by rw[Nj];exact aT _)];show MG (off+len) cs++[]++_=_;rw[g',wn]
def aqY{len}(hi:i<=len)(c:off+len<=F cs):F (uy cs off len n i)=F cs:=by unfold uy;simp only[db,dF,bI,fL,Nj];omega
def aqZ{len}(hi:i<len)(j:off+len<=F cs):(uy cs off len n i).set (off+(len-1-i)) (du (UInt8.ofNat (n/256^i)))=uy cs off len n (i+1):=by
 unfold uy;have d:off+len-i=(off+(len-1-i))+1:=by omega
 have e:off+len-(i+1)=off+(len-1-i):=by omega
 have c:off+(len-1-i)<F cs:=by omega
 have f:(tX n len).drop (len-(i+1))=UInt8.ofNat (n/256^i)::(tX n len).drop (len-i):=by
  rw[List.drop_eq_getElem_cons (by rw[Nj];omega)];congr 1
  .unfold tX;rw[rG,HK];congr 3;omega
  .congr 1;omega
 rw[d,e,f,ad3 c];generalize g:cs[off+(len-1-i)]=z;rw[jq,jq,HM _ _ (by rw[dF];omega),dF,show off+(len-1-i)-min (off+(len-1-i)) (F cs)=0 by omega];simp
def Bk(cs:List I)(off len n:Nat):List I:=cs.take off++dN (tX n len)++cs.drop (off+len)
def aqX{len}:uy cs off len n len=Bk cs off len n:=by unfold uy Bk;rw[tU,iI,Nat.add_sub_cancel]
def YY{len}{k}(c:n<len):dM af 60 (.arr b off len aY) (.v (.int k (n:Nat)))=J (.ptr (.box b) (off+n)):=by rw[A8 underlying60 tN ag ag,eD,nO]
def Sv{v}(d:H.V[b]?=J cs)(c:k<F cs):bU af H 5 (.ptr (.box b) k) (du v)=J (H.put b (cs.set k (du v))):=by rw[e7 (xs:=[du v]) O tN d O c];congr 2;unfold dW;rw[xS,aC (show k<F cs from c)];simp
def axg(m):I.v (.int .u8 (IntKind.u8.wrap ((m:Nat):Int)))=du (UInt8.ofNat m):=by unfold du;rw[show(UInt8.ofNat m).toNat=m%256 from UInt8.toNat_ofNat'];unfold IntKind.wrap;simp[IntKind.signed,IntKind.bits]
def aa1(b off len aY n:Nat)(cs:List I)(h:am)(N:len<=8)(R:n<18446744073709551616)(d:h.V[b]?=J cs)(g:off+len<=F cs):
 W.call 246 [.arr b off len aY,.v (.int .u64 (n:Nat))] h=J (.ret (.tuple []),h.put b (Bk cs off len n)):=by
 have p:=underlying60;have e:=(aU.1 d).1;have m:=aj.mk (jb d);clear d;refine cX O func246 O ?_;refine nX @RJ ?_;refine cK (λo f H=>∃c:Nat,c<=len/\o=len-c/\f.get 0=.arr b off len aY/\f.get 1=.v (.int .u64 (n:Nat))/\f.get 6=(len:Nat)/\f.get 7=(c:Int)/\f.defers=[]/\H=h.put b (uy cs off len n c)) ?_ len _ _ ?_;rotate_left 1
 .refine⟨0,ck _,O,?_,?_,?_,?_,?_,by rw[aq0];exact m.M.symm⟩<;>(first|assumption|(exact gR))
 rintro o f H ⟨c,L,rfl,A,B,C,D,E,rfl⟩;by_cases i:c=len
 .subst i;rw[aqX];exact jU @RJ
 .refine wG λQ=>?_;have j:c<len:=by omega
  have r:IntKind.i64.wrap (8*((c:Nat):Int))=((8*c:Nat):Int):=by rw[ji ag ag];omega
  have u:IntKind.i64.wrap (((len:Nat):Int)-1)=((len-1:Nat):Int):=by rw[ji ag ag];omega
  have y:IntKind.i64.wrap (((len-1:Nat):Int)-((c:Nat):Int))=((len-1-c:Nat):Int):=by rw[ji ag ag];omega
  have T:∀(t:aX) (x q:b9),de af .shr t x q (.v (.int .u64 (n:Nat))) ((8*c:Nat):I)=J (.v (.int .u64 ((n/256^c:Nat):Int))):=λt x q=>by rw[BY ag,eD,show IntKind.u64.bits=64 from O,BO ag];congr 3;rw[Mo _ (by have:(0:Int)<2^(8*c):=Int.pow_pos aZ;omega)];have l:(2:Int)^(8*c)=((256^c:Nat):Int):=(by rw[Eu];simp);rw[l];rfl
  have X:=axg (n/256^c);have ix:=YY (b:=b) (off:=off) (aY:=aY) (k:=.i64) (ag:len-1-c<len);have st:=Sv (H:=h.put b (uy cs off len n c)) (v:=UInt8.ofNat (n/256^c)) (k:=off+(len-1-c)) (dy e) (by rw[aqY ag g];omega);rw[aqZ j g,Kz]at st;refine Og @RJ @E8 ?_;refine⟨len-(c+1),by omega,c+1,by omega,O,ba,ba,ba,O,ba,O⟩
end
section
open Go.AE Go.NT Go.Proofs.Tryz
def Iq:∀(i:Nat) (s:List fx) (b:List UInt8),iX (i+1) s b=zY (iX i s b) ((b.drop (64*i)).take 64)
 |0,s,b=>rfl
 |i+1,s,b=>by rw[iX,Iq i,iX,rF];congr 3;omega
def UN:∀(i j:Nat) (s:List fx) (b:List UInt8),iX (i+j) s b=iX j (iX i s b) (b.drop (64*i))
 |0,j,s,b=>by rw[oy];rfl
 |i+1,j,s,b=>by rw[(ag:i+1+j=(i+j)+1),iX,UN i j,iX,rF];congr 2;omega
def Nq:∀(i:Nat) (s:List fx) (a b:List UInt8),64*i<=F a->iX i s (a++b)=iX i s a
 |0,_,_,_,_=>rfl
 |i+1,s,a,b,h=>by rw[iX,iX,HO ag,ady ag];exact Nq i _ _ b (by rw[fL];omega)
def agp{s}{b}(c:F s=8):F (zY s b)=8:=by have:=SX b c 64;unfold vF at this;unfold zY;simp[c,this]
def xY:∀(i:Nat) (s:List fx) (b:List UInt8),F s=8->F (iX i s b)=8
 |0,_,_,h=>h
 |i+1,s,b,h=>xY i _ _ (agp h)
def nT(r:Nat):Nat:=if r>55 then 128 else 64
def mP(rest:List UInt8)(n:Nat):List UInt8:=rest++0x80::bT (nT (F rest)-9-F rest) 0++Dk n
def VW(c:F rest<64):F (mP rest n)=nT (F rest):=by
 unfold mP nT;simp only[db,eR,oY];have:F (Dk n)=8:=by simp[Dk]
 rw[this];split<;>omega
def apz(b):Ko b=b.take (64*(F b/64))++mP (b.drop (64*(F b/64))) (F b):=by
 unfold Ko mP;have c:S3 (F b)=nT (F (b.drop (64*(b.length/64))))-9-F (b.drop (64*(b.length/64))):=by unfold S3 nT;rw[fL];split<;>omega
 rw[c,<-jq,<-jq,wn]
def au5(b):mH b=rn (iX (nT (F (b.drop (64*(b.length/64))))/64) (iX (F b/64) NT.start b) (mP (b.drop (64*(F b/64))) (F b))):=by
 unfold mH;have e:F (b.drop (64*(b.length/64)))<64:=by rw[fL];omega
 have c:F (b.take (64*(b.length/64)))=64*(F b/64):=by rw[dF];omega
 rw[apz,db,VW e,c,show(64*(F b/64)+nT (F (b.drop (64*(b.length/64)))))/64=F b/64+nT (F (b.drop (64*(b.length/64))))/64 by rw[Nat.mul_add_div aZ]];have h2:iX (F b/64) NT.start (b.take (64*(F b/64)))=iX (F b/64) NT.start b:=by have:=Nq (F b/64) NT.start (b.take (64*(F b/64))) (b.drop (64*(F b/64))) (by rw[c];exact aT _);rw[wn]at this;exact this.symm
 have d:(b.take (64*(F b/64))).drop (64*(F b/64))=[]:=ot (by rw[c];exact aT _);rw[UN,ady (by rw[c];exact aT _),d,fE];rw[Nq _ _ _ _ (by rw[c];exact aT _),h2]
def anE(n):tX (n*8) 8=Dk n:=by unfold tX Dk;apply List.map_congr_left;intro d c;rw[List.mem_range]at c;congr 2;rw[show(256:Nat)=2^8 from O,<-EK]
def afK(x:fx):tX x.toNat 4=[UInt8.ofNat (x.toNat/16777216),UInt8.ofNat (x.toNat/65536),UInt8.ofNat (x.toNat/256),UInt8.ofNat x.toNat]:=by show[UInt8.ofNat (x.toNat/256^3),UInt8.ofNat (x.toNat/256^2),UInt8.ofNat (x.toNat/256^1),UInt8.ofNat (x.toNat/256^0)]=_;simp
def apq{s:List fx}{x}(hi:s[i]?=J x):rn (s.take (i+1))=rn (s.take i)++tX x.toNat 4:=by rw[fS hi,afK];unfold rn;rw[List.flatMap_append];simp
def Km(s):F (rn s)=4*F s:=by
 unfold rn
 induction s with
 |nil=>rfl|cons a s c=>rw[List.flatMap_cons,db,c];simp;omega
def p8(l):F (dN l)=F l:=bI _
def ai8(m:F rest<64):
 Bk ((dN rest++(bT 128 (du 0)).drop (F rest)).set (F rest) (du 0x80)) (nT (F rest)-8) 8 (n*8)=dN (mP rest n)++bT (128-nT (F rest)) (du 0):=by
 have l:nT (F rest)=64∨nT (F rest)=128:=by unfold nT;split<;>omega
 have j:F rest+9<=nT (F rest):=by unfold nT;split<;>omega
 rw[My];obtain⟨k,i⟩:∃k,128-F rest=k+1:=⟨127-F rest,by omega⟩;rw[i,BM,HM _ _ (by rw[p8];exact aT _),p8,tU,Tw];unfold Bk mP;rw[anE];generalize nT (F rest)=c at *
 have f:MG (c-8) (dN rest++du 0x80::bT k (du 0))=dN (rest++0x80::bT (c-9-F rest) 0):=by rw[List.take_append,p8,gm (by rw[p8];omega)];obtain⟨e,d⟩:∃e,c-8-F rest=e+1:=⟨c-9-F rest,by omega⟩;rw[d,fe,List.take_replicate,BO ag];unfold dN;rw[jr,dK,wj,(ag:c-9-F rest=e)]
 have g:List.drop (c-8+8) (dN rest++du 0x80::bT k (du 0))=bT (128-c) (du 0):=by rw[zG,p8,ot (by rw[p8];omega),fE];obtain⟨e,d⟩:∃e,c-8+8-F rest=e+1:=⟨c-1-F rest,by omega⟩;rw[d,xP,My];congr 1;omega
 rw[f,g];unfold dN;rw[<-jr]
end
section
open Go.AE Go.NT Go.Proofs.Tryz
def xm:Tryz.f204.results.toList=[.cell 2 29]:=ax
def Ud:fR af 29=J aa:=ax
def Eg:cN af 29=J 32:=ax
def S1:(fY af 29).bind I.bL=J (bT 32 (du 0)):=ax
def ann(H):aF af Gt H 256 (.ptr (.dU 0) 0)=J (.agg (fa NT.start)):=ax
def LL(l):(I.agg (dN l)).bL=J (dN l):=by
 have:(dN l).all I.dm=aa:=by rw[e8];intro x c;obtain⟨b,-,rfl⟩:=iW.1 c;rfl
 unfold I.bL;simp[this]
def ZP(H):w8 af H 60 (.v (.int .i64 64)) (.v (.int .i64 128))=J (.arr (F H.V) 0 64 128,H.push (bT 128 (du 0))):=ax
def SS(l):(bV l).flatten=dN l:=by rw[Nu];rfl
def aig{eb len}(s:d_ 1 H x (bV rest))(g:H.V[eb]?=J cs)(q:len<=F cs)(h2:len<=aY)(f:F rest<=len):
 yd af H #[60,60] (.arr eb 0 len aY) x=J (((F rest:Nat):I),H.put eb (dN rest++cs.drop (F rest))):=by
 have i:∃e,af.info? 5=J e/\e.size=1:=by
  have c:=tN;unfold cN at c;cases d:af.info? 5 with
  |none=>rw[d]at c;cases c
  |some e=>rw[d]at c;exact⟨e,O,by simpa using c⟩
 obtain⟨e,m,o⟩:=i;have l:((#[60,60]:Array Nat)[0]?).bind af.underlying=J (.slice 5):=ax;unfold yd;rw[l];simp only[m,o,s.news,g];rw[aC ⟨ag,h2⟩];have j:nN (F (bV rest)) len=F rest:=by rw[bI];exact BO f
 rw[j,gm (by rw[bI];exact aT _),SS];have p:dW cs 0 (dN rest)=dN rest++cs.drop (F rest):=by unfold dW;rw[eE,fE,oy,p8]
 rw[p];rfl
def Se{R:am->Prop}{g}{l}(p:∀H,R H->d_ 1 H x (bV l))(j:R g)(o:64<=F l):
 ∃y z,gV af 60 x ao (J (.v (.int .i64 64))) ao=J y/\gV af 60 x (J (.v (.int .i64 64))) ao ao=J z/\
  (∀H,R H->d_ 1 H y (bV (l.take 64)))/\∀H,R H->d_ 1 H z (bV (l.drop 64)):=by
 have u:∀H,R H->∃y,gV af 60 x ao (J (.v (.int .i64 64))) ao=J y/\d_ 1 H y (bV (l.take 64)):=λH c=>by obtain⟨y,d,f⟩:=(p H c).slice (t:=60) (lo:=ao) (hi:=J (.v (.int .i64 64))) (l:=0) (m:=64) aZ underlying60 tN (.inr ⟨.i64,O,by rw[bI];exact o⟩) (.inl ⟨O,O⟩) aZ;rw[iI,<-List.map_take]at f;exact⟨y,d,f⟩
 have v:∀H,R H->∃y,gV af 60 x (J (.v (.int .i64 64))) ao ao=J y/\d_ 1 H y (bV (l.drop 64)):=λH c=>by obtain⟨y,d,f⟩:=(p H c).slice (t:=60) (lo:=J (.v (.int .i64 64))) (hi:=ao) (l:=64) (m:=l.length) aZ underlying60 tN (.inl ⟨O,by rw[bI]⟩) (.inr ⟨.i64,O⟩) o;rw[gm (by rw[bI];exact aT _),<-adM]at f;exact⟨y,d,f⟩
 obtain⟨y,d,-⟩:=u g j;obtain⟨z,q,-⟩:=v g j;refine⟨y,z,d,q,λH c=>?_,λH c=>?_⟩
 .obtain⟨r,e,i⟩:=u H c;rw[d]at e;cases e;exact i
 .obtain⟨r,e,i⟩:=v H c;rw[q]at e;cases e;exact i
def amQ{l}{k}(e:F l=8)(hi:i<8):A7 af 257 (.agg (fa l)) (.v (.int k (i:Nat)))=J (bY (fm l i)):=by
 have d:=underlying257;unfold A7;rw[d];simp only[xr];rw[aC ⟨ag,by omega⟩];unfold Gq;rw[EP];simp only[xr];rw[eD,nO];have c:i<F l:=by omega
 show(fa l)[i]?=_;rw[ek,fm,fc,aW c];rfl
def avf(hi:i<8):gV af 29 (.ptr (.box b) 0) (J ((4*i:Nat):I)) (J ((4*i+4:Nat):I)) ao=J (.arr b (4*i) 4 (32-4*i)):=by
 have e:=underlying29;unfold gV;rw[e];have c:gC 32 ao 32=J 32:=rfl;have h2:gC 32 (J ((4*i+4:Nat):I)) 32=J (4*i+4):=by show(if _ then _ else _)=_;rw[aC ⟨ag,by omega⟩,eD]
 have d:gC (4*i+4) (J ((4*i:Nat):I)) 0=J (4*i):=by show(if _ then _ else _)=_;rw[aC ⟨ag,by omega⟩,eD]
 simp only[tN,c,h2,d];rw[aL cB,aL ag,oy,nO,(ag:4*i+4-4*i=4)]
def aiu{v:fx}:lM af H 69 238 (bY v)=J (.v (.int .u64 (v.toNat:Nat)),H):=by unfold bY;rw[aiq];congr 4;unfold IntKind.wrap;simp[IntKind.signed,IntKind.bits];have:=v.isLt;omega
end
section
open Go.AE Go.NT Go.Proofs.Tryz
def avA(cs):dW cs 0 cs=cs:=by unfold dW;simp
def apr{s}(e:F s=8)(hi:i<8):Bk (dN (rn (s.take i))++bT (32-4*i) (du 0)) (4*i) 4 (fm s i).toNat=dN (rn (s.take (i+1)))++bT (32-4*(i+1)) (du 0):=by
 have c:F (dN (rn (s.take i)))=4*i:=by rw[p8,Km,dF];omega
 have d:s[i]?=J (fm s i):=by unfold fm;rw[fc,aW ag];rfl
 unfold Bk;rw[apq d,uS c,zG,c,ot ag,fE,My,(ag:32-4*i-(4*i+4-4*i)=32-4*(i+1))];unfold dN;rw[jr]
def aiO(b)(i):zY (iX i NT.start b) ((b.drop (64*i)).take 64)=iX (i+1) NT.start b:=(Iq i _ b).symm
def ZT1{p:Prop}(h:p:=by
 have q:Ext h H:=X.M.mut (m.M.trans e) ag;have d:=(m.M.trans e).box _ _ ag kd.M;have y:F j=8:=Ol;have lds:aF af Gt H 257 (.ptr (.box sb) 0)=J (.agg (fa j)):=by have AY:F (fa j)=8:=(by rw[bI];exact y);rw[gt M_ Hd f (by rw[AY];exact aT _),iI,gm (by rw[AY];exact aT _)]
 have B:=aj.mk q;have kdb:=aj.mk d;clear q d f e u m kd kB X Ol;have T:aj (mH b=rn j):=⟨R.M⟩;clear R;refine br @xm ?_;refine cK (λD p H=>∃(c:Nat),c<=8/\D=8-c/\p.get 2=.ptr (.box (F h.V)) 0/\p.get 53=.agg (fa j)/\p.get 54=(c:Int)/\p.defers=[]/\H.V[F h.V]?=J (dN (rn (j.take c))++bT (32-4*c) (du 0))/\Ext h H) ?_ 8 _ _ ?_;rotate_left 1
 .refine⟨0,by decide,O,?_,?_,?_,?_,kdb.M,B.M⟩<;>(first|assumption|(exact gR))
 clear kdb B lds g2 g3 g4 g6 hd Z r;rintro D p H ⟨c,hi,rfl,g2,g53,g54,hd,d,q⟩;by_cases r:c=8
 .subst r;rw[gm ag]at d;have e0:dN (rn j)++bT (32-4*8) (du 0)=dN (rn j):=g' _;rw[e0,<-T.M]at d;have l:F (dN (mH b))=32:=(by rw[p8,T.M,Km,y]);have l177:aF af Gt H 29 (.ptr (.box (F h.V)) 0)=J (.agg (dN (mH b))):=(by rw[gt Ud Eg d (by rw[l];exact aT _),iI,gm (by rw[l];exact aT _)]);have s177:bU af H 29 (.ptr (.box (F h.V)) 0) (.agg (dN (mH b)))=J H:=(by rw[e7 (LL _) Eg d l (by rw[l];exact aT _),avA,jb d]);have B:=aj.mk q;clear d q;refine br @xm ?_;exact⟨_,O,B.M⟩
 .refine wG λQ=>?_;have C:c<8:=(by omega);have iv:=amQ (k:=.i64) y C;have e4:IntKind.i64.wrap (4*((c:Nat):Int))=((4*c:Nat):Int):=(by rw[ji ag ag];omega);have e5:IntKind.i64.wrap (((4*c:Nat):Int)+4)=((4*c+4:Nat):Int):=(by rw[ji ag ag];omega);have sl:=avf (b:=h.V.length) C;have pe:=aa1 (F h.V) (4*c) 4 (32-4*c) (fm j c).toNat _ H aZ (by have:=(fm j c).isLt;omega) d (by rw[db,p8,Km,dF,oY];omega);rw[apr y C]at pe;have O9:=(aU.1 d).1;have B:=aj.mk q;clear d q;refine bB @xm @aiu ?_;refine⟨8-(c+1),by omega,c+1,by omega,O,ba,ba,O,ba,dy O9,B.M.gg (aT _) _⟩):p:=h
def ZT9{p:Prop}(h:p:=by
 rw[Nat.mul_zero,iI];refine⟨B7 _,.inr ⟨eb,0,128,_,by rw[bI,g],by rw[bI,g];decide,D.box _ _ fH N,?_,?_⟩⟩
 .rw[SS,bI,nO,iI,uS (p8 _)]
 .rw[bI,db,p8,g,oY];decide):p:=h
def abY(b:List UInt8)(x:I)(h:am)(s:d_ 1 h x (bV b))(hb:F b<=1152921504606846975):
 ∃h',W.call 204 [x] h=J (.ret (.agg (dN (mH b))),h')/\Ext h h':=by
 have u28:=underlying60;have z177:=S1;have zz:(fY af 257).bind I.bL=J (fa (bT 8 0#32)):=by rw[acR];exact acW
 have cs8:(I.agg (fa NT.start)).bL=J (fa NT.start):=Ix O;have spz:∀H:am,bU af (H.push (fa (bT 8 0#32))) 257 (.ptr (.box (F H.V)) 0) (.agg (fa NT.start))=J (H.push (fa NT.start)):=λH=>jC (Ix O) Hd O O;have spz2:∀H:am,∀z0,bU af ((H.push z0).push (fa (bT 8 0#32))) 257 (.ptr (.box (F H.V+1)) 0) (.agg (fa NT.start))=J ((H.push z0).push (fa NT.start)):=λH z0=>by rw[<-bP H z0];exact spz _
 have lx:=s.len underlying60;rw[bI]at lx;have kS:=aj.mk s;have kSs:=aj.mk (au5 b);clear s;refine ie O func204 O ?_;refine dL @xm @bP @ann ?_;generalize uc:(h.push (bT 32 (du 0))).push (fa NT.start)=H0;generalize f:F h.V+1=sb;have kx:aj (∀i,fV sb h.tn H0 i->d_ 1 i x (bV b)):=⟨λi D=>kS.M.mono λz1 cs r=>by have C:=(aU.1 r).1;refine D.box z1 cs ag ?_;rw[<-uc];exact aP (aP r)⟩;have iD:H0.V[F h.V]?=J (bT 32 (du 0)):=by rw[<-uc];exact aP (aQ _ _)
 have C5:H0.V[sb]?=J (fa (iX 0 NT.start b)):=by rw[<-uc,<-f];exact np (by rw[bP])
 have WM:Ext h H0:=by rw[<-uc];exact(Ext.push _ _).trans (.push _ _)
 have azI:F h.V<sb:=by omega
 have ay2:F H0.V=sb+1:=by rw[<-uc,<-f,bP,bP]
 have kd:=aj.mk iD;have X:=aj.mk WM;have ks:=aj.mk C5;clear iD WM C5 uc f z177 zz cs8 spz spz2 kS;refine cK (λD p H=>∃(c:Nat) (z0:I),64*c<=F b/\D=F b-64*c/\p.get 0=x/\p.get 2=.ptr (.box (F h.V)) 0/\p.get 3=.ptr (.box sb) 0/\p.get 4=.func (.func 245) [.ptr (.box sb) 0] []/\p.get 5=z0/\p.defers=[]/\(∀i,fV sb h.tn H0 i->d_ 1 i z0 (bV (b.drop (64*c))))/\H.V[sb]?=J (fa (iX c NT.start b))/\fV sb h.tn H0 H) ?_ (F b) _ _ ?_;rotate_left 1
 .refine⟨0,x,ck _,O,?_,?_,?_,?_,?_,?_,kx.M,ks.M,fV.refl _ _ _⟩<;>(first|assumption|(exact gR))
 clear ks;rintro D p H ⟨c,z0,hi,rfl,g0,g2,g3,g4,g5,hd,u,f,e⟩;have Z:=(u H e).len underlying60;rw[bI,fL]at Z;by_cases r:64<=F b-64*c
 .refine wG λQ=>?_;obtain⟨y1,y2,q1,q2,q3,q4⟩:=Se u e (by rw[fL];exact r);obtain⟨H2,c1,L,c3⟩:=MZ _ _ sb y1 H (xY c NT.start b O) (by rw[dF,fL];omega) f (λi D=>q3 i (e.trans (D.uI (ff X.M.tn e.tn))));rw[aiO]at L;have Y:=aj.mk (e.trans (c3.uI (ff X.M.tn e.tn)));have kq:=aj.mk q4;have k2:=aj.mk L;clear e L c3 q3 q4 u f;refine dL @xm @fw.{0} @fE.{0} ?_;refine⟨F b-64*(c+1),by omega,c+1,y2,by omega,O,ba,ba,ba,ba,O,ba,?_,k2.M,Y.M⟩;rw[(ag:64*(c+1)=64*c+64),<-rF];exact kq.M
 have wM:F b/64=c:=by omega
 have R:=aj.mk kSs.M;rw[wM]at R;have lT:F (b.drop (64*c))<64:=by rw[fL];omega
 have C0:F b-64*c=F (b.drop (64*c)):=by rw[fL]
 rw[C0]at Z r;have h8:=xY c NT.start b O;generalize iX c NT.start b=s1 at *
 generalize b.drop (64*c)=o at *
 clear C0 kSs;have Y:=aj.mk e;have Ot:=e.len;have PW:=u (H.push (bT 128 (du 0))) (e.push _);have cp:=aig (len:=64) (aY:=128) PW (aQ _ _) (by rw[oY];decide) aZ ag;rw[mF]at cp;have e1:IntKind.u64.wrap ((F b:Nat):Int)=((F b:Nat):Int):=by unfold IntKind.wrap;simp[IntKind.signed,IntKind.bits];omega
 have e2:IntKind.u64.wrap (((F b:Nat):Int)*8)=((F b*8:Nat):Int):=by unfold IntKind.wrap;simp[IntKind.signed,IntKind.bits];omega
 have ix:=YY (b:=H.V.length) (off:=0) (aY:=128) (k:=.i64) lT;rw[oy]at ix;have Oo:F (dN o++(bT 128 (du 0)).drop o.length)=128:=by rw[db,p8,fL,oY];omega
 have st:bU af (H.push (dN o++(bT 128 (du 0)).drop (F o))) 5 (.ptr (.box (F H.V)) (F o)) (.v (.int .u8 128))=J (H.push ((dN o++(bT 128 (du 0)).drop (F o)).set (F o) (du 0x80))):=by have:=Sv (H:=H.push (dN o++(bT 128 (du 0)).drop (F o))) (v:=0x80) (aQ _ _) (k:=o.length) (by rw[Oo];omega);rw[mF]at this;exact this
 have hE:=ai8 (n:=b.length) lT;have WJ:F ((dN o++(bT 128 (du 0)).drop (F o)).set (F o) (du 0x80))=128:=by rw[ox,Oo]
 generalize dN o++(bT 128 (du 0)).drop (F o)=C1 at *
 generalize C1.set (F o) (du 0x80)=C2 at *
 have kEl:=aj.mk (VW (n:=b.length) lT);have pe:=λ(off aY:Nat) (ho:off+8<=128)=>aa1 (F H.V) off 8 aY (F b*8) C2 (H.push C2) aZ ag (aQ _ _) (by rw[WJ];exact ho);simp only[mF]at pe;have ks:=aj.mk f;clear PW u e f Oo WJ hi wM;have hL:(F o<=55/\nT (F o)=64)∨(55<F o/\nT (F o)=128):=by unfold nT;split<;>omega
 rcases hL with⟨hr,hL⟩|⟨hr,hL⟩
 .rw[hL]at hE kEl R;have p1:=pe 56 72 aZ;rw[hE]at p1;have sl:gV af 60 (.arr (F H.V) 0 64 128) (J (.v (.int .i64 (((64:Nat):Int)-8)))) ao ao=J (.arr (F H.V) 56 8 72):=ax;clear pe hE hL;refine dL @xm @ZP @qY ?_;have g:=kEl.M;generalize A:H.push (dN (mP o (F b))++bT (128-64) (du 0))=H1;generalize hz:F H.V=eb;have N:H1.V[eb]?=J (dN (mP o (F b))++bT (128-64) (du 0)):=by rw[<-A,<-hz];exact aQ _ _
  have Fw:fV sb h.tn H0 H1:=by rw[<-A];exact Y.M.push _
  have dY:H1.V[sb]?=J (fa s1):=by rw[<-A];exact aP ks.M
  have fH:eb≠sb:=by omega
  have hR:∀i,fV sb h.tn H1 i->d_ 1 i (.arr eb 0 64 128) (bV ((mP o (F b)).drop (64*0))):=λi D=>by
   exact ZT9
  have kR:=aj.mk hR;have kB:=aj.mk N;have m:=aj.mk Fw;have kS1:=aj.mk dY;clear N Fw dY hR A hz Y ks cp st p1 sl ix;refine cK (λD p H=>∃(c:Nat) (z0:I),64*c<=64/\D=64-64*c/\p.get 2=.ptr (.box (F h.V)) 0/\p.get 3=.ptr (.box sb) 0/\p.get 4=.func (.func 245) [.ptr (.box sb) 0] []/\p.get 6=z0/\p.defers=[]/\(∀i,fV sb h.tn H1 i->d_ 1 i z0 (bV ((mP o (F b)).drop (64*c))))/\H.V[sb]?=J (fa (iX c s1 (mP o (F b))))/\fV sb h.tn H1 H) ?_ 64 _ _ ?_;rotate_left 1
  .refine⟨0,.arr eb 0 64 128,ck _,O,?_,?_,?_,?_,?_,kR.M,kS1.M,fV.refl _ _ _⟩<;>(first|assumption|(exact gR))
  clear kR kS1 g0 g2 g3 g4 g5 hd Z r;rintro D p H ⟨c,z0,hi,rfl,g2,g3,g4,g6,hd,u,f,e⟩;have Z:=(u H e).len underlying60;rw[bI,fL,g]at Z;by_cases r:0<64-64*c
  .refine wG λQ=>?_;obtain⟨y1,y2,q1,q2,q3,q4⟩:=Se u e (by rw[fL,g];omega);obtain⟨H2,c1,L,c3⟩:=MZ _ _ sb y1 H (xY c s1 _ h8) (by rw[dF,fL,g];omega) f (λi D=>q3 i (e.trans (D.uI (ff X.M.tn (ff m.M.tn e.tn)))));rw[<-Iq]at L;have Y:=aj.mk (e.trans (c3.uI (ff X.M.tn (ff m.M.tn e.tn))));have kq:=aj.mk q4;have k2:=aj.mk L;clear e L c3 q3 q4 u f;refine dL @xm @fw.{0} @fE.{0} ?_;refine⟨64-64*(c+1),by omega,c+1,y2,by omega,O,ba,ba,ba,O,ba,?_,k2.M,Y.M⟩;rw[(ag:64*(c+1)=64*c+64),<-rF];exact kq.M
  have wM:c=64/64:=by omega
  subst wM;have Ol:=xY (64/64) s1 (mP o (F b)) h8;generalize iX (64/64) s1 (mP o (F b))=j at *
  exact ZT1
 .rw[hL]at hE kEl R;have p1:=pe 120 8 aZ;rw[hE]at p1;have sl0:gV af 60 (.arr (F H.V) 0 64 128) ao (J (.v (.int .i64 128))) ao=J (.arr (F H.V) 0 128 128):=ax;have sl:gV af 60 (.arr (F H.V) 0 128 128) (J (.v (.int .i64 (((128:Nat):Int)-8)))) ao ao=J (.arr (F H.V) 120 8 8):=ax;clear pe hE hL;refine dL @xm @ZP @qY ?_;have g:=kEl.M;generalize A:H.push (dN (mP o (F b))++bT (128-128) (du 0))=H1;generalize hz:F H.V=eb;have N:H1.V[eb]?=J (dN (mP o (F b))++bT (128-128) (du 0)):=by rw[<-A,<-hz];exact aQ _ _
  have Fw:fV sb h.tn H0 H1:=by rw[<-A];exact Y.M.push _
  have dY:H1.V[sb]?=J (fa s1):=by rw[<-A];exact aP ks.M
  have fH:eb≠sb:=by omega
  have hR:∀i,fV sb h.tn H1 i->d_ 1 i (.arr eb 0 128 128) (bV ((mP o (F b)).drop (64*0))):=λi D=>by
   exact ZT9
  have kR:=aj.mk hR;have kB:=aj.mk N;have m:=aj.mk Fw;have kS1:=aj.mk dY;clear N Fw dY hR A hz Y ks cp st p1 sl ix;refine cK (λD p H=>∃(c:Nat) (z0:I),64*c<=128/\D=128-64*c/\p.get 2=.ptr (.box (F h.V)) 0/\p.get 3=.ptr (.box sb) 0/\p.get 4=.func (.func 245) [.ptr (.box sb) 0] []/\p.get 6=z0/\p.defers=[]/\(∀i,fV sb h.tn H1 i->d_ 1 i z0 (bV ((mP o (F b)).drop (64*c))))/\H.V[sb]?=J (fa (iX c s1 (mP o (F b))))/\fV sb h.tn H1 H) ?_ 128 _ _ ?_;rotate_left 1
  .refine⟨0,.arr eb 0 128 128,ck _,O,?_,?_,?_,?_,?_,kR.M,kS1.M,fV.refl _ _ _⟩<;>(first|assumption|(exact gR))
  clear kR kS1 g0 g2 g3 g4 g5 hd Z r;rintro D p H ⟨c,z0,hi,rfl,g2,g3,g4,g6,hd,u,f,e⟩;have Z:=(u H e).len underlying60;rw[bI,fL,g]at Z;by_cases r:0<128-64*c
  .refine wG λQ=>?_;obtain⟨y1,y2,q1,q2,q3,q4⟩:=Se u e (by rw[fL,g];omega);obtain⟨H2,c1,L,c3⟩:=MZ _ _ sb y1 H (xY c s1 _ h8) (by rw[dF,fL,g];omega) f (λi D=>q3 i (e.trans (D.uI (ff X.M.tn (ff m.M.tn e.tn)))));rw[<-Iq]at L;have Y:=aj.mk (e.trans (c3.uI (ff X.M.tn (ff m.M.tn e.tn))));have kq:=aj.mk q4;have k2:=aj.mk L;clear e L c3 q3 q4 u f;refine dL @xm @fw.{0} @fE.{0} ?_;refine⟨128-64*(c+1),by omega,c+1,y2,by omega,O,ba,ba,ba,O,ba,?_,k2.M,Y.M⟩;rw[(ag:64*(c+1)=64*c+64),<-rF];exact kq.M
  have wM:c=128/64:=by omega
  subst wM;have Ol:=xY (128/64) s1 (mP o (F b)) h8;generalize iX (128/64) s1 (mP o (F b))=j at *
  exact ZT1
end
section
open Go.AE Go.NT Go.Proofs.Tryz
def abm(z:I):∀n:Nat,(bT n [z]).flatten=bT n z
 |0=>rfl|n+1=>by rw[BM,mj,abm z n,BM];rfl
def atT:Tryz.f247.results.toList=[.tmp 4]:=ax
def aAB:Tryz.f205.results.toList=[.tmp 2]:=ax
def ag2:Cb af 60 (.ac .nil 0 [])=J (.v (.int .i64 0)):=ax
def avw:gV af 60 (.ac .nil 0 []) ao (J (.v (.int .i64 0))) ao=J (.ac .nil 0 []):=ax
def ZS5{p:Prop}(h:p:=by
 have h:(match af.info? Q14 with|some i=>iJ i.size 1&&Nat.ble i.bytes 8&&decide ((i.zero.map λz=>z.cells.size)=J 1)|none=>ar)=aa:=ax;split at h
 .rename_i i c;simp only[bR,decide_eq_true_eq]at h;exact⟨i,c,nM h.1.1,kj h.1.2,h.2⟩
 .cases h):p:=h
section
open Go renaming kk5->Q14
def Da:∃i,af.info? 5=J i/\i.size=1/\i.bytes<=8/\(i.zero.map λz=>z.cells.size)=J 1:=ZS5
end
def zr5:(fY af 5).bind I.bL=J [du 0]:=ax
def ayF(c:0<n)(f:n<=1099511627776):gB af H #[60,3] (.ac .nil 0 []) ((n:Nat):I)=J (.arr (F H.V) 0 n n,H.push (bT n [du 0]).flatten):=by obtain⟨i,d,h2,e,g⟩:=Da;have:=lu f e;exact Up underlying60 underlying3 d zr5 c ag ag ag h2.symm
def ZO6{p:Prop}(h:p:=by (try unfold Q17 at *);omega):p:=h
def ZS6{p:Prop}(h:p:=by
 have e:=Q15;have a:=Q16 (H:=H) c f;have i:IntKind.i64.wrap ((0:Int)-0)=0:=by rfl
 have j:IntKind.i64.wrap (((n:Nat):Int)-0)=((n:Nat):Int):=by rw[Tl,ji ZO6 ZO6]
 have d:gV af Q17 (.arr (F H.V) 0 n n) ao (J ((0:Nat):I)) ao=J (.arr (F H.V) 0 0 n):=avm e Q18 aZ aZ ZO6 c;have d:gV af Q17 (.arr (F H.V) 0 n n) ao (J (.v (.int .i64 0))) ao=J (.arr (F H.V) 0 0 n):=d;have g:(0:Int)<(n:Nat):=by exact ZO6
 refine cX O Q19 O ?_;exact Oi @Q20 @Iw @Q21 (au @Q22 (au @gh.{0} (au @uP @Tl)))):p:=h
section
open Tryz renaming underlying60->Q15,func247->Q19
open YtcbhpkjbiehcpaaGreatDoor renaming ayF->Q16,tN->Q18,atT->Q20,ag2->Q21,avw->Q22
open Go renaming kk60->Q17
def ayY(n:Nat)(c:0<n)(f:n<=1099511627776)(H:am):W.call 247 [.ac .nil 0 [],((n:Nat):I)] H=J (.ret (.arr (F H.V) 0 0 n),H.push (bT n [du 0]).flatten):=ZS6
end
def ayZ(H:am):W.call 247 [.ac .nil 0 [],((0:Nat):I)] H=J (.ret (.ac .nil 0 []),H):=by
 have c:=underlying60;refine cX O func247 O ?_;have d:IntKind.i64.wrap ((0:Int)-0)=0:=by rfl
 have e:IntKind.i64.wrap (((0:Nat):Int)-0)=0:=by rfl
 exact Oi @atT @Iw @ag2 (au @avw (au @gh.{0} (au @uP @Tl)))
def ayA:fR af 60=J ar:=ax
def aAL:cN af 60=J 1:=ax
def ayx{len}{new}(s:d_ 1 H x new)(f:H.V[b]?=J cs)(h2:len+F new<=aY)(g:aY<=F cs):
 gB af H #[60,60] (.arr b 0 len aY) x=J (.arr b 0 (len+F new) aY,H.put b (dW cs len new.flatten)):=by
 obtain⟨i,d,c,-,e⟩:=Da;have:=Un (off:=0) underlying60 underlying60 d ag (by rw[c];exact e) (by rw[c];exact s.news) f h2 (by rw[c];omega)
 rwa [c,nO,oy]at this
def ayD(s:d_ 1 H x []):gB af H #[60,60] (.ac .nil 0 []) x=J (.ac .nil 0 [],H):=by
 obtain⟨g,d,c,-,e⟩:=Da;have f:jX H g.size x=J []:=by rw[c];exact s.news
 unfold gB;simp only[je,jF,oX,qO,underlying60,d,f];rw[aC ⟨ag,by rw[c];exact e⟩];simp
def ZO7{p:Prop}(h:p:=by (try unfold Q38 at *);omega):p:=h
def ZS7{p:Prop}(h:p:=by
 have u28:=Q32;have u233:=Q33;have aE:=Q34;have sE:=Q35;have D:∀(i:Nat) x,xs[i]?=J x->(xs.map λx=>[x])[i]?=J [x]:=λi x f=>by rw[ek,f];rfl
 have mU:∀i,F (c.take i).flatten<=1099511627776:=λi=>by
  refine ff ?_ hb
  conv=>rhs;rw[<-wn i c,tR,db]
  exact ZO7
 have C:∀(i:Nat) d,c[i]?=J d->(c.take (i+1)).flatten=(c.take i).flatten++d:=λi d u=>by rw[fS u,tR];simp
 have Y:=aj.mk hs;have A:=aj.mk hl;have kr:=aj.mk D;have kst:=aj.mk C;have kle:=aj.mk mU;have L:F (xs.map λx=>[x])=F xs:=by simp
 clear hs D C mU hl;generalize hM:(xs.map λx=>[x])=R at *
 refine cq O Q36 O ?_;refine br @Q37 ?_;refine cK (λz0 g h'=>∃i:Nat,i<=F xs/\z0=F xs-i/\g.get 0=.ac k 1 R/\g.get 9=.ac k 1 R/\g.get 10=(F xs:Nat)/\g.get 11=(i:Int)/\g.get 3=(F (c.take i).flatten:Nat)/\g.get 2=.ac .nil 0 []/\g.defers=[]/\h'=H) ?_ (F xs) _ _ ?_;rotate_left 1
 .refine⟨0,ck _,O,?_,?_,?_,?_,?_,?_,?_,O⟩<;>(first|assumption|(simp only[gW,reduceIte,aR,aM,L]<;>rfl))
 rintro z0 g h' ⟨i,u,rfl,g0,g9,g10,g11,g3,g2,X,rfl⟩;by_cases p:i<F xs
 .obtain⟨x,f⟩:∃x,xs[i]?=J x:=⟨_,aW p⟩;obtain⟨d,e⟩:∃d,c[i]?=J d:=⟨_,aW (by have:=A.M;exact ZO7)⟩;have l:=Y.M i x d f e;have ls:=l.len u28;have q:=kr.M i x f;have XY:(i:Int)<(F R:Int):=by exact ZO7
  have Z:=kst.M i d e;have q1:=kle.M (i+1);rw[Z,db]at q1;have ksum:=aj.mk (show(F (c.take (i+1)).flatten)=F (c.take i).flatten+F d by rw[Z,db]);generalize F (c.take i).flatten=n1 at *
  have e1:IntKind.i64.wrap (((n1:Nat):Int)+((F d:Nat):Int))=((n1+F d:Nat):Int):=by rw[ji ZO7 ZO7];exact ZO7
  have nn:¬(((n1+F d:Nat):Int)<0):=by exact ZO7
  have ld:aF af Gt h' Q38 (.elem 1 R i 0)=J x:=by rw[rm aE q];rfl
  clear Z q1 l;refine bB @Q37 @bh ?_;exact⟨F xs-(i+1),by exact ZO7,i+1,by exact ZO7,O,by trivial,by trivial,by trivial,by simp,by rw[ksum.M],by trivial,by trivial,by trivial⟩
 have:i=F xs:=by exact ZO7
 subst this;rw[show c.take (F xs)=c by rw[A.M];exact gu]at g3;have hn:=kle.M (F xs);rw[show c.take (F xs)=c by rw[A.M];exact gu]at hn;generalize T:F c.flatten=n at *
 rcases HR n with h0|h0
 .subst h0;have gn:=Q39 h';have N:c.flatten=[]:=adB T;refine br @Q37 ?_;refine cK (λz0 g m=>∃i:Nat,i<=F xs/\z0=F xs-i/\g.get 25=.ac k 1 R/\g.get 26=(F xs:Nat)/\g.get 27=(i:Int)/\g.get 6=.ac .nil 0 []/\g.defers=[]/\m=h') ?_ (F xs) _ _ ?_;rotate_left 1
  .refine⟨0,ck _,O,?_,?_,?_,?_,?_,O⟩<;>(first|assumption|(simp only[gW,reduceIte,aR,aM,L]<;>rfl))
  clear g0 g9 g10 g11 g3 g2 X gn;rintro z0 g m ⟨i,u,rfl,g25,g26,g27,g6,X,rfl⟩;by_cases p:i<F xs
  .obtain⟨x,f⟩:∃x,xs[i]?=J x:=⟨_,aW p⟩;obtain⟨d,e⟩:∃d,c[i]?=J d:=⟨_,aW (by have:=A.M;exact ZO7)⟩;have l:=Y.M i x d f e;have alK:d=[]:=by
    have:=dk e;cases d with|nil=>rfl|cons a z2=>exact absurd (adP.2 ⟨_,this,gj⟩) (by rw[N];exact rI)
   subst alK;have an:=Q40 l;have q:=kr.M i x f;have XY:(i:Int)<(F R:Int):=ZO7;have ld:aF af Gt m Q38 (.elem 1 R i 0)=J x:=(by rw[rm aE q];rfl);clear l;refine bB @Q37 @bh ?_;exact⟨F xs-(i+1),by exact ZO7,i+1,by exact ZO7,O,by trivial,by trivial,by simp,by trivial,by trivial,by trivial⟩
  .have:i=F xs:=ZO7;subst this;refine br @Q37 ?_;exact⟨_,_,O,_,O,Ext.refl _,by(try rw[N]);exact d_.ac (λr D=>by cases D) (λZ=>absurd O Z)⟩
 .have gn:=Q41 n h0 hn h';refine br @Q37 ?_;rw[abm];have CZ:∀(i:Nat) d,c[i]?=J d->∀r∈d,F r=1:=λi d u=>by obtain⟨x,f⟩:∃x,xs[i]?=J x:=⟨_,aW (by rw[A.M];exact(aU.1 u).1)⟩;exact(Y.M i x d f u).1
  have j:∀i,∀r∈(c.take i).flatten,F r=1:=λi r D=>by obtain⟨d,h1,h2⟩:=adP.1 D;obtain⟨z1,hj⟩:=List.mem_iff_getElem?.1 (uR h1);exact CZ z1 d hj r h2
  have qp:∀i,F (c.take i).flatten.flatten=F (c.take i).flatten:=λi=>by rw[nW (j i),nO]
  have B:∀i,F (c.take i).flatten<=n:=λi=>by
   rw[<-T]
   conv=>rhs;rw[<-wn i c,tR,db]
   exact ZO7
  have kfl:=aj.mk qp;have kmo:=aj.mk B;have kr2:=aj.mk j;clear CZ qp B j gn;refine cK (λz0 g m=>∃i:Nat,i<=F xs/\z0=F xs-i/\g.get 25=.ac k 1 R/\g.get 26=(F xs:Nat)/\g.get 27=(i:Int)/\g.get 6=.arr (F h'.V) 0 (F (c.take i).flatten) n/\g.defers=[]/\m.V[F h'.V]?=J ((c.take i).flatten.flatten++bT (n-F (c.take i).flatten) (Q42 0))/\Ext h' m) ?_ (F xs) _ _ ?_;rotate_left 1
  .refine⟨0,ck _,O,?_,?_,?_,?_,?_,?_,Ext.push _ _⟩<;>(first|assumption|exact aQ _ _|(simp only[gW,reduceIte,aR,aM,L]<;>rfl))
  clear g0 g9 g10 g11 g3 g2 X;rintro z0 g m ⟨i,u,rfl,g25,g26,g27,g6,X,o,E⟩;by_cases p:i<F xs
  .obtain⟨x,f⟩:∃x,xs[i]?=J x:=⟨_,aW p⟩;obtain⟨d,e⟩:∃d,c[i]?=J d:=⟨_,aW (by have:=A.M;exact ZO7)⟩;have l:=(Y.M i x d f e).ext E;have Z:=kst.M i d e;have m1:=kmo.M (i+1);have f0:=kfl.M i;have v:F (c.take (i+1)).flatten=F (c.take i).flatten+F d:=(by rw[Z,db]);rw[v]at m1;have alL:F d.flatten=F d:=(by rw[nW l.1,nO]);have ap:=Q43 l o m1 (by rw[db,oY,f0];exact ZO7);have AX:dW ((c.take i).flatten.flatten++bT (n-F (c.take i).flatten) (Q42 0)) (F (c.take i).flatten) d.flatten=(c.take (i+1)).flatten.flatten++bT (n-F (c.take (i+1)).flatten) (Q42 0):=(by unfold dW;rw[uS f0,zG,ot (by rw[f0];exact ZO7),fE,f0,My,Z,tR,db,alL];congr 2;exact ZO7);rw[AX]at ap;have q:=kr.M i x f;have XY:(i:Int)<(F R:Int):=ZO7;have ld:aF af Gt m Q38 (.elem 1 R i 0)=J x:=(by rw[rm aE q];rfl);have kX:=aj.mk E;have O9:=(aU.1 o).1;have ks:=aj.mk v;clear l E o AX Z f0 v;refine bB @Q37 @bh ?_;refine⟨F xs-(i+1),by exact ZO7,i+1,by exact ZO7,O,by trivial,by trivial,by simp,by rw[ks.M],by trivial,?_,kX.M.gg (aT _) _⟩;exact dy O9
  .have:i=F xs:=ZO7;subst this;have ht:c.take (F xs)=c:=(by rw[A.M];exact gu);have f0:=kfl.M (F xs);have j:=kr2.M (F xs);rw[ht]at o g6 f0 j;rw[T]at o g6;rw[tU,adV,g']at o;have kB:=aj.mk o;have kX:=aj.mk E;clear o E;refine br @Q37 ?_;exact⟨_,_,O,_,O,kX.M,d_.box j T.symm kB.M⟩):p:=h
section
open Tryz renaming underlying60->Q32,underlying260->Q33,func205->Q36
open YtcbhpkjbiehcpaaGreatDoor renaming ayA->Q34,aAL->Q35,aAB->Q37,ayZ->Q39,ayD->Q40,ayY->Q41,du->Q42,ayx->Q43
open Go renaming kk60->Q38
def ah9(k:Tok)(xs:List I)(c:List (List (List I)))(hl:F xs=F c)(H:am)(hs:∀(i:Nat) x d,xs[i]?=J x->c[i]?=J d->d_ 1 H x d)(hb:F c.flatten<=1099511627776)(gH:F xs<=1000):
 ∃r H',W.call 205 [.ac k 1 (xs.map λx=>[x])] H=J (r,H')/\∃y,r=.ret y/\Ext H H'/\d_ 1 H' y c.flatten:=ZS7
end
def atD:Tryz.f207.results.toList=[.tmp 4]:=ax
def aAu:Tryz.f141.results.toList=[.tmp 2]:=ax
def ag1:Cb af 23 (.ac .nil 0 [])=J (.v (.int .i64 0)):=ax
def avv:gV af 23 (.ac .nil 0 []) ao (J (.v (.int .i64 0))) ao=J (.ac .nil 0 []):=ax
section
open Go renaming kk3->Q14
def A6:∃i,af.info? 3=J i/\i.size=1/\i.bytes<=8/\(i.zero.map λz=>z.cells.size)=J 1:=ZS5
end
def zr3:(fY af 3).bind I.bL=J [im 0]:=ax
def ayE(c:0<n)(f:n<=1099511627776):gB af H #[23,3] (.ac .nil 0 []) ((n:Nat):I)=J (.arr (F H.V) 0 n n,H.push (bT n [im 0]).flatten):=by obtain⟨i,d,h2,e,g⟩:=A6;have:=lu f e;exact Up underlying23 underlying3 d zr3 c ag ag ag h2.symm
def ayz:fR af 23=J ar:=ax
def g_:cN af 23=J 1:=ax
def ayw{len}{new}(s:d_ 1 H x new)(f:H.V[b]?=J cs)(h2:len+F new<=aY)(g:aY<=F cs):
 gB af H #[23,23] (.arr b 0 len aY) x=J (.arr b 0 (len+F new) aY,H.put b (dW cs len new.flatten)):=by
 obtain⟨i,d,c,-,e⟩:=A6;have:=Un (off:=0) underlying23 underlying23 d ag (by rw[c];exact e) (by rw[c];exact s.news) f h2 (by rw[c];omega)
 rwa [c,nO,oy]at this
def ayC(s:d_ 1 H x []):gB af H #[23,23] (.ac .nil 0 []) x=J (.ac .nil 0 [],H):=by
 obtain⟨g,d,c,-,e⟩:=A6;have f:jX H g.size x=J []:=by rw[c];exact s.news
 unfold gB;simp only[je,jF,oX,qO,underlying23,d,f];rw[aC ⟨ag,by rw[c];exact e⟩];simp
end
section
open Go.AE Go.NT Go.Proofs.Tryz
def aty:Tryz.f138.results.toList=[.cell 4 29]:=ax
def ait(l)(h):lM af h 9 60 (.v (.string (bs l)))=J (.ac (.free h.tn) 1 (bV l),h.app .nil):=by have c:af.underlying 9=J .string:=underlying9;have h2:af.underlying 60=J (.slice 5):=underlying60;have d:af.underlying 5=J (.int .u8):=underlying5;obtain⟨g,e,f,-⟩:=Da;unfold lM;simp only[c,h2,d,e,f,if_true];simp[bs,am.fresh,am.app]
def age(x y)(c:x.dm=aa)(d:y.dm=aa):fF af 260 2 [(0,x),(1,y)]=J (.ac .aK 1 [[x],[y]]):=by cases x<;>first|(cases c;done)|(cases y<;>first|(cases d;done)|kernel_rfl)
def d_.cell(s:d_ sz h x U):x.dm=aa:=by rcases s.2 with⟨k,f,rfl,-⟩|⟨b,d,c,e,rfl,-⟩<;>rfl
def Ec(b):F (mH b)=32:=by unfold mH;rw[Km,xY _ _ _ O]
def avg(c):gV af 29 (.ptr (.box c) 0) ao ao ao=J (.arr c 0 32 32):=ax
def awM(c b:List UInt8)(x:I)(h:am)(s:d_ 1 h x (bV b))(Z:F b<=1099511620000)(ht:F c<=1099511620000):
 ∃h',W.call 138 [.v (.string (bs c)),x] h=J (.ret (.agg (dN (mg c b))),h')/\Ext h h':=by
 have D:=S1;have q:Ext h ((h.push (bT 32 (du 0))).app .nil):=(Ext.push _ _).trans (Ext.app (Ext.refl _) (.inl O));have v:((h.push (bT 32 (du 0))).app .nil).V=(h.push (bT 32 (du 0))).V:=dC _ _;obtain⟨d,Y,j⟩:=abY c (.ac (.free (h.push (bT 32 (du 0))).tn) 1 (bV c)) ((h.push (bT 32 (du 0))).app .nil) (d_.ac (B7 _) λ_=>rfl) ag;have d0:d.V[F h.V]?=J (bT 32 (du 0)):=j.box _ _ (by rw[v];exact aQ _ _);have tl:F (dN (mH c))=32:=by rw[p8,Ec]
 have N:bU af (d.push (bT 32 (du 0))) 29 (.ptr (.box (F d.V)) 0) (.agg (dN (mH c)))=J (d.push (dN (mH c))):=jC (LL _) Eg tl O;have o:d_ 1 (d.push (dN (mH c))) x (bV b):=((s.ext q).ext j).ext (Ext.push _ _);have p:d_ 1 (d.push (dN (mH c))) (.arr (F d.V) 0 32 32) (bV (mH c)):=d_.box (B7 _) (by rw[bI,Ec]) (by rw[SS];exact aQ _ _);obtain⟨r3,r,B,T,rfl,x3,m⟩:=ah9 .aK [.arr (F d.V) 0 32 32,x] [bV (mH c),bV b] O (d.push (dN (mH c))) (λE z rs g e=>by
  rcases E with _|_|E
  .injection g with g;injection e with e;subst g;subst e;exact p
  .injection g with g;injection e with e;subst g;subst e;exact o
  .cases g) (by simp[Ec];omega) cB
 have y:[bV (mH c),bV b].flatten=bV (mH c++b):=by simp[bV]
 rw[y]at m;have X:=age _ x (d_.cell p) (d_.cell o);obtain⟨i,u,A⟩:=abY (mH c++b) T r m (by rw[db,Ec];omega);have l:Ext d i:=(Ext.push _ _).trans (x3.trans A);have d4:i.V[F h.V]?=J (bT 32 (du 0)):=l.box _ _ d0;have f:F (dN (mg c b))=32:=by rw[p8];exact Ec _
 have R:bU af i 29 (.ptr (.box (F h.V)) 0) (.agg (dN (mg c b)))=J (i.put (F h.V) (dN (mg c b))):=by rw[e7 (LL _) Eg d4 f cB,vU (by rw[f];simp)]
 have L:aF af Gt (i.put (F h.V) (dN (mg c b))) 29 (.ptr (.box (F h.V)) 0)=J (.agg (dN (mg c b))):=by rw[gt Ud Eg (dy (aU.1 d4).1) (by rw[f];exact aT _),iI,gm (by rw[f];exact aT _)]
 replace u:W.call 204 [T] r=J (.ret (.agg (dN (mg c b))),i):=u;have C:=aj.mk (((q.trans j).trans l).gg (aT _) (dN (mg c b)));simp only[dK,List.map_nil]at B;clear s o p m q v j x3 A l d0 d4 y tl f;refine ie O func138 O ?_;refine dL @aty @ait @avg ?_;exact⟨_,O,C.M⟩
end
section
open Go.AE Go.NT Go.Proofs.Tryz
def RV:Tryz.f69.results.toList=[.tmp 4]:=ax
def YX{k}(d:n<32):dM af 29 (.ptr (.box b) 0) (.v (.int k (n:Nat)))=J (.ptr (.box b) n):=by have c:af.underlying 29=J (.array 32 5):=underlying29;unfold dM;simp only[c,tN];rw[aC ⟨ag,by omega⟩];simp
def Ze{l}(c:H.V[b]?=J (dN l))(hi:i<F l):aF af Gt H 5 (.ptr (.box b) i)=J (du (eS l i)):=by rw[fI Ig c,HL,ek,aW hi];unfold eS;rw[fc,aW hi];rfl
def VF(n)(h):lM af h 5 3 (.v (.int .u8 n))=J (((IntKind.i64.wrap n:Int):I),h):=ax
def TY(b):∀i,i<=F b->mq b i=(b.take i).foldl (λn c=>n*256+c.toNat) 0
 |0,_=>rfl
 |i+1,d=>by
  rw[mq,TY b i ag];have:b[i]?=J (eS b i):=by unfold eS;rw[fc,aW ag];rfl
  rw[fS this,nJ];rfl
def mask(b:List UInt8):List UInt8:=b.set 0 (eS b 0&&&127)
def ZJ{b}(c:0<F b):eS (mask b) i=if i=0 then eS b 0&&&127 else eS b i:=by
 unfold mask eS;rw[fc,j'];split
 .rename_i h;subst h;simp[c]
 .rename_i h;rw[aL (λd=>h d.symm),fc]
def Uj(c:UInt8):(c&&&127).toNat=c.toNat%128:=by rw[UInt8.toNat_and];exact ad4 c.toNat 7
def Qx{b}(e:0<F b):∀i,mq (mask b) (i+1)=mq b (i+1)%(128*256^i)
 |0=>by show 0*256+(eS (mask b) 0).toNat=(0*256+(eS b 0).toNat)%128;rw[ZJ e,aC O,Uj];omega
 |i+1=>by
  rw[mq,Qx e i,ZJ e,aL ag,mq.eq_2 b (i+1)];have:=Hn (eS b (i+1));generalize mq b (i+1)=d at *
  generalize (eS b (i+1)).toNat=l at *
  rw[zL,<-MO];have j:0<128*256^i:=HV aZ (MP aZ);generalize 128*256^i=c at *
  have f:=ml d j;have h2:=Nat.div_add_mod d c;have g:d*256+l=c*256*(d/c)+(d%c*256+l):=by rw[Nat.mul_right_comm,<-Nat.add_assoc,<-jt,h2]
  rw[g,Nat.mul_add_mod,mM (a:=d%c*256+l) (b:=c*256) (by have:(d%c+1)*256<=c*256:=mn _ f;rw[jt]at this;omega)]
def aov{b}(c:0<F b)(hi:i<8):mq (mask b) i<36028797018963968:=by
 cases i with
 |zero=>show 0<_;decide|succ i=>
  rw[Qx c];have d:=ml (mq b (i+1)) (show 0<128*256^i from HV aZ (MP aZ));have h2:256^i<=256^6:=TJ aZ ag;have e:256^6=281474976710656:=by decide
  omega
def hash_eq{b}(c:8<=F b):mq (mask b) 8%Q=q_ b:=by unfold q_;rw[Qx ag 7,TY b 8 c]
def au9{x}(c:n<36028797018963968):de af .shl t x y ((n:Nat):I) (.v (.int .u64 8))=J ((n*256:Nat):I):=by rw[Nm aZ];congr 3;show IntKind.i64.wrap (((n:Nat):Int)*256)=_;rw[ji ag ag];omega
def ori{x}(j:n<36028797018963968)(i:m<256):de af .or t x y ((n*256:Nat):I) ((m:Nat):I)=J ((n*256+m:Nat):I):=by
 rw[Nl];congr 3;have c:BitVec.ofInt IntKind.i64.bits ((n*256:Nat):Int)=BitVec.ofNat 64 (n*256):=by apply BitVec.eq_of_toNat_eq;show(BitVec.ofInt 64 ((n*256:Nat):Int)).toNat=(BitVec.ofNat 64 (n*256)).toNat;rw[BitVec.toNat_ofInt,BitVec.toNat_ofNat];omega
 have d:BitVec.ofInt IntKind.i64.bits ((m:Nat):Int)=BitVec.ofNat 64 m:=by apply BitVec.eq_of_toNat_eq;show(BitVec.ofInt 64 ((m:Nat):Int)).toNat=(BitVec.ofNat 64 m).toNat;rw[BitVec.toNat_ofInt,BitVec.toNat_ofNat];omega
 have e:(BitVec.ofNat 64 (n*256)|||BitVec.ofNat 64 m).toNat=n*256+m:=by
  rw[BitVec.toNat_or,BitVec.toNat_ofNat,BitVec.toNat_ofNat,mM (ag:n*256<2^64),mM (ag:m<2^64)];have g:n<<<8=n*256:=by rw[aek]
  rw[<-g,<-aej (ag:m<2^8)]
 have f:(BitVec.ofInt IntKind.i64.bits ((n*256:Nat):Int)|||BitVec.ofInt IntKind.i64.bits ((m:Nat):Int)).toNat=n*256+m:=by rw[c,d];exact e
 rw[f,ji ag ag]
def aeZ{x}(c):de af .and t x y (du c) (.v (.int .u8 127))=J (du (c&&&127)):=by
 unfold du;rw[rO];congr 3;have f:=Hn c;have d:BitVec.ofInt IntKind.u8.bits ((c.toNat:Nat):Int)=BitVec.ofNat 8 c.toNat:=by apply BitVec.eq_of_toNat_eq;show(BitVec.ofInt 8 ((c.toNat:Nat):Int)).toNat=(BitVec.ofNat 8 c.toNat).toNat;rw[BitVec.toNat_ofInt,BitVec.toNat_ofNat];omega
 have e:(BitVec.ofInt IntKind.u8.bits ((c.toNat:Nat):Int)&&&BitVec.ofInt IntKind.u8.bits 127).toNat=c.toNat%128:=by rw[d];show(BitVec.ofNat 8 c.toNat&&&127#8).toNat=_;rw[BitVec.toNat_and,BitVec.toNat_ofNat,mM (ag:c.toNat<2^8)];exact ad4 c.toNat 7
 rw[e,N3 ag ag,Uj]
def aou(l):(dN l).set 0 (du (eS l 0&&&127))=dN (mask l):=by unfold mask dN;rw[Ts]
def akg(e b:List UInt8)(x:I)(h:am)(s:d_ 1 h x (bV b))(Y:F b<=1099511620000)(Z:F e<=1099511620000):
 ∃h',W.call 69 [.v (.string (bs e)),x] h=J (.ret (im (q_ (mg e b):Nat)),h')/\Ext h h':=by
 obtain⟨c,R,L⟩:=awM e b x h s Y Z;have o:F (mg e b)=32:=Ec _;have i:F (dN (mg e b))=32:=by rw[p8,o]
 have v:=hash_eq (b:=mg e b) ag;generalize mg e b=d at *
 have j:0<F d:=by omega
 have p:=S1;have D:bU af (c.push (bT 32 (du 0))) 29 (.ptr (.box (F c.V)) 0) (.agg (dN d))=J (c.push (dN d)):=jC (LL _) Eg i O;have A:dM af 29 (.ptr (.box (F c.V)) 0) (.v (.int .i64 0))=J (.ptr (.box (F c.V)) 0):=YX (n:=0) aZ;have l0:aF af Gt (c.push (dN d)) 5 (.ptr (.box (F c.V)) 0)=J (du (eS d 0)):=Ze (aQ _ _) j;have E:bU af (c.push (dN d)) 5 (.ptr (.box (F c.V)) 0) (du (eS d 0&&&127))=J (c.push (dN (mask d))):=by rw[Sv (aQ _ _) (by rw[i];decide),aou,mF]
 have m:F (mask d)=32:=by unfold mask;rw[ox,o]
 have X:=aj.mk (L.trans (Ext.push c (dN (mask d))));have u:=aQ c (dN (mask d));have g:=λf y=>aov j (i:=f) y;have kB:=aj.mk u;have B:=aj.mk g;have ke:=aj.mk v;have C:=aj.mk m;clear s i o u g v m L j;unfold im;refine ie O func69 O ?_;refine bB @RV @aeZ ?_;refine cK (λz0 r H=>∃f:Nat,f<=8/\z0=8-f/\r.get 5=.ptr (.box (F c.V)) 0/\r.get 14=(f:Int)/\r.get 4=(mq (mask d) f:Nat)/\r.defers=[]/\H=c.push (dN (mask d))) ?_ 8 _ _ ?_;rotate_left 1
 .refine⟨0,by decide,O,?_,?_,?_,?_,O⟩<;>(first|assumption|(exact gR))
 clear p D A l0 E R;rintro z0 r H ⟨f,y,rfl,g5,g14,g4,hd,rfl⟩;by_cases T:f=8
 .subst T;have e1:(((mq (mask d) 8:Nat):Int)).tmod 1073741789=((q_ d:Nat):Int):=by rw[<-ke.M];exact rA _ _
  generalize mq (mask d) 8=z1 at *
  refine br @RV ?_;exact⟨_,O,X.M⟩
 .have g:f<8:=by omega
  have q:=B.M f g;have u1:=Hn (eS (mask d) f);have ix:=YX (b:=c.V.length) (n:=f) (k:=.i64) ag;have ld:aF af Gt (c.push (dN (mask d))) 5 (.ptr (.box (F c.V)) f)=J (.v (.int .u8 ((eS (mask d) f).toNat:Nat))):=Ze kB.M (by have:=C.M;omega);have ew:IntKind.i64.wrap (((eS (mask d) f).toNat:Nat):Int)=(((eS (mask d) f).toNat:Nat):Int):=ji ag ag;have s1:=λt x N=>au9 (t:=t) (x:=x) (y:=N) q;have s2:=λt x N=>ori (t:=t) (x:=x) (y:=N) q u1;have l:=aj.mk (show mq (mask d) (f+1)=mq (mask d) f*256+(eS (mask d) f).toNat from O);generalize mq (mask d) f=z1 at *
  generalize (eS (mask d) f).toNat=z2 at *
  refine bB @RV @VF ?_;exact⟨8-(f+1),by omega,f+1,by omega,O,by trivial,O,by rw[l.M],by trivial,by trivial⟩
end
section
open Go.AE Go.NT Go.Proofs.Tryz
def ar1(a n:Int)(h:am):W.call 203 [im a,im n] h=J (.ret (.tuple [im (eO a n),im (lQ a)]),h):=by
 have ca:=abK a;unfold eO lQ;by_cases c:b8 a=aa
 .rw[aC c,aC c];rw[c]at ca;obtain⟨x,rfl,j,l,g⟩:=Fa c;have ce:=ajd n;have e:=Oa n;have f:=Aq n;have i:=abw (bZ x n) x (fmod n).toNat (by have:Q=1073741789:=rfl;omega) (ni.start g (by have:Q=1073741789:=rfl;omega));rw[f]at i;simp only[eD];clear c j l g e f;unfold im at *
  refine cX O func203 O ?_;exact jU @abx
 .have d:b8 a=ar:=by simpa using c
  rw[aL c,aL c];rw[d]at ca;unfold im at *
  refine cX O func203 O ?_;exact jU @abx
def anw{b}(hi:i<F b):aF af Gt h 5 (.elem 1 (bV b) i 0)=J (du (eS b i)):=by rw[rm Ig (row:=iL (eS b i)) (by rw[ek,aW hi];unfold eS;rw[fc,aW hi];rfl)];rfl
def atU:Tryz.f213.results.toList=[.tmp 2]:=ax
def au7{x}(c:n<=4611686018427387903):de af .shl t x y (.v (.int .u64 (n:Nat))) (.v (.int .u64 1))=J (.v (.int .u64 ((2*n:Nat):Int))):=by rw[Nm aZ];congr 3;show IntKind.u64.wrap (((n:Nat):Int)*2)=_;unfold IntKind.wrap;simp[IntKind.signed,IntKind.bits];omega
def ava{x}(c:n<=4611686018427387903):de af .shr t x y ((n:Nat):I) (.v (.int .u64 63))=J (.v (.int .i64 0)):=by rw[BY aZ];congr 3;show((n:Nat):Int).fdiv (2^63)=_;rw[Mo _ aZ];omega
def axX{x}(d:n<=4611686018427387903):de af .xor t x y (.v (.int .u64 ((2*n:Nat):Int))) (.v (.int .u64 0))=J (.v (.int .u64 ((2*n:Nat):Int))):=by
 rw[UH];congr 3;have c:(BitVec.ofInt IntKind.u64.bits ((2*n:Nat):Int)^^^BitVec.ofInt IntKind.u64.bits 0).toNat=2*n:=by show(BitVec.ofInt 64 ((2*n:Nat):Int)^^^0#64).toNat=2*n;rw[BitVec.xor_zero,BitVec.toNat_ofInt];omega
 rw[c];unfold IntKind.wrap;simp[IntKind.signed,IntKind.bits];omega
def xz(c:n<18446744073709551616):IntKind.u64.wrap ((n:Nat):Int)=((n:Nat):Int):=by unfold IntKind.wrap;simp[IntKind.signed,IntKind.bits];omega
def axl(n)(d:n<=4611686018427387903)(h):W.call 213 [((n:Nat):I)] h=J (.ret (.v (.int .u64 (iB n:Nat))),h):=by
 have e:iB (n:Int)=2*n:=by unfold iB;rw[aC ag,eD]
 rw[e];have f:=xz (n:=n) ag;have g:IntKind.u64.wrap 0=0:=rfl;have i:=λt x c=>au7 (t:=t) (x:=x) (y:=c) d;have j:=λt x c=>ava (t:=t) (x:=x) (y:=c) d;have l:=λt x c=>axX (t:=t) (x:=x) (y:=c) d;refine cX O func213 O ?_;exact f_ @atU @qY
end
section
open Go.AE Go.NT Go.Proofs.Tryz
def L1:List bk:=[80,81,75,66,130,202,67,69,162,111,203,193,242,231,222,213,261,262]
noncomputable def Rc:bk->Option (List I->am->Option (I × am)):=mN W L1
noncomputable abbrev W1:=whole af Gt Rc
def B9:nG Rc L1:=t_
def fB{t}(k):qI t (cJ k)=aa:=by cases k<;>rfl
def tf:∀b:List UInt8,dV (bV b)=bV b
 | []=>rfl
 |c::b=>by show bA (iL c)::dV (bV b)=_;rw[tf b];rfl
def nm{l t}:∀b:List UInt8,fX n l t (bV b)=aa
 | []=>rfl
 |c::b=>by show(aJ n l t (iL c)&&fX n l t (bV b))=aa;rw[nm b];rfl
def ta:∀l:List Int,dV (ay l)=ay l
 | []=>rfl
 |c::b=>by show bA (wT c)::dV (ay b)=_;rw[ta b];rfl
def jw{l t}:∀b:List Int,fX n l t (ay b)=aa
 | []=>rfl
 |c::b=>by show(aJ n l t (wT c)&&fX n l t (ay b))=aa;rw[jw b];rfl
section
variable (a b n x:Int)
def aeB:∀h,W1.call 80 [im a,im b] h=J (.ret (im (cV a b)),h):=bX (L:=L1) O O O (aeJ a b _) O rfl
def aoE:∀h,W1.call 81 [im a,im b] h=J (.ret (im (cO a b)),h):=bX (L:=L1) O O O (QC a b _) O rfl
def amK:∀h,W1.call 222 [im n] h=J (.ret (.tuple [im (if fmod n=0 then 0 else eK n),im (if fmod n=0 then 90 else 0)]),h):=bX (L:=L1) O O O (amM n _) O rfl
def axv:∀h,W1.call 66 [im x] h=J (.ret (.v (.bool (b8 x))),h):=bX (L:=L1) O O O (LP x _) O rfl
def akh:∀h,W1.call 67 [im a,im b] h=J (.ret (.tuple [im (pm a b),im (rT a b)]),h):=bX (L:=L1) O O O (akl a b _) O rfl
def akn:∀h,W1.call 75 [im a,im n] h=J (.ret (.tuple [im (eO a n),im (lQ a)]),h):=by obtain⟨h',c,-⟩:=akr a n ⟨[],[],0,[]⟩;exact bX (L:=L1) O O O c O rfl
def arq:∀h,W1.call 130 [im a,im b] h=J (.ret (im (cV a b)),h):=bX (L:=L1) O O O (arw a b _) O rfl
def asR:∀h,W1.call 202 [im a,im b] h=J (.ret (im (cO a b)),h):=bX (L:=L1) O O O (Rv a b _) O rfl
def asc:∀h,W1.call 231 [im n] h=J (.ret (.tuple [im (if fmod n=0 then 0 else eK n),im (if fmod n=0 then 90 else 0)]),h):=bX (L:=L1) O O O (ash n _) O rfl
def auB:∀h,W1.call 111 [im x] h=J (.ret (.v (.bool (b8 x))),h):=bX (L:=L1) O O O (abK x _) O rfl
def arV:∀h,W1.call 203 [im a,im n] h=J (.ret (.tuple [im (eO a n),im (lQ a)]),h):=bX (L:=L1) O O O (ar1 a n _) O rfl
end
def axk(n)(c:n<=4611686018427387903):∀h,W1.call 213 [((n:Nat):I)] h=J (.ret (.v (.int .u64 (iB n:Nat))),h):=bX (L:=L1) O O O (axl n c _) O rfl
def akc(c b)(k)(d:F b<=1099511620000)(f:F c<=1099511620000):∀h,W1.call 69 [.v (.string (bs c)),.ac k 1 (bV b)] h=J (.ret (im (q_ (mg c b):Nat)),h):=by obtain⟨h',e,-⟩:=akg c b (.ac (cJ k) 1 (bV b)) ⟨[],[],0,[]⟩ (d_.ac (B7 _) λ_=>rfl) d f;exact bX (L:=L1) (A:=[.v (.string (bs c)),.ac (cJ k) 1 (bV b)]) O (by rw[bA,bA,av.eq_1,tf];rfl) (by simp[aJ,aI,fB,nm]) e O rfl
end
section
open Go.AE Go.NT Go.Proofs.Tryz
def sv(s:List UInt8):I:=.v (.string (bs s))
def aD(k n:Int)(s:List UInt8)(t:Tok)(sz:Nat)(U:List (List I)):List I:=[im k,im n,sv s,.ac t sz U]
inductive cW:Vl->List I->Prop
 |int (n:Int) (hn:0<=n/\n<=4611686018427387903):cW (.int n) (aD 1 n [] .nil 0 [])
 |aq (s:List UInt8) (hs:s.length<=1099511620000):cW (.aq s) (aD 2 0 s .nil 0 [])
 |ac (l:List Vl) (k:Tok) (sz:Nat) (U:List (List I)) (hl:U.length=l.length) (hs:U≠[]->sz=4) (hm:U.length<=1000000) (h:∀(i:Nat) v r,l[i]?=J v->U[i]?=J r->cW v r):cW (.ac l) (aD 3 0 [] k sz U)
def cW.len(h:cW v r):F r=4:=by cases h<;>rfl
def jp{k n}{t}:(I.agg (aD k n s t sz U)).bL=J (aD k n s t sz U):=rfl
def cW.cells(h:cW v r):(I.agg r).bL=J r:=by cases h<;>rfl
def GT:Tryz.f210.results.toList=[.tmp 2,.tmp 3]:=ax
def Nb:fR af 118=J aa:=ax
def oo:cN af 118=J 4:=ax
def Uh:fR af 116=J ar:=ax
def ag9:fR af 9=J ar:=ax
def ag4:fR af 4=J ar:=ax
def awF:cN af 262=J 4:=ax
section
variable {H:am} {b:Nat} {k n:Int} {s:List UInt8} {t:Tok} {sz:Nat} {U:List (List I)}
def ri(c:H.V[b]?=J (aD k n s t sz U)):aF af Gt H 3 (.ptr (.box b) 0)=J ((k:Int):I):=by rw[fI eu c];rfl
def um(c:H.V[b]?=J (aD k n s t sz U)):aF af Gt H 3 (.ptr (.box b) 1)=J ((n:Int):I):=by rw[fI eu c];rfl
def sf(c:H.V[b]?=J (aD k n s t sz U)):aF af Gt H 9 (.ptr (.box b) 2)=J (.v (.string (bs s))):=by rw[fI ag9 c];rfl
def lj(c:H.V[b]?=J (aD k n s t sz U)):aF af Gt H 116 (.ptr (.box b) 3)=J (.ac t sz U):=by rw[fI Uh c];rfl
def oa(d:F r=4)(c:H.V[b]?=J r):aF af Gt H 118 (.ptr (.box b) 0)=J (.agg r):=by rw[gt Nb oo c ag,iI,<-d,gu]
end
def fh:(∀b,dQ af 118 (.ptr (.box b) 0) 0=J (.ptr (.box b) 0))/\(∀b,dQ af 118 (.ptr (.box b) 0) 1=J (.ptr (.box b) 1))/\(∀b,dQ af 118 (.ptr (.box b) 0) 2=J (.ptr (.box b) 2))/\∀b,dQ af 118 (.ptr (.box b) 0) 3=J (.ptr (.box b) 3):=⟨λ_=>ax,λ_=>ax,λ_=>ax,λ_=>ax⟩
def b4(a b c:Bool):List I:=[(ar:I),((a:Bool):I),((b:Bool):I),((c:Bool):I)]
def Ng(a b c):iK af 262 [(1,((a:Bool):I)),(2,((b:Bool):I)),(3,((c:Bool):I))]=J (.agg (b4 a b c)):=ax
def ax7:(fY af 262).bind I.bL=J (b4 ar ar ar):=ax
def uL:(fY af 118).bind I.bL=J (aD 0 0 [] .nil 0 []):=ax
def Sh(H:am)(a b c):bU af (H.push (b4 ar ar ar)) 262 (.ptr (.box (F H.V)) 0) (.agg (b4 a b c))=J (H.push (b4 a b c)):=jC O awF O rfl
def P9{k}(e:n<4):dM af 262 (.ptr (.box b) 0) (.v (.int k (n:Nat)))=J (.ptr (.box b) n):=by have d:af.underlying 262=J (.array 4 4):=underlying262;have c:cN af 4=J 1:=ax;unfold dM;simp only[d,c];rw[aC ⟨ag,by omega⟩];simp
def P_:dM af 262 (.ptr (.box b) 0) (.v (.int .i64 1))=J (.ptr (.box b) 1)/\dM af 262 (.ptr (.box b) 0) (.v (.int .i64 2))=J (.ptr (.box b) 2)/\dM af 262 (.ptr (.box b) 0) (.v (.int .i64 3))=J (.ptr (.box b) 3):=⟨P9 (n:=1) aZ,P9 (n:=2) aZ,P9 (n:=3) aZ⟩
def ldb{x y z}(c:H.V[b]?=J (b4 x y z)):aF af Gt H 4 (.ptr (.box b) 1)=J ((x:Bool):I)/\aF af Gt H 4 (.ptr (.box b) 2)=J ((y:Bool):I)/\aF af Gt H 4 (.ptr (.box b) 3)=J ((z:Bool):I):=by refine⟨?_,?_,?_⟩<;>(rw[fI ag4 c];rfl)
def Qb{x}{p q r}:aF af Gt ((H.push x).push (b4 p q r)) 4 (.ptr (.box (F (H.push x).V)) 1)=J ((p:Bool):I)/\aF af Gt ((H.push x).push (b4 p q r)) 4 (.ptr (.box (F (H.push x).V)) 2)=J ((q:Bool):I)/\aF af Gt ((H.push x).push (b4 p q r)) 4 (.ptr (.box (F (H.push x).V)) 3)=J ((r:Bool):I):=ldb (aQ _ _)
def Sw(c:cW v r):bU af (H.push (aD 0 0 [] .nil 0 [])) 118 (.ptr (.box (F H.V)) 0) (.agg r)=J (H.push r):=jC c.cells oo c.len rfl
def Gb(c:F r=4)(d:U[i]?=J r):aF af Gt H 118 (.elem 4 U i 0)=J (.agg r):=by rw[Do Nb oo d ag,iI,<-c,gu]
def NQ:∀l m:List Vl,gF (l++m)=max (gF l) (gF m)
 | [],m=>by simp[gF]
 |v::l,m=>by rw[fw,gF,gF,NQ l m,Nat.max_assoc]
def NR{l:List Vl}(h:l[i]?=J v):gF (l.take (i+1))=max (gF (l.take i)) (gc v):=by rw[fS h,NQ];simp[gF]
def NS(l)(i):gF (l.take i)<=gF l:=by have:=NQ (l.take i) (l.drop i);rw[wn]at this;omega
def VH{l}(h:l[i]?=J v):gc v<=gF l:=by have c:=NR h;have h2:=NS l (i+1);omega
def ajM(f:cW v r):gc v<=100->∀h,∃h',W1.call 210 [.agg r] h=J (.ret (.tuple [((gc v:Nat):I),(aa:I)]),h')/\Ext h h':=by
 have u9:=underlying9;have u94:=underlying116;have z:=ax7
 induction f with
 |int n hn=>
  intro _ h;refine ie O func210 O ?_;show bJ _ _ _ _ (yg _ _ _ _ (.ret (.tuple [.v (.int .i64 0),(aa:I)])) _)
  repeat' (first|simp(maxSteps:=9^9) (disch:=first|exact dZ|fail) only[gW,reduceIte,aR,aM,GT,Ng,Sh,jp,ri,um,sf,lj,P_,fh,Qb,gh,uP,decide_true, *]|refine dX ?_ ?_<;>(intro _;try omega))
  all_goals exact⟨_,O,(Ext.push _ _).trans (Ext.push _ _)⟩
 |aq s o=>
  intro _ h;refine ie O func210 O ?_;show bJ _ _ _ _ (yg _ _ _ _ (.ret (.tuple [.v (.int .i64 0),(aa:I)])) _)
  repeat' (first|simp(maxSteps:=9^9) (disch:=first|exact dZ|fail) only[gW,reduceIte,aR,aM,GT,Ng,Sh,jp,ri,um,sf,lj,P_,fh,Qb,gh,uP,decide_true, *]|refine dX ?_ ?_<;>(intro _;try omega))
  all_goals exact⟨_,O,(Ext.push _ _).trans (Ext.push _ _)⟩
 |ac g k sz U y o hm e A=>
  intro m h;have C:=aj.mk m;have kr:=aj.mk e;have D:=aj.mk A;have Z:=aj.mk o;have E:=aj.mk y;refine ie O func210 O ?_;clear e A o m y;by_cases X:(F U:Int)=0
  all_goals
   repeat' (first|simp(maxSteps:=9^9) (disch:=first|exact dZ|fail) only[gW,reduceIte,aR,aM,GT,Ng,Sh,jp,ri,um,sf,lj,P_,fh,Qb,uP,decide_true, *]|refine dX ?_ ?_<;>(intro _;try omega))
   refine cK (λz0 q H=>∃d:Nat,d<=F U/\z0=F U-d/\q.get 55=.ac k sz U/\q.get 56=(F U:Nat)/\q.get 57=(d:Int)/\q.get 2=(gF (g.take d):Nat)/\q.defers=[]/\Ext h H) ?_ (F U) _ _ ?_;rotate_left 1
   .refine⟨0,ck _,O,?_,?_,?_,?_,?_,(Ext.push _ _).trans (Ext.push _ _)⟩<;>(first|assumption|(simp only[gW,reduceIte,aR,aM]<;>first|rfl|(rw[X])))
   rintro z0 q H ⟨d,hi,rfl,g55,g56,g57,T,m,u⟩;have p:=aj.mk u;clear u;by_cases l:d<F U
   .obtain⟨r,e⟩:∃r,U[d]?=J r:=⟨_,aW l⟩;obtain⟨v,f⟩:∃v,g[d]?=J v:=⟨_,aW (by have:=E.M;omega)⟩;have c:=kr.M d v r f e;have Y:sz=4:=Z.M (by rintro rfl;simp at l);subst Y;have j:gc (.ac g)=gF g+1:=rfl;have hdv:=VH f;have Az:=NS g d;have i:=C.M;obtain⟨H2,c1,N⟩:=D.M d v r f e ag (H.push r);have ld:=Gb (H:=H) c.len e;have st:=Sw (H:=H) c;have l2:aF af Gt (H.push r) 118 (.ptr (.box (F H.V)) 0)=J (.agg r):=oa c.len (aQ _ _);have zz:=uL;have s96:=oo;have B:=aj.mk (p.M.trans ((Ext.push H r).trans N));have L:=aj.mk (NR f);have Jt:(d:Int)<(F U:Int):=(by omega);clear p c f e N j i;have Pf:(if ((gF (g.take d):Nat):Int)<((gc v:Nat):Int) then ((gc v:Nat):Int) else ((gF (g.take d):Nat):Int))=((max (gF (g.take d)) (gc v):Nat):Int):=by split<;>omega
    repeat' (first|simp(maxSteps:=9^9) (disch:=first|exact dZ|fail) only[gW,reduceIte,aR,aM,GT,bh,Bf, *]|refine dX ?_ ?_<;>(intro _;try omega))
    all_goals exact⟨F U-(d+1),by omega,d+1,by omega,O,by trivial,by trivial,by simp,by rw[L.M],by trivial,B.M⟩
   .have:d=F U:=(by omega);subst this;have i:=C.M;have R:g.take (F U)=g:=(by rw[E.M];exact gu);rw[R]at T;have j:gc (.ac g)=gF g+1:=rfl;rw[j]at i ⊢;have e2:((gF g+1:Nat):Int)=((gF g:Nat):Int)+1:=by omega
    repeat' (first|simp(maxSteps:=9^9) (disch:=first|exact dZ|fail) only[gW,reduceIte,aR,aM,GT, *]|refine dX ?_ ?_<;>(intro _;try omega))
    all_goals exact⟨_,O,p.M⟩
end
section
open Go.AE Go.NT Go.Proofs.Tryz
def RM:Tryz.f212.results.toList=[.tmp 4]:=ax
def Nd{k}{new}{t1}(g:(∃e,af.underlying t1=J (.slice e))∨af.underlying t1=J .string)(m:jX H 1 x=J (bV new))(d:new≠[])(j:F es+F new<=8796093022208)(l:sz=1∨(es=[]/\k=.nil))(i:cY n0 H k):
 gB af H #[60,t1] (.ac k sz (bV es)) x=J (.ac (.free H.tn) 1 (bV (es++new)),H.app k):=by
 obtain⟨r,o,c,p,q⟩:=Da;have u:=lu j p;have:=zV (t0:=60) (n0:=n0) (i:=r) (sz:=sz) (es:=bV es) (new:=bV new) underlying60 g o ag (by rw[c];exact q) (by rw[c];exact m) (by simpa using d)
  (by rw[bI,bI];omega) (by rw[bI,bI];omega) (l.imp (λf=>f.trans c.symm) λf=>⟨by rw[f.1];rfl,f.2⟩) i
 rw[this,c];simp[bV]
def ER{k k'}{c}(f:F es<8796093022208)(e:sz=1∨(es=[]/\k=.nil))(d:cY n0 H k):
 gB af H #[60,60] (.ac k sz (bV es)) (.ac k' 1 [[du c]])=J (.ac (.free H.tn) 1 (bV (es++[c])),H.app k):=
 Nd (new:=[c]) (.inl ⟨_,underlying60⟩) O cB (by simp;omega) e d
def zX(c):fF af 60 1 [(0,du c)]=J (.ac .aK 1 [[du c]]):=ax
def apk(c):c%256|||128=c%128+128:=by
 have h:∀d:Fin 256,(d.val|||128)=d.val%128+128:=by decide+kernel
 have:=h ⟨c%256,ml _ aZ⟩;simp only at this;rw[this];omega
def apl{x}(c):de af .or t x y (.v (.int .u8 (IntKind.u8.wrap (c:Nat)))) (.v (.int .u8 128))=J (du (UInt8.ofNat (c%128+128))):=by
 have g:IntKind.u8.wrap ((c:Nat):Int)=((c%256:Nat):Int):=by unfold IntKind.wrap;simp[IntKind.signed,IntKind.bits]
 have f:(UInt8.ofNat (c%128+128)).toNat=c%128+128:=by have:(UInt8.ofNat (c%128+128)).toNat=(c%128+128)%256:=UInt8.toNat_ofNat';omega
 unfold du;rw[g,Nl,f];congr 3;have d:BitVec.ofInt IntKind.u8.bits ((c%256:Nat):Int)=BitVec.ofNat 8 (c%256):=by apply BitVec.eq_of_toNat_eq;show(BitVec.ofInt 8 ((c%256:Nat):Int)).toNat=(BitVec.ofNat 8 (c%256)).toNat;rw[BitVec.toNat_ofInt,BitVec.toNat_ofNat];omega
 have e:(BitVec.ofInt IntKind.u8.bits ((c%256:Nat):Int)|||BitVec.ofInt IntKind.u8.bits 128).toNat=c%128+128:=by rw[d];show(BitVec.ofNat 8 (c%256)|||128#8).toNat=_;rw[BitVec.toNat_or,BitVec.toNat_ofNat,mM (ag:c%256<2^8)];exact apk c
 rw[e,N3 ag ag]
def avb{x}:de af .shr t x y (.v (.int .u64 (n:Nat))) (.v (.int .u64 7))=J (.v (.int .u64 ((n/128:Nat):Int))):=by rw[BY aZ];congr 3;show((n:Nat):Int).fdiv (2^7)=_;rw[Mo _ aZ];simp
def iG:∀(k u:Nat),F (fN k u)<=k+1
 |0,u=>by simp[fN]
 |k+1,u=>by
  rw[fN];split
  .simp
  .have:=iG k (u/128);simp;omega
def QL(u:Nat)(L:u<18446744073709551616)(es:List UInt8)(k:Tok)(sz n0:Nat)(h:am)(E:cS h=aa)(C:cY n0 h k)(D:n0<=h.tn)(m:sz=1∨(es=[]/\k=.nil))(hl:F es<=1099511627776):
 ∃r h',W1.call 212 [.ac k sz (bV es),.v (.int .u64 (u:Nat))] h=J (r,h')/\∃t,r=.ret (.ac t 1 (bV (es++fN 9 u)))/\Grown n0 h h' t:=by
 have j:=aj.mk (Grown.refl C E);clear C E;refine cq O func212 O ?_;refine br @RM ?_;refine cK (λf R H=>∃(l:Nat) (t:Tok) (d:List UInt8) (s:Nat),l<=9/\f<2*128^l/\d++fN l f=es++fN 9 u/\F d+l=F es+9/\(s=1∨(d=[]/\t=.nil))/\R.get 0=.ac t s (bV d)/\R.get 1=.v (.int .u64 (f:Nat))/\R.defers=[]/\Grown n0 h H t) ?_ u _ _ ?_;rotate_left 1
 .exact⟨9,k,es,sz,aT _,by simpa using L,O,O,m,by exact gR,by exact gR,by exact gR,j.M⟩
 clear j L;rintro f R H ⟨l,t,d,s,hj,y,g,Y,m,Z,g1,hd,v⟩;have j:=aj.mk v;have p:=aj.mk v.can;clear v;by_cases i:f<128
 .have e:=aaa (k:=l) i;rw[e]at g;have N:du (UInt8.ofNat f)=.v (.int .u8 ((f:Nat):Int)):=by have:(UInt8.ofNat f).toNat=f%256:=UInt8.toNat_ofNat';unfold du;rw[this,mM ag]
  have B:¬((128:Int)<=((f:Nat):Int)):=by omega
  have q:=ER (k':=.aK) (c:=UInt8.ofNat f) (ag:F d<8796093022208) m p.M;rw[g]at q;have A:=zX (UInt8.ofNat f);rw[N]at q A;clear y i e g N;refine bB @RM @E8 ?_;exact⟨_,_,O,_,O,j.M.app D⟩
 .obtain⟨o,rfl⟩:∃o,l=o+1:=⟨l-1,by
   rcases l with _|l
   .omega
   .omega⟩
  have e:=aab (k:=o) (ag:128<=f);rw[e]at g;have B:(128:Int)<=((f:Nat):Int):=by omega
  have A:=zX (UInt8.ofNat (f%128+128));have q:=ER (k':=.aK) (c:=UInt8.ofNat (f%128+128)) (ag:F d<8796093022208) m p.M;have X:=aj.mk g;have T:=aj.mk y;clear e g y;refine b_ @RM @E8 @apl @avb ?_;refine⟨f/128,by omega,o,.free H.tn,d++[UInt8.ofNat (f%128+128)],1,by omega,?_,?_,by simp;omega,.inl O,by trivial,by trivial,by trivial,j.M.app D⟩
  .have:=T.M;rw[zL]at this;omega
  .rw[jq];exact X.M
end
section
open Go.AE Go.NT Go.Proofs.Tryz
def atN:Tryz.f146.results.toList=[.tmp 0]:=ax
def RK:Tryz.f211.results.toList=[.tmp 4]:=ax
def RN:Tryz.f214.results.toList=[.tmp 4]:=ax
def DV:Tryz.f215.results.toList=[.tmp 5]:=ax
def gQ:I:=.v .nilFunc
def uH(a:Nat):List I:=[gQ,.func (.func 211) [] [],.func (.func 214) [] [],.func (.func 215) [] [.ptr (.box a) 0]]
def awC:cN af 181=J 1:=ax
def aeP:fR af 181=J ar:=ax
def aeQ:fR af 184=J ar:=ax
def awD:cN af 184=J 1:=ax
def afA:iK af 236 []=J (.agg [gQ,gQ,gQ,gQ]):=ax
def ax2:(fY af 184).bind I.bL=J [.v (.pointer ao)]:=ax
def J4{k}(d:n<4):dM af 236 (.ptr (.box b) 0) (.v (.int k (n:Nat)))=J (.ptr (.box b) n):=by have c:af.underlying 236=J (.array 4 183):=underlying236;have sz:cN af 183=J 1:=ax;unfold dM;simp only[c,sz];rw[aC ⟨ag,by omega⟩];simp
def ixw:dM af 236 (.ptr (.box b) 0) (.v (.int .i64 1))=J (.ptr (.box b) 1)/\dM af 236 (.ptr (.box b) 0) (.v (.int .i64 2))=J (.ptr (.box b) 2)/\dM af 236 (.ptr (.box b) 0) (.v (.int .i64 3))=J (.ptr (.box b) 3):=⟨J4 (n:=1) aZ,J4 (n:=2) aZ,J4 (n:=3) aZ⟩
def Ah{r}:dQ af 183 (.ptr r o) 0=J (.ptr r o):=ax
def stw{c q}{f}{a b}(d:F c=4)(e:k<4):bU af ((h.push c).push q) 181 (.ptr (.box (F h.V)) k) (.func f a b)=J ((h.push (c.set k (.func f a b))).push q):=by rw[e7 (xs:=[.func f a b]) O awC (aP (aQ _ _)) O ag];congr 1;rw[aq2 (by rw[bP];omega),mF];congr 2;unfold dW;rw[xS,aC ag];simp
def Zd(c:H.V[a]?=J [.ptr (.box b) 0]):aF af Gt H 184 (.ptr (.box a) 0)=J (.ptr (.box b) 0):=by rw[fI aeQ c];rfl
def anm{c}:aF af Gt ((h.push c).push [.ptr (.box (F h.V)) 0]) 184 (.ptr (.box (F (h.push [gQ,gQ,gQ,gQ]).V)) 0)=J (.ptr (.box (F h.V)) 0):=by refine Zd ?_;rw[bP,<-bP h c];exact aQ _ _
def avK:bU af (H.push [.v (.pointer ao)]) 184 (.ptr (.box (F H.V)) 0) (.ptr (.box b) 0)=J (H.push [.ptr (.box b) 0]):=jC O awD O rfl
def axT(h:am):W1.call 146 [] h=J (.ret (.ptr (.box (F h.V)) 0),(h.push (uH (F h.V+1))).push [.ptr (.box (F h.V)) 0]):=by
 have z:=ax2;have c:(I.agg [gQ,gQ,gQ,gQ]).bL=J [gQ,gQ,gQ,gQ]:=rfl;have d:uH (F h.V+1)=(([gQ,gQ,gQ,gQ].set 1 (.func (.func 211) [] [])).set 2 (.func (.func 214) [] [])).set 3 (.func (.func 215) [] [.ptr (.box (F (h.push [gQ,gQ,gQ,gQ]).V)) 0]):=by rw[bP];rfl
 rw[d];have e:F [gQ,gQ,gQ,gQ]=4:=rfl;have f:F ([gQ,gQ,gQ,gQ].set 1 (.func (.func 211) [] []))=4:=rfl;have g:F (([gQ,gQ,gQ,gQ].set 1 (.func (.func 211) [] [])).set 2 (.func (.func 214) [] []))=4:=rfl;refine cX O func146 O ?_;exact jN @atN @afA @avK (au @anm (au @ixw (au @Ah @stw)))
end
section
open Go.AE Go.NT Go.Proofs.Tryz
def Hs:Vl->bk
 | .int _=>211
 | .aq _=>214
 | .ac _=>215
def Hr(a:Nat):Vl->List I
 | .ac _=>[.ptr (.box a) 0]
 |_=>[]
def qR:fF af 60 1 [(0,.v (.int .u8 1))]=J (.ac .aK 1 [[du 1]])/\fF af 60 1 [(0,.v (.int .u8 2))]=J (.ac .aK 1 [[du 2]])/\fF af 60 1 [(0,.v (.int .u8 3))]=J (.ac .aK 1 [[du 3]]):=⟨zX 1,zX 2,zX 3⟩
def axR(n:Nat)(u:n<=4611686018427387903)(es:List UInt8)(k:Tok)(sz n0:Nat)(H:am)(l:cS H=aa)(j:cY n0 H k)(i:n0<=H.tn)(o:sz=1∨(es=[]/\k=.nil))(D:F es<=1099511627000):
 ∃q H',W1.call 211 [.ac k sz (bV es),.agg (aD 1 (n:Nat) [] .nil 0 [])] H=J (q,H')/\∃t,q=.ret (.ac t 1 (bV (es++cr (.int (n:Nat)))))/\Grown n0 H H' t:=by
 have e:Grown n0 H (H.push (aD 1 (n:Nat) [] .nil 0 [])) k:=(Grown.refl j l).push _;have B:=ER (H:=H.push (aD 1 (n:Nat) [] .nil 0 [])) (k':=.aK) (c:=1) (ag:F es<8796093022208) o e.can;have d:=e.app i;have p:iB ((n:Nat):Int)<18446744073709551616:=by unfold iB;rw[aC ag];omega
 obtain⟨E,A,r,t3,rfl,g⟩:=QL (iB ((n:Nat):Int)) p (es++[1]) _ 1 n0 _ d.ok d.can (ff i d.tn) (.inl O) (by simp;omega);have y:=aj.mk (d.trans g);have f:es++[1]++fN 9 (iB ((n:Nat):Int))=es++cr (.int (n:Nat)):=by rw[cr];simp
 rw[f]at r;clear e d g l j o f p;refine cq O func211 O ?_;have C:=axk n u;refine b_ @RK @qR @jp (au @um (au @fh @dC)) ?_;refine jB [(2,4)] B9 ax (λL m=>?_) ?_
 .simp only[js]at m;subst m;refine pM (x:=.ptr (.box (F H.V)) 1) (v:=((n:Nat):I)) ax O O O ax (by simp[df,ip]) ?_ ?_<;>(simp only[fe,eE];exact jN @RK @qR @jp (au @um (au @fh (au @dC @and_self))))
 refine b_ @RK @qR @jp (au @um (au @fh @dC)) ?_;exact⟨_,_,O,_,O,y.M⟩
def Z_(H)(s):jX H 1 (.v (.string (bs s)))=J (bV s):=by unfold jX;simp[bs]
def Um{k}(g:F es+F s<=8796093022208)(c:cY n0 H k)(e:cS H=aa)(i:n0<=H.tn):
 ∃t H',gB af H #[60,9] (.ac k 1 (bV es)) (.v (.string (bs s)))=J (.ac t 1 (bV (es++s)),H')/\Grown n0 H H' t:=by
 by_cases f:s=[]
 .subst f;obtain⟨o,j,d,m,l⟩:=Da;refine⟨k,H,?_,Grown.refl c e⟩;rw[Uo underlying60 (.inr underlying9) j ag (by rw[d];exact l) (by rw[d];exact Z_ H []) (.inl d.symm),g']
 .exact⟨_,_,Nd (.inr underlying9) (Z_ H s) f g (.inl O) c,Grown.one c e i⟩
def acn(s):dp af 9 (.v (.string (bs s)))=J ((F s:Nat):I):=by rw[Zs underlying9,z_]
def axS(s:List UInt8)(D:F s<=1099511620000)(es:List UInt8)(k:Tok)(sz n0:Nat)(H:am)(r:cS H=aa)(q:cY n0 H k)(j:n0<=H.tn)(y:sz=1∨(es=[]/\k=.nil))(R:F es<=1099511627000):
 ∃A H',W1.call 214 [.ac k sz (bV es),.agg (aD 2 0 s .nil 0 [])] H=J (A,H')/\∃t,A=.ret (.ac t 1 (bV (es++cr (.aq s))))/\Grown n0 H H' t:=by
 have i:Grown n0 H (H.push (aD 2 0 s .nil 0 [])) k:=(Grown.refl q r).push _;have L:=ER (H:=H.push (aD 2 0 s .nil 0 [])) (k':=.aK) (c:=2) (ag:F es<8796093022208) y i.can;have d:=i.app j;obtain⟨r3,B,N,t3,rfl,e⟩:=QL (F s) ag (es++[2]) _ 1 n0 _ d.ok d.can (ff j d.tn) (.inl O) (by simp;omega);have o:=d.trans e;have nl:=iG 9 (F s);obtain⟨t4,E,l,p⟩:=Um (es:=es++[2]++fN 9 (F s)) (s:=s) (by simp;omega) e.can e.ok (ff j (ff d.tn e.tn));have C:=aj.mk (o.trans p);have m:es++[2]++fN 9 (F s)++s=es++cr (.aq s):=by rw[cr];simp
 rw[m]at l;have f:(H.push (aD 2 0 s .nil 0 [])).V[F H.V]?=J (aD 2 0 s .nil 0 []):=aQ _ _;have g:((H.push (aD 2 0 s .nil 0 [])).app k).V[F H.V]?=J (aD 2 0 s .nil 0 []):=by rw[dC];exact f
 have b3:B.V[F H.V]?=J (aD 2 0 s .nil 0 []):=e.box _ _ g;have Y:=sf g;have Z:=sf b3;have X:=sf f;have sl:=acn s;have T:=xz (n:=s.length) ag;clear i d e o p r q y m f g b3 nl;refine cq O func214 O ?_;refine b_ @RN @qR @jp (au @fh @qY) ?_;refine jB [(2,4),(2,9),(7,9)] B9 ax (λz0 u=>?_) ?_
 .simp only[gX,rI,or_false]at u;rcases u with rfl|rfl|rfl
  all_goals
   refine pM (x:=.ptr (.box (F H.V)) 2) (v:=.v (.string (bs s))) ax O O O ax (by simp[df,ip]) ?_ ?_<;>(simp only[fe,eE];exact jN @RN @qR @jp (au @fh (au @qY @and_self)))
 refine b_ @RN @qR @jp (au @fh @qY) ?_;exact⟨_,_,O,_,O,C.M⟩
def Ba:Vl->Nat
 | .int _=>1
 | .aq _=>2
 | .ac _=>3
def Qd{x}(d:cW v r)(c:H.V[x]?=J r):aF af Gt H 3 (.ptr (.box x) 0)=J ((Ba v:Nat):I):=by cases d<;>exact ri c
def F':dM af 236 (.ptr (.box b) 0) ((Ba v:Nat):I)=J (.ptr (.box b) (Ba v)):=by exact J4 (by cases v<;>simp[Ba])
def Qc(c:H.V[b]?=J (uH a)):aF af Gt H 181 (.ptr (.box b) (Ba v))=J (.func (.func (Hs v)) [] (Hr a v)):=by rw[fI aeP c];cases v<;>rfl
def VV{l:List Vl}(h:l[i]?=J v):gM (l.take (i+1))=gM (l.take i)++cr v:=by rw[fS h,VT];simp[gM]
def VU(l)(i):F (gM (l.take i))<=F (gM l):=by have:=VT (l.take i) (l.drop i);rw[wn]at this;rw[this,db];omega
mutual
def R_(v:Vl):∀r,cW v r->gJ r r=aa:=by
 intro r h;cases h with|int n g=>simp[aD,gJ,df,ip,im,sv,tK,nB]|aq s e=>simp[aD,gJ,df,ip,im,sv,tK,nB]|ac i k sz U c e f d=>have:=Sa i U c d;simp[aD,gJ,df,ip,im,sv,this];cases k<;>simp[tK]
def Sa(l:List Vl):∀U:List (List I),F U=F l->(∀(i:Nat) v r,l[i]?=J v->U[i]?=J r->cW v r)->nB U U=aa:=by
 intro U c h
 match l,U,c,h with
 | [],[],_,_=>rfl
 |v::l,r::U,c,h=>rw[nB,R_ v r (h 0 v r O O),Sa l U (by simpa using c) λi v r e d=>h (i+1) v r (by simpa using e) (by simpa using d)];rfl
end
def axQ(E:cW v r):∀(a b:Nat) (es:List UInt8) (k:Tok) (sz n0:Nat) (H:am),H.V[a]?=J [.ptr (.box b) 0]->H.V[b]?=J (uH a)->cS H=aa->cY n0 H k->n0<=H.tn->(sz=1∨(es=[]/\k=.nil))->F es+F (cr v)<=1099511627000->
 ∃R H',W1.call (Hs v) (.ac k sz (bV es)::.agg r::Hr a v) H=J (R,H')/\∃t,R=.ret (.ac t 1 (bV (es++cr v)))/\Grown n0 H H' t:=by
 induction E with
 |int n hn=>intro a b es k sz n0 H _ _ C B p D o;obtain⟨z1,rfl⟩:∃z1:Nat,n=z1:=⟨n.toNat,by omega⟩;exact axR z1 ag es k sz n0 H C B p D ag
 |aq s u=>intro a b es k sz n0 H _ _ C B p D o;exact axS s u es k sz n0 H C B p D ag|ac e f d U q u hm j ih=>
  intro a b es k sz n0 H ha hb C B p D o;have sr:=Sa e U q j;have kr:=aj.mk j;have kih:=aj.mk ih;have ksl:=aj.mk u;have kll:=aj.mk q;have Y:cr (.ac e)=3::(fN 9 (F e)++gM e):=by rw[cr]
  rw[Y]at o ⊢;have g1:Grown n0 H (H.push (aD 3 0 [] f d U)) k:=(Grown.refl B C).push _;have ap:=ER (H:=H.push (aD 3 0 [] f d U)) (k':=.aK) (c:=3) (ag:F es<8796093022208) D g1.can;have y:=g1.app p;simp only[eR,db]at o;obtain⟨r3,H3,c3,t3,rfl,A⟩:=QL (F e) ag (es++[3]) _ 1 n0 _ y.ok y.can (ff p y.tn) (.inl O) (by simp;omega);have g4:=y.trans A;have Z:(H.push (aD 3 0 [] f d U)).V[F H.V]?=J (aD 3 0 [] f d U):=aQ _ _;have b1:((H.push (aD 3 0 [] f d U)).app k).V[F H.V]?=J (aD 3 0 [] f d U):=by rw[dC];exact Z
  have b3:H3.V[F H.V]?=J (aD 3 0 [] f d U):=A.box _ _ b1;have l0:=lj Z;have l1:=lj b1;have l3:=lj b3;have u94:=underlying116;have hw:=xz (n:=e.length) ag;have Jt:((F U:Nat):Int)=((F e:Nat):Int):=by rw[q]
  have L:=aj.mk g4;have T:=aj.mk ha;have X:=aj.mk hb;have kl2:=aj.mk o;have sv0:df (.ac f d U) (.ac f d U)=aa:=by rw[df,sr,Bool.and_true];cases f<;>simp[tK]
  clear g1 y A g4 C B D Z b1 b3 j ih u q sr ha hb o;show ∃R H',W1.call 215 [.ac k sz (bV es),.agg (aD 3 0 [] f d U),.ptr (.box a) 0] H=J (R,H')/\_;refine cq O func215 O ?_;refine b_ @DV @qR @jp (au @fh @qY) ?_;refine jB [(2,4)] B9 ax (λz2 hp=>?_) ?_
  .simp only[js]at hp;subst hp;refine pM (x:=.ptr (.box (F H.V)) 3) (v:=.ac f d U) ax O O O ax (sv0) ?_ ?_<;>(simp only[fe,eE];exact jN @DV @qR @jp (au @fh (au @qY @and_self)))
  refine b_ @DV @qR @jp (au @fh @qY) ?_;refine cK (λz1 z0 m=>∃(l:Nat) (t:Tok),l<=F e/\z1=F e-l/\z0.get 0=.ac t 1 (bV (es++[3]++fN 9 (F e)++gM (e.take l)))/\z0.get 2=.ptr (.box a) 0/\z0.get 17=.ac f d U/\z0.get 18=(F e:Nat)/\z0.get 19=(l:Int)/\z0.defers=[]/\Grown n0 H m t) ?_ (F e) _ _ ?_;rotate_left 1
  .refine⟨0,t3,ck _,O,?_,?_,?_,?_,?_,?_,L.M⟩<;>(first|assumption|(simp only[gW,reduceIte,aR,aM,eE,gM,g']<;>first|rfl|(rw[Jt])))
  clear c3 ap l0 l1 l3 L hw;rintro z1 z0 m ⟨l,t,hi,rfl,g0,y,g17,g18,g19,hd,hG⟩;have L:=aj.mk hG;clear hG;by_cases dx:l<F e
  .obtain⟨v,E⟩:∃v,e[l]?=J v:=⟨_,aW dx⟩;obtain⟨r,j⟩:∃r,U[l]?=J r:=⟨_,aW ag⟩;have g:=kr.M l v r E j;have h4:d=4:=ksl.M (by rintro rfl;simp at j);subst h4;have i:=L.M.push r;have N:=VV E;have el:=VU e (l+1);rw[N,db]at el;have o:=kl2.M;have nl:=iG 9 (F e);obtain⟨r2,H2,c2,t2,rfl,A⟩:=kih.M l v r E j a b (es++[3]++fN 9 (F e)++gM (e.take l)) t 1 n0 (m.push r) (i.box _ _ T.M) (i.box _ _ X.M) i.ok i.can (ff p i.tn) (.inl O) (by simp;omega);rw[show es++[3]++fN 9 (F e)++gM (e.take l)++cr v=es++[3]++fN 9 (F e)++gM (e.take (l+1)) by rw[N];simp]at c2;have kG2:=aj.mk (i.trans A);have ld:=Gb (H:=m) g.len j;have st:=Sw (H:=m) g;have l2:aF af Gt (m.push r) 118 (.ptr (.box (F m.V)) 0)=J (.agg r):=oa g.len (aQ _ _);have l5:=Qd g (aQ m r);have l6:=Zd (i.box _ _ T.M);have l7:=Qc (v:=v) (i.box _ _ X.M);have ik:=F' (b:=b) (v:=v);have zz:=uL;have s96:=oo;have azl:(l:Int)<(F U:Int):=(by omega);generalize Hs v=fv at *
   generalize Hr a v=cv at *
   generalize Ba v=kv at *
   clear i A N el o nl E j g L;refine b_ @DV @bh @fh @Ah ?_;refine eI B9 ax ?_;refine b_ @DV @bh @fh (au @Ah (au @fE.{0} @fw.{0})) ?_;exact⟨F e-(l+1),by omega,l+1,t2,by omega,O,by trivial,by trivial,by trivial,by trivial,by simp,by trivial,kG2.M⟩
  .have:l=F e:=(by omega);subst this;rw[gu]at g0;have ee:es++[3]++fN 9 (F e)++gM e=es++3::(fN 9 (F e)++gM e):=(by simp);rw[ee]at g0;refine br @DV ?_;exact⟨_,_,O,_,O,L.M⟩
end
section
open Go.AE Go.NT Go.Proofs.Tryz
def atM:Tryz.f145.results.toList=[.tmp 2]:=ax
def KV:Tryz.f74.results.toList=[.tmp 2,.tmp 3]:=ax
def ahA(c:cW v r)(e:gc v<=16)(h:am):∃h',W1.call 145 [.agg r] h=J (.ret (im 0),h')/\Ext h h':=by
 obtain⟨l,i,d⟩:=ajM c ag (h.push r);have j:=c.cells;have m:=oa c.len (aQ h r);have f:=aj.mk ((Ext.push h r).trans d);have g:¬((16:Int)<((gc v:Nat):Int)):=by omega
 clear c d e;unfold im;refine ie O func145 O ?_;refine br @atM ?_;exact⟨_,O,f.M⟩
def aiY(d:cW v r)(A:gc v<=16)(B:F (cr v)<=1099511627000)(h:am)(C:cS h=aa):
 ∃E h',W1.call 74 [.agg r] h=J (E,h')/\∃t,E=.ret (.tuple [.ac t 1 (bV (cr v)),.v (.int .i64 0)])/\Ext h h':=by
 obtain⟨c,N,p⟩:=ahA d A (h.push r);unfold im at N;have f:=(Ext.push h r).trans p;have cs:=d.cells;have j:=aQ h r;have e:=p.box _ _ j;have c2:=axT c;have l:((c.push (uH (F c.V+1))).push [.ptr (.box (F c.V)) 0]).V[F h.V]?=J r:=aP (aP e);have m:((c.push (uH (F c.V+1))).push [.ptr (.box (F c.V)) 0]).V[F c.V]?=J (uH (F c.V+1)):=aP (aQ _ _);have q:((c.push (uH (F c.V+1))).push [.ptr (.box (F c.V)) 0]).V[F c.V+1]?=J [.ptr (.box (F c.V)) 0]:=np (by rw[bP]);have x3:Ext c ((c.push (uH (F c.V+1))).push [.ptr (.box (F c.V)) 0]):=(Ext.push _ _).trans (.push _ _);have i:=(f.trans x3).ok C;obtain⟨r4,R,o,t,rfl,u⟩:=axQ d (F c.V+1) (F c.V) [] .nil 0 h.tn _ q m i (.inl O) (f.trans x3).tn (.inr ⟨O,O⟩) (by simpa using B);rw[fE]at o;have T:=aj.mk (u.ext (f.trans x3) (aT _));have Z:=oa d.len j;have ld1:=oa d.len e;have ld2:=oa d.len l;have lk1:=Qd d e;have lk2:=Qd d l;have lf:=Qc (v:=v) m;have ik:=F' (b:=c.V.length) (v:=v);have g:=R_ v r d;have o:W1.call (Hs v) (.ac .nil 0 []::.agg r::Hr (F c.V+1) v) ((c.push (uH (F c.V+1))).push [.ptr (.box (F c.V)) 0])=J (.ret (.ac t 1 (bV (cr v))),R):=o;generalize Hs v=fv at *
 generalize Hr (F c.V+1) v=cv at *
 generalize Y:Ba v=X at *
 generalize y:(c.push (uH (F c.V+1))).push [.ptr (.box (F c.V)) 0]=H3 at *
 have L:df (.agg r) (.agg r)=aa:=by rw[df,g]
 clear d p A f j e l m q x3 i u C B g y;refine cq O func74 O ?_;refine b_ @KV @fh @Ah (au @fE.{0} @fw.{0}) ?_;refine jB [(0,2),(0,7)] B9 ax (λz0 D=>?_) ?_
 .simp only[gX,rI,or_false]at D;rcases D with rfl|rfl
  .refine pM (x:=.ptr (.box (F h.V)) 0) (v:=((X:Nat):I)) ax O O O ax (by simp[df,ip]) ?_ ?_<;>(simp only[fe,eE];exact jN @KV @fh @Ah @and_self)
  .refine pM (x:=.ptr (.box (F h.V)) 0) (v:=.agg r) ax O O O ax (L) ?_ ?_<;>(simp only[fe,eE];exact jN @KV @fh @Ah @and_self)
 refine b_ @KV @fh @Ah (au @fE.{0} @fw.{0}) ?_;exact⟨_,_,O,_,O,T.M⟩
mutual
def cW.hold(v:Vl):∀r,cW v r->cW v (bA r)/\aJ 0 0 0 (bA r)=aa:=by
 intro r h;cases h with|int n g=>exact⟨.int n g,O⟩|aq s c=>exact⟨.aq s c,O⟩|ac l k sz U d c f i=>obtain⟨e,h2⟩:=cW.holds l U d i;have m:bA (aD 3 0 [] k sz U)=aD 3 0 [] (cJ k) sz (dV U):=rfl;rw[m];refine⟨.ac l _ sz _ (by rw[FS];exact d) (λo=>c λj=>o (by rw[j];rfl)) (by rw[FS];exact f) e,?_⟩;unfold aD;simp[aJ,aI,im,sv,fB,h2]
def cW.holds(l:List Vl):∀U:List (List I),F U=F l->(∀(i:Nat) v r,l[i]?=J v->U[i]?=J r->cW v r)->(∀(i:Nat) v r,l[i]?=J v->(dV U)[i]?=J r->cW v r)/\fX 0 0 0 (dV U)=aa:=by
 intro U e h
 match l,U,e,h with
 | [],[],_,_=>exact⟨λi v r c=>by simp at c,O⟩
 |v::l,r::U,e,h=>
  obtain⟨f,h2⟩:=cW.hold v r (h 0 v r O O);obtain⟨g,j⟩:=cW.holds l U (by simpa using e) λi v r c d=>h (i+1) v r (by simpa using c) (by simpa using d);refine⟨λi o m c d=>?_,by rw[dV,fX,h2,j];rfl⟩;cases i with
  |zero=>injection c with c;injection d with d;subst c;subst d;exact f
  |succ i=>exact g i o m c d
end
end
section
open Go.AE Go.NT Go.Proofs.Tryz
def GO:Tryz.f225.results.toList=[.tmp 2]:=ax
def GP:Tryz.f226.results.toList=[.tmp 2]:=ax
def atH:Tryz.f172.results.toList=[.tmp 2]:=ax
def arU(g:cW v r):∀h,∃h',W1.call 225 [.agg r] h=J (.ret (aa:I),h')/\Ext h h':=by
 have u9:=underlying9;have Y:=underlying116;have X:=oo
 induction g with
 |int n hn=>
  intro h;refine ie O func225 O ?_
  repeat' (first|simp(maxSteps:=9^9) (disch:=first|exact dZ|fail) only[gW,reduceIte,aR,aM,GO,jp,ri,um,sf,lj,fh,gh,uP,decide_true, *]|refine dX ?_ ?_<;>(intro _;try omega))
  all_goals exact⟨_,O,Ext.push _ _⟩
 |aq s j=>
  intro h;refine ie O func225 O ?_
  repeat' (first|simp(maxSteps:=9^9) (disch:=first|exact dZ|fail) only[gW,reduceIte,aR,aM,GO,jp,ri,um,sf,lj,fh,gh,uP,decide_true, *]|refine dX ?_ ?_<;>(intro _;try omega))
  all_goals exact⟨_,O,Ext.push _ _⟩
 |ac z0 k sz U p j hm c q=>
  intro h;have N:=aj.mk c;have A:=aj.mk q;have E:=aj.mk j;have L:=aj.mk p;refine ie O func225 O ?_;clear c q j p;refine b_ @GO @jp @ri (au @um (au @sf (au @lj (au @fh (au @uP @decide_true))))) ?_;refine cK (λT B H=>∃e:Nat,e<=F U/\T=F U-e/\B.get 1=.ptr (.box (F h.V)) 0/\B.get 3=(e:Int)/\B.defers=[]/\H.V[F h.V]?=J (aD 3 0 [] k sz U)/\Ext h H) ?_ (F U) _ _ ?_;rotate_left 1
  .refine⟨0,ck _,O,?_,?_,?_,aQ _ _,Ext.push _ _⟩<;>(first|assumption|(exact gR))
  rintro T B H ⟨e,hi,rfl,g1,g3,hd,d,o⟩;have l:=aj.mk o;have D:=aj.mk d;have l0:=ri d;have l1:=um d;have l2:=sf d;have l3:=lj d;clear o d;by_cases i:e<F U
  .obtain⟨r,c⟩:∃r,U[e]?=J r:=⟨_,aW i⟩;obtain⟨v,g⟩:∃v,z0[e]?=J v:=⟨_,aW (by have:=L.M;omega)⟩;have f:=N.M e v r g c;have C:sz=4:=E.M (by rintro rfl;simp at i);subst C;obtain⟨Z,c1,m⟩:=A.M e v r g c H;have ld:=Gb (H:=H) f.len c;have u:=aj.mk (l.M.trans m);have y:=aj.mk (m.box _ _ D.M);have R:(e:Int)<(F U:Int):=(by omega);clear l f g c m;refine dL @GO @bh @fh ?_;exact⟨F U-(e+1),by omega,e+1,by omega,O,by trivial,by simp,by trivial,y.M,u.M⟩
  .have:e=F U:=(by omega);subst this;refine dL @GO @fh @decide_true ?_;exact⟨_,O,l.M⟩
def arB(e:cW v r):gc v<=100->∀h,∃h',W1.call 226 [.agg r] h=J (.ret ((gc v:Nat):I),h')/\Ext h h':=by
 have u9:=underlying9;have u94:=underlying116;have s96:=oo
 induction e with
 |int n hn=>intro _ h;refine ie O func226 O ?_;show bJ _ _ _ _ (yg _ _ _ _ (.ret (.v (.int .i64 0))) _);refine b_ @GP @jp @ri @fh ?_;exact⟨_,O,Ext.push _ _⟩|aq s o=>intro _ h;refine ie O func226 O ?_;show bJ _ _ _ _ (yg _ _ _ _ (.ret (.v (.int .i64 0))) _);refine b_ @GP @jp @ri @fh ?_;exact⟨_,O,Ext.push _ _⟩|ac f k sz U B o hm d C=>
  intro m h;have kd:=aj.mk m;have kr:=aj.mk d;have L:=aj.mk C;have kh:=aj.mk o;have N:=aj.mk B;refine ie O func226 O ?_;clear d C o B m;refine b_ @GP @jp @ri @fh ?_;refine cK (λz0 u H=>∃c:Nat,c<=F U/\z0=F U-c/\u.get 1=.ptr (.box (F h.V)) 0/\u.get 3=(gF (f.take c):Nat)/\u.get 4=(c:Int)/\u.defers=[]/\H.V[F h.V]?=J (aD 3 0 [] k sz U)/\Ext h H) ?_ (F U) _ _ ?_;rotate_left 1
  .refine⟨0,ck _,O,?_,?_,?_,?_,aQ _ _,Ext.push _ _⟩<;>(first|assumption|(exact gR))
  rintro z0 u H ⟨c,hi,rfl,g1,X,g4,m,l,y⟩;have p:=aj.mk y;have Z:=aj.mk l;have l3:=lj l;have g:gc (.ac f)=gF f+1:=rfl;have A:=kd.M;rw[g]at A;clear y l;by_cases j:c<F U
  .obtain⟨r,d⟩:∃r,U[c]?=J r:=⟨_,aW j⟩;obtain⟨v,e⟩:∃v,f[c]?=J v:=⟨_,aW (by have:=N.M;omega)⟩;have i:=kr.M c v r e d;have Y:sz=4:=kh.M (by rintro rfl;simp at j);subst Y;have hdv:=VH e;have Az:=NS f c;obtain⟨H2,c1,q⟩:=L.M c v r e d ag H;have ld:=Gb (H:=H) i.len d;have D:=aj.mk (p.M.trans q);have E:=aj.mk (q.box _ _ Z.M);have R:=aj.mk (NR e);have Jt:(c:Int)<(F U:Int):=(by omega);have Pf:(if ((gF (f.take c):Nat):Int)<((gc v:Nat):Int) then ((gc v:Nat):Int) else ((gF (f.take c):Nat):Int))=((max (gF (f.take c)) (gc v):Nat):Int):=(by split<;>omega);clear p i e d q g;refine b_ @GP @bh @fh @Bf ?_;exact⟨F U-(c+1),by omega,c+1,by omega,O,by trivial,by rw[R.M],by simp,by trivial,E.M,D.M⟩
  .have:c=F U:=(by omega);subst this;have T:f.take (F U)=f:=(by rw[N.M];exact gu);rw[T]at X;rw[g];have e2:((gF f+1:Nat):Int)=((gF f:Nat):Int)+1:=(by omega);refine bB @GP @fh ?_;exact⟨_,O,p.M⟩
def arz(c:cW v r)(g:gc v<=16)(h:am):∃h',W1.call 172 [.agg r] h=J (.ret (im 0),h')/\Ext h h':=by
 obtain⟨f,m,d⟩:=arU c (h.push r);obtain⟨h2,o,e⟩:=arB c ag f;have p:=c.cells;have q:=oa c.len (aQ h r);have l:=oa c.len (d.box _ _ (aQ h r));have i:=aj.mk (((Ext.push h r).trans d).trans e);have j:¬((16:Int)<((gc v:Nat):Int)):=by omega
 clear c d e g;unfold im;refine ie O func172 O ?_;refine br @atH ?_;exact⟨_,O,i.M⟩
end
section
open Go.AE Go.NT Go.Proofs.Tryz
def abC:Tryz.f227.results.toList=[.tmp 2]:=ax
def atO:Tryz.f228.results.toList=[.tmp 2]:=ax
def Bm:Tryz.f173.results.toList=[.tmp 2]:=ax
def ats:Tryz.f100.results.toList=[.tmp 2,.tmp 3]:=ax
def LM(c:Nat)(d:c<256):du (UInt8.ofNat c)=.v (.int .u8 (c:Nat)):=by have:(UInt8.ofNat c).toNat=c%256:=UInt8.toNat_ofNat';unfold du;rw[this,mM d]
def Ke(k u):fN k u≠[]:=by
 cases k with|zero=>simp[fN]|succ k=>rw[fN];split<;>simp
def ES{k t}{new}(c:new≠[])(e:F es+F new<=8796093022208)(d:cY n0 H k):
 gB af H #[60,60] (.ac k 1 (bV es)) (.ac t 1 (bV new))=J (.ac (.free H.tn) 1 (bV (es++new)),H.app k):=
 Nd (.inl ⟨_,underlying60⟩) Ds c e (.inl O) d
def Rx:∀(k u:Nat),k<=9->u<2*128^k->∀h,cS h=aa->∃r h',W1.call 227 [.v (.int .u64 (u:Nat))] h=J (r,h')/\∃t,r=.ret (.ac t 1 (bV (fN k u)))/\Grown h.tn h h' t:=by
 have last:∀(k u:Nat),u<128->∀h,cS h=aa->∃r h',W1.call 227 [.v (.int .u64 (u:Nat))] h=J (r,h')/\∃t,r=.ret (.ac t 1 (bV (fN k u)))/\Grown h.tn h h' t:=by
  intro k u c h e;rw[aaa c];have g:=zX (UInt8.ofNat u);rw[LM u ag]at g;have j:bV [UInt8.ofNat u]=[[.v (.int .u8 (u:Nat))]]:=by show[[du (UInt8.ofNat u)]]=_;rw[LM u ag]
  rw[j];have o:((u:Nat):Int)<128:=by omega
  have i:=aj.mk (Grown.refl (n0:=h.tn) (k:=.aK) (.inr (.inl O)) e);clear e c j;refine cq O func227 O ?_;refine bB @abC @E8 ?_;exact⟨_,_,O,_,O,i.M⟩
 intro k
 induction k with
 |zero=>intro u _ c;exact last 0 u (by simpa using pS c aZ)|succ k p=>
  intro u v c h e;by_cases f:u<128
  .exact last _ u f h e
  .rw[aab ag];obtain⟨C,m,y,t,rfl,d⟩:=p (u/128) ag (by rw[zL]at c;omega) h e;have g:=zX (UInt8.ofNat (u%128+128));have nl:=iG k (u/128);have q:=ES (H:=m) (k:=.aK) (t:=t) (n0:=h.tn) (es:=[UInt8.ofNat (u%128+128)]) (Ke k (u/128)) (by simp;omega) (.inr (.inl O));have j:bV [UInt8.ofNat (u%128+128)]=[[.v (.int .u8 ((u%128+128:Nat):Int))]]:=(by show[[du (UInt8.ofNat (u%128+128))]]=_;rw[LM _ ag]);rw[j]at q;rw[LM (u%128+128) ag]at g;have l:Grown h.tn h m .aK:=⟨d.box,d.loop,.inr (.inl O),d.ok,d.tn,d.dead⟩;have i:=aj.mk (l.app (aT _));have o:¬((u:Nat):Int)<128:=(by omega);have A:((u:Nat):Int).tmod 128=((u%128:Nat):Int):=rA u 128;have B:((u:Nat):Int).tdiv 128=((u/128:Nat):Int):=LJ u 128;have D:IntKind.u64.wrap (((u%128:Nat):Int)+128)=((u%128+128:Nat):Int):=(by rw[show((u%128:Nat):Int)+128=((u%128+128:Nat):Int) by omega,xz ag]);have E:IntKind.u64.wrap ((u/128:Nat):Int)=((u/128:Nat):Int):=(by have:2*128^(k+1)<=2*128^9:=Nat.mul_le_mul_left _ (TJ aZ v);exact xz ag);clear e c f p d l j nl;refine cq O func227 O ?_;refine bB @abC @E8 ?_;exact⟨_,_,O,_,O,i.M⟩
def auA(n:Nat)(g:n<=4611686018427387903)(h:am):W1.call 228 [((n:Nat):I)] h=J (.ret (.v (.int .u64 (iB n:Nat))),h):=by
 have c:iB (n:Int)=2*n:=by unfold iB;rw[aC ag,eD]
 rw[c];have d:=xz (n:=n) ag;have e:IntKind.u64.wrap (2*((n:Nat):Int))=((2*n:Nat):Int):=by rw[show 2*((n:Nat):Int)=((2*n:Nat):Int) by omega,xz ag]
 have f:(0:Int)<=((n:Nat):Int):=by omega
 refine cX O func228 O ?_;exact f_ @atO @qY
end
section
open Go.AE Go.NT Go.Proofs.Tryz
def aiX(v):cr v≠[]:=by cases v<;>simp[cr]
def _root_.Go.AE.Grown.re{t k:Tok}(g:Grown n0 h h' t)(c:cY n0 h' k):Grown n0 h h' k:=⟨g.box,g.loop,c,g.ok,g.tn,g.dead⟩
def _root_.Go.AE.Grown.uI{t:Tok}(g:Grown d h h' t)(c:n0<=d):Grown n0 h h' t:=⟨g.box,g.loop,g.can.mono c,g.ok,g.tn,λn f e=>g.dead n (mK f c) e⟩
def _root_.Go.AE.Grown.beside{t k:Tok}(g:Grown h.tn h h' t)(f:cY n0 h k):cY n0 h' k:=by
 rcases f with rfl|rfl|⟨j,rfl,i,c⟩
 .exact .inl O
 .exact .inr (.inl O)
 .refine .inr (.inr ⟨j,O,i,?_⟩);have d:=rM c;unfold alive at c ⊢;simp only[bR,decide_eq_true_eq,Hw,wd,decide_eq_false_iff_not]at c ⊢;exact⟨mK d g.tn,λe=>c.2 (g.dead j d e)⟩
def arJ(C:cW v r):F (cr v)<=1099511627000->∀h,cS h=aa->∃r' h',W1.call 173 [.agg r] h=J (r',h')/\∃t,r'=.ret (.ac t 1 (bV (cr v)))/\Grown h.tn h h' t:=by
 induction C with
 |int n hn=>
  intro _ h p;obtain⟨E,rfl⟩:∃E:Nat,n=E:=⟨n.toNat,by omega⟩;have hu:iB ((E:Nat):Int)<2*128^9:=by unfold iB;rw[aC ag];omega
  have f:Grown h.tn h (h.push (aD 1 (E:Nat) [] .nil 0 [])) .aK:=(Grown.refl (.inr (.inl O)) p).push _;obtain⟨r1,c,R,t,rfl,g⟩:=Rx 9 (iB ((E:Nat):Int)) (aT _) hu _ f.ok;have nl:=iG 9 (iB ((E:Nat):Int));have i:=ES (H:=c) (k:=.aK) (t:=t) (n0:=h.tn) (es:=[1]) (Ke 9 (iB ((E:Nat):Int))) (by simp;omega) (.inr (.inl O));have d:=aj.mk ((f.trans (g.re (.inr (.inl O)))).app (aT _));have cu:=auA E ag;have i:gB af c #[60,60] (.ac .aK 1 [[du 1]]) (.ac t 1 (bV (fN 9 (iB ((E:Nat):Int)))))=J (.ac (.free c.tn) 1 (bV (cr (.int (E:Nat)))),c.app .aK):=by rw[cr];exact i
  clear f g hu hn p nl;refine cq O func173 O ?_;refine b_ @Bm @qR @jp (au @ri (au @um @fh)) ?_;exact⟨_,_,O,_,O,d.M⟩
 |aq s hs=>
  intro j h p;have Y:cr (.aq s)=2::(fN 9 (F s)++s):=by rw[cr]
  rw[Y]at j ⊢;simp only[eR,db]at j;have f:Grown h.tn h (h.push (aD 2 0 s .nil 0 [])) .aK:=(Grown.refl (.inr (.inl O)) p).push _;obtain⟨r1,c,R,t,rfl,g⟩:=Rx 9 (F s) (aT _) ag _ f.ok;have i:=ES (H:=c) (k:=.aK) (t:=t) (n0:=h.tn) (es:=[2]) (Ke 9 (F s)) (by simp;omega) (.inr (.inl O));have o:=(f.trans (g.re (.inr (.inl O)))).app (aT _);obtain⟨t4,h4,ap4,y⟩:=Um (es:=[2]++fN 9 (F s)) (s:=s) (by simp;omega) o.can o.ok o.tn;have d:=aj.mk (o.trans y);have i:gB af c #[60,60] (.ac .aK 1 [[du 2]]) (.ac t 1 (bV (fN 9 (F s))))=J (.ac (.free c.tn) 1 (bV ([2]++fN 9 (F s))),c.app .aK):=i;have e4:[2]++fN 9 (F s)++s=2::(fN 9 (F s)++s):=by simp
  rw[e4]at ap4;have q:=aQ h (aD 2 0 s .nil 0 []);have B:=g.box _ _ q;have N:(c.app .aK).V[F h.V]?=J (aD 2 0 s .nil 0 []):=by rw[dC];exact B
  have l0:=sf q;have l1:=sf B;have l2:=sf N;have sl:=acn s;have hw:=xz (n:=s.length) ag;clear f g o y p Y e4 q B N j;refine cq O func173 O ?_;refine b_ @Bm @qR @jp (au @ri (au @fh @qY)) ?_;refine jB [(5,8),(6,8)] B9 ax (λz1 hp=>?_) ?_
  .simp only[gX,rI,or_false]at hp;rcases hp with rfl|rfl
   all_goals
    refine pM (x:=.ptr (.box (F h.V)) 2) (v:=.v (.string (bs s))) ax O O O ax (by simp[df,ip]) ?_ ?_<;>(simp only[fe,eE];exact jN @Bm @qR @jp (au @fh (au @qY @and_self)))
  refine b_ @Bm @qR @jp (au @fh @qY) ?_;exact⟨_,_,O,_,O,d.M⟩
 |ac e D sz U j hs hm A ih=>
  intro l h p;have kr:=aj.mk A;have kih:=aj.mk ih;have kh:=aj.mk hs;have kl2:=aj.mk j;have Y:cr (.ac e)=3::(fN 9 (F e)++gM e):=by rw[cr]
  rw[Y]at l ⊢;simp only[eR,db]at l;have f:Grown h.tn h (h.push (aD 3 0 [] D sz U)) .aK:=(Grown.refl (.inr (.inl O)) p).push _;obtain⟨r1,c,R,t,rfl,g⟩:=Rx 9 (F e) (aT _) ag _ f.ok;have nl:=iG 9 (F e);have i:=ES (H:=c) (k:=.aK) (t:=t) (n0:=h.tn) (es:=[3]) (Ke 9 (F e)) (by simp;omega) (.inr (.inl O));have o:=(f.trans (g.re (.inr (.inl O)))).app (aT _);have i:gB af c #[60,60] (.ac .aK 1 [[du 3]]) (.ac t 1 (bV (fN 9 (F e))))=J (.ac (.free c.tn) 1 (bV ([3]++fN 9 (F e))),c.app .aK):=i;have q:=aQ h (aD 3 0 [] D sz U);have B:=g.box _ _ q;have N:(c.app .aK).V[F h.V]?=J (aD 3 0 [] D sz U):=by rw[dC];exact B
  have l0:=lj q;have u94:=underlying116;have hw:=xz (n:=U.length) ag;have R:W1.call 227 [.v (.int .u64 ((F U:Nat):Int))] (h.push (aD 3 0 [] D sz U))=J (.ret (.ac t 1 (bV (fN 9 (F e)))),c):=by rw[j];exact R
  have d:=aj.mk o;have Z:=aj.mk N;have klen:=aj.mk l;clear f g o p Y A ih hs j l q B N;refine cq O func173 O ?_;refine b_ @Bm @qR @jp (au @ri (au @fh @qY)) ?_;refine cK (λE z0 L=>∃(m:Nat) (t:Tok),m<=F U/\E=F U-m/\z0.get 1=.ptr (.box (F h.V)) 0/\z0.get 3=.ac t 1 (bV ([3]++fN 9 (F e)++gM (e.take m)))/\z0.get 4=(m:Int)/\z0.defers=[]/\L.V[F h.V]?=J (aD 3 0 [] D sz U)/\Grown h.tn h L t) ?_ (F U) _ _ ?_;rotate_left 1
  .refine⟨0,.free c.tn,ck _,O,?_,?_,?_,?_,Z.M,d.M⟩<;>(first|assumption|(simp only[gW,reduceIte,aR,aM,eE,gM,g']<;>rfl))
  clear R i l0 d Z hw;rintro E z0 L ⟨m,t,hi,rfl,g,g3,g4,hd,hb,hG⟩;have d:=aj.mk hG;have Z:=aj.mk hb;have l3:=lj hb;clear hG hb;by_cases dx:m<F U
  .obtain⟨r,A⟩:∃r,U[m]?=J r:=⟨_,aW dx⟩;obtain⟨v,C⟩:∃v,e[m]?=J v:=⟨_,aW (by have:=kl2.M;omega)⟩;have X:=kr.M m v r C A;have h4:sz=4:=kh.M (by rintro rfl;simp at dx);subst h4;have T:=VV C;have el:=VU e (m+1);rw[T,db]at el;have j:=klen.M;obtain⟨r2,H2,c2,t2,rfl,y⟩:=kih.M m v r C A ag L d.M.ok;have u:=y.beside d.M.can;have ap2:=ES (H:=H2) (k:=t) (t:=t2) (n0:=h.tn) (es:=[3]++fN 9 (F e)++gM (e.take m)) (aiX v) (by simp;omega) u;rw[show[3]++fN 9 (F e)++gM (e.take m)++cr v=[3]++fN 9 (F e)++gM (e.take (m+1)) by rw[T];simp]at ap2;have kG2:=aj.mk ((d.M.trans ((y.uI d.M.tn).re u)).app (aT _));have kb2:aj ((H2.app t).V[F h.V]?=J (aD 3 0 [] D 4 U)):=⟨by rw[dC];exact y.box _ _ Z.M⟩;have ld:=Gb (H:=L) X.len A;have s96:=oo;have Jt:(m:Int)<(F U:Int):=(by omega);clear d X C A y u T el j nl;refine dL @Bm @bh @fh ?_;exact⟨F U-(m+1),by omega,m+1,.free H2.tn,by omega,O,by trivial,by trivial,by simp,by trivial,kb2.M,kG2.M⟩
  .have:m=F U:=(by omega);subst this;rw[show e.take (F U)=e by rw[kl2.M];exact gu]at g3;have ee:[3]++fN 9 (F e)++gM e=3::(fN 9 (F e)++gM e):=(by simp);rw[ee]at g3;refine bB @Bm @fh ?_;exact⟨_,_,O,_,O,d.M⟩
def arp(c:cW v r)(g:gc v<=16)(i:F (cr v)<=1099511627000)(h:am)(j:cS h=aa):
 ∃l h',W1.call 100 [.agg r] h=J (l,h')/\∃t,l=.ret (.tuple [.ac t 1 (bV (cr v)),.v (.int .i64 0)])/\Ext h h':=by
 obtain⟨o,m,e⟩:=arz c g (h.push r);unfold im at m;have d:=(Ext.push h r).trans e;obtain⟨B,h2,u,t,rfl,f⟩:=arJ c i o (d.ok j);have y:=c.cells;have A:=oa c.len (aQ h r);have q:=oa c.len (e.box _ _ (aQ h r));have p:=aj.mk (f.ext d d.tn);clear c e d g f j i;refine cq O func100 O ?_;refine br @ats ?_;exact⟨_,_,O,_,O,p.M⟩
end
section
open Go.AE Go.NT Go.Proofs.Tryz
def kW:List fx:=(bE 64).map Dg
def Qh{l}(c:fR af t=J aa)(e:cN af t=J n)(d:H.V[b]?=J (fa l))(f:F l=n):aF af Gt H t (.ptr (.box b) 0)=J (.agg (fa l)):=by rw[gt c e d (by rw[bI];omega),iI,gm (by rw[bI];omega)]
end
section
open Go.AE Go.NT Go.Proofs.Tryz
end
section
open Go.AE Go.NT Go.Proofs.Tryz
end
section
open Go.AE Go.NT Go.Proofs.Tryz
end
section
open Go.AE Go.NT Go.Proofs.Tryz
def att:Tryz.f96.results.toList=[.cell 2 118]:=ax
def atu:Tryz.f97.results.toList=[.cell 2 118]:=ax
def atv:Tryz.f99.results.toList=[.cell 2 118]:=ax
def Nh(n):iK af 118 [(0,.v (.int .i64 1)),(1,((n:Int):I))]=J (.agg (aD 1 n [] .nil 0 [])):=ax
def Ni(s):iK af 118 [(0,.v (.int .i64 2)),(2,.v (.string (bs s)))]=J (.agg (aD 2 0 s .nil 0 [])):=ax
def bdl(k)(sz)(U):iK af 118 [(0,.v (.int .i64 3)),(3,.ac k sz U)]=J (.agg (aD 3 0 [] k sz U)):=ax
def Lx{k n}{t}:bU af (H.push (aD 0 0 [] .nil 0 [])) 118 (.ptr (.box (F H.V)) 0) (.agg (aD k n s t sz U))=J (H.push (aD k n s t sz U)):=jC O oo O rfl
def Qg{k n}{t}:aF af Gt (H.push (aD k n s t sz U)) 118 (.ptr (.box (F H.V)) 0)=J (.agg (aD k n s t sz U)):=oa O (aQ _ _)
def asb(n:Int)(h:am):W1.call 97 [((n:Int):I)] h=J (.ret (.agg (aD 1 n [] .nil 0 [])),h.push (aD 1 n [] .nil 0 [])):=by have z:=uL;refine cX O func97 O ?_;exact jN @atu @Nh @Lx @Qg
def aue(s:List UInt8)(h:am):W1.call 99 [.v (.string (bs s))] h=J (.ret (.agg (aD 2 0 s .nil 0 [])),h.push (aD 2 0 s .nil 0 [])):=by have z:=uL;refine cX O func99 O ?_;exact jN @atv @Ni @Lx @Qg
def asQ(k:Tok)(sz:Nat)(U:List (List I))(h:am):W1.call 96 [.ac k sz U] h=J (.ret (.agg (aD 3 0 [] k sz U)),h.push (aD 3 0 [] k sz U)):=by have z:=uL;refine cX O func96 O ?_;exact jN @att @bdl @Lx @Qg
def L2:List bk:=[80,81,75,66,130,202,67,69,162,111,100,96,97,99,241,203,193,242,74,231,222]
noncomputable def Rd:bk->Option (List I->am->Option (I × am)):=mN W1 L2
noncomputable abbrev W2:=whole af Gt Rd
def z':nG Rd L2:=t_
section
variable (a b n x:Int)
def T_:∀h,W2.call 80 [im a,im b] h=J (.ret (im (cV a b)),h):=bX (L:=L2) O O O (aeB a b _) O rfl
def QB:∀h,W2.call 81 [im a,im b] h=J (.ret (im (cO a b)),h):=bX (L:=L2) O O O (aoE a b _) O rfl
def amL:∀h,W2.call 222 [im n] h=J (.ret (.tuple [im (if fmod n=0 then 0 else eK n),im (if fmod n=0 then 90 else 0)]),h):=bX (L:=L2) O O O (amK n _) O rfl
def axy:∀h,W2.call 66 [im x] h=J (.ret (.v (.bool (b8 x))),h):=bX (L:=L2) O O O (axv x _) O rfl
def aki:∀h,W2.call 67 [im a,im b] h=J (.ret (.tuple [im (pm a b),im (rT a b)]),h):=bX (L:=L2) O O O (akh a b _) O rfl
def ako:∀h,W2.call 75 [im a,im n] h=J (.ret (.tuple [im (eO a n),im (lQ a)]),h):=bX (L:=L2) O O O (akn a n _) O rfl
def ars:∀h,W2.call 130 [im a,im b] h=J (.ret (im (cV a b)),h):=bX (L:=L2) O O O (arq a b _) O rfl
def asS:∀h,W2.call 202 [im a,im b] h=J (.ret (im (cO a b)),h):=bX (L:=L2) O O O (asR a b _) O rfl
def asd:∀h,W2.call 231 [im n] h=J (.ret (.tuple [im (if fmod n=0 then 0 else eK n),im (if fmod n=0 then 90 else 0)]),h):=bX (L:=L2) O O O (asc n _) O rfl
def auC:∀h,W2.call 111 [im x] h=J (.ret (.v (.bool (b8 x))),h):=bX (L:=L2) O O O (auB x _) O rfl
def arW:∀h,W2.call 203 [im a,im n] h=J (.ret (.tuple [im (eO a n),im (lQ a)]),h):=bX (L:=L2) O O O (arV a n _) O rfl
def ar7:∀h,W2.call 97 [im n] h=J (.ret (.agg (aD 1 n [] .nil 0 [])),h):=bX (L:=L2) O O O (asb n _) O rfl
end
def at9(s):∀h,W2.call 99 [sv s] h=J (.ret (.agg (aD 2 0 s .nil 0 [])),h):=bX (L:=L2) O O O (aue s _) O rfl
def vK:cS ⟨[],[],0,[]⟩=aa:=rfl
def akd(c b)(k)(d:F b<=1099511620000)(e:F c<=1099511620000):∀h,W2.call 69 [.v (.string (bs c)),.ac k 1 (bV b)] h=J (.ret (im (q_ (mg c b):Nat)),h):=
 bX (L:=L2) (A:=[.v (.string (bs c)),.ac (cJ k) 1 (bV b)]) O (by rw[bA,bA,av.eq_1,tf];rfl) (by simp[aJ,aI,fB,nm]) (akc c b _ d e _) O rfl
def ayQ(f:cW v r)(e:gc v<=16)(g:F (cr v)<=1099511600000):∃t,∀h,W2.call 74 [.agg r] h=J (.ret (.tuple [.ac t 1 (bV (cr v)),.v (.int .i64 0)]),h):=by obtain⟨c,h2⟩:=cW.hold v r f;obtain⟨i,h',d,t,rfl,-⟩:=aiY c e ag ⟨[],[],0,[]⟩ vK;exact⟨cJ t,bX (L:=L2) (A:=[.agg (bA r)]) O O (by simpa [aJ,aI] using h2) d O (by simp[aI,aJ,fB,nm])⟩
def aAk(f:cW v r)(e:gc v<=16)(g:F (cr v)<=1099511600000):∃t,∀h,W2.call 100 [.agg r] h=J (.ret (.tuple [.ac t 1 (bV (cr v)),.v (.int .i64 0)]),h):=by obtain⟨c,h2⟩:=cW.hold v r f;obtain⟨i,h',d,t,rfl,-⟩:=arp c e ag ⟨[],[],0,[]⟩ vK;exact⟨cJ t,bX (L:=L2) (A:=[.agg (bA r)]) O O (by simpa [aJ,aI] using h2) d O (by simp[aI,aJ,fB,nm])⟩
def gy(l:List Vl)(U:List (List I)):Prop:=F U=F l/\∀(c:Nat) v r,l[c]?=J v->U[c]?=J r->cW v r
end
section
open Go.AE Go.NT Go.Proofs.Tryz
def atS:Tryz.f223.results.toList=[.tmp 4]:=ax
def RP:Tryz.f249.results.toList=[]:=ax
def kC:fR af 23=J ar:=ax
def aeO:fR af 207=J ar:=ax
def tw(c:H.V[b]?=J [x]):aF af Gt H 23 (.ptr (.box b) 0)=J x:=by rw[fI kC c];rfl
def vE(c:H.V[b]?=J [x]):aF af Gt H 207 (.ptr (.box b) 0)=J x:=by rw[fI aeO c];rfl
def wZ(c:H.V[b]?=J cs)(d:cs[k]?=J x):aF af Gt H 3 (.ptr (.box b) k)=J x:=by rw[fI eu c,HL,d]
def sd(c:H.V[b]?=J cs)(d:cs[k]?=J x):aF af Gt H 23 (.ptr (.box b) k)=J x:=by rw[fI kC c,HL,d]
def pC{len}{k}(c:n<len):dM af 23 (.arr b 0 len aY) (.v (.int k (n:Nat)))=J (.ptr (.box b) n):=by rw[A8 underlying23 eQ ag ag,eD,nO,oy]
def De{len}{k}(c:n<len):dM af 207 (.arr b 0 len aY) (.v (.int k (n:Nat)))=J (.ptr (.box b) n):=by rw[A8 underlying207 g_ ag ag,eD,nO,oy]
def Ub(d w c:Nat)(h:am):W2.call 223 [.arr d 0 w w,im (c:Nat)] h=J (.ret (.func (.func 249) [] [.ptr (.box (F h.V+1)) 0,.ptr (.box (F h.V)) 0]),(h.push [.arr d 0 w w]).push [im (c:Nat)]):=by have e:(I.arr d 0 w w).bL=J [.arr d 0 w w]:=rfl;have f:(I.v (.int .i64 (c:Nat))).bL=J [((c:Nat):I)]:=rfl;unfold im;refine cX O func223 O ?_;exact qm @atS @bG @bP
def Uc(l i q r w c:Nat)(row:List Int)(Inv:Nat->am->Prop)
 (m:∀k H,Inv k H->H.V[i]?=J [im (c:Nat)]/\H.V[q]?=J [.arr r 0 w w]/\(k<w->∃cs,H.V[r]?=J cs/\cs[k]?=J (im (ah row k))))
 (y:∀k H,c<=k->k<w->Inv k H->∃H',W2.round l [im (k:Nat),im (ah row k)] H=J (.ret (aa:I),H')/\Inv (k+1) H')
 (L:c<=w) (Y:w<=1000000) (g:am) (j:Inv c g):∃H',W2.call 249 [.yield l,.ptr (.box i) 0,.ptr (.box q) 0] g=J (.ret (.tuple []),H')/\Inv w H':=by
 have R:=aj.mk m;have T:=aj.mk y;have B:=aj.mk j;obtain⟨f,d,-⟩:=m c g j;have D:=mB f;unfold im at D;have u23:=underlying23;clear m y j f d;refine ie O func249 O ?_;refine br @RP ?_;refine cK (λZ u H=>∃k:Nat,c<=k/\k<=w/\Z=w-k/\u.get 0=.yield l/\u.get 1=.ptr (.box i) 0/\u.get 2=.ptr (.box q) 0/\u.get 4=(k:Int)/\u.defers=[]/\Inv k H) ?_ (w-c) _ _ ?_;rotate_left 1
 .refine⟨c,aT _,L,O,?_,?_,?_,?_,?_,B.M⟩<;>(first|assumption|(exact gR))
 clear D B;rintro Z u H ⟨k,A,X,rfl,g0,g1,g2,g4,hd,o⟩;obtain⟨f,d,b3⟩:=R.M k H o;have l2:=tw d;have p:=aj.mk o;clear f o;by_cases e:k<w
 .obtain⟨cs,b4,v⟩:=b3 e;obtain⟨H',r1,E⟩:=T.M k H A e p.M;have ix:=pC (b:=r) (len:=w) (aY:=w) (k:=.i64) e;have l3:=wZ b4 v;have C:=aj.mk E;have N:((k:Nat):Int)<((w:Nat):Int):=by omega
  unfold im at *
  clear d b3 b4 v E p;refine bB @RP @B8 ?_;exact⟨w-(k+1),by omega,k+1,by omega,by omega,O,by trivial,by trivial,by trivial,by simp,by trivial,C.M⟩
 .have:k=w:=by omega
  subst this;clear d b3;refine br @RP ?_;exact⟨_,O,p.M⟩
end
section
open Go.AE Go.NT Go.Proofs.Tryz
def RI:Tryz.f224.results.toList=[]:=ax
structure jf(H:am)(tb:Nat)(B:List Nat)(t:List (List Int))(w:Nat):Prop where
 iu:H.V[tb]?=J (B.map λb=>I.arr b 0 w w)
 len:B.length=t.length
 nd:B.Nodup
 row:∀(i b:Nat) (r:List Int),B[i]?=J b->t[i]?=J r->H.V[b]?=J (r.map im)
 wid:∀r∈t,r.length=w
 M:tb∉B
def ZW{l:List Nat}(h:l.Nodup){x:Nat}(hi:l[i]?=J x)(e:l[j]?=J x):i=j:=by obtain⟨f,c⟩:=aU.1 hi;obtain⟨h2,d⟩:=aU.1 e;exact(List.getElem_inj h).1 (c.trans d.symm)
def jf.set{u}{t}(T:jf H u B t w)(hi:B[i]?=J b){r}(y:F r=w):jf (H.put b (r.map im)) u B (t.set i r) w:=by
 have f:=(aU.1 hi).1;have m:=dk hi;refine⟨?_,by rw[ox];exact T.len,T.nd,λv j g d c=>?_,λg c=>?_,T.M⟩
 .rw[cG (λl=>T.M (by rw[l];exact m))];exact T.iu
 .by_cases e:v=i
  .subst e;rw[hi]at d;injection d with d;subst d;rw[MC (by rw[<-T.len];exact f)]at c;injection c with c;subst c;have o:v<F t:=(by rw[<-T.len];exact f);exact dy (aU.1 (T.row v b _ hi (aW o))).1
  .have p:j≠b:=λl=>e (ZW T.nd (by rw[<-l];exact d) hi);rw[cG p];rw[List.getElem?_set_ne (λl=>e l.symm)]at c;exact T.row v j g d c
 .rcases wm c with q|q
  .exact T.wid g q
  .rw[q];exact y
def jf.mono{H'}{t}(T:jf H d B t w)(m:∀(c:Nat) cs,H.V[c]?=J cs->H'.V[c]?=J cs):jf H' d B t w:=
 ⟨m _ _ T.iu,T.len,T.nd,λg b i e f=>m _ _ (T.row g b i e f),T.wid,T.M⟩
def mw(n:Int)(a own:List Int)(c k:Nat):List Int:=(bE (F a)).map λd=>if c<=d/\d<k then jj n (ah a d) (ah own d) else ah a d
def sQ{n}{a}:F (mw n a own c k)=F a:=by unfold mw;simp
def E7{n}{a}(d:j<F a):ah (mw n a own c k) j=if c<=j/\j<k then jj n (ah a j) (ah own j) else ah a j:=by rw[fy (by rw[sQ];exact d)];unfold mw;rw[rG,HK]
def aip{n}{a}:mw n a own c c=a:=by refine vO sQ λe d=>?_;rw[sQ]at d;rw[E7 d,aL ag]
def aio{n}{a}(j:c<=k)(f:k<F a):(mw n a own c k).set k (jj n (ah a k) (ah own k))=mw n a own c (k+1):=by
 refine vO (by rw[ox,sQ,sQ]) λg e=>?_;rw[ox,sQ]at e;rw[Il (by rw[sQ];exact f),E7 e,E7 e];by_cases d:g=k
 .subst d;rw[aC O,aC ag]
 .rw[aL d];by_cases i:c<=g/\g<k
  .rw[aC i,aC ag]
  .rw[aL i,aL ag]
def ain{n}{a}(g:F a=F own)(f:c<=F a):mw n a own c (F a)=a.take c++ii n (a.drop c) (own.drop c):=by
 have d:F (a.drop c)=F (own.drop c):=by simp[g]
 refine vO (by rw[sQ,db,uq d,dF,fL];omega) λi e=>?_;rw[sQ]at e;rw[E7 e,BX f];by_cases j:i<c
 .rw[aL ag,aC j]
 .rw[aC ag,aL j,u_ d (by rw[fL];omega),Ik,Ik,(ag:c+(i-c)=i)]
def vJ{r}(c:k<F r):(r.map im)[k]?=J (im (ah r k)):=by rw[ek,aW c,fy c];rfl
def vV{r:List Int}{x}(d:H.V[b]?=J (r.map im))(c:k<F r):bU af H 3 (.ptr (.box b) k) ((x:Int):I)=J (H.put b ((r.set k x).map im)):=by rw[e7 (xs:=[im x]) O eQ d O (by rw[bI];exact c)];congr 2;unfold dW;rw[Ts,xS,aC (by rw[bI];exact c)];simp
def w_{x}(h:okF x):0<=x/\x<=9223372036854775807:=by obtain⟨c,h2⟩:=h;have:Qi=1073741789:=rfl;omega
def ahC(h:am)(g:Nat)(B:List Nat)(t:List (List Int))(w i y c:Nat)(a own:List Int)(T:jf h g B t w)(hi:t[i]?=J a)(E:t[y]?=J own)(fH:i≠y)(hc:c<w)(hw:w<=1000000)(p:∀r∈t,∀x∈r,okF x):
 ∃h',W2.call 224 [.arr g 0 (F B) (F B),im (i:Nat),im (y:Nat),im (c:Nat)] h=J (.ret (.tuple []),h')/\jf h' g B (t.set i (ua c a own)) w/\∀n0,gp B n0 h h':=by
 have fG:=(aU.1 hi).1;have F9:=(aU.1 E).1;obtain⟨f,o⟩:∃b,B[i]?=J b:=⟨_,aW (by rw[T.len];exact fG)⟩;obtain⟨j,L⟩:∃b,B[y]?=J b:=⟨_,aW (by rw[T.len];exact F9)⟩;have ra:=T.row i f a o hi;have ro:=T.row y j own L E;have wa:=T.wid a (dk hi);have wo:=T.wid own (dk E);have jO:f≠j:=λZ=>fH (ZW T.nd (by rw[Z]at o;exact o) L);have CI:=(aU.1 T.iu).1;have ay6:=(aU.1 ra).1;have aza:=(aU.1 ro).1;have alW:g≠f:=λZ=>T.M (by rw[Z];exact dk o);have XA:(B.map λb=>I.arr b 0 w w)[i]?=J (.arr f 0 w w):=by rw[ek,o];rfl
 have hdy:(B.map λb=>I.arr b 0 w w)[y]?=J (.arr j 0 w w):=by rw[ek,L];rfl
 have oka:=p a (dk hi);have oko:=p own (dk E);have hiB:i<F B:=by rw[T.len];exact fG
 have hyB:y<F B:=by rw[T.len];exact F9
 have z3:=LU;have bx1:∀b n z4:Nat,(I.arr b 0 n z4).bL=J [.arr b 0 n z4]:=λ_ _ _=>rfl;have bx2:∀n:Int,(I.v (.int .i64 n)).bL=J [((n:Int):I)]:=λ_=>rfl;have ixi:=De (b:=g) (len:=B.length) (aY:=B.length) (k:=.i64) hiB;have ixy:=De (b:=g) (len:=B.length) (aY:=B.length) (k:=.i64) hyB;have ixc:=pC (b:=f) (len:=w) (aY:=w) (k:=.i64) hc;have n0:=w_ (pT oka c);have unf:ua c a own=if ah a c=0 then a else mw (ah a c) a own c w:=by unfold ua;rw[<-wa,ain ag ag]
 rw[unf];clear unf;generalize hn:ah a c=n at *
 have akW:∀(z:I) (l ds:List I),((h.push l).push ds).V[g]?=J (B.map λb=>I.arr b 0 w w)/\((h.push l).push ds).V[f]?=J (a.map im):=λz l ds=>⟨aP (aP T.iu),aP (aP ra)⟩;generalize e:(h.push [.arr g 0 (F B) (F B)]).push [im (i:Nat)]=d;have l1:∀l,aF af Gt (d.push l) 207 (.ptr (.box (F h.V)) 0)=J (.arr g 0 (F B) (F B)):=λl=>vE (by rw[<-e];exact aP (aP (aQ _ _)));have l1':aF af Gt d 207 (.ptr (.box (F h.V)) 0)=J (.arr g 0 (F B) (F B)):=vE (by rw[<-e];exact aP (aQ _ _));have l2:aF af Gt d 3 (.ptr (.box (F h.V+1)) 0)=J ((i:Nat):I):=mB (by rw[<-e];exact np (by rw[bP]));have l3:aF af Gt d 23 (.ptr (.box g) i)=J (.arr f 0 w w):=sd (by rw[<-e];exact aP (aP T.iu)) XA;have l4:aF af Gt d 3 (.ptr (.box f) c)=J ((n:Int):I):=by have:=wZ (k:=c) (x:=im (ah a c)) (show d.V[f]?=J (a.map im) by rw[<-e];exact aP (aP ra)) (vJ ag);rw[hn]at this;exact this
 have l5:aF af Gt (d.push [((n:Int):I)]) 3 (.ptr (.box (F d.V)) 0)=J ((n:Int):I):=mB (aQ _ _);have s5:bU af (d.push [im 0]) 3 (.ptr (.box (F d.V)) 0) ((n:Int):I)=J (d.push [((n:Int):I)]):=jC O eQ O O;have l6:∀l,aF af Gt (d.push l) 23 (.ptr (.box g) y)=J (.arr j 0 w w):=λl=>sd (by rw[<-e];exact aP (aP (aP T.iu))) hdy;have D:aj (F d.V=F h.V+2):=⟨by rw[<-e,bP,bP]⟩;have N:aj (∀n0,gp B n0 h d):=⟨λn0=>by rw[<-e];exact(gp.refl.push _).push _⟩;have R:aj (jf d g B t w):=⟨T.mono λcc l z0=>by rw[<-e];exact aP (aP z0)⟩;have e0:(h.push [I.arr g 0 (F B) (F B)]).push [((i:Nat):I)]=d:=e;have kL2:aj (d.aB=h.aB):=⟨by rw[<-e];rfl⟩;have kb0:aj (d.V[F h.V]?=J [.arr g 0 (F B) (F B)]):=⟨by rw[<-e];exact aP (aQ _ _)⟩;have kb1:aj (d.V[F h.V+1]?=J [im (i:Nat)]):=⟨by rw[<-e];exact np (by rw[bP])⟩;have e1:F (h.push [I.arr g 0 (F B) B.length]).V=F h.V+1:=bP _ _;have kT:=aj.mk T;have ko:=aj.mk (au oka oko);clear akW CI T ra ro p oka oko e;unfold im at *
 refine ie O func224 O ?_;by_cases hz:n=0
 .subst hz;rw[aC O];refine bB @RI @bG ?_;exact⟨_,O,by
   have Z:t.set i a=t:=by
    apply ou;intro z5;rw[j'];split
    .rename_i z0;subst z0;exact hi.symm
    .rfl
   rw[Z];exact R.M.mono λcc l z0=>aP z0,λn0=>(N.M n0).push _⟩
 .rw[aL hz];have X:=Ub j w c (d.push [((n:Int):I)]);unfold im at X;refine bB @RI @bG ?_;refine bJ.gen λZ he hd hp oC=>?_;have g4:Z.get 4=.ptr (.box (F h.V)) 0:=by rw[he];exact gS
  have g5:Z.get 5=.ptr (.box (F h.V+1)) 0:=by rw[he];exact gS
  have g8:Z.get 8=.ptr (.box (F d.V)) 0:=by rw[he];exact gS
  have g25:Z.get 25=.func (.func 249) [] [.ptr (.box (F d.V+1+1)) 0,.ptr (.box (F d.V+1)) 0]:=by rw[he];simp only[gW,reduceIte,aR,aM];simp only[bP]
  have hdf:Z.defers=[]:=by rw[hd];exact gS
  clear he hd hp oC;refine Bn (by rw[yj];exact g25) λrec w1 w2 w3 w4 w5 w6=>?_;have Jo:=D.M;have W_:=R.M;have p:=ko.M;have WT:∀n0,gp B n0 h (((d.push [((n:Int):I)]).push [.arr j 0 w w]).push [((c:Int):I)]):=λn0=>(((N.M n0).push _).push _).push _;have A:jf (((d.push [((n:Int):I)]).push [.arr j 0 w w]).push [((c:Int):I)]) g B t w:=W_.mono λcc l z0=>aP (aP (aP z0));have p0:(((d.push [((n:Int):I)]).push [.arr j 0 w w]).push [((c:Int):I)]).V[F d.V]?=J [((n:Int):I)]:=aP (aP (aQ _ _));have p1:(((d.push [((n:Int):I)]).push [.arr j 0 w w]).push [((c:Int):I)]).V[F d.V+1]?=J [.arr j 0 w w]:=aP (np (by rw[bP]));have p2:(((d.push [((n:Int):I)]).push [.arr j 0 w w]).push [((c:Int):I)]).V[F d.V+1+1]?=J [((c:Int):I)]:=np (by rw[bP,bP]);have p3:(((d.push [((n:Int):I)]).push [.arr j 0 w w]).push [((c:Int):I)]).V[F h.V]?=J [.arr g 0 (F B) (F B)]:=aP (aP (aP kb0.M));have p4:(((d.push [((n:Int):I)]).push [.arr j 0 w w]).push [((c:Int):I)]).V[F h.V+1]?=J [((i:Int):I)]:=aP (aP (aP kb1.M));have pL:(((d.push [((n:Int):I)]).push [.arr j 0 w w]).push [((c:Int):I)]).aB=h.aB:=kL2.M;generalize ((d.push [((n:Int):I)]).push [.arr j 0 w w]).push [((c:Int):I)]=m at *
  have WS:F m.aB=F h.aB:=congrArg F pL;rw[WS];clear pL;clear l1 l1' l2 l3 l4 l5 s5 l6 e0 e1 X W_ kb0 kb1;have u:=A.row i f a o hi;have v:=A.row y j own L E;have nq:=(aU.1 u).1;have F6:=(aU.1 (kT.M.iu)).1;have ay8:=(aU.1 (kT.M.row i f a o hi)).1;have k_:(m.loop rec).aB[F h.aB]?=J rec:=by rw[<-WS];exact @Be m rec
  have I1:∀(k:Nat) (H:am),H=(m.loop rec).put f ((mw n a own c k).map im)->H.V[F d.V+1+1]?=J [im (c:Nat)]/\H.V[F d.V+1]?=J [.arr j 0 w w]/\(k<w->∃l,H.V[j]?=J l/\l[k]?=J (im (ah own k))):=by
   rintro k H rfl;refine⟨?_,?_,λhk=>⟨_,?_,vJ ag⟩⟩
   .rw[cG ag];exact p2
   .rw[cG ag];exact p1
   .rw[cG (Ne.symm jO)];exact v
  have I2:∀(k:Nat) (H:am),c<=k->k<w->H=(m.loop rec).put f ((mw n a own c k).map im)->∃H',W2.round (F h.aB) [im (k:Nat),im (ah own k)] H=J (.ret (aa:I),H')/\H'=(m.loop rec).put f ((mw n a own c (k+1)).map im):=by
   rintro k H FM FN rfl;refine GG (Post:=λH=>H=(m.loop rec).put f ((mw n a own c (k+1)).map im)) k_ (by rw[w2];rfl) w5 w6 ?_;have kq:=aio (n:=n) (own:=own) FM (ag:k<F a);have cat:ah (mw n a own c k) k=ah a k:=(by rw[E7 ag,aL ag]);have Y:∀t,(mG (F h.aB) rec [im (k:Nat),im (ah own k)]).get t=if 27=t then im (ah own k) else if 26=t then im (k:Nat) else Z.get t:=λt=>GF w2 w1
   have d1:(mG (F h.aB) rec [im (k:Nat),im (ah own k)]).defers=[]:=rfl;obtain⟨K,C⟩:∃K,((m.loop rec).put f ((mw n a own c k).map im)).busy (F h.aB) rec=K:=⟨_,O⟩;rw[C];have b1:K.V[f]?=J ((mw n a own c k).map im):=(by rw[<-C];exact dy nq);have b2:K.V[F h.V]?=J [.arr g 0 (F B) (F B)]:=(by rw[<-C];exact(cG ag).trans p3);have b3:K.V[F h.V+1]?=J [im (i:Nat)]:=(by rw[<-C];exact(cG ag).trans p4);have b4:K.V[F d.V]?=J [im n]:=(by rw[<-C];exact(cG ag).trans p0);have b5:K.V[g]?=J (B.map λb=>I.arr b 0 w w):=(by rw[<-C];exact(cG alW).trans A.iu);have m1:=wZ b1 (vJ (r:=mw n a own c k) (k:=k) (by rw[sQ];omega));rw[cat]at m1;have m2:=vE b2;have m3:=mB b3;have m4:=mB b4;have m5:=sd b5 XA;have F':=pC (b:=f) (len:=w) (aY:=w) (k:=.i64) FN;have sk:=vV (r:=mw n a own c k) (k:=k) (x:=jj n (ah a k) (ah own k)) b1 (by rw[sQ];omega);rw[kq]at sk;have ut:=w_ (pT p.1 k);have ok2:=w_ (pT p.2 k);have f1:=λh=>QB n (ah own k) h;have f2:=λh=>T_ (ah a k) (0-cO n (ah own k)) h;have f3:=w_ (Fi n (ah own k));have fl:jj n (ah a k) (ah own k)=cV (ah a k) (0-cO n (ah own k)):=(by rw[Int.zero_sub];rfl);rw[fl]at sk;generalize cO n (ah own k)=z at *
   generalize ah a k=z1 at *
   generalize ah own k=z2 at *
   clear Jo g25 u v p0 p1 p2 p3 p4 D N R kT ko cat WT A b1 b2 b3 b4 b5 kq fl p;unfold im at *
   rw[w3,w4];refine wH ?_;refine⟨ba,ba,?_⟩;refine bJ.gen λe2 q jV pq C4=>?_;have q4:e2.get 4=.ptr (.box (F h.V)) 0:=(by rw[q];simp only[gW,reduceIte,aR,aM,Y];exact g4);have q5:e2.get 5=.ptr (.box (F h.V+1)) 0:=(by rw[q];simp only[gW,reduceIte,aR,aM,Y];exact g5);have q8:e2.get 8=.ptr (.box (F d.V)) 0:=(by rw[q];simp only[gW,reduceIte,aR,aM,Y];exact g8);have q9:e2.get 9=(k:Int):=(by rw[q];simp only[gW,reduceIte,aR,aM,Y]);have q10:e2.get 10=(z2:Int):=(by rw[q];simp only[gW,reduceIte,aR,aM,Y]);clear q jV pq C4 Y d1
   repeat' (first|simp(maxSteps:=9^9) (disch:=first|exact dZ|fail) only[gW,reduceIte,aR,aM, *]|(refine dX ?_ ?_<;>(intro _;try omega))|refine eI z' ax ?_)
   rw[<-C];simp only[am.put,am.busy,am.loop,HN];exact⟨ba,ba,ba⟩
  obtain⟨h',c1,c2⟩:=Uc (F h.aB) (F d.V+1+1) (F d.V+1) j w c own (λk H=>H=(m.loop rec).put f ((mw n a own c k).map im)) I1 I2 ag hw ((m.loop rec).put f ((mw n a own c c).map im)) O;have e3:m.loop rec=(m.loop rec).put f ((mw n a own c c).map im):=by rw[aip];exact(jb (h:=m.loop rec) u).symm
  rw[<-e3]at c1;subst c2;clear e3;refine⟨_,_,c1,rec,k_,by rw[w5];decide,.inl ⟨w6,?_⟩⟩;clear c1 w1 w2 w3 w4 w5 w6 k_ u v p0 p1 p2 p3 p4 D N R kT ko;refine br @RI ?_;refine⟨_,O,?_,λn0=>(((WT n0).yO _).trans (.put (dk o) _)).eM (aT _) _⟩;have T5:=jf.set (H:=m.loop rec) (A.mono λ_ _ z0=>z0) o (r:=mw n a own c w) (by rw[sQ];exact wa);exact T5.mono λ_ _ z0=>z0
end
section
open Go.AE Go.NT Go.Proofs.Tryz
structure GM(S:List Nat)(n0:Nat)(h h':am)(t:Tok):Prop where
 mu:gp S n0 h h'
 can:cY n0 h' t
 ok:cS h'=aa
section
variable {S S':List Nat} {n0:Nat} {h h' h2:am} {t k:Tok}
def ag0(m:∀n,gp S n h h')(c:cY n0 h t):cY n0 h' t:=by
 rcases c with q|q|⟨g,q,i,e⟩
 .exact .inl q
 .exact .inr (.inl q)
 .refine .inr (.inr ⟨g,q,i,?_⟩);have d:=rM e;unfold alive at *
  simp only[bR,Hw,wd,decide_eq_false_iff_not,decide_eq_true_eq]at *
  exact⟨mK d (m 0).tn,λf=>e.2 ((m (g+1)).dead g (Nat.lt_succ_self _) f)⟩
def GM.then(g:GM S n0 h h' t)(m:∀n,gp S n h' h2):GM S n0 h h2 t:=⟨g.mu.trans (m n0),ag0 m g.can,(m 0).ok g.ok⟩
def GM.app(g:GM S n0 h h' t)(c:n0<=h.tn):GM S n0 h (h'.app t) (.free h'.tn):=by have G:=Grown.one (n0:=n0) g.can g.ok (ff c g.mu.tn);exact⟨g.mu.trans G.QD,G.can,G.ok⟩
def GM.refl(c:cY n0 h t)(d:cS h=aa):GM S n0 h h t:=⟨.refl,c,d⟩
end
def tG:Tryz.f169.results.toList=[.tmp 4]:=ax
def jf.swap{bi}{t}{a b}(T:jf H o B t w)(hi:B[i]?=J bi)(p:B[j]?=J f)(y:t[i]?=J a)(A:t[j]?=J b):
 jf (H.put o (((B.set i f).set j bi).map λb=>I.arr b 0 w w)) o ((B.set i f).set j bi) ((t.set i b).set j a) w:=by
 have g:=(aU.1 hi).1;have l:=(aU.1 p).1;have C:=(aU.1 T.iu).1;have e:((B.set i f).set j bi).Perm B:=by
  have q:=adZ g l
  rwa [show B[j]=f from(aU.1 p).2,show B[i]=bi from(aU.1 hi).2]at q
 have m:∀x,x∈(B.set i f).set j bi->x∈B:=λx r=>e.mem_iff.1 r;refine⟨dy C,by simp[T.len],(e.nodup_iff).2 T.nd,λk E L d c=>?_,λL c=>?_,λr=>T.M (m _ r)⟩
 .have D:E≠o:=λN=>T.M (m _ (by rw[<-N];exact dk d));rw[cG D];rw[j']at d c;rw[ox]at d c;by_cases u:j=k
  .subst u;rw[aC O,aC l]at d;rw[aC O,aC (by rw[<-T.len];exact l)]at c;injection d with d;injection c with c;subst d;subst c;exact T.row i _ _ hi y
  .rw[aL u]at d c;rw[j']at d c;by_cases v:i=k
   .subst v;rw[aC O,aC g]at d;rw[aC O,aC (by rw[<-T.len];exact g)]at c;injection d with d;injection c with c;subst d;subst c;exact T.row j _ _ p A
   .rw[aL v]at d c;exact T.row k _ _ d c
 .rcases wm c with q|q
  .rcases wm q with q|q
   .exact T.wid L q
   .rw[q];exact T.wid _ (dk A)
  .rw[q];exact T.wid _ (dk y)
def oA(x):fF af 23 1 [(0,((x:Int):I))]=J (.ac .aK 1 [[((x:Int):I)]]):=ax
def sM{k}{es}{x}(o:F es<1099511627776)(f:sz=1∨(es=[]/\k=.nil))(e:cY n0 H k):
 gB af H #[23,23] (.ac k sz (ay es)) (.ac .aK 1 [[((x:Int):I)]])=J (.ac (.free H.tn) 1 (ay (es++[x])),H.app k):=by
 obtain⟨l,g,c,i,j⟩:=A6;have m:=lu (ag:F es+1<=1099511627776) i;have:=zV (t0:=23) (t1:=23) (n0:=n0) (i:=l) (sz:=sz) (es:=ay es) (new:=ay [x]) (x:=.ac .aK 1 (ay [x])) underlying23 (.inl ⟨_,underlying23⟩) g ag (by rw[c];exact j) (by rw[c];rfl) (by simp[ay])
  (by simp only[ay,bI,eR,gh,oy];omega) (by simp only[ay,bI,eR,gh];omega) (f.imp (λd=>d.trans c.symm) λd=>⟨by rw[d.1];rfl,d.2⟩) e
 rw[c]at this;unfold ay at *
 rw[jr];exact this
def ab6{x}(d:H.V[b]?=J (B.map λb=>I.arr b 0 w w))(c:k<F B):bU af H 23 (.ptr (.box b) k) (.arr x 0 w w)=J (H.put b ((B.set k x).map λb=>I.arr b 0 w w)):=by rw[e7 (xs:=[I.arr x 0 w w]) O g_ d O (by rw[bI];exact c)];congr 2;unfold dW;rw[Ts,xS,aC (by rw[bI];exact c)];simp
def anP{n}{a b}:∀x∈ii n a b,okF x:=by intro x c;unfold ii at c;obtain⟨e,d,rfl⟩:=List.getElem_of_mem c;rw[List.getElem_zipWith];exact Cu _
def ahB{a}(h:∀x∈a,okF x):∀x∈ua c a own,okF x:=by
 intro x d;unfold ua at d;split at d
 .exact h x d
 .rcases uQ.1 d with q|q
  .exact h x (uR q)
  .exact anP x q
def auQ{a}{n}(h:∀x∈a,okF x):∀x∈gU c a n,okF x:=by
 intro x d;unfold gU at d;rcases uQ.1 d with q|q
 .exact h x (uR q)
 .obtain⟨e,-,rfl⟩:=iW.1 q;exact Fi _ _
def ahF{r}{t}(h:∀a∈t,∀x∈a,okF x):∀a∈pU c own r j t,∀x∈a,okF x:=by
 intro a f;obtain⟨i,d⟩:=sK f;rw[vj]at d;cases g:t[i]? with
 |none=>rw[g]at d;cases d
 |some l=>
  rw[g,Option.map_some]at d;injection d with d;have e:=h l (dk g);rw[<-d];split
  .exact ahB e
  .exact e
def abS{a}{n}(d:c<=F a):F (gU c a n)=F a:=by unfold gU;rw[db,bI,dF,fL];omega
def cH(pv:List Nat):List Int:=pv.map λ(c:Nat)=>(c:Int)
def qD(t:List (List Int))(c:Nat):List (List Int) × List Nat:=(bE c).foldl vW (t,[])
def abk(t)(c):qD t (c+1)=vW (qD t c) c:=by unfold qD;rw[jH,nJ];rfl
def abj{t}(g:∀a∈t,F a=w)(i:∀a∈t,∀x∈a,okF x):∀c,c<=w->uU w c (qD t c)/\F (qD t c).1=F t/\F (qD t c).2<=F t:=by
 intro c
 induction c with
 |zero=>exactλ_=>⟨⟨g,i,λ_ _ _ _ u o=>by omega⟩,O,ck _⟩|succ c l=>
  intro m;obtain⟨d,e,j⟩:=l ag;rw[abk];refine⟨by rw[acg d ag];exact Lu d ag,?_⟩;unfold vW;cases f:nU (qD t c).1 (F (qD t c).2) c with|none=>exact⟨e,j⟩|some k=>obtain⟨p,q,r⟩:=Al f;refine⟨by simp[e],?_⟩;simp only[db,eR,gh];omega
def P7(pv):F (ay (cH pv))=F pv:=by unfold ay cH;simp
def abi(t)(many):DP t many=qD t many:=rfl
def arE(h:am)(e:Nat)(B:List Nat)(t:List (List Int))(w many:Nat)(T:jf h e B t w)(hm:many<=w)(hw:w<=1000000)(hn:F t<=1000000)(eH:∀r∈t,∀x∈r,okF x)(ho:cS h=aa):
 ∃r h',W2.call 169 [.arr e 0 (F t) (F t),im (many:Nat)] h=J (r,h')/\∃(k:Tok) (s:Nat) (B':List Nat),r=.ret (.ac k s (ay (cH (DP t many).2)))/\(s=1∨(cH (DP t many).2=[]/\k=.nil))/\jf h' e B' (DP t many).1 w/\B'.Perm B/\GM (e::B) h.tn h h' k:=by
 have kT:=aj.mk T;have kok:=aj.mk eH;have kBl:aj (∀b∈B,b<F h.V):=⟨λb L=>by obtain⟨u,hi⟩:=sK L;have fG:=(aU.1 hi).1;exact(aU.1 (T.row u b _ hi (aW (by rw[<-T.len];exact fG)))).1⟩;have z3:=LU;have bx1:∀b n z4:Nat,(I.arr b 0 n z4).bL=J [.arr b 0 n z4]:=λ_ _ _=>rfl;have bx2:∀n:Int,(I.v (.int .i64 n)).bL=J [((n:Int):I)]:=λ_=>rfl;have g0:GM (e::B) h.tn h (h.push [.arr e 0 (F t) (F t)]) .nil:=⟨gp.refl.push _,.inl O,ho⟩;have T0:jf (h.push [.arr e 0 (F t) (F t)]) e B t w:=T.mono λ_ _ q=>aP q;have p0:(h.push [.arr e 0 (F t) (F t)]).V[F h.V]?=J [.arr e 0 (F t) (F t)]:=aQ _ _;have r0:uU w 0 (qD t 0):=⟨T.wid,eH,λ_ _ _ _ _ q=>absurd q (qc _)⟩;have kk:=aj.mk (au g0 (au T0 (au p0 r0)));clear g0 T0 p0 r0 T eH ho;unfold im at *
 refine cq O func169 O ?_;refine bB @tG @bG ?_;refine bJ.gen λN o iD fA eg=>?_;have q2:N.get 2=.ptr (.box (F h.V)) 0:=by rw[o];exact gS
 have q4:N.get 4=.ac .nil 0 (ay (cH [])):=by rw[o];exact gR
 have q13:N.get 13=(many:Nat):=by rw[o];exact gS
 have q14:N.get 14=(0:Nat):=by rw[o];exact gR
 have qd:N.defers=[]:=by rw[iD];exact gS
 clear o iD fA eg;refine cK (λz4 z0 H=>∃(g:Nat) (B':List Nat) (k:Tok) (s:Nat),g<=many/\z4=many-g/\jf H e B' (qD t g).1 w/\B'.Perm B/\H.V[F h.V]?=J [.arr e 0 (F t) (F t)]/\z0.get 2=.ptr (.box (F h.V)) 0/\z0.get 4=.ac k s (ay (cH (qD t g).2))/\(s=1∨(cH (qD t g).2=[]/\k=.nil))/\z0.get 13=(many:Nat)/\z0.get 14=(g:Nat)/\z0.defers=[]/\GM (e::B) h.tn h H k) ?_ many _ _ ?_;rotate_left 1
 .exact⟨0,B,.nil,0,ck _,O,kk.M.2.1,.refl _,kk.M.2.2.1,q2,q4,.inr ⟨O,O⟩,q13,q14,qd,kk.M.1⟩
 clear kk q2 q4 q13 q14 qd;rintro z4 z0 H ⟨g,B',tk,s,hc,rfl,T',hP,mT,g2,g4,hs,g13,g14,hd,hG⟩;have kT':=aj.mk T';have kP:=aj.mk hP;have ks:=aj.mk hs;have kG:=aj.mk hG;obtain⟨z6,i2,i3⟩:=abj kT.M.wid kok.M g ag;have kR:=aj.mk z6;clear T' hP hG z6;by_cases dx:g<many;rotate_left 1
 .have:g=many:=by omega
  subst this;clear mT i2 i3 hs;refine br @tG ?_;refine⟨_,_,O,tk,s,B',?_⟩;rw[abi];exact⟨O,ks.M,kT'.M,kP.M,kG.M⟩
 have rS:=abk t g;generalize gG:qD t g=st at *
 obtain⟨t',c⟩:=st;dsimp only at *
 have lT:=P7 c;have u23:=underlying23;have u203:=underlying207;have s0:∀n,bU af (H.push [.v (.int .i64 0)]) 3 (.ptr (.box (F H.V)) 0) ((n:Int):I)=J (H.push [((n:Int):I)]):=λn=>jC O eQ O O;have l0:∀n,aF af Gt (H.push [((n:Int):I)]) 3 (.ptr (.box (F H.V)) 0)=J ((n:Int):I):=λn=>mB (aQ _ _);refine bB @tG @bG ?_;refine bJ.gen λN o iD fA eg=>?_;have f2:N.get 2=.ptr (.box (F h.V)) 0:=by rw[o];simp only[gW,reduceIte,aR,aM,g2]
 have f4:N.get 4=.ac tk s (ay (cH c)):=by rw[o];simp only[gW,reduceIte,aR,aM,g4]
 have f5:N.get 5=(g:Nat):=by rw[o];simp only[gW,reduceIte,aR,aM,g14]
 have f6:N.get 6=.ptr (.box (F H.V)) 0:=by rw[o];exact gS
 have f7:N.get 7=(F c:Nat):=by rw[o];exact gS
 have f13:N.get 13=(many:Nat):=by rw[o];simp only[gW,reduceIte,aR,aM,g13]
 have f14:N.get 14=(g:Nat):=by rw[o];simp only[gW,reduceIte,aR,aM,g14]
 have fd:N.defers=[]:=by rw[iD];simp only[gW,reduceIte,aR,aM];exact hd
 clear o iD fA eg g2 g4 g13 g14 hd;have T2:jf (H.push [((F c:Nat):I)]) e B' t' w:=kT'.M.mono λ_ _ q=>aP q;have G2:GM (e::B) h.tn h (H.push [((F c:Nat):I)]) tk:=kG.M.then λ_=>gp.refl.push _;have b2:(H.push [((F c:Nat):I)]).V[F h.V]?=J [.arr e 0 (F t) (F t)]:=aP mT;have b3:(H.push [((F c:Nat):I)]).V[F H.V]?=J [((F c:Nat):I)]:=aQ _ _;have Ot:F (H.push [((F c:Nat):I)]).V=F H.V+1:=bP _ _;have hhl:F h.V<F H.V:=(aU.1 mT).1;generalize H.push [((F c:Nat):I)]=H2 at *
 clear kT' kG s0 l0 mT;have m:=aj.mk T2;have kG2:=aj.mk G2;have kl:=aj.mk Ot;have l2:=vE b2;have l3:=mB b3;have kb2:=aj.mk b2;have kb3:=aj.mk b3;clear T2 G2 Ot b2 b3;generalize hHn:F H.V=hl at *
 clear hHn;refine cK (λz4 z0 l=>∃D:Nat,F c<=D/\D<=F t/\z4=F t-D/\aj (∀k,F c<=k->k<D->ah (t'.getD k []) g=0)/\z0.get 2=.ptr (.box (F h.V)) 0/\z0.get 4=.ac tk s (ay (cH c))/\z0.get 5=(g:Nat)/\z0.get 6=.ptr (.box hl) 0/\z0.get 7=(D:Nat)/\z0.get 13=(many:Nat)/\z0.get 14=(g:Nat)/\z0.defers=[]/\l=H2) ?_ (F t-F c) _ _ ?_;rotate_left 1
 .exact⟨F c,aT _,i3,O,⟨λk h1 h2=>absurd h1 ag⟩,f2,f4,f5,f6,f7,f13,f14,fd,O⟩
 clear f2 f4 f5 f6 f7 f13 f14 fd;rintro z4 e3 H2 ⟨D,XR,XS,rfl,kz,g2,g4,g5,g6,g7,g13,g14,hd,rfl⟩;by_cases ue:D<F t;rotate_left 1
 .have nY:D=F t:=by omega
  subst nY;have AH:=IQ (t:=t') (c:=g) XR ag kz.M (λq=>absurd q ag);rw[aC ag]at AH;have gG:qD t (g+1)=(t',c):=by rw[rS];unfold vW;simp only[AH]
  have khst:=aj.mk gG;clear AH gG rS;refine br @tG ?_;refine⟨many-(g+1),by omega,g+1,B',tk,s,by omega,O,?_⟩;rw[khst.M];exact⟨m.M,kP.M,kb2.M,ba,O,ks.M,ba,by simp,ba,kG2.M⟩
 obtain⟨b,L⟩:∃b,t'[D]?=J b:=⟨_,aW ag⟩;obtain⟨d,y⟩:∃b,B'[D]?=J b:=⟨_,aW (by rw[m.M.len];omega)⟩;have wb:=m.M.wid b (dk L);have A:=m.M.row D d b y L;have ixj:=De (b:=e) (len:=t.length) (aY:=t.length) (k:=.i64) ue;have ixc:=pC (b:=d) (len:=w) (aY:=w) (k:=.i64) (ag:g<w);have OS:(B'.map λb=>I.arr b 0 w w)[D]?=J (.arr d 0 w w):=by rw[ek,y];rfl
 have m1:=sd m.M.iu OS;have m2:=wZ A (vJ (k:=g) ag);have gDj:t'.getD D []=b:=by rw[fc,L];rfl
 have khr:=aj.mk A;clear A;by_cases C:ah b g=0
 .have oF:∀k,F c<=k->k<D+1->ah (t'.getD k []) g=0:=by
   intro k h1 h2;rcases dR k D with q|q
   .exact kz.M k h1 q
   .rw[(ag:k=D),gDj];exact C
  have kz2:=aj.mk oF;rw[C]at m2;clear oF kz gDj C OS rS;unfold im at *
  refine br @tG ?_;exact⟨F t-(D+1),by omega,D+1,by omega,by omega,O,kz2,ba,ba,ba,ba,by simp,ba,ba,ba,ba⟩
 have AH:=IQ (t:=t') (c:=g) XR ag kz.M (λ_=>by rw[gDj];exact C);rw[aL ag]at AH;obtain⟨z5,ho⟩:∃b,t'[F c]?=J b:=⟨_,aW ag⟩;obtain⟨bo,yu⟩:∃b,B'[F c]?=J b:=⟨_,aW (by rw[m.M.len];omega)⟩;have qr:=av0 AH L ho;rw[<-rS]at qr;have kgo:=aj.mk qr;have kne:=aj.mk C;have okb:=kR.M.ok b (dk L);have nz:=w_ (pT okb g);have ixr:=De (b:=e) (len:=t.length) (aY:=t.length) (k:=.i64) (ag:F c<F t);have XB:(B'.map λb=>I.arr b 0 w w)[F c]?=J (.arr bo 0 w w):=by rw[ek,yu];rfl
 have m3:=sd m.M.iu XB;have T3:=jf.swap m.M yu y ho L;have nb1:d<F h.V:=kBl.M d (kP.M.mem_iff.1 (dk y));have nb2:e≠d:=λz0=>m.M.M (by rw[z0];exact dk y);have azM:=(aU.1 kT.M.iu).1;have X9:F h.V≠e:=by omega
 have alA:hl≠e:=by omega
 have s1:=ab6 (w:=w) (x:=d) (k:=c.length) m.M.iu (by rw[m.M.len];omega);have jV:(H2.put e ((B'.set (F c) d).map λb=>I.arr b 0 w w)).V[e]?=J ((B'.set (F c) d).map λb=>I.arr b 0 w w):=dy (aU.1 m.M.iu).1;have s2:=ab6 (w:=w) (x:=bo) (k:=D) jV (by rw[ox,m.M.len];omega);rw[Kz]at s2;have l2b:aF af Gt (H2.put e ((B'.set (F c) d).map λb=>I.arr b 0 w w)) 207 (.ptr (.box (F h.V)) 0)=J (.arr e 0 (F t) (F t)):=vE ((cG X9).trans kb2.M);have G3:GM (e::B) h.tn h (H2.put e (((B'.set (F c) d).set D bo).map λb=>I.arr b 0 w w)) tk:=kG2.M.then λ_=>.put (gj) _;have b2:(H2.put e (((B'.set (F c) d).set D bo).map λb=>I.arr b 0 w w)).V[F h.V]?=J [.arr e 0 (F t) (F t)]:=(cG X9).trans kb2.M;have b3:(H2.put e (((B'.set (F c) d).set D bo).map λb=>I.arr b 0 w w)).V[hl]?=J [((F c:Nat):I)]:=(cG alA).trans kb3.M;have Oq:F (H2.put e (((B'.set (F c) d).set D bo).map λb=>I.arr b 0 w w)).V=F H2.V:=jA _ _ _;have I_:((B'.set (F c) d).set D bo).Perm B:=by have q:=adZ (aU.1 yu).1 (aU.1 y).1;rw[show B'[D]'(aU.1 y).1=d from(aU.1 y).2,show B'[c.length]'(aU.1 yu).1=bo from(aU.1 yu).2]at q;exact q.trans kP.M
 have E:((B'.set (F c) d).set D bo)[F c]?=J d:=by
  rw[j'];by_cases q:D=F c
  .rw[aC q,aC (by rw[ox,m.M.len];omega)];rw[q,yu]at y;exact y
  .rw[aL q,MC (aU.1 yu).1]
 have wR:((t'.set (F c) b).set D z5)[F c]?=J b:=by
  rw[j'];by_cases q:D=F c
  .rw[aC q,aC (by rw[ox];omega)];rw[q,ho]at L;exact L
  .rw[aL q,MC ag]
 have YC:F ((t'.set (F c) b).set D z5)=F t:=by rw[ox,ox];exact i2
 have X':∀a∈(t'.set (F c) b).set D z5,∀x∈a,okF x:=by
  intro a ha;rcases wm ha with q|q
  .rcases wm q with q|q
   .exact kR.M.ok a q
   .rw[q];exact okb
  .rw[q];exact kR.M.ok z5 (dk ho)
 have kok3:=aj.mk (au X' (au okb YC));clear X' YC;generalize (t'.set (F c) b).set D z5=t3 at *
 generalize (B'.set (F c) d).set D bo=Z at *
 obtain⟨l,yo⟩:∃l,H2.put e (Z.map λb=>I.arr b 0 w w)=l:=⟨_,O⟩;rw[yo]at s2 T3 G3 b2 b3 Oq;have kP3:=aj.mk I_;clear yo jV I_ qr AH kz gDj L ho rS gG;have l23:=vE b2;have l33:=mB b3;have rZ:(Z.map λb=>I.arr b 0 w w)[F c]?=J (.arr d 0 w w):=by rw[ek,E];rfl
 have m13:=sd T3.iu rZ;have Py:=T3.row (F c) d b E wR;have m23:=wZ Py (vJ (k:=g) ag);have yw:fmod (ah b g)=ah b g:=Ap (pT okb g);have ci:=λh=>amL (ah b g) h;rw[yw]at ci;simp only[aL C]at ci;have kokz:aj (0<=eK (ah b g)/\eK (ah b g)<=9223372036854775807):=⟨w_ (NY _)⟩;have ay3:e<F l.V:=(aU.1 T3.iu).1;have ay7:d<F l.V:=(aU.1 Py).1;have hh3:F h.V<F l.V:=(aU.1 b2).1;have azh:hl<F l.V:=(aU.1 b3).1;generalize hz:ah b g=z at *
 have kfz:aj (okF (eK z)):=⟨NY _⟩;generalize hf:eK z=i at *
 have s5:bU af (l.push [.v (.int .i64 0)]) 3 (.ptr (.box (F l.V)) 0) ((i:Int):I)=J (l.push [((i:Int):I)]):=jC O eQ O O;have T4:jf (l.push [((i:Int):I)]) e Z t3 w:=T3.mono λ_ _ q=>aP q;have G4:GM (e::B) h.tn h (l.push [((i:Int):I)]) tk:=G3.then λ_=>gp.refl.push _;have b24:(l.push [((i:Int):I)]).V[F h.V]?=J [.arr e 0 (F t) (F t)]:=aP b2;have b34:(l.push [((i:Int):I)]).V[hl]?=J [((F c:Nat):I)]:=aP b3;have b44:(l.push [((i:Int):I)]).V[F l.V]?=J [((i:Int):I)]:=aQ _ _;have Fq:F (l.push [((i:Int):I)]).V=F l.V+1:=bP _ _;have kH3:=aj.mk Oq;obtain⟨p,As⟩:∃p,l.push [((i:Int):I)]=p:=⟨_,O⟩;rw[As]at s5 T4 G4 b24 b34 b44 Fq;have l24:=vE b24;have l34:=mB b34;have m14:=sd T4.iu rZ;have X:=Ub d w g p;have kT4:=aj.mk T4;have kG4:=aj.mk G4;have kb4:=aj.mk (au b24 (au b34 (au b44 (au Fq (au E wR)))));unfold im at X m2 m23 ci;clear As T4 G4 b24 b34 b44 Fq T3 G3 b2 b3 Oq Py rZ E wR yw OS XB yu y;refine br @tG ?_;refine jB [(2,13)] z' ax (λz7 hp=>?_) ?_
 .simp only[js]at hp;subst hp;refine mI (x:=.ptr (.box (F h.V)) 0) (v:=.arr e 0 (F t) (F t)) ax O O O ax (by simp[df,ip]) ?_ ?_<;>(simp only[fe,eE];exact f_ @tG @and_self)
 refine br @tG ?_;refine bJ.gen λe4 R rb uf ug=>?_;have f2:e4.get 2=.ptr (.box (F h.V)) 0:=by rw[R];simp only[gW,reduceIte,aR,aM];exact g2
 have f4:e4.get 4=.ac tk s (ay (cH c)):=by rw[R];simp only[gW,reduceIte,aR,aM];exact g4
 have f5:e4.get 5=(g:Nat):=by rw[R];simp only[gW,reduceIte,aR,aM];exact g5
 have f6:e4.get 6=.ptr (.box hl) 0:=by rw[R];simp only[gW,reduceIte,aR,aM];exact g6
 have f8:e4.get 8=.ptr (.box (F l.V)) 0:=by rw[R];exact gS
 have f13:e4.get 13=(many:Nat):=by rw[R];simp only[gW,reduceIte,aR,aM];exact g13
 have f14:e4.get 14=(g:Nat):=by rw[R];simp only[gW,reduceIte,aR,aM];exact g14
 have f70:e4.get 70=.func (.func 249) [] [.ptr (.box (F p.V+1)) 0,.ptr (.box (F p.V)) 0]:=by rw[R];exact gS
 have fd:e4.defers=[]:=by rw[rb];simp only[gW,reduceIte,aR,aM];exact hd
 clear R rb uf ug g2 g4 g5 g6 g7 g13 g14 hd;refine Bn (by rw[yj];exact f70) λrec w1 w2 w3 w4 w5 w6=>?_;obtain⟨b24,b34,b44,Fq,E,wR⟩:=kb4.M;have T5:jf ((p.push [.arr d 0 w w]).push [((g:Nat):I)]) e Z t3 w:=kT4.M.mono λ_ _ q=>aP (aP q);have G5:GM (e::B) h.tn h ((p.push [.arr d 0 w w]).push [((g:Nat):I)]) tk:=kG4.M.then λ_=>(gp.refl.push _).push _;have b25:((p.push [.arr d 0 w w]).push [((g:Nat):I)]).V[F h.V]?=J [.arr e 0 (F t) (F t)]:=aP (aP b24);have b35:((p.push [.arr d 0 w w]).push [((g:Nat):I)]).V[hl]?=J [((F c:Nat):I)]:=aP (aP b34);have b45:((p.push [.arr d 0 w w]).push [((g:Nat):I)]).V[F l.V]?=J [((i:Int):I)]:=aP (aP b44);have b55:((p.push [.arr d 0 w w]).push [((g:Nat):I)]).V[F p.V]?=J [.arr d 0 w w]:=aP (aQ _ _);have b65:((p.push [.arr d 0 w w]).push [((g:Nat):I)]).V[F p.V+1]?=J [((g:Nat):I)]:=np (by rw[bP]);have akH:F ((p.push [.arr d 0 w w]).push [((g:Nat):I)]).V=F p.V+2:=by rw[bP,bP]
 generalize (p.push [.arr d 0 w w]).push [((g:Nat):I)]=j at *
 clear l2 l3 l23 l33 m1 m2 m3 m13 m23 ci s1 s2 l2b s5 l24 l34 m14 X kb4 kT4 kG4 kb2 kb3 m kG2 khr;have A:=T5.row (F c) d b E wR;have nq:=(aU.1 A).1;have k_:(j.loop rec).aB[F j.aB]?=J rec:=@Be j rec;have I1:∀(k:Nat) (H:am),H=(j.loop rec).put d ((jK (λu=>cO (ah b u) i) b g k).map im)->H.V[F p.V+1]?=J [im (g:Nat)]/\H.V[F p.V]?=J [.arr d 0 w w]/\(k<w->∃cs,H.V[d]?=J cs/\cs[k]?=J (im (ah b k))):=by
  rintro k H rfl;refine⟨?_,?_,λhk=>⟨_,dy nq,?_⟩⟩
  .rw[cG ag];exact b65
  .rw[cG ag];exact b55
  .have:=vJ (r:=jK (λu=>cO (ah b u) i) b g k) (k:=k) (by rw[qW];omega);rw[Cf ag,aL ag]at this;exact this
 have I2:∀(k:Nat) (H:am),g<=k->k<w->H=(j.loop rec).put d ((jK (λu=>cO (ah b u) i) b g k).map im)->∃H',W2.round (F j.aB) [im (k:Nat),im (ah b k)] H=J (.ret (aa:I),H')/\H'=(j.loop rec).put d ((jK (λu=>cO (ah b u) i) b g (k+1)).map im):=by
  rintro k H FM FN rfl;refine GG (Post:=λH=>H=(j.loop rec).put d ((jK (λu=>cO (ah b u) i) b g (k+1)).map im)) k_ (by rw[w2];rfl) w5 w6 ?_;have kq:=VD (f:=λu=>cO (ah b u) i) FM (ag:k<F b);have r1:∀t,(mG (F j.aB) rec [im (k:Nat),im (ah b k)]).get t=if 72=t then im (ah b k) else if 71=t then im (k:Nat) else e4.get t:=λt=>GF w2 w1
  have d1:(mG (F j.aB) rec [im (k:Nat),im (ah b k)]).defers=[]:=rfl;obtain⟨K,hK⟩:∃K,((j.loop rec).put d ((jK (λu=>cO (ah b u) i) b g k).map im)).busy (F j.aB) rec=K:=⟨_,O⟩;rw[hK];have c1:K.V[d]?=J ((jK (λu=>cO (ah b u) i) b g k).map im):=by rw[<-hK];exact dy nq
  have c2:K.V[F h.V]?=J [.arr e 0 (F t) (F t)]:=by rw[<-hK];exact(cG ag).trans b25
  have c3:K.V[hl]?=J [((F c:Nat):I)]:=by rw[<-hK];exact(cG ag).trans b35
  have c4:K.V[F l.V]?=J [im i]:=by rw[<-hK];exact(cG ag).trans b45
  have c5:K.V[e]?=J (Z.map λb=>I.arr b 0 w w):=by rw[<-hK];exact(cG nb2).trans T5.iu
  have rZ:(Z.map λb=>I.arr b 0 w w)[F c]?=J (.arr d 0 w w):=by rw[ek,E];rfl
  have m2:=vE c2;have m3:=mB c3;have m4:=mB c4;have m5:=sd c5 rZ;have F':=pC (b:=d) (len:=w) (aY:=w) (k:=.i64) FN;have sk:=vV (r:=jK (λu=>cO (ah b u) i) b g k) (k:=k) (x:=cO (ah b k) i) c1 (by rw[qW];omega);rw[kq]at sk;have ut:=w_ (pT okb k);have f1:=λh=>QB (ah b k) i h;clear A b25 b35 b45 b55 b65 T5 G5 c1 c2 c3 c4 c5 kq rZ I1 okb f70 ixj ixc;generalize cO (ah b k) i=z1 at *
  generalize ah b k=z2 at *
  unfold im at *
  rw[w3,w4];refine wH ?_;refine⟨ba,ba,?_⟩;refine bJ.gen λe2 r8 jV pq C4=>?_;have q2:e2.get 2=.ptr (.box (F h.V)) 0:=by rw[r8];simp only[gW,reduceIte,aR,aM,r1];exact f2
  have q6:e2.get 6=.ptr (.box hl) 0:=by rw[r8];simp only[gW,reduceIte,aR,aM,r1];exact f6
  have q8:e2.get 8=.ptr (.box (F l.V)) 0:=by rw[r8];simp only[gW,reduceIte,aR,aM,r1];exact f8
  have q10:e2.get 10=(k:Int):=by rw[r8];simp only[gW,reduceIte,aR,aM,r1]
  have q11:e2.get 11=(z2:Int):=by rw[r8];simp only[gW,reduceIte,aR,aM,r1]
  clear r8 jV pq C4 r1 d1
  repeat' (first|simp(maxSteps:=9^9) (disch:=first|exact dZ|fail) only[gW,reduceIte,aR,aM, *]|(refine dX ?_ ?_<;>(intro _;try omega))|refine eI z' ax ?_)
  rw[<-hK];simp only[am.put,am.busy,am.loop,HN];exact⟨ba,ba,ba⟩
 obtain⟨h',c1,c2⟩:=Uc (F j.aB) (F p.V+1) (F p.V) d w g b (λk H=>H=(j.loop rec).put d ((jK (λu=>cO (ah b u) i) b g k).map im)) I1 I2 ag hw ((j.loop rec).put d ((jK (λu=>cO (ah b u) i) b g g).map im)) O;have e3:j.loop rec=(j.loop rec).put d ((jK (λu=>cO (ah b u) i) b g g).map im):=by rw[VE];exact(jb (h:=j.loop rec) A).symm
 rw[<-e3]at c1;have e4':jK (λu=>cO (ah b u) i) b g w=gU g b i:=by rw[<-wb];exact aim ag
 rw[e4']at c2;subst c2;clear e3 I1 I2 e4';refine⟨_,_,c1,rec,k_,by rw[w5];decide,.inl ⟨w6,?_⟩⟩;clear c1;have yp:F h.aB<=F j.aB:=by
  have:=G5.mu.loop;rcases dR (F j.aB) (F h.aB) with q|q
  .have:=(aU.1 (this _ _ (aW q))).1;omega
  .exact q
 have okt:=kok3.M;have Fz:d∈B:=kP3.M.mem_iff.1 (dk E);have T6:jf (((j.loop rec).put d ((gU g b i).map im)).eM (F j.aB) {rec with state:=.exhausted}) e Z (t3.set (F c) (gU g b i)) w:=by have q:=jf.set (H:=j.loop rec) (T5.mono λ_ _ q=>q) E (r:=gU g b i) (by rw[abS ag];exact wb);exact q.mono λ_ _ q=>q
 have G6:GM (e::B) h.tn h (((j.loop rec).put d ((gU g b i).map im)).eM (F j.aB) {rec with state:=.exhausted}) tk:=⟨((G5.mu.yO rec).trans (.put (gi _ Fz) _)).eM yp _,G5.can,G5.ok⟩;have b26:(((j.loop rec).put d ((gU g b i).map im)).eM (F j.aB) {rec with state:=.exhausted}).V[F h.V]?=J [.arr e 0 (F t) (F t)]:=(cG ag).trans b25;have b36:(((j.loop rec).put d ((gU g b i).map im)).eM (F j.aB) {rec with state:=.exhausted}).V[hl]?=J [((F c:Nat):I)]:=(cG ag).trans b35;have Yl:(t3.set (F c) (gU g b i))[F c]?=J (gU g b i):=MC (aU.1 wR).1;have ok4:∀a∈t3.set (F c) (gU g b i),∀x∈a,okF x:=by
  intro a ha;rcases wm ha with q|q
  .exact okt.1 a q
  .rw[q];exact auQ okb
 have FO:F (t3.set (F c) (gU g b i))=F t:=by rw[ox];exact okt.2.2
 have qr:=kgo.M;rw[i2]at qr;have T7:jf (((j.loop rec).put d ((gU g b i).map im)).eM (F j.aB) {rec with state:=.exhausted}) e Z (pU g (gU g b i) (F c) 0 (t3.set (F c) (gU g b i))) w:=by rw[ahK];exact T6
 have Yu:F (gU g b i)=w:=by rw[abS ag];exact wb
 generalize (((j.loop rec).put d ((gU g b i).map im)).eM (F j.aB) {rec with state:=.exhausted})=H6 at *
 clear T6 k_ A b25 b35 b45 b55 b65 T5 G5 akH nq w1 w2 w3 w4 w5 w6 yp E wR okt f70 f8 Fq ixj ixr ixc;have l26:=vE b26;have l36:=mB b36;generalize gU g b i=own at *
 generalize t3.set (F c) own=t4 at *
 have k7:=aj.mk (au T7 (au G6 (au b26 b36)));have kok4:=aj.mk (au ok4 (au Yl (au FO qr)));clear T7 G6 b26 b36 ok4 Yl qr okb kok3 FO;refine br @tG ?_;refine bJ.gen λe5 Y FD Ps FU=>?_;have r2:e5.get 2=.ptr (.box (F h.V)) 0:=by rw[Y];simp only[gW,reduceIte,aR,aM];exact f2
 have r4:e5.get 4=.ac tk s (ay (cH c)):=by rw[Y];simp only[gW,reduceIte,aR,aM];exact f4
 have r5:e5.get 5=(g:Nat):=by rw[Y];simp only[gW,reduceIte,aR,aM];exact f5
 have r6:e5.get 6=.ptr (.box hl) 0:=by rw[Y];simp only[gW,reduceIte,aR,aM];exact f6
 have r13:e5.get 13=(many:Nat):=by rw[Y];simp only[gW,reduceIte,aR,aM];exact f13
 have r14:e5.get 14=(g:Nat):=by rw[Y];simp only[gW,reduceIte,aR,aM];exact f14
 have r83:e5.get 83=(F t:Nat):=by rw[Y];exact gS
 have r84:e5.get 84=(0:Nat):=by rw[Y];exact gR
 have rd:e5.defers=[]:=by rw[FD];simp only[gW,reduceIte,aR,aM];exact fd
 clear Y FD Ps FU f2 f4 f5 f6 f13 f14 fd l26 l36;refine cK (λz4 z0 H=>∃u:Nat,u<=F t/\z4=F t-u/\aj (jf H e Z (pU g own (F c) u t4) w)/\aj (GM (e::B) h.tn h H tk)/\aj (H.V[F h.V]?=J [.arr e 0 (F t) (F t)])/\aj (H.V[hl]?=J [((F c:Nat):I)])/\z0.get 2=.ptr (.box (F h.V)) 0/\z0.get 4=.ac tk s (ay (cH c))/\z0.get 5=(g:Nat)/\z0.get 6=.ptr (.box hl) 0/\z0.get 13=(many:Nat)/\z0.get 14=(g:Nat)/\z0.get 83=(F t:Nat)/\z0.get 84=(u:Nat)/\z0.defers=[]) ?_ (F t) _ _ ?_;rotate_left 1
 .exact⟨0,ck _,O,⟨k7.M.1⟩,⟨k7.M.2.1⟩,⟨k7.M.2.2.1⟩,⟨k7.M.2.2.2⟩,r2,r4,r5,r6,r13,r14,r83,r84,rd⟩
 clear r2 r4 r5 r6 r13 r14 r83 r84 rd k7;rintro z4 e6 K ⟨u,hi,rfl,kT7,kG7,kb7,kc7,g2,g4,g5,g6,g13,g14,g83,g84,hd⟩;have l27:=vE kb7.M;have l37:=mB kc7.M;by_cases hit:u<F t;rotate_left 1
 .have gw:u=F t:=by omega
  subst gw;have bl:=oA (g:Int);have ap:=sM (x:=(g:Int)) (show(F (cH c))<1099511627776 by unfold cH;rw[bI];omega) hs kG7.M.can;refine br @tG ?_;refine⟨many-(g+1),by omega,g+1,Z,.free K.tn,1,by omega,O,?_⟩;rw[kok4.M.2.2.2];have FO:=kok4.M.2.2.1;rw[<-FO]at kT7;have ee:cH (c++[g])=cH c++[(g:Int)]:=by unfold cH;simp
  dsimp only;rw[ee];exact⟨by rw[<-FO];exact kT7.M.mono λ_ _ q=>by rw[dC];exact q,kP3.M,by rw[dC];exact kb7.M,ba,O,.inl O,ba,by simp,ba,kG7.M.app (aT _)⟩
 have WI:F Z=F t:=by rw[kT7.M.len,Vp];exact kok4.M.2.2.1
 by_cases O6:u=F c
 .subst O6;have T8:=kT7.M;rw[<-ahI]at T8;have kT8:=aj.mk T8;clear T8;refine br @tG ?_;exact⟨F t-(F c+1),by omega,F c+1,by omega,O,kT8,ba,ba,ba,ba,ba,ba,ba,ba,ba,ba,by simp,ba⟩
 .obtain⟨a,ha⟩:∃a,t4[u]?=J a:=⟨_,aW (by rw[kok4.M.2.2.1];exact hit)⟩;obtain⟨K2,c1,c2,c3⟩:=ahC K e Z (pU g own (F c) u t4) w u (F c) g a own kT7.M (ahH.trans ha) (ahG.trans kok4.M.2.1) O6 ag hw (ahF kok4.M.1);rw[ahJ ha O6]at c2;rw[WI]at c1;have cM:∀n0,gp (e::B) n0 K K2:=λn0=>(c3 n0).mono λb L=>gi _ (kP3.M.mem_iff.1 L);have Fz:∀b∈Z,b<F h.V:=λb L=>kBl.M b (kP3.M.mem_iff.1 L);have kb8:=aj.mk ((c3 0).box _ _ (λq=>absurd (Fz _ q) ag) kb7.M);have kc8:=aj.mk ((c3 0).box _ _ (λq=>absurd (Fz _ q) ag) kc7.M);have kG8:=aj.mk (kG7.M.then cM);have kT8:=aj.mk c2;have azj:¬((u:Int)=(F c:Int)):=by omega
  clear c2 c3 cM Fz ha WI kT7 kG7 kb7 kc7;unfold im at c1;refine br @tG ?_;exact⟨F t-(u+1),by omega,u+1,by omega,O,kT8,ba,ba,ba,ba,ba,ba,ba,ba,ba,ba,by simp,ba⟩
end
section
open Go.AE Go.NT Go.Proofs.Tryz
def IL(x:I)(l:List Int):Prop:=∃k s,x=.ac k s (ay l)/\(l≠[]->s=1)
def RL(x:I)(U:List (List Int)):Prop:=∃(k:Tok) (s:Nat) (c:List I),x=.ac k s (c.map λa=>[a])/\(U≠[]->s=1)/\F c=F U/\∀(d:Nat) (a:I) (e:List Int),c[d]?=J a->U[d]?=J e->IL a e
def ame(h:i<F l):(ay l)[i]?=J [(ah l i:I)]:=by unfold ay wT;rw[ek,aW h,fy h];rfl
def ev{s}(h:i<F l):aF af Gt H 3 (.elem s (ay l) i 0)=J (ah l i:I):=by rw[rm eu (ame h)];rfl
def jP{s}(h:xs[i]?=J x):aF af Gt H 23 (.elem s (xs.map λa=>[a]) i 0)=J x:=by rw[rm kC (row:=[x]) (by rw[ek,h];rfl)];rfl
def DS:Tryz.f168.results.toList=[.tmp 4]:=ax
def atQ:Tryz.f220.results.toList=[]:=ax
def vy(w:Nat)(B:List Nat):List I:=B.map λb=>I.arr b 0 w w
def Ml(H:am)(B:List Nat)(e d:Nat)(c:I)(l:List Int):Prop:=(l=[]/\c=.ac .nil 0 [])∨(l≠[]/\∃b,c=.arr b 0 (F l) (F l)/\H.V[b]?=J (l.map im)/\b∉B/\b≠e/\d<=b)
def awZ{f}{m}(d:Ml H B j (F f.V) m l)(p:Ext f H)(T:F f.V<=j)(x)(X:F l<1000000)(u:∀b∈B,b<F H.V)(R:j<F H.V):
 ∃e,nD af H #[23,23] m (.ac .aK 1 [[((x:Int):I)]])=J (.arr (F H.V) 0 (F l+1) (F l+1),e)/\Ml e B j (F f.V) (.arr (F H.V) 0 (F l+1) (F l+1)) (l++[x])/\Ext f e/\e.aB=H.aB/\F e.V=F H.V+1/\∀c cs,(c∈B∨c=j)->H.V[c]?=J cs->e.V[c]?=J cs:=by
 obtain⟨Y,y,i,E,A⟩:=A6;have L:=lu (ag:F l+1<=1000000) E;have g:=p.len;rcases d with⟨rfl,rfl⟩|⟨v,b,rfl,r,h2,C,D⟩
 .have:=Bt (h:=H) (k:=.nil) (sz:=0) (es:=[]) (new:=[[((x:Int):I)]]) (x:=.ac .aK 1 [[((x:Int):I)]]) underlying23 underlying23 y ag (by rw[i];exact A) cB (by simp;omega) cB (.inr O) (.inl O) (by rw[i];rfl);refine⟨_,this,.inr ⟨cB,H.V.length,O,aQ _ _,λq=>absurd (u _ q) (EH _),by omega,g⟩,p.trans (.push _ _),O,bP _ _,λc cs _ q=>aP q⟩
 .have N:=(aU.1 r).1;have o:0<F l:=List.length_pos_iff.2 v;have:=Hk (h:=H) (b:=b) (len:=l.length) (cs:=l.map im) (new:=[[((x:Int):I)]]) (x:=.ac .aK 1 [[((x:Int):I)]]) underlying23 underlying23 y ag (by rw[i];exact A) cB (by simp;omega) (by simp;omega) r o (by rw[i,bI];omega) (by rw[i];rfl);refine⟨_,this,.inr ⟨cB,H.V.length,by simp,?_,λq=>absurd (u _ q) (EH _),by omega,g⟩,(p.gg D _).trans (.push _ _),O,by rw[bP,jA],λc cs d q=>aP ((cG ?_).trans q)⟩
  .rw[jr];exact np (by rw[jA])
  .rcases d with d|d
   .rintro rfl;exact h2 d
   .rintro rfl;exact C d
structure v_(H:am)(tb base w m:Nat)(B:List Nat)(t:List (List Int))(cur:I)(l:List Int):Prop where
 iu:H.V[tb]?=J (vy w B++cur::bT (m - B.length - 1) (.ac .nil 0 []))
 lt:B.length<m
 len:B.length=t.length
 nd:B.Nodup
 row:∀(i b:Nat) (r:List Int),B[i]?=J b->t[i]?=J r->H.V[b]?=J (r.map im)
 wid:∀r∈t,r.length=w
 M:tb∉B
 low:∀b∈B,base<=b
 cur:Ml H B tb base cur l
def ZI{P}{i}{zero}{k k'}(e:P.underlying t=J (.slice T))(hi:P.info? T=J i)(f:(fY P T).bind I.bL=J zero)(c:F zero=i.size)(h2:0<i.size)(g:i.bytes*n<=281474976710656)(j:n<9223372036854775808):
 w8 P h t (.v (.int k (n:Nat))) (.v (.int k' (n:Nat)))=J (.arr (F h.V) 0 n n,h.push (bT n zero).flatten):=by
 unfold w8;have d:(i.bytes:Int)*(n:Nat)<=281474976710656:=by rw[<-xM];omega
 simp only[e,hi,f];rw[aC ⟨ag,Int.le_refl _,by omega,d,h2,c⟩];simp[am.push]
def ZS8{p:Prop}(h:p:=by
 have h:(match af.info? Q45 with|some i=>iJ i.size Q46&&Nat.ble i.bytes Q47&&decide ((i.zero.map λz=>z.cells.size)=J Q46)|none=>ar)=aa:=ax;cases c:af.info? Q45 with
 |none=>rw[c]at h;cases h
 |some i=>rw[c]at h;simp only[bR,decide_eq_true_eq]at h;exact⟨i,O,nM h.1.1,kj h.1.2,h.2⟩):p:=h
section
open Go renaming kk23->Q45,kk1->Q46,kk24->Q47
def JZ:∃i,af.info? 23=J i/\i.size=1/\i.bytes<=24/\(i.zero.map λz=>z.cells.size)=J 1:=ZS8
end
def aoz(h)(n)(c:n<=1000000)(k k'):w8 af h 207 (.v (.int k (n:Nat))) (.v (.int k' (n:Nat)))=J (.arr (F h.V) 0 n n,h.push (bT n (.ac .nil 0 []))):=by obtain⟨j,d,e,f,i⟩:=JZ;have g:=lu f c;have:=ZI (h:=h) (n:=n) (k:=k) (k':=k') (zero:=[.ac .nil 0 []]) underlying207 d ax (by rw[e];rfl) ag ag ag;rw[this];simp
def w9(h)(n)(c:n<=1000000)(k k'):w8 af h 23 (.v (.int k (n:Nat))) (.v (.int k' (n:Nat)))=J (.arr (F h.V) 0 n n,h.push (bT n (im 0))):=by obtain⟨j,d,e,f,i⟩:=A6;have g:=lu f c;have:=ZI (h:=h) (n:=n) (k:=k) (k':=k') (zero:=[im 0]) underlying23 d LU (by rw[e];rfl) ag ag ag;rw[this];simp
structure Mid(H:am)(tb base w m:Nat)(B:List Nat)(t:List (List Int)):Prop where
 iu:H.V[tb]?=J (vy w B++bT (m - B.length) (.ac .nil 0 []))
 len:B.length=t.length
 nd:B.Nodup
 row:∀(i b:Nat) (r:List Int),B[i]?=J b->t[i]?=J r->H.V[b]?=J (r.map im)
 wid:∀r∈t,r.length=w
 M:tb∉B
 low:∀b∈B,base<=b
def Mid.half{e}{t}(d:Mid H e c w m B t)(f:F B<m):v_ H e c w m B t (.ac .nil 0 []) []:=by refine⟨?_,f,d.len,d.nd,d.row,d.wid,d.M,d.low,.inl ⟨O,O⟩⟩;rw[d.iu,(ag:m-F B=m-F B-1+1),BM];rfl
def Mid.tab{e}{t}(d:Mid H e c w m B t)(f:F B=m):jf H e B t w:=by refine⟨?_,d.len,d.nd,d.row,d.wid,d.M⟩;rw[d.iu,f,tU,adV,g'];rfl
def FF(w)(B):F (vy w B)=F B:=by unfold vy;simp
def ak5(w)(B)(c)(r):(vy w B++c::r)[F B]?=J c:=by rw[wg (by rw[FF];exact aT _),FF,tU];rfl
def ak6(w)(B)(c d)(r):(vy w B++c::r).set (F B) d=vy w B++d::r:=by rw[HM _ _ (by rw[FF];exact aT _),FF,tU];rfl
def avZ{x}(d:H.V[b]?=J cs)(c:k<F cs):bU af H 23 (.ptr (.box b) k) (.arr x 0 n n)=J (H.put b (cs.set k (.arr x 0 n n))):=by rw[e7 (xs:=[I.arr x 0 n n]) O g_ d O c];congr 2;unfold dW;rw[xS,aC c];simp
def v_.lts{t}{d}(j:v_ H i c w m B t d l):∀b∈B,b<F H.V:=by intro b g;obtain⟨o,e⟩:=sK g;have f:=(aU.1 e).1;exact(aU.1 (j.row o b _ e (aW (by rw[<-j.len];exact f)))).1
def v_.more{e}{t}{j}(d:v_ H f (F e.V) w m B t j l)(T:Ext e H)(q:F e.V<=f)(x)(N:F l<1000000):
 ∃g i c,nD af H #[23,23] j (.ac .aK 1 [[((x:Int):I)]])=J (c,g)/\bU af g 23 (.ptr (.box f) (F B)) c=J i/\v_ i f (F e.V) w m B t c (l++[x])/\Ext e i/\i.aB=H.aB:=by
 have v:=(aU.1 d.iu).1;obtain⟨g,C,D,E,L,c5,p⟩:=awZ d.cur T q x N d.lts v;have r:=p f _ (.inr O) d.iu;have A:=avZ (x:=H.V.length) (n:=F l+1) (k:=B.length) r (by simp[FF]);rw[ak6]at A;refine⟨g,_,_,C,A,⟨dy (aU.1 r).1,d.lt,d.len,d.nd,λz1 b z2 u R=>?_,d.wid,d.M,d.low,?_⟩,E.gg q _,L⟩
 .have o:=dk u;rw[cG (λz0=>d.M (by rw[<-z0];exact o))];exact p b _ (.inl o) (d.row z1 b z2 u R)
 .rcases D with⟨X,-⟩|⟨X,b,Y,Z,q3,y,q5⟩
  .simp at X
  .exact .inr ⟨X,b,Y,by rw[cG y];exact Z,q3,y,q5⟩
def v_.mid{e}{t}{j}(f:v_ H q e w m B t j l)(i:F l=w)(X:0<w):∃b,Mid H q e w m (B++[b]) (t++[l]):=by
 rcases f.cur with⟨rfl,-⟩|⟨Y,b,A,C,D,L,N⟩
 .simp at i;omega
 .refine⟨b,?_,by simp[f.len],?_,λy r R d c=>?_,λR c=>?_,?_,λr u=>?_⟩
  .rw[f.iu,A,i];unfold vy;rw[jr,db,jq];rfl
  .rw[List.nodup_append];refine⟨f.nd,by simp,λx v Z p=>?_⟩;rw[js]at p;subst p;rintro rfl;exact D v
  .rcases dR y (F B) with g|T
   .rw[qL g]at d;rw[qL (by rw[<-f.len];exact g)]at c;exact f.row y r R d c
   .have:=(aU.1 d).1;rw[db]at this;have o:y=F B:=(by simp at this;omega);subst o;rw[Ez]at d;rw[f.len,Ez]at c;injection d with d;injection c with c;subst d;subst c;exact C
  .rcases uQ.1 c with z|z
   .exact f.wid R z
   .rw[js]at z;rw[z];exact i
  .intro z;rcases uQ.1 z with z|z
   .exact f.M z
   .rw[js]at z;exact L z.symm
  .rcases uQ.1 u with z|z
   .exact f.low r z
   .rw[js]at z;rw[z];exact N
def axc(h:am)(x y:I)(U:List (List Int))(c:List Int)(hx:RL x U)(E:IL y c)(q:F U<=1000)(ht:F c<=1000)(hw:∀r∈U,F r=F c):
 ∃r h',W2.call 168 [x,y] h=J (r,h')/\∃tb B,r=.ret (.arr tb 0 (F c) (F c))/\jf h' tb B (fU U c) (F U+1)/\Ext h h'/\F h.V<=tb/\∀b∈B,F h.V<=b:=by
 obtain⟨g,v,p,rfl,R,gH,jl⟩:=hx;obtain⟨ky,sy,rfl,lV⟩:=E;have kx:=aj.mk (au R (au jl (au lV hw)));clear R jl lV hw;have mk:=aoz h (F c) ag .i64 .i64;have u23:=underlying23;have u22:=underlying22;have u203:=underlying207;have z23:=g_;have z3:=eQ;have fG:=c' c;have JS:F (p.map λa=>[a])=F U:=by rw[bI];exact gH
 refine cq O func168 O ?_;refine br @DS ?_;refine bJ.gen λe d o fA eg=>?_;have f0:e.get 0=.ac g v (p.map λa=>[a]):=by rw[d];exact gS
 have f5:e.get 5=.arr (F h.V) 0 (F c) (F c):=by rw[d];exact gS
 have f13:e.get 13=.ac ky sy (ay c):=by rw[d];exact gS
 have f14:e.get 14=(F c:Nat):=by rw[d];exact gS
 have f15:e.get 15=(0:Nat):=by rw[d];exact gR
 have Z:e.defers=[]:=by rw[o];exact gS
 clear d o fA eg mk;have tl:=SN U c;have M0:Mid (h.push (bT (F c) (.ac .nil 0 []))) (F h.V) (F h.V) (F U+1) (F c) [] ((fU U c).take 0):=by refine⟨by rw[aQ];simp[vy],O,.nil,λj b r hi=>by simp at hi,λr q=>by simp at q,by simp,λb hb=>by simp at hb⟩
 refine cK (λz0 i H=>∃(k:Nat) (B:List Nat),k<=F c/\z0=F c-k/\F B=k/\aj (Mid H (F h.V) (F h.V) (F U+1) (F c) B ((fU U c).take k))/\aj (Ext h H)/\i.get 0=.ac g v (p.map λa=>[a])/\i.get 5=.arr (F h.V) 0 (F c) (F c)/\i.get 13=.ac ky sy (ay c)/\i.get 14=(F c:Nat)/\i.get 15=(k:Nat)/\i.defers=[]) ?_ (F c) _ _ ?_;rotate_left 1
 .exact⟨0,[],ck _,O,O,⟨M0⟩,⟨.push _ _⟩,f0,f5,f13,f14,f15,Z⟩
 clear M0 f0 f5 f13 f14 f15 Z;rintro z0 i H ⟨k,B,hk,rfl,f,kM,T,g0,g5,g13,g14,g15,hd⟩;by_cases D:k<F c;rotate_left 1
 .have:k=F c:=by omega
  subst this;have z2:=kM.M.tab f;rw[gm ag]at z2;have kT:=aj.mk z2;clear z2;refine br @DS ?_;exact⟨_,_,O,_,B,O,kT.M,T.M,aT _,kM.M.low⟩
 have dY:sy=1:=kx.M.2.2.1 (by intro z1;rw[z1]at D;simp at D);subst dY;have l0:=ev (H:=H) (s:=1) D;have F0:=kM.M.half ag;have kF0:=aj.mk F0;have hkI:(k:Int)<(F c:Int):=by omega
 clear F0;refine bB @DS @bh ?_;refine bJ.gen λe d o fA eg=>?_;have f0:e.get 0=.ac g v (p.map λa=>[a]):=by rw[d];simp only[gW,reduceIte,aR,aM];exact g0
 have f5:e.get 5=.arr (F h.V) 0 (F c) (F c):=by rw[d];simp only[gW,reduceIte,aR,aM];exact g5
 have f6:e.get 6=(k:Nat):=by rw[d];exact gS
 have f7:e.get 7=ah c k:=by rw[d];exact gS
 have f13:e.get 13=.ac ky 1 (ay c):=by rw[d];simp only[gW,reduceIte,aR,aM];exact g13
 have f14:e.get 14=(F c:Nat):=by rw[d];simp only[gW,reduceIte,aR,aM];exact g14
 have f15:e.get 15=(k:Nat):=by rw[d];simp only[gW,reduceIte,aR,aM];exact g15
 have f20:e.get 20=.ac g v (p.map λa=>[a]):=by rw[d];exact gS
 have f21:e.get 21=(F U:Nat):=by rw[d];exact gS
 have f22:e.get 22=(0:Nat):=by rw[d];exact gR
 have Z:e.defers=[]:=by rw[o];simp only[gW,reduceIte,aR,aM];exact hd
 clear d o fA eg g0 g5 g13 g14 g15 hd l0;refine cK (λz0 i H=>∃(j:Nat) (A:I),j<=F U/\z0=F U-j/\aj (v_ H (F h.V) (F h.V) (F U+1) (F c) B ((fU U c).take k) A ((U.take j).map λr=>ah r k))/\aj (Ext h H)/\i.get 0=.ac g v (p.map λa=>[a])/\i.get 5=.arr (F h.V) 0 (F c) (F c)/\i.get 6=(k:Nat)/\i.get 7=ah c k/\i.get 13=.ac ky 1 (ay c)/\i.get 14=(F c:Nat)/\i.get 15=(k:Nat)/\i.get 20=.ac g v (p.map λa=>[a])/\i.get 21=(F U:Nat)/\i.get 22=(j:Nat)/\i.defers=[]) ?_ (F U) _ _ ?_;rotate_left 1
 .exact⟨0,_,ck _,O,kF0,T,f0,f5,f6,f7,f13,f14,f15,f20,f21,f22,Z⟩
 clear f0 f5 f6 f7 f13 f14 f15 f20 f21 f22 Z kF0 kM T;rintro z0 e2 H2 ⟨j,A,hi,rfl,kF,T,g0,g5,g6,g7,g13,g14,g15,g20,g21,g22,hd⟩;have lc:F ((U.take j).map λr=>ah r k)=j:=by rw[bI,dF];omega
 have C:(vy (F U+1) B++A::bT (F c-F B-1) (.ac .nil 0 []))[k]?=J A:=by rw[<-f];exact ak5 _ _ _ _
 have m1:=sd kF.M.iu C;have F':=De (b:=h.V.length) (len:=c.length) (aY:=c.length) (k:=.i64) D;clear C;by_cases jW:j<F U
 .obtain⟨a,ha⟩:∃a,p[j]?=J a:=⟨_,aW ag⟩;obtain⟨r,q⟩:∃r,U[j]?=J r:=⟨_,aW jW⟩;have R:v=1:=kx.M.1 (by intro z1;rw[z1]at jW;simp at jW);subst R;obtain⟨ka,sa,rfl,AW⟩:=kx.M.2.1 j a r ha q;have L:=kx.M.2.2.2 r (dk q);have PG:sa=1:=AW (by intro z1;rw[z1]at L;simp at L;omega);subst PG;have l1:=jP (H:=H2) (s:=1) ha;have l2:=ev (H:=H2) (l:=r) (i:=k) (s:=1) ag;have C0:F (ay r)=F c:=by rw[c'];exact L
  obtain⟨H3,H4,Y,c1,c2,m,X,-⟩:=kF.M.more T.M (aT _) (ah r k) (by rw[lc];omega);have N:((U.take j).map λr=>ah r k)++[ah r k]=(U.take (j+1)).map λr=>ah r k:=by rw[fS q,jr];rfl
  rw[N]at m;rw[f]at c2;have bl:=oA (ah r k);have kF2:=aj.mk m;have kX2:=aj.mk X;have Jn:(j:Int)<(F U:Int):=by omega
  clear m X N ha q AW lc f tl L;refine bB @DS @bh ?_
  repeat' (first|simp(maxSteps:=9^9) (disch:=first|exact dZ|fail) only[gW,reduceIte,aR,aM,DS,bh, *]|(refine dX ?_ ?_<;>(intro _;try omega))|refine eI z' ax ?_)
  exact⟨F U-(j+1),by omega,j+1,Y,by omega,O,kF2,by simp⟩
 .have gw:j=F U:=by omega
  subst gw;obtain⟨H3,H4,Y,c1,c2,m,X,-⟩:=kF.M.more T.M (aT _) (ah c k) (by rw[lc];omega);rw[gu]at m;have u:(U.map λr=>ah r k)++[ah c k]=((fU U c)[k]' ag):=by unfold fU;rw[rG,HK]
  rw[u]at m;obtain⟨b,M2⟩:=m.mid (by rw[<-u];simp) ag;rw[<-fS (aW (ag:k<F (fU U c)))]at M2;have kM2:=aj.mk M2;have kX2:=aj.mk X;have hBl:F (B++[b])=k+1:=by rw[db,f];rfl
  rw[f]at c2;have bl:=oA (ah c k);clear m X M2 u lc f tl;refine br @DS ?_;exact⟨F c-(k+1),by omega,k+1,B++[b],by omega,O,hBl,kM2,by simp⟩
end
end Go.Proofs.YtcbhpkjbiehcpaaGreatDoor
end
