/-
  Part of the proof: TF.
-/
import Derived.Test.YtcbhpkjbiehcpaaGreatDoorTE
import Derived.Test.YtcbhpkjbiehcpaaGreatDoorTD
import Derived.Test.YtcbhpkjbiehcpaaGreatDoorTC
import Derived.Test.YtcbhpkjbiehcpaaGreatDoorTB
import Derived.Test.YtcbhpkjbiehcpaaGreatDoorTA
import Derived.LaidMore
import Derived.MakeChecks
import Derived.Stop.LaidErr
import Derived.Stop.Joined
import Derived.Lib.LaidTab
import Derived.Test.YtcbhpkjbiehcpaaGreatDoorRows
open True renaming intro->ba
open Go renaming FuncId->bk
open Go.Proofs.Tryz renaming prog->af,f20->Ie,f23->EM,f6->nk
open Option renaming some->J,none->ao,getD_some->rK
open Bool renaming false->ar,true->aa,and_eq_true->bR
open List renaming getElem?_map->ek,length->F,length_append->db,length_cons->eR,map_append->jr,map_cons->dK,flatten_append->tR,flatten_cons->mj,append_assoc->jq,getElem?_eq_some_iff->aU,length_map->bI,getElem?_eq_getElem->aW,append_nil->g',nil_append->fE,cons_append->fw,all_append->rE,range_succ_eq_map->adT,map_map->tS,take_left'->uS,map_congr_left->wh,mem_map->iW,replicate->bT,take_zero->eE,length_take->dF,take_length->gu,mem_singleton->js,take_succ_cons->fe,cons.inj->Tp,mem_cons->gX,not_mem_nil->rI,range->bE,range_succ->jH,length_nil->gh,mem_of_getElem?->dk,take_of_length_le->gm,length_filter_le->xR,length_pos_iff->BJ,filter_eq_nil_iff->adD,drop_zero->iI,getD_eq_getElem?_getD->fc,mem_append->uQ,all_eq_true->e8,length_drop->fL,getElem?_range->xQ,mem_range->gb,getElem?_eq_none->pR,map_singleton->adN,length_range->ME,ext_getElem?->ou,getElem?_set->j',mem_cons_self->gj,mem_cons_of_mem->gi,drop_succ_cons->xP,take_append_drop->wn
open Nat renaming le_refl->aT,reduceEqDiff->aR,zero_le->ck,mul_le_mul->lu,beq->iJ,sub_self->tU,le_of_ble_eq_true->kj,zero_add->oy,le_trans->ff,le_of_eq->ad8,eq_of_beq_eq_true->nM,lt_or_ge->dR,lt_succ_self->aeb,lt_irrefl->EH
open Prod renaming fst->ju,mk.inj->fW,snd->iO
open Int renaming toNat_natCast->eD,emod_nonneg->HC,emod_lt_of_pos->HB
open And renaming intro->au
open Array renaming all_eq_true'->LX,mem_of_getElem?->ac3
open Nat renaming not_lt_zero->qc
open Option renaming bind_some->qO
set_option maxHeartbeats 64000000
set_option maxRecDepth 100000
set_option linter.unusedSimpArgs false
set_option linter.unusedVariables false
set_option linter.constructorNameAsVariable false
set_option linter.defProp false
section
namespace Go.Proofs.YtcbhpkjbiehcpaaGreatDoor
open Go.AE Go.NT Go.Proofs.Tryz
variable{H K f h:am}{b i j n s:Nat}{l z:List (Int × Int)}{p:Int × Int}{D D2 a cs:List I}{k t t1 t2:Tok}{c:Ce}{T v w x y:I}{g:bk}{m:Int}{d:Dc}{U:List (List Int)}{e:Env}
abbrev Zp:=Int × Int
abbrev qz00:Zp:=(0,0)
def ark:Tryz.f59.results.toList=[.tmp 2]:=by kernel_rfl
def aAc:Tryz.f119.results.toList=[.tmp 5]:=by kernel_rfl
def aAb:Tryz.f118.results.toList=[.tmp 6,.tmp 7]:=by kernel_rfl
def az1{q}(d:H.V[b]?=J (bN q)):aF af Gt H 48 (.ptr (.box b) 0)=J (.agg (bN q)):=(Di d).2.2
def az4(p:Int × Int)(h:am):SC.call 59 [.agg (bN p)] h=J (.ret ((p.1:Int):I),h.push (bN p)):=by
 have d:=Kq p;have L:=Di (aQ h (bN p));have f:=NW;generalize bN p=e at *
 unfold im at *
 refine cX O func59 O ?_;exact f_ @ark @bG
def ayy:fR af 100=J ar:=by kernel_rfl
section
open YtcbhpkjbiehcpaaGreatDoor renaming Kq->Q104,bN->Q105,az1->Q106,ayy->Q109,az4->Q110,aAc->Q113
open Go renaming kk100->Q107,kk59->Q108
open Prod renaming fst->Q111
open Go.Proofs.Tryz renaming func119->Q112
def az0(p q:Int × Int)(i:Nat)(h:am)(o:h.V[i]?=J [.func (.func 59) [] []]):∃h',SC.call 119 [.agg (bN p),.agg (bN q),.ptr (.box i) 0] h=J (.ret ((yb p.1 q.1:Int):I),h')/\Ext h h':=ZS21
end
def Hg:cN af 48=J 2:=by kernel_rfl
def anv(h:l[i]?=J p):aF af Gt H 48 (.elem s (bD l) i 0)=J (.agg (bN p)):=by rw[Do cD Hg (row:=bN p) (by unfold bD;rw[ek,h];rfl) (aT 2)];rfl
section
open Go.Proofs.Tryz renaming underlying33->Q114,func118->Q119
open YtcbhpkjbiehcpaaGreatDoor renaming Hg->Q115,Kq->Q116,bD->Q117,bN->Q118,aAb->Q120,az1->Q124,anv->Q126,az0->Q127
open Go renaming kk119->Q121,kk59->Q123,kk2->Q125
open Prod renaming fst->Q122,fst->Q128
def aAI(h:am)(k:Tok)(s:Nat)(l:List (Int × Int))(p:Int × Int)(v:Nat)(hb:h.V[v]?=J [.func (.func 59) [] []])(hs:l≠[]->s=2)(O5:HA ju l)(hl:F l<=1000000):
 ∃r h',SC.call 118 [.ac k s (bD l),.agg (bN p),.func (.func 119) [] [.ptr (.box v) 0]] h=J (r,h')/\r=.ret (.tuple [((lH ju p.1 l:Nat):I),.v (.bool (vD ju p.1 l))])/\Ext h h':=ZS22
end
def Kv(p:Zp):Array Value:=#[.int .i64 p.1,.int .i64 p.2]
def ayV(d)(p q):eP af (Op.equalIn (d+2) 48 (.agg (Kv p)) (.agg (Kv q)))=J (decide (p=q)):=by
 have f:∀p,eP af (part 3 (Kv p) 0)=J (.int .i64 p.1):=λp=>by kernel_rfl
 have g:∀p,eP af (part 3 (Kv p) 1)=J (.int .i64 p.2):=λp=>by kernel_rfl
 have m:af.stoodInHeld 48=ar:=by kernel_rfl
 have j:eP af program=J af:=rfl;have o:(p=q)↔(p.1=q.1/\p.2=q.2):=Prod.ext_iff;have r:decide (p=q)=(decide (p.1=q.1)&&decide (p.2=q.2)):=by rw[Bool.eq_iff_iff];simp[o]
 rw[r];unfold Op.equalIn;rw[ny,Kx underlying48,Option.bind_some];by_cases e:p.1=q.1
 .by_cases n:p.2=q.2
  .simp[ny,y_,j,m,f,g,yh,e,n]
  .simp[ny,y_,j,m,f,g,yh,e,n]
 .simp[ny,y_,j,m,f,g,yh,e]
section
open Go renaming kk48->Q129
open YtcbhpkjbiehcpaaGreatDoor renaming Kv->Q130,ayV->Q131
def ayU{x y}(p q):de af .eql 48 x y (.agg (bN p)) (.agg (bN q))=J (.v (.bool (decide (p=q)))):=ZS23
end
def azU:∃i,af.info? 48=J i/\i.size=2/\i.bytes<=64/\(i.zero.map λz=>z.cells.size)=J 2:=by obtain⟨i,d,e,f,z,g,j⟩:=YN;exact⟨i,d,e,f,by rw[g];simp[j]⟩
def aAd:Tryz.f121.results.toList=[.tmp 2]:=by kernel_rfl
def aAj:Tryz.f58.results.toList=[.tmp 6]:=by kernel_rfl
def ayJ:fF af 33 0 []=J (.ac .aK 2 []):=by kernel_rfl
section
open YtcbhpkjbiehcpaaGreatDoor renaming azU->Q132,bD->Q133
open Go renaming kk33->Q134,kk2->Q135
open Go.Proofs.Tryz renaming underlying33->Q136
def aAN{l}(m:l≠[])(j:F l<=1000000)(k)(o:s=2):nD af h #[33,33] (.ac .aK 2 []) (.ac k s (bD l))=J (.arr (F h.V) 0 (F l) (F l),h.push (bD l).flatten):=ZS24
end
section
open Go.Proofs.Tryz renaming underlying33->Q137,func121->Q141
open YtcbhpkjbiehcpaaGreatDoor renaming ayJ->Q138,bD->Q139,Zp->Q140,aAd->Q143,azU->Q145,aAN->Q146
open Go renaming kk33->Q142,kk2->Q144
def ayN(h:am)(k:Tok)(s:Nat)(l:List Zp)(v:l≠[]->s=2)(i:k=.nil->l=[])(u:F l<=1000000):∃r h',SC.call 121 [.ac k s (bD l)] h=J (r,h')/\((l=[]/\h'=h/\∃kk s0,r=.ret (.ac kk s0 [])/\(kk=.nil∨kk=.aK))∨(l≠[]/\r=.ret (.arr (F h.V) 0 (F l) (F l))/\h'=h.push (bD l).flatten)):=ZS25
end
def azX{row}(d:h.V[b]?=J cs)(g:0<n)(f:n<1000000)(hi:i<=n)(e:F cs=n*2):SC.call 120 [.arr b 0 n n,((i:Nat):I),.ac k 2 [row]] h=J (.ret (.arr (F h.V) 0 (n+1) (n+1)),(h.put b []).push (cs.take (i*2)++row++cs.drop (i*2))):=by rw[tO];unfold mA oh nu vC;rw[aL aZ];simp only[show((120:Nat)=116)=False by simp,if_false,if_true];unfold yK;simp only[d];rw[aC ⟨ba,ba,g,f,by omega,by omega,ba,e⟩,eD];rfl
def azY{kk}{s0}{row}(d:kk=.nil∨kk=.aK):SC.call 120 [.ac kk s0 [],.v (.int .i64 0),.ac k 2 [row]] h=J (.ret (.arr (F h.V) 0 1 1),h.push row):=by rw[tO];unfold mA oh nu vC;rw[aL aZ];simp only[show((120:Nat)=116)=False by simp,if_false,if_true];unfold yK;simp only;rw[aC ⟨d,ba⟩];rfl
def abZ(l):F (bD l).flatten=F l*2:=by
 induction l with
 |nil=>rfl|cons e l d=>show(F (bN e++(bD l).flatten))=_;rw[db,d,eR,Nat.add_mul];show 2+_=_;omega
def ab1:∀(l:List Zp) (i:Nat),(bD l).flatten.take (i*2)=(bD (l.take i)).flatten/\(bD l).flatten.drop (i*2)=(bD (l.drop i)).flatten
 | [],i=>by simp[bD]
 |p::l,0=>by simp[bD]
 |p::l,i+1=>by obtain⟨d,e⟩:=ab1 l i;have g:(bD (p::l)).flatten=bN p++(bD l).flatten:=rfl;have f:F (bN p)=2:=rfl;rw[g,show(i+1)*2=F (bN p)+i*2 by rw[f];omega,List.take_length_add_append,List.drop_length_add_append,d,e];exact⟨O,O⟩
def aAJ(l)(p)(i):(bD l).flatten.take (i*2)++bN p++(bD l).flatten.drop (i*2)=(bD (l.take i++p::l.drop i)).flatten:=by obtain⟨d,e⟩:=ab1 l i;rw[d,e];unfold bD;rw[jr,dK,tR,mj,jq]
def ayI(p):fF af 33 1 [(0,.agg (bN p))]=J (.ac .aK 2 [bN p]):=by kernel_rfl
def TP(h h':am)(x:I)(l:List Zp)(p:Zp)(r:dP):Prop:=
 match pY ju p.1 l with
 |some y=>if y=p then r=.ret x else r=.panic (om 151)
 |none=>∃b,r=.ret (.arr b 0 (F l+1) (F l+1))/\F h.V<=b/\h'.V[b]?=J (bD (n_ ju p l)).flatten
section
open YtcbhpkjbiehcpaaGreatDoor renaming Kq->Q147,bN->Q149,aAI->Q150,az1->Q151,Hg->Q153,bD->Q154,TP->Q155,anv->Q158,ayU->Q160,aAj->Q162,ayI->Q163,ayN->Q164,Zp->Q165,azY->Q167,azX->Q168,abZ->Q169,aAJ->Q170
open Go renaming kk59->Q148,kk2->Q159,kk120->Q166
open Go.Proofs.Tryz renaming underlying33->Q152,func58->Q161
open Prod renaming fst->Q156,fst->Q157
def aqW(h:am)(k:Tok)(s:Nat)(l:List Zp)(p:Zp)(q:l≠[]->s=2)(u:k=.nil->l=[])(m:HA ju l)(hl:F l<1000000):
 ∃r h',SC.call 58 [.ac k s (bD l),.agg (bN p),.func (.func 59) [] []] h=J (r,h')/\Ext h h'/\TP h h' (.ac k s (bD l)) l p r:=ZS26
end
def az6:Tryz.f109.results.toList=[.tmp 8]:=by kernel_rfl
def aiP{α:Type}{l:List α}{y}(h:l[i]?=J y):l.drop i=y::l.drop (i+1):=by obtain⟨d,rfl⟩:=aU.1 h;exact List.drop_eq_getElem_cons d
def ZO27{p:Prop}(h:p:=by (try unfold Q179 at *);(try unfold Q180 at *);(try unfold Q183 at *);(try unfold Q188 at *);omega):p:=h
def ZS27{p:Prop}(h:p:=by
 have bx:=n.cells;have u32:=Q171;have z46:=Q172;have z:=Q173;have bp:=λz0=>Q174 z0;have R:F (Q175 l)=F l:=by unfold Q175;rw[bI]
 have kr:=aj.mk (λz0=>(Q176 n G hw hs z0).call);have kl:=aj.mk p;have kld:aj (∀(H:am) b,H.V[b]?=J (aA c a)->aF af Gt H 35 (.ptr (.box b) 0)=J (.agg (aA c a))):=⟨λH b hb=>jy n.len hb⟩;have u:=aj.mk (Ext.push h (aA c a));have q:=aj.mk (aQ h (aA c a));clear n G hw hs p;generalize aA c a=z1 at *
 refine cq O Q177 O ?_;refine bB @Q178 @bG ?_;refine bJ.gen λe d o fA eg=>?_;have f2:e.get 2=.func (.func Q179) [] []:=by rw[d];exact gS
 have f3:e.get 3=.func (.func Q180) [] []:=by rw[d];exact gS
 have f4:e.get 4=.ptr (.box (F h.V)) 0:=by rw[d];exact gS
 have f9:e.get 9=.v (.int .i64 (-1)):=by rw[d];exact gS
 have f12:e.get 12=.ac k s (Q175 l):=by rw[d];exact gS
 have f13:e.get 13=(F l:Nat):=by rw[d];simp only[gW,reduceIte,aR,aM,R]
 have f14:e.get 14=(0:Nat):=by rw[d];exact gR
 have B:e.defers=[]:=by rw[o];exact gS
 clear d o fA eg;refine cK (λz2 j H=>∃(i:Nat) (last:Int),i<=F l/\z2=F l-i/\aj (fJ (Q181 c.ak) Q182 last (l.drop i)=fJ (Q181 c.ak) Q182 (-1) l)/\j.get 2=.func (.func Q179) [] []/\j.get 3=.func (.func Q180) [] []/\j.get 4=.ptr (.box (F h.V)) 0/\j.get 9=(last:Int)/\j.get 12=.ac k s (Q175 l)/\j.get 13=(F l:Nat)/\j.get 14=(i:Nat)/\j.defers=[]/\aj (Ext h H)/\aj (H.V[F h.V]?=J z1)) ?_ (F l) _ _ ?_;rotate_left 1
 .exact⟨0,-1,ck _,O,⟨O⟩,f2,f3,f4,f9,f12,f13,f14,B,u,q⟩
 clear f2 f3 f4 f9 f12 f13 f14 B u q;rintro z2 j H ⟨i,last,hi,rfl,kP,g2,g3,g4,g9,g12,g13,g14,hd,m,kb⟩;by_cases f:i<F l
 .have dY:s=Q183:=kl.M (by intro z3;rw[z3]at f;simp at f);subst dY;obtain⟨y,v⟩:∃y,l[i]?=J y:=⟨_,aW f⟩;have ld:=Q184 (H:=H) (s:=Q183) v;have iy:(i:Int)<(F l:Int):=by exact ZO27
  have w:aj (fJ (Q181 c.ak) Q182 (-1) l=(Q181 c.ak y&&decide (last<(Q185 y))&&fJ (Q181 c.ak) Q182 (Q185 y) (l.drop (i+1)))):=⟨by rw[<-kP.M,aiP v,fJ]⟩;have st:bU af (H.push (Q186 Q187)) Q188 (.ptr (.box (F H.V)) 0) (.agg (Q186 y))=J (H.push (Q186 y)):=Q189 y;have c53:=kr.M y;have lD:=kld.M (H.push (Q186 y)) (F h.V) (aP kb.M);have l1:=Q190 (aQ H (Q186 y));have l2:=Q190 (aP (cs:=Q186 y) (aQ H (Q186 y)));have o1:=Q191 y (H.push (Q186 y));have o2:=Q191 y ((H.push (Q186 y)).push (Q186 y));have x1:=aj.mk (m.M.trans (.push H (Q186 y)));have x2:=aj.mk ((m.M.trans (.push H (Q186 y))).trans (.push _ (Q186 y)));have x3:=aj.mk (((m.M.trans (.push H (Q186 y))).trans (.push _ (Q186 y))).trans (.push _ (Q186 y)));have kb3:aj ((((H.push (Q186 y)).push (Q186 y)).push (Q186 y)).V[F h.V]?=J z1):=⟨aP (aP (aP kb.M))⟩;clear v;generalize Q181 c.ak y=z4 at *
  generalize hB:Q186 y=z5 at *
  generalize hB0:Q186 Q187=B0 at *
  cases z4 with
  |false=>
   have g:aj (fJ (Q181 c.ak) Q182 (-1) l=ar):=⟨by rw[w.M];rfl⟩
   repeat' (first|simp(maxSteps:=9^9) (disch:=first|exact dZ|fail) only[gW,reduceIte,aR,aM,Q178,bh,g',fE, *]|refine dX ?_ ?_<;>(intro _;try exact ZO27))
   all_goals exact⟨_,_,O,by rw[g.M],x1.M⟩
  |true=>
   by_cases A:(Q185 y)<=last
   .have g:aj (fJ (Q181 c.ak) Q182 (-1) l=ar):=⟨by rw[w.M,cR (ZO27:¬last<(Q185 y))];rfl⟩;have d1:decide ((Q185 y)<=last)=aa:=cy A
    repeat' (first|simp(maxSteps:=9^9) (disch:=first|exact dZ|fail) only[gW,reduceIte,aR,aM,Q178,bh,g',fE, *]|refine dX ?_ ?_<;>(intro _;try exact ZO27))
    all_goals exact⟨_,_,O,by rw[g.M],x2.M⟩
   .have kn:aj (fJ (Q181 c.ak) Q182 (Q185 y) (l.drop (i+1))=fJ (Q181 c.ak) Q182 (-1) l):=⟨by rw[w.M,cy (ZO27:last<(Q185 y))];rfl⟩;have d1:decide ((Q185 y)<=last)=ar:=cR A
    repeat' (first|simp(maxSteps:=9^9) (disch:=first|exact dZ|fail) only[gW,reduceIte,aR,aM,Q178,bh,g',fE, *]|refine dX ?_ ?_<;>(intro _;try exact ZO27))
    all_goals exact⟨F l-(i+1),by exact ZO27,i+1,(Q185 y),by exact ZO27,O,kn,by simp,by first|exact x3|trivial,by first|exact kb3|trivial⟩
 .have:i=F l:=by exact ZO27
  subst this;have g:aj (fJ (Q181 c.ak) Q182 (-1) l=aa):=⟨by rw[<-kP.M,List.drop_length];rfl⟩
  repeat' (first|simp(maxSteps:=9^9) (disch:=first|exact dZ|fail) only[gW,reduceIte,aR,aM,Q178, *]|refine dX ?_ ?_<;>(intro _;try exact ZO27))
  all_goals exact⟨_,_,O,by rw[g.M],m.M⟩):p:=h
section
open Go.Proofs.Tryz renaming underlying32->Q171,func109->Q177
open YtcbhpkjbiehcpaaGreatDoor renaming xu->Q172,zA->Q173,Kp->Q174,cU->Q175,am8->Q176,az6->Q178,vI->Q184,bm->Q186,pz00->Q187,xq->Q189,vH->Q190,az3->Q191
open Go renaming kk53->Q179,kk55->Q180,kk4->Q183,kk46->Q188
open NT renaming pJ->Q181
open NT.Pr renaming bC->Q182,bC->Q185
def apn(h:am)(c:Ce)(a:CA)(n:c_ c a)(G:dJ a)(hw:F c.ak<=1000000)(hs:rD c.ak)(k:Tok)(s:Nat)(l:List Pr)(p:l≠[]->s=4)(hl:F l<=1000000):
 ∃r h',SC.call 109 [.agg (aA c a),.ac k s (cU l),.func (.func 53) [] [],.func (.func 55) [] []] h=J (r,h')/\r=.ret (.v (.bool (fJ (pJ c.ak) Pr.bC (-1) l)))/\Ext h h':=ZS27
end
def ayd:(fY af 48).bind I.bL=J (bN qz00):=by kernel_rfl
def awj(p):bU af (H.push (bN qz00)) 48 (.ptr (.box (F H.V)) 0) (.agg (bN p))=J (H.push (bN p)):=jC O Hg O rfl
def az7:Tryz.f110.results.toList=[.tmp 8]:=by kernel_rfl
section
open Go.Proofs.Tryz renaming underlying33->Q171,func110->Q177
open YtcbhpkjbiehcpaaGreatDoor renaming Hg->Q172,ayd->Q173,Kq->Q174,bD->Q175,am9->Q176,az7->Q178,anv->Q184,bN->Q186,qz00->Q187,awj->Q189,az1->Q190,az4->Q191
open Go renaming kk57->Q179,kk59->Q180,kk2->Q183,kk48->Q188
open NT renaming oQ->Q181
open Prod renaming fst->Q182,fst->Q185
def apo(h:am)(c:Ce)(a:CA)(n:c_ c a)(G:dJ a)(hw:F c.ak<=1000000)(hs:rD c.ak)(k:Tok)(s:Nat)(l:List Zp)(p:l≠[]->s=2)(hl:F l<=1000000):
 ∃r h',SC.call 110 [.agg (aA c a),.ac k s (bD l),.func (.func 57) [] [],.func (.func 59) [] []] h=J (r,h')/\r=.ret (.v (.bool (fJ (oQ c.ak) ju (-1) l)))/\Ext h h':=ZS27
end
def aq6:Tryz.f108.results.toList=[.tmp 3]:=by kernel_rfl
def Gz:Tryz.f49.results.toList=[]:=by kernel_rfl
def aa8:Tryz.f48.results.toList=[]:=by kernel_rfl
def aq9:Tryz.f14.results.toList=[.tmp 2]:=by kernel_rfl
def aeX(h:am){a:CA}(d:c_ c a)(b n:Nat)(e:h.V[b]?=J (aA c a)):SC.call 108 [((n:Nat):I),.ptr (.box b) 0] h=J (.ret (.v (.bool (decide (n=F c.ak)))),h):=by
 obtain⟨-,-,f,-,-,-⟩:=mW d e;obtain⟨-,-,f2,-,-⟩:=vm;have j:=underlying23;obtain⟨k,s,g,-⟩:=d.w;have o:=c' c.ak;rw[g]at f;have m:decide ((n:Int)=(F c.ak:Int))=decide (n=F c.ak):=by by_cases p:n=F c.ak<;>simp[p];omega
 clear d e g;refine cX O func108 O ?_;exact iT @aq6
def ZT15{p:Prop}(h:p:=by
 repeat' (first|simp(maxSteps:=9^9) (disch:=first|exact dZ|fail) only[gW,reduceIte,aR,aM,Gz,bG,e,f,fE,fw, *]|refine dX ?_ ?_<;>(intro _;try omega))
 all_goals exact⟨_,_,O,by simp[w.M,q.M,mQ],v.M⟩):p:=h
def NE(h:am)(c:Ce)(a:CA)(d:c_ c a)(p:dJ a)(fi:c.Fit):∃r h',SC.call 49 [.agg (aA c a)] h=J (r,h')/\r=mQ (gE c)/\Ext h h':=by
 have bx:=d.cells;have z:=uK;have cn:=(Y5 d p fi).call;obtain⟨-,-,u,-,fp,ft⟩:=fi;obtain⟨g,e⟩:∃g,h.push (aA c a)=g:=⟨_,O⟩;have B:g.V[F h.V]?=J (aA c a):=by rw[<-e];exact aQ _ _
 obtain⟨l1,l2,l3,-,-,-⟩:=mW d B;have z1:=vm;have s2:bU af (g.push (aA c0 a0)) 35 (.ptr (.box (F g.V)) 0) (.agg (aA (jR c) (jn c a)))=J (g.push (aA (jR c) (jn c a))):=by rw[rz hh.len (yR d).len (yR d).cells (aQ _ _)];congr 1;exact mF _ _ _
 obtain⟨n,f⟩:∃n,g.push (aA (jR c) (jn c a))=n:=⟨_,O⟩;have o:Ext h n:=by rw[<-f,<-e];exact(Ext.push _ _).trans (.push _ _)
 have E:n.V[F h.V]?=J (aA c a):=by rw[<-f];exact aP B
 obtain⟨-,-,-,m4,m5,m6⟩:=mW d E;have s_:=Gh (A:=oh) O;have yA:=Gg (A:=oh) O;by_cases m:c.ej=0;rotate_left 1
 .have hE:gE c=440:=by unfold gE;rw[aC m]
  have d1:decide (c.ej=0)=ar:=cR m;have kx:=aj.mk o;rw[hE];clear d p u fp ft B E o;generalize aA (jR c) (jn c a)=N at *
  generalize aA c a=z0 at *
  generalize aA c0 a0=Z0 at *
  generalize c.ej=ne at *
  unfold im at *
  refine cq O func49 O ?_;refine b_ @Gz @bG @e @f ?_;exact⟨_,_,O,O,kx.M⟩
 have j:=(Kr c.ak (-1) (Gj m)).2;obtain⟨kp,sp,ep,AX⟩:=d.pa;obtain⟨kz,sz,ez,ga⟩:=d.z;obtain⟨_,H3,c109,rfl,x3⟩:=apn n c a d p u j kp sp c.bH AX fp;obtain⟨_,H4,c110,rfl,x4⟩:=apo H3 c a d p u j kz sz c.aS ga ft;have r3:=x3.box _ _ E;have r4:=x4.box _ _ r3;obtain⟨-,-,-,n4,n5,n6⟩:=mW d r3;obtain⟨-,-,-,o4,o5,o6⟩:=mW d r4;rw[ep]at m4 n4 o4;rw[ez]at m5 n5 o5;have u32:=underlying32;have u33:=underlying33;have il1:F (cU c.bH)=F c.bH:=by unfold cU;rw[bI]
 have il2:=uF c.aS;have ca:=aeX H4 d (F h.V) (F c.bH) r4;have k3:=aj.mk (o.trans x3);have v:=aj.mk ((o.trans x3).trans x4);rw[m]at cn;have G:gE c=if (fJ (pJ c.ak) Pr.bC (-1) c.bH&&fJ (oQ c.ak) ju (-1) c.aS)=ar then 440 else if F c.bH≠F c.ak/\c.aS≠[] then 440 else 0:=by unfold gE;rw[aL (by simp[m])]
 rw[G];have R:decide ((F c.aS:Int)=0)=decide (c.aS=[]):=by cases c.aS<;>simp;omega
 clear d p u fp ft B E o G m j AX ga ep ez r3 r4 x3 x4;generalize aA (jR c) (jn c a)=N at *
 generalize aA c a=z0 at *
 generalize aA c0 a0=Z0 at *
 generalize fJ (pJ c.ak) Pr.bC (-1) c.bH=u1 at *
 generalize fJ (oQ c.ak) ju (-1) c.aS=u2 at *
 generalize cU c.bH=PL1 at *
 generalize bD c.aS=SL1 at *
 unfold im at *
 refine cq O func49 O ?_;cases u1 with
 |false=>
  repeat' (first|simp(maxSteps:=9^9) (disch:=first|exact dZ|fail) only[gW,reduceIte,aR,aM,Gz,bG,e,f, *]|refine dX ?_ ?_<;>(intro _;try omega))
  all_goals exact⟨_,_,O,O,k3.M⟩
 |true=>
 cases u2 with
 |false=>
  repeat' (first|simp(maxSteps:=9^9) (disch:=first|exact dZ|fail) only[gW,reduceIte,aR,aM,Gz,bG,e,f, *]|refine dX ?_ ?_<;>(intro _;try omega))
  all_goals exact⟨_,_,O,O,v.M⟩
 |true=>
 by_cases d1:F c.bH=F c.ak
 .have e1:decide (F c.bH=F c.ak)=aa:=cy d1;rw[e1]at ca;have w:=aj.mk d1;clear d1
  repeat' (first|simp(maxSteps:=9^9) (disch:=first|exact dZ|fail) only[gW,reduceIte,aR,aM,Gz,bG,e,f,fE,fw, *]|refine dX ?_ ?_<;>(intro _;try omega))
  all_goals exact⟨_,_,O,by simp[w.M,mQ],v.M⟩
 .have e1:decide (F c.bH=F c.ak)=ar:=cR d1;rw[e1]at ca;have w:=aj.mk d1;clear d1;by_cases d2:c.aS=[]
  .rw[cy d2]at R;have q:=aj.mk d2;clear d2
   exact ZT15
  .rw[cR d2]at R;have q:=aj.mk d2;clear d2
   exact ZT15
def NC(c):gE c=0∨gE c=440:=by
 unfold gE
 repeat' split
 all_goals first|exact .inl rfl|exact .inr rfl
def ahv(h:am)(c:Ce)(a:CA)(g:c_ c a)(n:dJ a)(j:c.Fit)(b:Nat)(m:h.V[b]?=J (aA c a)):∃r h',SC.call 48 [.ptr (.box b) 0] h=J (r,h')/\r=mQ (gE c)/\Ext h h':=by
 obtain⟨-,-,-,-,-,l⟩:=mW g m;obtain⟨_,p,d,rfl,x⟩:=NE h c a g n j;have o:=aj.mk x;clear g n j m x;generalize aA c a=q at *
 refine cq O func48 O ?_;rcases NC c with e|e
 .rw[e]at d ⊢;unfold mQ at *
  simp only[if_true]at d;refine br @aa8 ?_;exact⟨_,_,O,O,o.M⟩
 .rw[e]at d ⊢;have f:mQ 440=.panic (om 440):=rfl;rw[f]at d ⊢;refine br @aa8 ?_;exact⟨_,_,O,O,o.M⟩
def aht(h:am)(c:Ce)(a:CA)(e:c_ c a)(g:dJ a)(f:c.Fit):∃r h',SC.call 14 [.agg (aA c a)] h=J (r,h')/\r=.ret (im (gE c)):=by
 have n:=e.cells;obtain⟨_,j,d,rfl,x⟩:=ahv ((h.push (aA c a)).push [.v (.int .i64 0)]) c a e g f (F h.V) (aP (aQ _ _));obtain⟨o,m,-⟩:=Im (A:=oh) O 48 _ (h.push (aA c a)) j (gE c) d (x.box _ _ (aQ _ _));clear e g f x d;generalize aA c a=p at *
 generalize gE c=q at *
 unfold im;refine cq O func14 O ?_;refine bB @aq9 @bG ?_;exact⟨_,_,O,O⟩
section
open Go.AE Go.NT Go.Proofs.Tryz
end
def GA:Tryz.f52.results.toList=[]:=by kernel_rfl
def ara:Tryz.f16.results.toList=[.cell 4 35,.tmp 5]:=by kernel_rfl
def DO:Tryz.f56.results.toList=[]:=by kernel_rfl
def arc:Tryz.f18.results.toList=[.cell 4 35,.tmp 5]:=by kernel_rfl
section
variable {c:Ce} {a:CA} {x:I}
def ahq(e:c_ c a):dW (aA c a) 46 [x]=aA c {a with Pa:=x}:=by
 have d:=e.d.len;have f:aA c a=(aG c.ep a.X a.Y a.C++bQ c.doc a.p a.r a.n++[a.W])++[a.Pa]++[a.Z]:=by unfold aA;simp
 rw[f,G8 (B:=[a.Pa]) (B':=[x]) (by simp only[db,d];rfl) O];unfold aA;simp
def ahr(e:c_ c a):dW (aA c a) 47 [x]=aA c {a with Z:=x}:=by
 have d:=e.d.len;have f:aA c a=(aG c.ep a.X a.Y a.C++bQ c.doc a.p a.r a.n++[a.W,a.Pa])++[a.Z]++[]:=by unfold aA;simp
 rw[f,G8 (B:=[a.Z]) (B':=[x]) (by simp only[db,d];rfl) O];unfold aA;simp
def Ve(d:c_ c a){x:I}:F (aA c {a with Pa:=x,Z:=y})=48:=by unfold aA;rw[db,db,d.d.len];unfold aG;rfl
def Vd(d:c_ c a){x:I}(j:x.dm=aa)(m:y.dm=aa):(I.agg (aA c {a with Pa:=x,Z:=y})).bL=J (aA c {a with Pa:=x,Z:=y}):=by
 have e:=mV (ep:=c.ep) d.x d.y d.cm;have f:=d.d.cells;have g:a.W.dm=aa:=by obtain⟨k,s,p,-⟩:=d.w;rw[p];rfl
 unfold I.bL at *
 simp only at e f ⊢;split at e
 .split at f
  .rename_i n o;rw[aC];unfold aA;rw[rE,rE,n,o];simp[g,j,m]
  .cases f
 .cases e
def awK:cN af 32=J 1:=by kernel_rfl
def awL:cN af 33=J 1:=by kernel_rfl
def avM(d:c_ c a)(f:x.bL=J [x])(e:H.V[b]?=J (aA c a)):bU af H 32 (.ptr (.box b) 46) x=J (H.put b (aA c {a with Pa:=x})):=by rw[e7 f awK e O (by have:=d.len;omega),ahq d]
def stZ(d:c_ c a)(f:x.bL=J [x])(e:H.V[b]?=J (aA c a)):bU af H 33 (.ptr (.box b) 47) x=J (H.put b (aA c {a with Z:=x})):=by rw[e7 f awL e O (by have:=d.len;omega),ahr d]
end
def ws(h:am)(x y:I)(flat:List I)(n:Nat):Prop:=x=y∨∃b,x=.arr b 0 n n/\0<n/\h.V[b]?=J flat
def Ky{d}(m:∀b cs,b≠d->h.V[b]?=J cs->f.V[b]?=J cs)(g:d<F f.V):(∀b cs,b≠d->h.V[b]?=J cs->((f.put d D).put d D2).V[b]?=J cs)/\((f.put d D).put d D2).V[d]?=J D2:=
 ⟨λb cs e j=>by rw[cG e,cG e];exact m b cs e j,dy (by simpa [am.put] using g)⟩
def aaZ{e}(d:b≠e)(g:f.V[b]?=J cs):((f.put e D).put e D2).V[b]?=J cs:=by rw[cG d,cG d];exact g
def Ut(h:c.ej=0):rD c.ak:=(Kr c.ak (-1) (Gj h)).2
def apB(h:am)(c:Ce)(a:CA)(f:c_ c a)(D:dJ a)(fi:c.Fit)(qp:F c.bH<1000000)(m:∀s es,a.Pa=.ac .nil s es->es=[])(p:Pr)(b0 b1 q:Nat)(n0:b0≠q)(n1:b1≠q)(o:h.V[b0]?=J (aA c a))(w:h.V[b1]?=J (bm p))(j:h.V[q]?=J (aA c0 a0))(e:Int)(l:List Pr)(d:mD c p=(e,l)):
 ∃r h',SC.call 52 [.ptr (.box b0) 0,.ptr (.box b1) 0,.ptr (.box q) 0] h=J (r,h')/\r=mQ e/\(∀b cs,b≠q->h.V[b]?=J cs->h'.V[b]?=J cs)
  /\∃x,h'.V[q]?=J (if e=0 then aA c {a with Pa:=x} else aA c0 a0)/\(e=0->x.dm=aa/\ws h' x a.Pa (cU l).flatten (F l)/\(x=a.Pa->l=c.bH)):=by
 have bx:=f.cells;have bp:=Kp p;obtain⟨_,h2,c49,rfl,g⟩:=NE h c a f D fi;obtain⟨-,-,-,-,-,l0⟩:=mW f o;obtain⟨-,-,-,m4,-,m0⟩:=mW f (g.box _ _ o);have mp:=vH (g.box _ _ w);have z3:=vm;have s_:=Gh (A:=oh) O;have yA:=Gg (A:=oh) O;unfold mD at d;by_cases B:gE c=0;rotate_left 1
 .have e4:gE c=440:=(NC c).resolve_left B;rw[aC B]at d;obtain⟨rfl,rfl⟩:=fW d;have kx:=aj.mk λb cs (_:b≠q) hq=>g.box b cs hq;have n:=aj.mk (g.box _ _ j);rw[e4]at c49;have e440:mQ 440=.panic (om 440):=rfl;rw[e440]at c49;clear f D fi o w j g m m4 mp;generalize aA c a=z1 at *
  generalize aA c0 a0=Z0 at *
  refine cq O func52 O ?_;refine br @GA ?_;exact⟨_,_,O,O,kx.M,nl,n.M,λz0=>by cases z0⟩
 rw[aL (by simpa using B)]at d;rw[B]at c49;have e0:mQ 0=.ret (.tuple []):=rfl;rw[e0]at c49;obtain⟨hN,ho,-,-⟩:=E3.1 B;obtain⟨kp,sp,ep,R⟩:=f.pa;have c53:=(am8 f D fi.2.2.1 (Ut hN) p).call;cases hu:pJ c.ak p with
 |false=>
  rw[aC hu]at d;obtain⟨rfl,rfl⟩:=fW d;rw[hu]at c53;have kx:=aj.mk λb cs (_:b≠q) hq=>g.box b cs hq;have n:=aj.mk (g.box _ _ j);have e440:mQ 420=.panic (om 420):=rfl;clear f D fi o w j g m m4 B hN ho R ep hu;generalize aA c a=z1 at *
  generalize aA c0 a0=Z0 at *
  generalize bm p=z2 at *
  refine cq O func52 O ?_;refine br @GA ?_;exact⟨_,_,O,e440.symm,kx.M,nl,n.M,λz0=>by cases z0⟩
 |true=>
 rw[aL (by simp[hu])]at d;rw[hu]at c53;obtain⟨r3,h3,c54,x3,v⟩:=aqV h2 kp sp c.bH p R (λz0=>by
  have:=m sp (cU c.bH) (by rw[ep,z0]);cases hl:c.bH with
  |nil=>rfl|cons a b=>rw[hl]at this;cases this) (λi z4 x y hi hj hl=>aap ho hi hj hl) qp
 have r0:=x3.box _ _ (g.box _ _ o);have r2:=x3.box _ _ (g.box _ _ j);obtain⟨-,-,-,-,-,n0'⟩:=mW f r0;have s1:=rz hh.len f.len f.cells r2;have kx:=aj.mk λb cs (hb:b≠q) hq=>x3.box b cs (g.box b cs hq);have r4:(h3.put q (aA c a)).V[q]?=J (aA c a):=dy (aU.1 r2).1;have s2:=λ(x:I) hx=>avM (x:=x) f hx r4;have klt:=aj.mk (aU.1 r2).1;rw[ep]at m4;unfold DM at d;unfold TO at v;have e151:mQ 151=.panic (om 151):=rfl;cases hf:pY Pr.bC p.bC c.bH with
 |some y=>
  rw[hf]at v d;simp only at v d;by_cases E:y=p
  .rw[aC E]at v d;obtain⟨rfl,rfl⟩:=fW d;subst v;have s2:=s2 (.ac kp sp (cU c.bH)) O;have n:=aj.mk (Ky (D:=aA c a) (D2:=aA c {a with Pa:=.ac kp sp (cU c.bH)}) kx.M klt.M);have kep:=aj.mk ep;clear f D fi o w j g x3 m B hN ho R ep hu r0 r2 r4 hf E d klt;obtain⟨G,u⟩:∃G,aA c {a with Pa:=.ac kp sp (cU c.bH)}=G:=⟨_,O⟩;rw[u]at s2 n;have kD:=aj.mk u;clear u;generalize aA c a=z1 at *
   generalize aA c0 a0=Z0 at *
   generalize bm p=z2 at *
   refine cq O func52 O ?_;refine br @GA ?_;exact⟨_,_,O,O,n.M.1,.ac kp sp (cU c.bH),by rw[n.M.2,<-kD.M],λ_=>⟨O,.inl kep.M.symm,λ_=>trivial⟩⟩
  .rw[aL E]at v d;obtain⟨rfl,rfl⟩:=fW d;subst v;have n:=aj.mk r2;clear f D fi o w j g x3 m B hN ho R ep hu r0 r2 r4 hf E d klt s1 s2;generalize aA c a=z1 at *
   generalize aA c0 a0=Z0 at *
   generalize bm p=z2 at *
   refine cq O func52 O ?_;refine br @GA ?_;exact⟨_,_,O,e151.symm,kx.M,nl,n.M,λz0=>by cases z0⟩
 |none=>
  rw[hf]at v d;simp only at v d;obtain⟨b,rfl,nq,rY⟩:=v;obtain⟨rfl,rfl⟩:=fW d;have s2:=s2 (.arr b 0 (F c.bH+1) (F c.bH+1)) O;have OE:b≠q:=by have:=(aU.1 (g.box _ _ j)).1;omega
  have n:=aj.mk (Ky (D:=aA c a) (D2:=aA c {a with Pa:=.arr b 0 (F c.bH+1) (F c.bH+1)}) kx.M klt.M);have kP:=aj.mk (aaZ (D:=aA c a) (D2:=aA c {a with Pa:=.arr b 0 (F c.bH+1) (F c.bH+1)}) OE rY);have kne:aj (I.arr b 0 (F c.bH+1) (F c.bH+1)≠a.Pa):=⟨by rw[ep];intro z0;cases z0⟩;have kl:aj (F (n_ Pr.bC p c.bH)=F c.bH+1):=⟨YO p c.bH⟩;clear f D fi o w j g x3 m B hN ho R ep hu r0 r2 r4 hf d klt nq rY;obtain⟨G,u⟩:∃G,aA c {a with Pa:=.arr b 0 (F c.bH+1) (F c.bH+1)}=G:=⟨_,O⟩;rw[u]at s2 n kP;have kD:=aj.mk u;clear u;generalize aA c a=z1 at *
  generalize aA c0 a0=Z0 at *
  generalize bm p=z2 at *
  refine cq O func52 O ?_;refine br @GA ?_;exact⟨_,_,O,O,n.M.1,.arr b 0 (F c.bH+1) (F c.bH+1),by rw[n.M.2,<-kD.M],λ_=>⟨O,.inr ⟨b,by rw[kl.M],by rw[kl.M];omega,kP.M⟩,λz0=>absurd z0 kne.M⟩⟩
def ws.rh{h'}{z B:Nat}(m:2<=z)(g:F a=n*z)(j:ws h x y a n)(d:h.V[B]?=J [w])(o:∀b cs,b≠B->h.V[b]?=J cs->h'.V[b]?=J cs):ws h' x y a n:=by
 rcases j with p|⟨b,q,f,e⟩
 .exact .inl p
 .refine .inr ⟨b,q,f,o b _ (λp=>?_) e⟩;subst p;rw[e]at d;injection d with d;have:=congrArg F d;rw[g]at this;have r:1*2<=n*z:=lu f m;simp only[List.length_singleton]at this;omega
def apA(h:am)(c:Ce)(a:CA)(g:c_ c a)(D:dJ a)(E:c.Fit)(v:F c.bH<1000000)(j:∀s es,a.Pa=.ac .nil s es->es=[])(p:Pr)(e:Int)(l:List Pr)(R:mD c p=(e,l)):
 ∃r h',SC.call 16 [.agg (aA c a),.agg (bm p)] h=J (r,h')/\∃x,r=.ret (.tuple [.agg (if e=0 then aA c {a with Pa:=x} else aA c0 a0),im e])/\(e=0->ws h' x a.Pa (cU l).flatten (F l)/\(x=a.Pa->l=c.bH)):=by
 have b1:=g.cells;have b2:=Kp p;have z:=uK;obtain⟨d,f⟩:∃d,((h.push (aA c a)).push (bm p)).push (aA c0 a0)=d:=⟨_,O⟩;have l3:F d.V=F h.V+3:=by rw[<-f];simp[bP]
 have q0:d.V[F h.V]?=J (aA c a):=by rw[<-f];exact aP (aP (aQ _ _))
 have q1:d.V[F h.V+1]?=J (bm p):=by rw[<-f];refine aP ?_;have:=aQ (h.push (aA c a)) (bm p);rwa [bP]at this
 have q2:d.V[F h.V+2]?=J (aA c0 a0):=by rw[<-f];have:=aQ ((h.push (aA c a)).push (bm p)) (aA c0 a0);rwa [bP,bP]at this
 obtain⟨_,G,q,rfl,kx,x,r2,m⟩:=apB (d.push [.v (.int .i64 0)]) c a g D E v j p (F h.V) (F h.V+1) (F h.V+2) ag ag (aP q0) (aP q1) (aP q2) e l R;have B:G.V[F d.V]?=J [.v (.int .i64 0)]:=kx _ _ ag (aQ _ _);obtain⟨h3,c33,w⟩:=Im (A:=oh) O 52 _ d G e q B;have o:=w _ _ ag r2;have n:F (if e=0 then aA c {a with Pa:=x} else aA c0 a0)=48:=by
  split
  .exact Ve g (x:=x) (y:=a.Z)
  .exact hh.len
 have u:(I.agg (if e=0 then aA c {a with Pa:=x} else aA c0 a0)).bL=J (if e=0 then aA c {a with Pa:=x} else aA c0 a0):=by
  split
  .rename_i z0;exact Vd g (x:=x) (y:=a.Z) (m z0).1 (by obtain⟨k,s,e,-⟩:=g.z;rw[e];rfl)
  .exact hh.cells
 have ld:=jy n o;have st:=rz n n u o;rw[jb o]at st;have kQ:aj (e=0->ws h3 x a.Pa (cU l).flatten (F l)/\(x=a.Pa->l=c.bH)):=⟨λz0=>⟨(m z0).2.1.rh (z:=4) ag (aas l) B w,(m z0).2.2⟩⟩;have n1:F (h.push (aA c a)).V=F h.V+1:=bP _ _;have n2:F ((h.push (aA c a)).push (bm p)).V=F h.V+2:=by rw[bP,bP]
 clear kx q r2 B w q0 q1 q2 o g m R D E v j n;clear u;generalize aA c a=z2 at *
 generalize aA c0 a0=Z0 at *
 generalize bm p=z1 at *
 unfold im at *
 refine cq O func16 O ?_;refine bB @ara @f ?_;exact⟨_,_,O,x,O,kQ.M⟩
def apO(h:am)(c:Ce)(a:CA)(f:c_ c a)(D:dJ a)(fi:c.Fit)(qp:F c.aS<1000000)(m:∀s es,a.Z=.ac .nil s es->es=[])(p:Int × Int)(b0 b1 q:Nat)(n0:b0≠q)(n1:b1≠q)(o:h.V[b0]?=J (aA c a))(v:h.V[b1]?=J (bN p))(j:h.V[q]?=J (aA c0 a0))(e:Int)(l:List (Int × Int))(d:mY c p=(e,l)):
 ∃r h',SC.call 56 [.ptr (.box b0) 0,.ptr (.box b1) 0,.ptr (.box q) 0] h=J (r,h')/\r=mQ e/\(∀b cs,b≠q->h.V[b]?=J cs->h'.V[b]?=J cs)
  /\∃x,h'.V[q]?=J (if e=0 then aA c {a with Z:=x} else aA c0 a0)/\(e=0->x.dm=aa/\ws h' x a.Z (bD l).flatten (F l)/\(x=a.Z->l=c.aS)):=by
 have bx:=f.cells;have bp:=Kq p;obtain⟨_,h2,c49,rfl,g⟩:=NE h c a f D fi;obtain⟨-,-,-,-,-,l0⟩:=mW f o;obtain⟨-,-,w4,p4,m4,m0⟩:=mW f (g.box _ _ o);have mp:=(Di (g.box _ _ v)).2.2;have z3:=vm;have u23:=underlying23;have u32:=underlying32;obtain⟨kw,sw,ew,-⟩:=f.w;obtain⟨kq,sq,eq,-⟩:=f.pa;rw[ew]at w4;rw[eq]at p4;clear ew eq;have A5:=c' c.ak;have il1:F (cU c.bH)=F c.bH:=by unfold cU;rw[bI]
 have FE:decide ((F c.bH:Int)=(F c.ak:Int))=decide (F c.bH=F c.ak):=by by_cases z0:F c.bH=F c.ak<;>simp[z0];omega
 have s_:=Gh (A:=oh) O;have yA:=Gg (A:=oh) O;unfold mY at d;by_cases B:gE c=0;rotate_left 1
 .have e4:gE c=440:=(NC c).resolve_left B;rw[aC B]at d;obtain⟨rfl,rfl⟩:=fW d;have kx:=aj.mk λb cs (_:b≠q) hq=>g.box b cs hq;have n:=aj.mk (g.box _ _ j);rw[e4]at c49;have e440:mQ 440=.panic (om 440):=rfl;rw[e440]at c49;clear f D fi o v j g m m4 mp;generalize aA c a=z1 at *
  generalize aA c0 a0=Z0 at *
  refine cq O func56 O ?_;refine br @DO ?_;exact⟨_,_,O,O,kx.M,nl,n.M,λz0=>by cases z0⟩
 rw[aL (by simpa using B)]at d;rw[B]at c49;have e0:mQ 0=.ret (.tuple []):=rfl;rw[e0]at c49;obtain⟨hN,-,ho,-⟩:=E3.1 B;obtain⟨kp,sp,ep,G⟩:=f.z;have c57:=(am9 f D fi.2.2.1 (Ut hN) p).call;cases R:oQ c.ak p with
 |false=>
  rw[aC R]at d;obtain⟨rfl,rfl⟩:=fW d;rw[R]at c57;have kx:=aj.mk λb cs (_:b≠q) hq=>g.box b cs hq;have n:=aj.mk (g.box _ _ j);have e440:mQ 400=.panic (om 400):=rfl;clear f D fi o v j g m m4 B hN ho G ep R;generalize aA c a=z1 at *
  generalize aA c0 a0=Z0 at *
  generalize bN p=z2 at *
  refine cq O func56 O ?_;refine br @DO ?_;exact⟨_,_,O,e440.symm,kx.M,nl,n.M,λz0=>by cases z0⟩
 |true=>
 rw[aL (by simp[R])]at d;rw[R]at c57;by_cases CY:F c.bH=F c.ak;rotate_left 1
 .rw[aC CY]at d;obtain⟨rfl,rfl⟩:=fW d;rw[cR CY]at FE;have kx:=aj.mk λb cs (_:b≠q) hq=>g.box b cs hq;have n:=aj.mk (g.box _ _ j);have e420:mQ 420=.panic (om 420):=rfl;clear f D fi o v j g m m4 B hN ho G ep R CY;generalize aA c a=z1 at *
  generalize aA c0 a0=Z0 at *
  generalize bN p=z2 at *
  generalize cU c.bH=PL1 at *
  refine cq O func56 O ?_
  repeat' (first|simp(maxSteps:=9^9) (disch:=first|exact dZ|fail) only[gW,reduceIte,aR,aM,DO, *]|refine dX ?_ ?_<;>(intro _;try omega))
  all_goals exact⟨_,_,O,e420.symm,kx.M,nl,n.M,λz0=>by cases z0⟩
 rw[aL (by simpa using CY)]at d;rw[cy CY]at FE;obtain⟨r3,h3,c54,x3,w⟩:=aqW h2 kp sp c.aS p G (λz0=>by
  have:=m sp (bD c.aS) (by rw[ep,z0]);cases hl:c.aS with
  |nil=>rfl|cons a b=>rw[hl]at this;cases this) (λi z4 x y hi hj hl=>aap ho hi hj hl) qp
 have r0:=x3.box _ _ (g.box _ _ o);have r2:=x3.box _ _ (g.box _ _ j);obtain⟨-,-,-,-,-,n0'⟩:=mW f r0;have s1:=rz hh.len f.len f.cells r2;have kx:=aj.mk λb cs (hb:b≠q) hq=>x3.box b cs (g.box b cs hq);have r4:(h3.put q (aA c a)).V[q]?=J (aA c a):=dy (aU.1 r2).1;have s2:=λ(x:I) hx=>stZ (x:=x) f hx r4;have klt:=aj.mk (aU.1 r2).1;rw[ep]at m4;unfold DM at d;unfold TP at w;have e151:mQ 151=.panic (om 151):=rfl;cases hf:pY ju p.1 c.aS with
 |some y=>
  rw[hf]at w d;simp only at w d;by_cases E:y=p
  .rw[aC E]at w d;obtain⟨rfl,rfl⟩:=fW d;subst w;have s2:=s2 (.ac kp sp (bD c.aS)) O;have n:=aj.mk (Ky (D:=aA c a) (D2:=aA c {a with Z:=.ac kp sp (bD c.aS)}) kx.M klt.M);have kep:=aj.mk ep;clear f D fi o v j g x3 m B hN ho G ep R r0 r2 r4 hf E d klt;obtain⟨D2,u⟩:∃D2,aA c {a with Z:=.ac kp sp (bD c.aS)}=D2:=⟨_,O⟩;rw[u]at s2 n;have kD:=aj.mk u;clear u;generalize aA c a=z1 at *
   generalize aA c0 a0=Z0 at *
   generalize bN p=z2 at *
   refine cq O func56 O ?_;refine br @DO ?_;exact⟨_,_,O,O,n.M.1,.ac kp sp (bD c.aS),by rw[n.M.2,<-kD.M],λ_=>⟨O,.inl kep.M.symm,λ_=>trivial⟩⟩
  .rw[aL E]at w d;obtain⟨rfl,rfl⟩:=fW d;subst w;have n:=aj.mk r2;clear f D fi o v j g x3 m B hN ho G ep R r0 r2 r4 hf E d klt s1 s2;generalize aA c a=z1 at *
   generalize aA c0 a0=Z0 at *
   generalize bN p=z2 at *
   refine cq O func56 O ?_;refine br @DO ?_;exact⟨_,_,O,e151.symm,kx.M,nl,n.M,λz0=>by cases z0⟩
 |none=>
  rw[hf]at w d;simp only at w d;obtain⟨b,rfl,nq,rY⟩:=w;obtain⟨rfl,rfl⟩:=fW d;have s2:=s2 (.arr b 0 (F c.aS+1) (F c.aS+1)) O;have OE:b≠q:=by have:=(aU.1 (g.box _ _ j)).1;omega
  have n:=aj.mk (Ky (D:=aA c a) (D2:=aA c {a with Z:=.arr b 0 (F c.aS+1) (F c.aS+1)}) kx.M klt.M);have kP:=aj.mk (aaZ (D:=aA c a) (D2:=aA c {a with Z:=.arr b 0 (F c.aS+1) (F c.aS+1)}) OE rY);have kne:aj (I.arr b 0 (F c.aS+1) (F c.aS+1)≠a.Z):=⟨by rw[ep];intro z0;cases z0⟩;have kl:aj (F (n_ ju p c.aS)=F c.aS+1):=⟨YO p c.aS⟩;clear f D fi o v j g x3 m B hN ho G ep R r0 r2 r4 hf d klt nq rY;obtain⟨D2,u⟩:∃D2,aA c {a with Z:=.arr b 0 (F c.aS+1) (F c.aS+1)}=D2:=⟨_,O⟩;rw[u]at s2 n kP;have kD:=aj.mk u;clear u;generalize aA c a=z1 at *
  generalize aA c0 a0=Z0 at *
  generalize bN p=z2 at *
  refine cq O func56 O ?_;refine br @DO ?_;exact⟨_,_,O,O,n.M.1,.arr b 0 (F c.aS+1) (F c.aS+1),by rw[n.M.2,<-kD.M],λ_=>⟨O,.inr ⟨b,by rw[kl.M],by rw[kl.M];omega,kP.M⟩,λz0=>absurd z0 kne.M⟩⟩
def apN(h:am)(c:Ce)(a:CA)(g:c_ c a)(D:dJ a)(E:c.Fit)(v:F c.aS<1000000)(j:∀s es,a.Z=.ac .nil s es->es=[])(p:Int × Int)(e:Int)(l:List (Int × Int))(R:mY c p=(e,l)):
 ∃r h',SC.call 18 [.agg (aA c a),.agg (bN p)] h=J (r,h')/\∃x,r=.ret (.tuple [.agg (if e=0 then aA c {a with Z:=x} else aA c0 a0),im e])/\(e=0->ws h' x a.Z (bD l).flatten (F l)/\(x=a.Z->l=c.aS)):=by
 have b1:=g.cells;have b2:=Kq p;have z:=uK;obtain⟨d,f⟩:∃d,((h.push (aA c a)).push (bN p)).push (aA c0 a0)=d:=⟨_,O⟩;have l3:F d.V=F h.V+3:=by rw[<-f];simp[bP]
 have q0:d.V[F h.V]?=J (aA c a):=by rw[<-f];exact aP (aP (aQ _ _))
 have q1:d.V[F h.V+1]?=J (bN p):=by rw[<-f];refine aP ?_;have:=aQ (h.push (aA c a)) (bN p);rwa [bP]at this
 have q2:d.V[F h.V+2]?=J (aA c0 a0):=by rw[<-f];have:=aQ ((h.push (aA c a)).push (bN p)) (aA c0 a0);rwa [bP,bP]at this
 obtain⟨_,G,q,rfl,kx,x,r2,m⟩:=apO (d.push [.v (.int .i64 0)]) c a g D E v j p (F h.V) (F h.V+1) (F h.V+2) ag ag (aP q0) (aP q1) (aP q2) e l R;have B:G.V[F d.V]?=J [.v (.int .i64 0)]:=kx _ _ ag (aQ _ _);obtain⟨h3,c33,w⟩:=Im (A:=oh) O 56 _ d G e q B;have o:=w _ _ ag r2;have n:F (if e=0 then aA c {a with Z:=x} else aA c0 a0)=48:=by
  split
  .exact Ve g (x:=a.Pa) (y:=x)
  .exact hh.len
 have u:(I.agg (if e=0 then aA c {a with Z:=x} else aA c0 a0)).bL=J (if e=0 then aA c {a with Z:=x} else aA c0 a0):=by
  split
  .rename_i z0;exact Vd g (x:=a.Pa) (y:=x) (by obtain⟨k,s,e,-⟩:=g.pa;rw[e];rfl) (m z0).1
  .exact hh.cells
 have ld:=jy n o;have st:=rz n n u o;rw[jb o]at st;have kQ:aj (e=0->ws h3 x a.Z (bD l).flatten (F l)/\(x=a.Z->l=c.aS)):=⟨λz0=>⟨(m z0).2.1.rh (z:=2) ag (abZ l) B w,(m z0).2.2⟩⟩;have n1:F (h.push (aA c a)).V=F h.V+1:=bP _ _;have n2:F ((h.push (aA c a)).push (bN p)).V=F h.V+2:=by rw[bP,bP]
 clear kx q r2 B w q0 q1 q2 o g m R D E v j n;clear u;generalize aA c a=z2 at *
 generalize aA c0 a0=Z0 at *
 generalize bN p=z1 at *
 unfold im at *
 refine cq O func18 O ?_;refine bB @arc @f ?_;exact⟨_,_,O,x,O,kQ.M⟩
def KN{z}:∀(L:List (List I)) (A:List I),(∀r∈L,F r=z)->oR z (A++L.flatten) (F A) (F L)=L
 | [],_,_=>rfl
 |r::L,A,h=>by
  have d:=h r (.head _);have e:=KN L (A++r) λg f=>h g (.tail _ f);unfold oR at *
  rw[eR,adT,dK,tS,mj];congr 1
  .rw[Nat.zero_mul,Nat.add_zero,List.drop_left];rw[uS d]
  .rw[jq,db,d]at e
   conv=>rhs;rw[<-e]
   refine wh λi _=>?_;simp only[Function.comp,Nat.succ_mul];rw[(ag:F A+(i*z+z)=F A+z+i*z)]
def apI(l):oR 4 (cU l).flatten 0 (F l)=cU l:=by have:=KN (z:=4) (cU l) [] (by intro f d;unfold cU at d;obtain⟨e,-,rfl⟩:=iW.1 d;rfl);rw[fE,show(F (cU l))=F l by unfold cU;rw[bI]]at this;exact this
def au6(l):oR 2 (bD l).flatten 0 (F l)=bD l:=by have:=KN (z:=2) (bD l) [] (by intro f d;unfold bD at d;obtain⟨e,-,rfl⟩:=iW.1 d;rfl);rw[fE,uF]at this;exact this
def LD:List bk:=LC++[14,15,10]
def ZD(g:bk):Nat:=if g=16 then 4 else if g=18 then 2 else 0
noncomputable def Ku:bk->Option (List I->am->Option (I × am)):=nu SC LD ZD vC
noncomputable abbrev SD:=whole af Gt Ku
def agS:nG Ku LD:=λe d=>⟨yN SC e,by unfold Ku nu;rw[aC (by simpa using d)];rfl⟩
structure ly(a:CA):Prop where
 pa:∀s es,a.Pa=.ac .nil s es->es=[]
 z:∀s es,a.Z=.ac .nil s es->es=[]
def ma(c:Ce)(p:Pr):Ce:=if (mD c p).1=0 then {c with bH:=(mD c p).2} else c0
def oe(c:Ce)(p:Int × Int):Ce:=if (mY c p).1=0 then {c with aS:=(mY c p).2} else c0
def JB:∀l:List Pr,dV (cU l)=cU l
 | []=>rfl
 |p::l=>by show bA (bm p)::dV (cU l)=_;rw[JB l];rfl
def Pm:∀l:List (Int × Int),dV (bD l)=bD l
 | []=>rfl
 |p::l=>by show bA (bN p)::dV (bD l)=_;rw[Pm l];rfl
def Z2:ly a0:=⟨λ_ _ h=>by cases h;rfl,λ_ _ h=>by cases h;rfl⟩
section
variable {c:Ce} {a:CA} {z:Nat} {h:am}
def qt{es:List (List I)}(e:x=.ac k s es)(d:av x=x):iU z h x=x:=by subst e;rw[av]at d;injection d with f g j;rw[iU,f]
def JW:∀a b:List I,oI z h (a++b)=oI z h a++oI z h b
 | [],_=>rfl
 |x::a,b=>by rw[fw,oI,JW a b];rfl
def al6(l:List UInt8):oI z h (l.map jc)=l.map jc:=by
 induction l with
 |nil=>rfl|cons b l d=>show iU z h (jc b)::oI z h (l.map jc)=_;rw[d];rfl
def EZ(e:c_ c a)(d:dJ a){f g:I}(u:iU z h x=f)(v:iU z h y=g):oI z h (aA c {a with Pa:=x,Z:=y})=aA c {a with Pa:=f,Z:=g}:=by obtain⟨w,s1,xs,j,-⟩:=e.x.form;obtain⟨A,s2,m,-⟩:=e.y;obtain⟨B,s3,n,-⟩:=e.cm;obtain⟨G,s4,o,-⟩:=e.d.p;obtain⟨R,s5,p,-⟩:=e.d.r;obtain⟨k6,s6,q,-⟩:=e.d.n;obtain⟨k7,s7,r,-⟩:=e.w;unfold aA aG bQ;rw[JW,JW,JW,al6];simp only[oI,qt j d.X,qt m d.Y,qt n d.C,qt o d.p,qt p d.r,qt q d.n,qt r d.W,u,v];rfl
def ZT41{p:Prop}(h:p:=by
 rw[q]at f ⊢;exact⟨a0,hh,FG,Z2,f a0 hh FG (EZ hh FG (qt O O) (qt O O))⟩):p:=h
def am1(e:c_ c a)(d:dJ a)(r:ly a)(B:c.Fit)(u:F c.bH<1000000)(p:Pr):∃g,c_ (ma c p) g/\dJ g/\ly g/\∀h,SD.call 16 [.agg (aA c a),.agg (bm p)] h=J (.ret (.tuple [.agg (aA (ma c p) g),im (mD c p).1]),h):=by
 obtain⟨z1,E,z0,x,rfl,G⟩:=apA ⟨[],[],0,[]⟩ c a e d B u r.pa p (mD c p).1 (mD c p).2 O;have v:bA [I.agg (aA c a),.agg (bm p)]=[.agg (aA c a),.agg (bm p)]:=by simp only[bA,av,vi d,Rb]
 have hf:aJ 0 0 0 [I.agg (aA c a),.agg (bm p)]=aa:=by simp only[aJ,aI,qi e d];rfl
 obtain⟨kz,sz,ez,-⟩:=e.z;have f:∀(g:CA),c_ (ma c p) g->dJ g->oI 4 E (if (mD c p).1=0 then aA c {a with Pa:=x} else aA c0 a0)=aA (ma c p) g->∀h,SD.call 16 [.agg (aA c a),.agg (bm p)] h=J (.ret (.tuple [.agg (aA (ma c p) g),im (mD c p).1]),h):=by
  intro g m j w;refine ZO (z:=3) (L:=LD) O O v hf z0 ?_ ?_
  .simp only[iU,oI,w];rfl
  .simp[aI,aJ,qi m j,im]
 by_cases n:(mD c p).1=0
 .rw[aC n]at f;have q:ma c p={c with bH:=(mD c p).2}:=by unfold ma;rw[aC n]
  rw[q]at f ⊢;obtain⟨o,q2⟩:=G n;rcases o with o|⟨b,rfl,nZ,R⟩
  .have A:=q2 o;rw[A]at f ⊢;obtain⟨kp,sp,ep,-⟩:=e.pa;exact⟨a,e,d,r,f a e d (by rw[o];exact EZ e d (qt ep d.Pa) (qt ez d.Z))⟩
  .have m:c_ {c with bH:=(mD c p).2} {a with Pa:=.ac .held 4 (cU (mD c p).2)}:=⟨e.x,e.y,e.cm,e.d,e.w,⟨.held,4,O,λ_=>rfl⟩,e.z⟩;have j:dJ {a with Pa:=.ac .held 4 (cU (mD c p).2)}:=⟨d.X,d.Y,d.C,d.p,d.r,d.n,d.W,by simp only[av,JB];rfl,d.Z⟩;refine⟨_,m,j,⟨λ_ _ z0=>(by cases z0),r.z⟩,f _ m j ?_⟩;refine EZ e d ?_ (qt ez d.Z);rw[iU,R];simp only;rw[aC ⟨by rw[aas];omega,by omega⟩,apI]
 .rw[aL n]at f;have q:ma c p=c0:=by unfold ma;rw[aL n]
  exact ZT41
def am2(e:c_ c a)(d:dJ a)(r:ly a)(B:c.Fit)(u:F c.aS<1000000)(p:Int × Int):∃g,c_ (oe c p) g/\dJ g/\ly g/\∀h,SD.call 18 [.agg (aA c a),.agg (bN p)] h=J (.ret (.tuple [.agg (aA (oe c p) g),im (mY c p).1]),h):=by
 obtain⟨z1,E,z0,x,rfl,G⟩:=apN ⟨[],[],0,[]⟩ c a e d B u r.z p (mY c p).1 (mY c p).2 O;have v:bA [I.agg (aA c a),.agg (bN p)]=[.agg (aA c a),.agg (bN p)]:=by simp only[bA,av,vi d];rfl
 have hf:aJ 0 0 0 [I.agg (aA c a),.agg (bN p)]=aa:=by simp only[aJ,aI,qi e d];rfl
 obtain⟨kp,sp,ep,-⟩:=e.pa;have f:∀(g:CA),c_ (oe c p) g->dJ g->oI 2 E (if (mY c p).1=0 then aA c {a with Z:=x} else aA c0 a0)=aA (oe c p) g->∀h,SD.call 18 [.agg (aA c a),.agg (bN p)] h=J (.ret (.tuple [.agg (aA (oe c p) g),im (mY c p).1]),h):=by
  intro g m j w;refine ZO (z:=1) (L:=LD) O O v hf z0 ?_ ?_
  .simp only[iU,oI,w];rfl
  .simp[aI,aJ,qi m j,im]
 by_cases n:(mY c p).1=0
 .rw[aC n]at f;have q:oe c p={c with aS:=(mY c p).2}:=by unfold oe;rw[aC n]
  rw[q]at f ⊢;obtain⟨o,q2⟩:=G n;rcases o with o|⟨b,rfl,nZ,R⟩
  .have A:=q2 o;rw[A]at f ⊢;obtain⟨kz,sz,ez,-⟩:=e.z;exact⟨a,e,d,r,f a e d (by rw[o];exact EZ e d (qt ep d.Pa) (qt ez d.Z))⟩
  .have m:c_ {c with aS:=(mY c p).2} {a with Z:=.ac .held 2 (bD (mY c p).2)}:=⟨e.x,e.y,e.cm,e.d,e.w,e.pa,⟨.held,2,O,λ_=>rfl⟩⟩;have j:dJ {a with Z:=.ac .held 2 (bD (mY c p).2)}:=⟨d.X,d.Y,d.C,d.p,d.r,d.n,d.W,d.Pa,by simp only[av,Pm];rfl⟩;refine⟨_,m,j,⟨r.pa,λ_ _ z0=>by cases z0⟩,f _ m j ?_⟩;refine EZ e d (qt ep d.Pa) ?_;rw[iU,R];simp only;rw[aC ⟨by rw[abZ];omega,by omega⟩,au6]
 .rw[aL n]at f;have q:oe c p=c0:=by unfold oe;rw[aL n]
  exact ZT41
def Y1(e:c_ c a)(d:dJ a)(f:c.Fit):cd SD 14 [.agg (aA c a)] (im (gE c)):=by obtain⟨_,_,g,rfl⟩:=aht ⟨[],[],0,[]⟩ c a e d f;exact cd.Bg (L:=LD) g O (by simp only[bA,av,vi d]) (by simp only[aJ,aI,qi e d];rfl) O rfl
end
def KD:Tryz.f22.results.toList=[.tmp 4]:=by kernel_rfl
def auH(h:am){l:List Int}(p:IL x l)(q:IL y l)(hl:F l<=1000000):∃r h',SD.call 22 [x,y] h=J (r,h')/\h'=h/\r=.ret (aa:I):=by
 obtain⟨k,s,rfl,g⟩:=p;obtain⟨u,n,rfl,e⟩:=q;have m:=aj.mk (au g e);clear g e;have B:=underlying23;have z3:=eQ;have w:=c' l;refine cq O func22 O ?_;refine br @KD ?_;refine cK (λA f H=>∃i:Nat,i<=F l/\A=F l-i/\f.get 0=.ac k s (ay l)/\f.get 1=.ac u n (ay l)/\f.get 5=(i:Nat)/\f.defers=[]/\H=h) ?_ (F l) _ _ ?_;rotate_left 1
 .refine⟨0,ck _,O,?_,?_,?_,?_,O⟩<;>exact gR
 rintro A f H ⟨i,hi,rfl,D,G,R,hd,rfl⟩;by_cases d:i<F l
 .have j:s=1:=m.M.1 (by intro v;rw[v]at d;simp at d);have e:n=1:=m.M.2 (by intro v;rw[v]at d;simp at d);subst j;subst e;have ld:=ev (H:=H) (s:=1) d;have o:(i:Int)<(F l:Int):=by omega
  generalize ah l i=z0 at *
  refine bB @KD @bh ?_;refine eI agS cD ?_
  repeat' (first|simp(maxSteps:=9^9) (disch:=first|exact dZ|fail) only[gW,reduceIte,aR,aM,KD,bh, *]|refine dX ?_ ?_<;>(intro _;try omega))
  all_goals exact⟨F l-(i+1),by omega,i+1,by omega,O,by simp⟩
 .have:i=F l:=by omega
  subst this;refine br @KD ?_;exact⟨_,_,O,O,O⟩
def LE:List bk:=LD++[16,18,22,107,47]
noncomputable def aaS:bk->Option (List I->am->Option (I × am)):=nu SD LE (λ_=>0) vC
noncomputable abbrev SE:=whole af Gt aaS
section
open Go.AE Go.NT Go.Proofs.Tryz
end
structure aer(c:Ce):Prop where
 U:c.U.length<=1000000
 ae:c.ae.length<=1000000
 IA:∀r∈c.U,r.length<=1000000
 aH:c.aH.length<=1000000
 doc:c.doc.pa.length<=1000000/\c.doc.rv.length<=1000000/\c.doc.nd.length<=1000000
 ak:c.ak.length<=1000000
 bH:c.bH.length<=1000000
 aS:c.aS.length<=1000000
def LF:List bk:=(LE.filter λd=> !(iJ d 60||iJ d 61))++[13]
noncomputable def qF(g:bk):Option (List I->am->Option (I × am)):=if iJ g 60 then J (Cw 1 SE g) else if iJ g 61 then J (Cw 1 W7 g) else ao
noncomputable def aaT:bk->Option (List I->am->Option (I × am)):=nu SE LF (λ_=>0) qF
noncomputable abbrev SF:=whole af Gt aaT
section
variable {P:Program} {z:Nat} {h:am}
mutual
def yn:∀x:I,aI 0 0 0 x=aa->ig z h x=av x
 | .ac k m f,d=>by simp only[aI,bR]at d;rw[ig,av,Wq f d.2]
 | .arr b j len g,d=>by simp[aI]at d
 | .tuple e,d=>by rw[ig,av,IX e (by simpa only[aI] using d)]
 | .agg e,d=>by rw[ig,av,IX e (by simpa only[aI] using d)]
 | .iface t x,d=>by rw[ig,av,yn x (by simpa only[aI] using d)]
 | .v _,_=>rfl
 | .ptr _ _,_=>rfl
 | .elem _ _ _ _,_=>rfl
 | .func _ _ _,_=>rfl
 | .yield _,_=>rfl
 | .bad,_=>rfl
def IX:∀xs:List I,aJ 0 0 0 xs=aa->iM z h xs=bA xs
 | [],_=>rfl
 |x::xs,d=>by simp only[aJ,bR]at d;rw[iM,bA,yn x d.1,IX xs d.2]
def Wq:∀xs:List (List I),fX 0 0 0 xs=aa->pj z h xs=dV xs
 | [],_=>rfl
 |x::xs,d=>by simp only[fX,bR]at d;rw[pj,dV,IX x d.1,Wq xs d.2]
end
end
def Wu{l}(e:h.V[b]?=J (l.map im))(f:F l=n):ig 1 h (.arr b 0 n n)=.ac .held 1 (ay l):=by
 subst f;rw[ig,e];simp only;rw[aC ⟨by rw[bI];omega,by omega⟩];have:oR 1 (l.map im) 0 (F l)=ay l:=by
  have:=KN (z:=1) (ay l) [] (by intro p d;unfold ay at d;obtain⟨o,-,rfl⟩:=iW.1 d;rfl);rw[fE,c']at this;have j:(ay l).flatten=l.map im:=by rw[<-N8];induction l.map im with
   |nil=>rfl|cons x m g=>rw[dK,mj,g];rfl
  rw[j]at this;exact this
 rw[this,ta]
def NI(c:cd SB g a y)(d:LC.contains g=aa)(e:LD.contains g=aa)(f:LE.contains g=aa):cd SE g a y:=((c.mix (L:=LC) d).mix (L:=LD) e).mix (L:=LE) f
def yc(c:cd SE g a y)(d:LF.contains g=aa):cd SF g a y:=c.mix (L:=LF) d
section
variable {c:Ce} {a:CA}
def Vy(f:c_ c a)(e:dJ a){aq:List UInt8}(w:BL T aq)(u:av T=T){z:List Int}(n:F c.aH<=1000000)(o:F c.bH<=1000000)(p:F aq<=1000000)(q:F z<=1000000)(v:h.V[b]?=J (z.map im)):
 SF.call 60 [.agg (aG c.ep a.X a.Y a.C),T,a.Pa,.arr b 0 (F z) (F z)] h=J (.ret (.tuple [.agg [im (jh c.U c.ae c.ep c.aH aq c.bH z).1.1,im (jh c.U c.ae c.ep c.aH aq c.bH z).1.2],.v (.bool (jh c.U c.ae c.ep c.aH aq c.bH z).2.1),im (jh c.U c.ae c.ep c.aH aq c.bH z).2.2]),h):=by
 have A:IL (.ac .held 1 (ay z)) z:=⟨.held,1,O,λ_=>rfl⟩;have g:=amY (ep:=c.ep) f.x f.y f.cm w f.pa A n o p q;rw[e.X,e.Y,e.C,e.Pa,u]at g;have ez:av (.ac .held 1 (ay z))=.ac .held 1 (ay z):=by simp only[av,ta];rfl
 rw[ez]at g;have g:cd SE 60 _ _:=NI (sO g O O) O O O;refine Wl (z:=1) (R0:=SE) (L:=LF) (q:=qF) O O O ?_ g.fit (g.call _) O O;have d:=g.fit;simp only[aJ,bR]at d;simp only[iM];rw[yn _ d.1,yn _ d.2.1,yn _ d.2.2.1,Wu v O];have:=g.held;simp only[bA]at this;injection this with r j;injection j with j m;injection m with m B;rw[r,j,m]
end
noncomputable def Ma:Code:=Ie.body.getD .skip
def DN:Ie.results.toList=[.cell 2 52,.tmp 3,.tmp 4,.tmp 5]:=by kernel_rfl
section
variable {c:Ce} {a:CA}
def Vh(f:c_ c a)(e:dJ a)(d:c.Fit):∀h,SF.call 14 [.agg (aA c a)] h=J (.ret (im (gE c)),h):=(yc ((Y1 f e d).mix (L:=LE) (Z:=λ_=>0) (q:=vC) O) O).call
def awU(j:c_ c a)(d:dJ a)(e:c.Fit):∃T,(gL c.doc=aa->BL T (cr (eY c.doc)))/\av T=T/\∀h,SF.call 28 [.agg (bQ c.doc a.p a.r a.n)] h=J (.ret (.tuple [T,im (if gL c.doc=aa then 0 else 170)]),h):=by obtain⟨T,f,g,m⟩:=P' j.d e.2.2.2.1;rw[d.p,d.r,d.n]at m;exact⟨T,f,g,(yc (NI m O O O) O).call⟩
def ZT30{p:Prop}(h:p:=by
 repeat' (first|simp(maxSteps:=9^9) (disch:=first|exact dZ|fail) only[gW,reduceIte,aR,aM,DN,bG,f, *]|refine dX ?_ ?_<;>(intro _;try omega))
 all_goals exact⟨_,_,O,O⟩):p:=h
def aiH(h:am)(d:c_ c a)(p:dJ a)(o:c.Fit)(j:gE c≠0∨F c.aS<F c.ak):∃r h',SF.call 20 [.agg (aA c a)] h=J (r,h')/\r=.ret (.tuple [.agg [im 0,im 0],.ac .nil 0 [],(ar:I),im (gE c)]):=by
 have bx:=d.cells;have c14:=Vh d p o;have z:=Hu;obtain⟨H,f⟩:∃H,(h.push (aA c a)).push [im 0,im 0]=H:=⟨_,O⟩;have A:H.V[F h.V]?=J (aA c a):=by rw[<-f];exact aP (aQ _ _)
 have e:H.V[F (h.push (aA c a)).V]?=J [im 0,im 0]:=by rw[<-f];exact aQ _ _
 have G:=bP h (aA c a);rw[G]at e;obtain⟨-,-,B,-,E,l0⟩:=mW d A;have l5:=wX e;have R:=zu (u:=0) (v:=0) e;rw[jb e]at R;obtain⟨kw,sw,n,-⟩:=d.w;obtain⟨kz,sz,ez,-⟩:=d.z;rw[n]at B;rw[ez]at E;have A5:=c' c.ak;have il2:=uF c.aS;have u23:=underlying23;have u33:=underlying33;have z2:=vm;have g:decide ((F c.aS:Int)<(F c.ak:Int))=decide (F c.aS<F c.ak):=by by_cases q:F c.aS<F c.ak<;>simp[q]
 clear A e d p o n ez;generalize aA c a=z1 at *
 generalize gE c=z0 at *
 unfold im at *
 refine cq O func20 O ?_;by_cases m:z0=0
 .have w:F c.aS<F c.ak:=by rcases j with q|q;exact absurd m q;exact q
  rw[cy w]at g;subst m;clear j
  exact ZT30
 .have d1:decide (z0=0)=ar:=cR m;clear j g
  exact ZT30
def VN(h:am)(j:c_ c a)(D:dJ a)(p:c.Fit)(hc:gE c=0)(hl:¬F c.aS<F c.ak)(A:gL c.doc=aa){Post:dP->am->Prop}
 (go:∀T e K,BL T (cr (eY c.doc))->av T=T->e.get 1=.ptr (.box (F h.V)) 0->e.get 2=.ptr (.box (F h.V+1)) 0->e.get 6=T->e.get 8=.arr (F h.V+2) 0 (F c.aS) (F c.aS)->e.defers=[]->K.V[F h.V]?=J (aA c a)/\K.V[F h.V+1]?=J [im 0,im 0]/\K.V[F h.V+2]?=J ((c.aS.map iO).map im)->bJ SF (Code.tl 5 Ma) e K (yf af Gt SF Ie Post)):
 ∃r h',SF.call 20 [.agg (aA c a)] h=J (r,h')/\Post r h':=by
 have bx:=j.cells;have c14:=Vh j D p;rw[hc]at c14;obtain⟨T,m,G,Is⟩:=awU j D p;have m:=m A;have kgo:=aj.mk (λe K=>go T e K m G);rw[aC A]at Is;have z:=Hu;have zq:=ayd;obtain⟨H,w⟩:∃H,(h.push (aA c a)).push [im 0,im 0]=H:=⟨_,O⟩;have B:H.V[F h.V]?=J (aA c a):=by rw[<-w];exact aP (aQ _ _)
 have q1:H.V[F (h.push (aA c a)).V]?=J [im 0,im 0]:=by rw[<-w];exact aQ _ _
 have n1:=bP h (aA c a);rw[n1]at q1;have nH:F H.V=F h.V+2:=by rw[<-w,bP,bP]
 obtain⟨-,l1,l2,-,l4,l0⟩:=mW j B;have mk:=w9 H (F c.aS) p.2.2.2.2.2 .i64 .i64;obtain⟨-,-,-,-,m4,-⟩:=mW j (aP (cs:=bT (F c.aS) (im 0)) B);obtain⟨kw,sw,ew,-⟩:=j.w;obtain⟨kz,sz,ez,ga⟩:=j.z;rw[ew]at l2;rw[ez]at l4 m4;have A5:=c' c.ak;have il2:=uF c.aS;have u23:=underlying23;have u33:=underlying33;have z48:=Hg;have z4:=vm;have f48:=NW;have dx:decide ((F c.aS:Int)<(F c.ak:Int))=ar:=cR ag;have ks:=aj.mk ga;have JH:=p.2.2.2.2.2;have k0:aj ((H.push (bT (F c.aS) (im 0))).V[F h.V]?=J (aA c a)/\(H.push (bT (F c.aS) (im 0))).V[F h.V+1]?=J [im 0,im 0]/\(H.push (bT (F c.aS) (im 0))).V[F h.V+2]?=J (((c.aS.take 0).map iO++bT (F c.aS-0) (0:Int)).map im)):=⟨⟨aP B,aP q1,by have:=aQ H (bT (F c.aS) (im 0));rw[nH]at this;rw[this,eE,List.map_nil,fE,List.map_replicate,Nat.sub_zero]⟩⟩;clear B q1 j D p ew ez hc hl ga m G A go;generalize aA c a=z1 at *
 generalize bQ c.doc a.p a.r a.n=DC at *
 have kH:=aj.mk nH;unfold im at *
 refine cq O func20 O ?_;refine D_ 5 (λe K=>e.get 1=.ptr (.box (F h.V)) 0/\e.get 2=.ptr (.box (F h.V+1)) 0/\e.get 6=T/\e.get 8=.arr (F h.V+2) 0 (F c.aS) (F c.aS)/\e.defers=[]/\K.V[F h.V]?=J z1/\K.V[F h.V+1]?=J [.v (.int .i64 0),.v (.int .i64 0)]/\K.V[F h.V+2]?=J ((c.aS.map iO).map im)) ?_ ?_;rotate_left 1
 .rintro e K ⟨g1,g2,g6,g8,gd,gk⟩;exact kgo.M e K g1 g2 g6 g8 gd gk
 intro bb jO;have kb:=aj.mk jO;clear jO kgo
 repeat' (first|simp(maxSteps:=9^9) (disch:=first|exact dZ|fail) only[gW,reduceIte,aR,aM,DN,bG,w,Code.pI, *]|refine dX ?_ ?_<;>(intro _;try omega))
 refine bJ.gen λf d iD fA eg=>?_;have f1:f.get 1=.ptr (.box (F h.V)) 0:=by rw[d];exact gS
 have f2:f.get 2=.ptr (.box (F h.V+1)) 0:=by rw[d];simp only[gW,reduceIte,aR,aM,n1]
 have f3:f.get 3=.ac .nil 0 []:=by rw[d];exact gS
 have f6:f.get 6=T:=by rw[d];exact gS
 have f8:f.get 8=.arr (F h.V+2) 0 (F c.aS) (F c.aS):=by rw[d];simp only[gW,reduceIte,aR,aM,nH]
 have f37:f.get 37=.ac kz sz (bD c.aS):=by rw[d];exact gS
 have f38:f.get 38=(F c.aS:Nat):=by rw[d];simp only[gW,reduceIte,aR,aM,il2]
 have f39:f.get 39=(0:Nat):=by rw[d];exact gR
 have fd:f.defers=[]:=by rw[iD];exact gS
 clear d iD fA eg;refine cK (λz0 e K=>∃i:Nat,i<=F c.aS/\z0=F c.aS-i/\e.get 1=.ptr (.box (F h.V)) 0/\e.get 2=.ptr (.box (F h.V+1)) 0/\e.get 6=T/\e.get 8=.arr (F h.V+2) 0 (F c.aS) (F c.aS)/\e.get 37=.ac kz sz (bD c.aS)/\e.get 38=(F c.aS:Nat)/\e.get 39=(i:Nat)/\e.defers=[]/\aj (K.V[F h.V]?=J z1/\K.V[F h.V+1]?=J [.v (.int .i64 0),.v (.int .i64 0)]/\K.V[F h.V+2]?=J (((c.aS.take i).map iO++bT (F c.aS-i) (0:Int)).map im))) ?_ (F c.aS) _ _ ?_;rotate_left 1
 .exact⟨0,ck _,O,f1,f2,f6,f8,f37,f38,f39,fd,k0⟩
 clear f1 f2 f3 f6 f8 f37 f38 f39 fd k0;rintro z0 e K ⟨i,hi,rfl,g1,g2,g6,g8,g37,g38,g39,A,v⟩;by_cases g:i<F c.aS
 .have dY:sz=2:=ks.M (by intro z2;rw[z2]at g;simp at g);subst dY;obtain⟨y,E⟩:∃y,c.aS[i]?=J y:=⟨_,aW g⟩;have ld:=anv (H:=K) (s:=2) E;have st:bU af (K.push (bN (0,0))) 48 (.ptr (.box (F K.V)) 0) (.agg (bN y))=J (K.push (bN y)):=awj y;have lz:=(Di (aQ K (bN y))).2.1;have ix:dM af 23 (.arr (F h.V+2) 0 (F c.aS) (F c.aS)) ((i:Nat):I)=J (.ptr (.box (F h.V+2)) i):=pC g;have sk:=vV (H:=K.push (bN y)) (b:=F h.V+2) (r:=(c.aS.take i).map iO++bT (F c.aS-i) (0:Int)) (k:=i) (x:=y.2) (aP v.M.2.2) (by rw[db,bI,dF,List.length_replicate];omega);have o:((c.aS.take i).map iO++bT (F c.aS-i) (0:Int)).set i y.2=(c.aS.take (i+1)).map iO++bT (F c.aS-(i+1)) (0:Int):=by have e1:F ((c.aS.take i).map iO)=i:=(by rw[bI,dF];omega);obtain⟨z0,hm⟩:∃z0,F c.aS-i=z0+1:=⟨F c.aS-i-1,by omega⟩;rw[hm,(ag:F c.aS-(i+1)=z0),List.replicate_succ,List.set_append_right _ _ ag,e1,tU,List.set_cons_zero,List.take_add_one,E,jr];simp
  rw[o]at sk;obtain⟨q,u,n⟩:=v.M;have R:F h.V+2<F (K.push (bN y)).V:=by have:=(aU.1 n).1;rw[bP];omega
  have kN:aj (((K.push (bN y)).put (F h.V+2) (((c.aS.take (i+1)).map iO++bT (F c.aS-(i+1)) (0:Int)).map im)).V[F h.V]?=J z1/\((K.push (bN y)).put (F h.V+2) (((c.aS.take (i+1)).map iO++bT (F c.aS-(i+1)) (0:Int)).map im)).V[F h.V+1]?=J [.v (.int .i64 0),.v (.int .i64 0)]/\((K.push (bN y)).put (F h.V+2) (((c.aS.take (i+1)).map iO++bT (F c.aS-(i+1)) (0:Int)).map im)).V[F h.V+2]?=J (((c.aS.take (i+1)).map iO++bT (F c.aS-(i+1)) (0:Int)).map im)):=⟨⟨by rw[cG ag];exact aP q,by rw[cG ag];exact aP u,dy R⟩⟩;have iy:(i:Int)<(F c.aS:Int):=by omega
  clear E q u n R o v;generalize PW:y.2=yz at *
  generalize bN y=z3 at *
  generalize hB0:bN (0,0)=B0 at *
  unfold im at *
  repeat' (first|simp(maxSteps:=9^9) (disch:=first|exact dZ|fail) only[gW,reduceIte,aR,aM,DN,bh, *]|refine dX ?_ ?_<;>(intro _;try omega))
  all_goals exact⟨F c.aS-(i+1),by omega,i+1,by omega,O,by simp,by first|exact kN|trivial⟩
 .have:i=F c.aS:=by omega
  subst this;obtain⟨q,u,n⟩:=v.M;rw[gu,tU,List.replicate_zero,g']at n;have kk:=aj.mk (au q (au u n));clear q u n v;unfold im at *
  repeat' (first|simp(maxSteps:=9^9) (disch:=first|exact dZ|fail) only[gW,reduceIte,aR,aM,DN, *]|refine dX ?_ ?_<;>(intro _;try omega))
  all_goals exact kb.M _ _ ⟨by exact gA,by exact gA,by exact gA,by exact gA,by exact gA,kk.M⟩
def aiI(h:am)(j:c_ c a)(q:dJ a)(f:c.Fit)(v:gE c=0)(A:¬F c.aS<F c.ak)(p:F (cr (eY c.doc))<=1000000)(w:gL c.doc=aa)
 (o:(jh c.U c.ae c.ep c.aH (cr (eY c.doc)) c.bH (c.aS.map iO)).2.1=aa):∃r h',SF.call 20 [.agg (aA c a)] h=J (r,h')/\r=.ret (.tuple [.agg [im (jh c.U c.ae c.ep c.aH (cr (eY c.doc)) c.bH (c.aS.map iO)).1.1,im (jh c.U c.ae c.ep c.aH (cr (eY c.doc)) c.bH (c.aS.map iO)).1.2],.ac .nil 0 [],(aa:I),im 0]):=by
 refine VN h j q f v A w (Post:=λr _=>r=_) λT R K m n g1 g2 g6 g8 gd ⟨B,k2,k3⟩=>?_;have u:=Vy j q m n (z:=c.aS.map iO) f.2.1 f.2.2.2.2.1 p (by rw[bI];exact f.2.2.2.2.2) k3;rw[bI]at u;obtain⟨l1,-,-,l3,-,-⟩:=mW j B;have z0:=vm;have s5:=λd e=>zu (u:=d) (v:=e) k2;have g:∀d e:Int,(K.put (F h.V+1) [im d,im e]).V[F h.V+1]?=J [im d,im e]:=λd e=>dy (aU.1 k2).1;have l6:=λd e=>wX (g d e);have s6:∀d e:Int,bU af (K.put (F h.V+1) [im d,im e]) 52 (.ptr (.box (F h.V+1)) 0) (.agg [im d,im e])=J (K.put (F h.V+1) [im d,im e]):=λd e=>by rw[zu (g d e),jb (g d e)]
 clear B k2 k3 g j q f v A m n p w;generalize jh c.U c.ae c.ep c.aH (cr (eY c.doc)) c.bH (c.aS.map iO)=G at *
 obtain⟨⟨s1,s2⟩,b,R⟩:=G;simp only at o u ⊢;subst o;generalize aG c.ep a.X a.Y a.C=E at *
 generalize a.Pa=PA at *
 unfold Ma;simp only[Ie,rK,Code.tl];unfold im at *
 repeat' (first|simp(maxSteps:=9^9) (disch:=first|exact dZ|fail) only[gW,reduceIte,aR,aM,DN, *]|refine dX ?_ ?_<;>(intro _;try omega))
 all_goals exact⟨_,_,O,O⟩
end
def at7:Tryz.f125.results.toList=[]:=ax
def at8:Tryz.f126.results.toList=[.tmp 4]:=ax
def KW:Tryz.f185.results.toList=[]:=ax
def GV:Tryz.f61.results.toList=[.cell 8 23,.cell 9 39]:=ax
def IS.Ad{l}(h:IS H x l):x.bL=J [x]:=by rcases h with⟨k,s,rfl,-⟩|⟨b,rfl,-⟩<;>rfl
def IH:dQ af 167 (.ptr (.box b) 0) 0=J (.ptr (.box b) 0):=ax
def aeH(H)(n0 b)(t)(s)(d)(k)(e:H.V[b]?=J [.ac t s (ay d)])(g:s=1∨(d=[]/\t=.nil))(n:F d<1000000)(f:cY n0 H t):
 W7.call 125 [.ptr (.box b) 0,im k] H=J (.ret (.tuple []),(H.app t).put b [.ac (.free H.tn) 1 (ay (d++[k]))]):=by
 have j:=sM (x:=k) (es:=d) ag g f;have o:=tw e;have p:bU af (H.app t) 23 (.ptr (.box b) 0) (.ac (.free H.tn) 1 (ay (d++[k])))=J ((H.app t).put b [.ac (.free H.tn) 1 (ay (d++[k]))]):=
  e7 (off:=0) (cs:=[.ac t s (ay d)]) (xs:=[.ac (.free H.tn) 1 (ay (d++[k]))]) O g_ (by rw[dC];exact e) O (aT 1)
 have m:=oA k;clear e g f;unfold im at *
 refine cX O func125 O ?_;exact qm @at7 @IH @Z5
def apR(h)(L Z)(d:L.bL=J [L])(e:Z.bL=J [Z]):W7.call 126 [L,Z] h=J (.ret (.func (.func 185) [] [.ptr (.box (F h.V)) 0,.ptr (.box (F h.V+1)) 0]),(h.push [L]).push [Z]):=by refine cX O func126 O ?_;exact qm @at8 @bG @bP
def apW(v w zb:Nat)(L Z:I)(l:List Pr)(z:List Int)(Inv:Nat->am->Prop)(r:PL L l)(fQ:F l<=1000000)(tt:F z=F l)
 (q:∀k H,Inv k H->H.V[w]?=J [L]/\H.V[zb]?=J [Z]/\IS H Z z)
 (D:∀k H cs,Inv k H->Inv k (H.push cs))
 (E:∀k H,k<F l->Inv k H->∃H',W7.round v [im (oL l k),im (ah z k)] H=J (.ret (aa:I),H')/\Inv (k+1) H')
 (j:am) (p:Inv 0 j):∃H',W7.call 185 [.yield v,.ptr (.box w) 0,.ptr (.box zb) 0] j=J (.ret (.tuple []),H')/\Inv (F l) H':=by
 have g:=aj.mk (au q (au D (au E (au p r))));obtain⟨A,-,-⟩:=q 0 j p;have l1:aF af Gt j 32 (.ptr (.box w) 0)=J L:=di BV A O;have ln:=r.dp;have zp:=zA;clear q D E p r A;refine ie O func185 O ?_;refine br @KW ?_;refine cK (λz0 o H=>∃k:Nat,k<=F l/\z0=F l-k/\aj (Inv k H)/\o.get 0=.yield v/\o.get 2=.ptr (.box zb) 0/\o.get 6=L/\o.get 7=(F l:Nat)/\o.get 8=(k:Nat)/\o.defers=[]) ?_ (F l) _ _ ?_;rotate_left 1
 .refine⟨0,ck _,O,⟨g.M.2.2.2.1⟩,?_,?_,?_,?_,?_,?_⟩<;>exact gR
 clear l1 ln;rintro z0 o H ⟨k,hk,rfl,u,g0,g2,g6,g7,g8,hd⟩;by_cases d:k<F l;rotate_left 1
 .have:k=F l:=by omega
  subst this;refine br @KW ?_;exact⟨_,O,u.M⟩
 obtain⟨n,e⟩:∃n,l[k]?=J n:=⟨_,aW d⟩;have ix:=g.M.2.2.2.2.ix d;have J7:=vI (H:=H) (s:=4) e;have sp:=xq (H:=H) n;have f:=aj.mk (g.M.2.1 k H (bm n) u.M);obtain⟨-,B,b3⟩:=g.M.1 k _ f.M;have lz:aF af Gt (H.push (bm n)) 23 (.ptr (.box zb) 0)=J Z:=di kC B O;have lk:aF af Gt (H.push (bm n)) 3 (.ptr (.box (F H.V)) 0)=J ((n.bC:Int):I):=di eu (aQ _ _) O;obtain⟨a,iz,m⟩:=b3.at (i:=k) ag;have lz2:=m _ b3;obtain⟨H',r1,R⟩:=g.M.2.2.1 k _ d f.M;rw[Y9 e]at r1;have G:=aj.mk R;have iy:(k:Int)<(F l:Int):=by omega
 clear m B b3 R u f e;generalize ah z k=zk at *
 unfold im at *
 generalize n.bC=pk at *
 refine dL @KW @bG @jv ?_;refine eI It ax ?_;refine dL @KW @jv @B8 ?_;exact⟨F l-(k+1),by omega,k+1,by omega,O,G,by simp⟩
def aeN:fR af 168=J ar:=ax
def awA:cN af 168=J 1:=ax
def ax5:(fY af 23).bind I.bL=J [nl]:=ax
def axZ:(fY af 167).bind I.bL=J [nl]:=ax
def ax0:(fY af 168).bind I.bL=J [.v .nilFunc]:=ax
def afu(U)(ae)(ep)(aH)(aq)(l)(z)(k):F (u' U ae ep aH aq l z k)<=k:=by
 induction k with
 |zero=>simp[u']|succ k d=>
  rw[Uw,db];have:F (xX U ae ep aH aq l z k)<=1:=by unfold xX;split<;>simp
  omega
def HZ(h:am)(B:I)(l:List Int):Prop:=(l=[]/\∃s,B=.ac .nil s [])∨∃d,B=.ac (.free d) 1 (ay l)/\alive h d=aa
def xD(h g:am)(e:Nat)(j:List iq)(d:Nat->List Int)(k:Nat)(H:am):Prop:=
 ∃t s,H.aB=j/\H.V[e]?=J [.ac t s (ay (d k))]/\((s=1/\∃m,t=.free m)∨(d k=[]/\t=.nil))/\cY h.tn H t/\cS H=aa/\Ext h H/\F g.V<=F H.V/\∀(a:Nat) (f:List I),g.V[a]?=J f->a≠e->H.V[a]?=J f
def xD.push{g}{f}{e}{d}{k}(b:xD h g f e d k H)(cs):xD h g f e d k (H.push cs):=by obtain⟨t,s,m,n,o,p,q,r,v,u⟩:=b;exact⟨t,s,m,aP n,o,by rw[sN];exact p,q,r.trans (.push _ _),by rw[bP];omega,λa cs w j=>aP (u a cs w j)⟩
def agn(h:am)(eH:cS h=aa)(ep:Int)(X Y C T L Z:I)(U:List (List Int))(ae aH:List Int)(aq:List UInt8)(l:List Pr)(z:List Int)
 (hx:RL X U) (E:IL Y ae) (hc:IL C aH) (ht:BL T aq) (hp:PL L l) (fj:F aH<=1000000) (fQ:F l<=1000000) (hz:IS h Z z) (tt:F z<=1000000):
 ∃r h',W7.call 61 [.agg (aG ep X Y C),T,L,Z] h=J (r,h')/\Ext h h'/\∃B,r=.ret (.tuple [B,im (nR U ae ep aH aq l z).2])/\HZ h' B (nR U ae ep aH aq l z).1:=by
 have bx:=mV (ep:=ep) hx E hc;have cT:=ht.Ad;have cL:=hp.Ad;have z23:=ax5;have z32:=acX;have z130:=axZ;have z131:=ax0;obtain⟨w,j⟩:∃w,((((h.push (aG ep X Y C)).push [T]).push [L]).push [nl]).push [im 0]=w:=⟨_,O⟩;have n1:F (h.push (aG ep X Y C)).V=F h.V+1:=bP _ _;have n2:F ((h.push (aG ep X Y C)).push [T]).V=F h.V+2:=by rw[bP,n1]
 have n3:F (((h.push (aG ep X Y C)).push [T]).push [L]).V=F h.V+3:=by rw[bP,n2]
 have n4:F ((((h.push (aG ep X Y C)).push [T]).push [L]).push [nl]).V=F h.V+4:=by rw[bP,n3]
 have n5:F w.V=F h.V+5:=by rw[<-j,bP,n4]
 have k0:w.V[F h.V]?=J (aG ep X Y C):=by rw[<-j];exact aP (aP (aP (aP (aQ _ _))))
 have k1:w.V[F h.V+1]?=J [T]:=by rw[<-j,<-n1];exact aP (aP (aP (aQ _ _)))
 have k2:w.V[F h.V+2]?=J [L]:=by rw[<-j,<-n2];exact aP (aP (aQ _ _))
 have k3:w.V[F h.V+3]?=J [nl]:=by rw[<-j,<-n3];exact aP (aQ _ _)
 have k4:w.V[F h.V+4]?=J [im 0]:=by rw[<-j,<-n4];exact aQ _ _
 have x0:Ext h w:=by rw[<-j];exact((((Ext.push _ _).trans (.push _ _)).trans (.push _ _)).trans (.push _ _)).trans (.push _ _)
 obtain⟨_,H1,c1,qn,rfl⟩:=Vm w ep X Y C T L Z U ae aH aq l z hx E hc ht hp fj fQ (hz.mono λc o q=>x0.box _ _ q) tt;have x1:Ext w H1:=by rw[qn];exact .push _ _
 have m1:F H1.V=F h.V+6:=by rw[qn,bP,n5]
 obtain⟨ce,f⟩:∃z1,(mO U ae ep aH aq l z).2=z1:=⟨_,O⟩;rw[f]at c1;have g4:=x1.box _ _ k4;have gl4:=(aU.1 g4).1;obtain⟨g,m⟩:∃g,H1.put (F h.V+4) [im ce]=g:=⟨_,O⟩;have s1:bU af H1 39 (.ptr (.box (F h.V+4)) 0) (im ce)=J g:=by rw[<-m];exact e7 (off:=0) (cs:=[im 0]) (xs:=[im ce]) O He g4 O (aT 1)
 have x2:Ext h g:=by rw[<-m];exact(x0.trans x1).gg ag _
 have m2:F g.V=F h.V+6:=by rw[<-m,jA,m1]
 have j0:g.V[F h.V]?=J (aG ep X Y C):=by rw[<-m,cG ag];exact x1.box _ _ k0
 have j1:g.V[F h.V+1]?=J [T]:=by rw[<-m,cG ag];exact x1.box _ _ k1
 have j2:g.V[F h.V+2]?=J [L]:=by rw[<-m,cG ag];exact x1.box _ _ k2
 have j3:g.V[F h.V+3]?=J [nl]:=by rw[<-m,cG ag];exact x1.box _ _ k3
 have j4:g.V[F h.V+4]?=J [im ce]:=by rw[<-m];exact dy gl4
 have l0:=vG k0;have l1:aF af Gt w 60 (.ptr (.box (F h.V+1)) 0)=J T:=di M' k1 O;have l2:aF af Gt w 32 (.ptr (.box (F h.V+2)) 0)=J L:=di BV k2 O;have l4:aF af Gt g 39 (.ptr (.box (F h.V+4)) 0)=J (im ce):=di ww j4 O;have kv:aj (nR U ae ep aH aq l z=if dA U ae ep aH aq l≠0 then ([],dA U ae ep aH aq l) else if pE l z=ar then ([],1) else (u' U ae ep aH aq l z (F l),0)):=⟨O⟩;refine cq O func61 O ?_;by_cases he:ce=0;rotate_left 1
 .have kr:aj (nR U ae ep aH aq l z=([],ce)):=⟨by
   rw[kv.M];by_cases q:dA U ae ep aH aq l=0
   .rw[aL (by simp[q])];cases hk:pE l z with|false=>rw[aC O,<-f];unfold mO;rw[aL (by simp[q]),aC hk]|true=>exact absurd (by rw[<-f];unfold mO;rw[aL (by simp[q]),aL (by simp[hk])]) he
   .rw[aC q,<-f];unfold mO;rw[aC q]⟩
  have sA:bU af g 23 (.ptr (.box (F h.V+3)) 0) nl=J g:=by rw[e7 (off:=0) (cs:=[nl]) (xs:=[nl]) O g_ j3 O (aT 1)];exact congrArg J (jb j3)
  have sB:bU af g 39 (.ptr (.box (F h.V+4)) 0) (im ce)=J g:=by rw[e7 (off:=0) (cs:=[im ce]) (xs:=[im ce]) O He j4 O (aT 1)];exact congrArg J (jb j4)
  have lA:aF af Gt g 23 (.ptr (.box (F h.V+3)) 0)=J nl:=di kC j3 O;have kx:=aj.mk x2;have dz:decide (ce=0)=ar:=cR he;have svs:df (im ce) (im ce)=aa:=by simp[im,df,ip]
  clear hx E hc ht hp hz kv f qn x0 x1 x2 k0 k1 k2 k3 k4 g4 gl4 m j0 j1 j2 j3 j4 n5 m1 m2;unfold im at *
  refine b_ @GV @bG @n1 (au @n2 (au @n3 (au @n4 @j))) ?_;refine jB [(0,1)] It ax (λz3 hp=>?_) ?_
  .simp only[js]at hp;subst hp;refine mI (x:=.ptr (.box (F h.V+4)) 0) (v:=((ce:Int):I)) ax O O O ax (svs) ?_ ?_<;>(simp only[fe,eE];exact f_ @GV @and_self)
  refine br @GV ?_;exact⟨_,_,O,kx.M,_,by rw[kr.M],by rw[kr.M];exact .inl ⟨O,_,O⟩⟩
 subst he;have hb:dA U ae ep aH aq l=0:=by
  by_cases q:dA U ae ep aH aq l=0
  .exact q
  .unfold mO at f;rw[aC q]at f;exact f
 have hk:pE l z=aa:=by
  cases hk:pE l z with|true=>rfl|false=>unfold mO at f;rw[aL (by simp[hb]),aC hk]at f;cases f
 obtain⟨q1,q2⟩:=Kj.1 hk;have kr:aj (nR U ae ep aH aq l z=(u' U ae ep aH aq l z (F l),0)):=⟨by rw[kv.M,aL (by simp[hb]),aL (by simp[hk])]⟩;have kf:aj (∀k,k<F l->∀h,W7.call 127 [.agg (aG ep X Y C),T,L,im (oL l k),im (ah z k)] h=J (.ret (.tuple [.v (.bool (oP U ae ep aH aq l (oL l k) (ah z k)).1),im 0]),h)):=⟨λk FN=>by have:=ajs ep X Y C T L U ae aH aq l hx E hc ht hp fj fQ (oL l k) (ah z k);rw[ajv hb hk FN]at this;exact this⟩;obtain⟨H3,R⟩:∃H3,g.push [nl]=H3:=⟨_,O⟩;obtain⟨H4,A⟩:∃H4,H3.push [.func (.func 125) [.ptr (.box (F h.V+6)) 0] []]=H4:=⟨_,O⟩;have m3:F H3.V=F h.V+7:=by rw[<-R,bP,m2]
 have m4:F H4.V=F h.V+8:=by rw[<-A,bP,m3]
 have s4:bU af (H3.push [.v .nilFunc]) 168 (.ptr (.box (F h.V+7)) 0) (.func (.func 125) [.ptr (.box (F h.V+6)) 0] [])=J H4:=by rw[<-A,<-m3];exact jC O awA O O
 obtain⟨d,D⟩:∃d,(H4.push [L]).push [Z]=d:=⟨_,O⟩;have c2:=apR H4 L Z cL hz.Ad;rw[D,m4]at c2;have o2:∀{b:Nat} {o:List I},g.V[b]?=J o->d.V[b]?=J o:=λq=>by rw[<-D,<-A,<-R];exact aP (aP (aP (aP q)))
 have j6:d.V[F h.V+6]?=J [nl]:=by rw[<-D,<-A,<-R,<-m2];exact aP (aP (aP (aQ _ _)))
 have j7:d.V[F h.V+7]?=J [.func (.func 125) [.ptr (.box (F h.V+6)) 0] []]:=by rw[<-D,<-A,<-m3];exact aP (aP (aQ _ _))
 have j8:d.V[F h.V+8]?=J [L]:=by rw[<-D,<-m4];exact aP (aQ _ _)
 have j9:d.V[F h.V+9]?=J [Z]:=by
  rw[<-D];have:=aQ (H4.push [L]) [Z]
  rwa [bP,m4]at this
 have x6:Ext h d:=by rw[<-D,<-A,<-R];exact(((x2.trans (.push _ _)).trans (.push _ _)).trans (.push _ _)).trans (.push _ _)
 have Jz:=x6.ok eH;have l3:aF af Gt H4 32 (.ptr (.box (F h.V+2)) 0)=J L:=di BV (by rw[<-A,<-R];exact aP (aP j2)) O;have y0:=o2 j0;have y1:=o2 j1;have y2:=o2 j2;have y3:=o2 j3;have y4:=o2 j4;have PX:IS d Z z:=hz.mono λc o q=>x6.box _ _ q;clear x0 x1 x2 k0 k1 k2 k3 k4 g4 gl4 j0 j1 j2 j3 j4 o2 qn m D A f kv hb hk;unfold im at *
 refine b_ @GV @bG @n1 (au @n2 (au @n3 (au @n4 (au @j (au @m2 (au @m3 @R)))))) ?_;refine bJ.gen λe4 u rb uf ug=>?_;have f4:e4.get 4=.ptr (.box (F h.V)) 0:=by rw[u];exact gS
 have f5:e4.get 5=.ptr (.box (F h.V+1)) 0:=by rw[u];simp only[gW,reduceIte,aR,aM,n1]
 have f6:e4.get 6=.ptr (.box (F h.V+2)) 0:=by rw[u];simp only[gW,reduceIte,aR,aM,n2]
 have f8:e4.get 8=.ptr (.box (F h.V+3)) 0:=by rw[u];simp only[gW,reduceIte,aR,aM,n3]
 have f9:e4.get 9=.ptr (.box (F h.V+4)) 0:=by rw[u];simp only[gW,reduceIte,aR,aM,n4]
 have f10:e4.get 10=.ptr (.box (F h.V+6)) 0:=by rw[u];simp only[gW,reduceIte,aR,aM,m2]
 have f11:e4.get 11=.ptr (.box (F h.V+7)) 0:=by rw[u];simp only[gW,reduceIte,aR,aM,m3]
 have f30:e4.get 30=.func (.func 185) [] [.ptr (.box (F h.V+8)) 0,.ptr (.box (F h.V+8+1)) 0]:=by rw[u];exact gS
 have fd:e4.defers=[]:=by rw[rb];exact gS
 clear u rb uf ug c1 c2 s1 s4 l0 l1 l2 l3 l4 bx cT cL z23 z32 z130 z131 j n1 n2 n3 n4 n5 m1 R m2 m3 m4;refine Bn (by rw[yj];exact f30) λrec w1 w2 w3 w4 w5 w6=>?_;obtain⟨e,FA⟩:∃e:Nat->List Int,e=u' U ae ep aH aq l z:=⟨_,O⟩;have kb0:aj (e 0=[]):=⟨by rw[FA];rfl⟩;have kbs:aj (∀k,e (k+1)=e k++xX U ae ep aH aq l z k):=⟨λk=>by rw[FA];exact Uw _ _ _ _ _ _ _ _⟩;have kbl:aj (∀k,F (e k)<=k):=⟨λk=>by rw[FA];exact afu _ _ _ _ _ _ _ _⟩;rw[<-FA]at kr;clear FA;have k_:(d.loop rec).aB[F d.aB]?=J rec:=@Be d rec;have XL:Ext h (d.loop rec):=x6.trans ((Fr.yO (bn:=d.V.length) (l0:=d.aB.length) (n0:=d.tn) d rec).ext (aT _) (aT _) (aT _));have Pb:=(aU.1 j9).1;have feed:=apW (F d.aB) (F h.V+8) (F h.V+8+1) L Z l z (xD h d (F h.V+6) (d.loop rec).aB e) hp fQ q1
  (λk H q=>by obtain⟨_,_,-,-,-,-,-,q6,-,q8⟩:=q;exact⟨q8 _ _ j8 ag,q8 _ _ j9 ag,hz.mono λc o q=>q6.box _ _ q⟩)
  (λk H o q=>q.push o) ?_ (d.loop rec) ⟨.nil,0,O,by rw[kb0.M];exact j6,.inr ⟨kb0.M,O⟩,.inl O,Jz,XL,aT _,λa o q _=>q⟩
 rotate_left 1
 .rintro k H hk ⟨t,s,i1,i2,i3,i4,i5,i6,i7,G⟩;have sZ:H.aB[F d.aB]?=J rec:=by rw[i1];exact k_
  refine GG (Post:=xD h d (F h.V+6) (d.loop rec).aB e (k+1)) sZ (by rw[w2];rfl) w5 w6 ?_;have r1:∀t,(mG (F d.aB) rec [im (oL l k),im (ah z k)]).get t=if 32=t then im (ah z k) else if 31=t then im (oL l k) else e4.get t:=λt=>GF w2 w1
  have d1:(mG (F d.aB) rec [im (oL l k),im (ah z k)]).defers=[]:=rfl;obtain⟨K,hK⟩:∃K,H.busy (F d.aB) rec=K:=⟨_,O⟩;have pZ:K.V=H.V:=by rw[<-hK];rfl
  have u0:=vG (H:=K) (by rw[pZ];exact G _ _ y0 ag);have u1:aF af Gt K 60 (.ptr (.box (F h.V+1)) 0)=J T:=di M' (by rw[pZ];exact G _ _ y1 ag) O;have u2:aF af Gt K 32 (.ptr (.box (F h.V+2)) 0)=J L:=di BV (by rw[pZ];exact G _ _ y2 ag) O;have u3:aF af Gt K 168 (.ptr (.box (F h.V+7)) 0)=J (.func (.func 125) [.ptr (.box (F h.V+6)) 0] []):=di aeN (by rw[pZ];exact G _ _ j7 ag) O;have c1:=kf.M k hk;have kb1:K.V[F h.V+6]?=J [.ac t s (ay (e k))]:=by rw[pZ];exact i2
  have kc1:cY h.tn K t:=by rw[<-hK];exact i4
  have nq:=kbl.M k;have n:=kbs.M k;unfold xX at n;cases AG:(oP U ae ep aH aq l (oL l k) (ah z k)).1 with
  |true=>
   rw[AG]at c1 n;rw[aC O,g']at n;have p:aj (xD h d (F h.V+6) (d.loop rec).aB e (k+1) H):=⟨t,s,i1,by rw[n];exact i2,by rw[n];exact i3,i4,i5,i6,i7,G⟩;clear i1 i2 i3 i4 i5 i6 i7 G n nq kb1 kc1 AG y0 y1 y2 y3 y4 j6 j7 j8 j9 x6 XL Jz k_ Pb hp hz PX pZ;generalize oL l k=wk at *
   generalize ah z k=zk at *
   rw[hK];rw[w3,w4];unfold im at *
   refine b_ @r1 @d1 @IH @fw.{0} ?_;exact⟨ba,ba,ba,(by first|trivial|rfl),by rw[<-hK];exact p.M⟩
  |false=>
   rw[AG]at c1 n;rw[aL cB]at n;have ca:=aeH K h.tn (F h.V+6) t s (e k) (oL l k) kb1 (i3.imp (·.1) id) ag kc1;rw[<-n]at ca;have gr:=Grown.one i4 i5 i6.tn;have p:aj (xD h d (F h.V+6) (d.loop rec).aB e (k+1) ((H.app t).put (F h.V+6) [.ac (.free H.tn) 1 (ay (e (k+1)))])):=by
    have AJ:=(aU.1 i2).1;refine⟨_,1,?_,?_,.inl ⟨O,_,O⟩,by rw[vh];exact gr.can,gr.ok,(gr.ext i6 (aT _)).gg ag _,by rw[jA,dC];exact i7,λa o ha fH=>?_⟩
    .show(H.app t).aB=_;rw[uZ];exact i1
    .exact dy (by rw[dC];exact AJ)
    .rw[cG fH,dC];exact G a o ha fH
   have WR:K.tn=H.tn:=(by rw[<-hK];rfl);rw[WR]at ca;clear i1 i2 i3 i4 i5 i6 i7 G n nq kb1 kc1 gr AG y0 y1 y2 y3 y4 j6 j7 j8 j9 x6 XL Jz k_ Pb hp hz PX pZ WR;generalize oL l k=wk at *
   generalize ah z k=zk at *
   rw[hK];rw[w3,w4];unfold im at *
   refine b_ @r1 @d1 @IH @fw.{0} ?_;refine⟨ba,ba,ba,?_,?_⟩
   .show(K.app t).aB=_;rw[uZ]
   .rw[<-hK];refine(congrArg (xD h d (F h.V+6) (d.loop rec).aB e (k+1)) ?_).mpr p.M;cases t<;>rfl
 .obtain⟨Hf,c1,t,s,i1,i2,i3,i4,i5,i6,i7,G⟩:=feed;refine⟨_,_,c1,rec,by rw[i1];exact k_,by rw[w5];decide,.inl ⟨w6,?_⟩⟩;have v6:(Hf.eM (F d.aB) {rec with state:=.exhausted}).V[F h.V+6]?=J [.ac t s (ay (e (F l)))]:=i2;have v3:(Hf.eM (F d.aB) {rec with state:=.exhausted}).V[F h.V+3]?=J [nl]:=G _ _ y3 ag;have v4:(Hf.eM (F d.aB) {rec with state:=.exhausted}).V[F h.V+4]?=J [im 0]:=G _ _ y4 ag;have yp:F h.aB<=F d.aB:=x6.Dn;have al:∀z0,t=.free z0->alive (Hf.eM (F d.aB) {rec with state:=.exhausted}) z0=aa:=λz0 z1=>by
   rcases i4 with q|q|⟨z2,q,-,q2⟩<;>rw[z1]at q
   .cases q
   .cases q
   .injection q with q;rw[q];exact q2
  have XF:Ext h (Hf.eM (F d.aB) {rec with state:=.exhausted}):=((Fr.Bh (bn:=h.V.length) (l0:=h.aB.length) (n0:=h.tn) i6 (aT _)).trans (.eM yp _)).ext (aT _) (aT _) (aT _);generalize Hf.eM (F d.aB) {rec with state:=.exhausted}=HF at *
  have g3:=(aU.1 v3).1;have lA:aF af Gt HF 23 (.ptr (.box (F h.V+6)) 0)=J (.ac t s (ay (e (F l)))):=di kC v6 O;have sA:bU af HF 23 (.ptr (.box (F h.V+3)) 0) (.ac t s (ay (e (F l))))=J (HF.put (F h.V+3) [.ac t s (ay (e (F l)))]):=
   e7 (off:=0) (cs:=[nl]) (xs:=[.ac t s (ay (e (F l)))]) O g_ v3 O (aT 1)
  obtain⟨HG,CE⟩:∃HG,HF.put (F h.V+3) [.ac t s (ay (e (F l)))]=HG:=⟨_,O⟩;have v3':HG.V[F h.V+3]?=J [.ac t s (ay (e (F l)))]:=by rw[<-CE];exact dy g3
  have v4':HG.V[F h.V+4]?=J [im 0]:=by rw[<-CE,cG ag];exact v4
  have XG:Ext h HG:=by rw[<-CE];exact XF.gg ag _
  rw[CE]at sA;have sB:bU af HG 39 (.ptr (.box (F h.V+4)) 0) (im 0)=J HG:=by rw[e7 (off:=0) (cs:=[im 0]) (xs:=[im 0]) O He v4' O (aT 1)];exact congrArg J (jb v4')
  have lR:aF af Gt HG 23 (.ptr (.box (F h.V+3)) 0)=J (.ac t s (ay (e (F l)))):=di kC v3' O;have lE:aF af Gt HG 39 (.ptr (.box (F h.V+4)) 0)=J (im 0):=di ww v4' O;have al2:∀z0,t=.free z0->alive HG z0=aa:=λz0 z1=>by rw[<-CE];exact al z0 z1
  have p:=aj.mk (au XG (au i3 al2));clear al al2 i1 i2 i3 i4 i5 i6 i7 G c1 y0 y1 y2 y3 y4 j6 j7 j8 j9 x6 XL Jz k_ Pb hp hz PX w1 w2 w3 w4 w5 w6 v3 v4 v6 v3' v4' XG XF CE g3;unfold im at *
  refine bB @GV @IH ?_;exact⟨_,_,O,p.M.1,_,by rw[kr.M],by
   rw[kr.M];rcases p.M.2.1 with⟨rfl,z0,rfl⟩|⟨q,rfl⟩
   .exact .inr ⟨z0,O,p.M.2.2 z0 O⟩
   .exact .inl ⟨q,s,by rw[q];rfl⟩⟩
def UA:iK af 52 []=J (.agg [im 0,im 0]):=by kernel_rfl
section
variable {X Y C T L Z:I} {U:List (List Int)} {ae aH:List Int} {aq:List UInt8} {l:List Pr} {z:List Int} {ep:Int}
def amW(q:RL X U)(r:IL Y ae)(n:IL C aH)(p:BL T aq)(o:PL L l)(u:IL Z z)(e:F aH<=1000000)(f:F l<=1000000)(g:F z<=1000000):
 ∃B d,IL B (nR U ae ep aH aq l z).1/\W7.call 61 [.agg (aG ep (av X) (av Y) (av C)),av T,av L,av Z] ⟨[],[],0,[]⟩=J (.ret (.tuple [B,im (nR U ae ep aH aq l z).2]),d)/\HZ d B (nR U ae ep aH aq l z).1:=by
 obtain⟨d,j,m,-⟩:=yL ep q r n;obtain⟨_,K,c,-,B,rfl,w⟩:=agn ⟨[],[],0,[]⟩ O ep _ _ _ _ _ _ U ae aH aq l z d j m p.hold.1 o.hold.1 e f (.inl u.hold.1) g;refine⟨B,K,?_,c,w⟩;rcases w with⟨v,s,rfl⟩|⟨A,rfl,-⟩
 .rw[v];exact⟨_,_,O,λv=>absurd O v⟩
 .exact⟨_,_,O,λ_=>rfl⟩
end
section
variable {c:Ce} {a:CA}
def HZ.BW{B}{l}(n:HZ h B l)(e):([B,im e].all (rN 1 h))=aa/\∃d,IL d l/\[B,im e].map (zS 1 h)=[d,im e]:=by
 rcases n with⟨f,s,rfl⟩|⟨j,rfl,f⟩
 .exact⟨O,_,⟨_,_,by rw[f];rfl,λz=>absurd f z⟩,O⟩
 .refine⟨?_,_,⟨_,_,O,λ_=>rfl⟩,O⟩;have e:yZ (ay l).flatten=aa:=by
   induction l with
   |nil=>rfl|cons a l g=>exact g
  simp only[List.all_cons,List.all_nil,Bool.and_true,rN,f,e];rfl
def ago(e:c_ c a)(d:dJ a){aq:List UInt8}(v:BL T aq)(p:av T=T){z:List Int}(r:F c.aH<=1000000)(u:F c.bH<=1000000)(A:F z<=1000000)(hb:h.V[b]?=J (z.map im)):
 ∃B,IL B (nR c.U c.ae c.ep c.aH aq c.bH z).1/\SF.call 61 [.agg (aG c.ep a.X a.Y a.C),T,a.Pa,.arr b 0 (F z) (F z)] h=J (.ret (.tuple [B,im (nR c.U c.ae c.ep c.aH aq c.bH z).2]),h):=by
 have w:IL (.ac .held 1 (ay z)) z:=⟨.held,1,O,λ_=>rfl⟩;obtain⟨B,h1,-,f,z0⟩:=amW (ep:=c.ep) e.x e.y e.cm v e.pa w r u A;obtain⟨G,E,R,a2⟩:=z0.BW (nR c.U c.ae c.ep c.aH aq c.bH z).2;have m:=(yL c.ep e.x e.y e.cm).2.2.2;have n:=v.hold.2;have o:=e.pa.hold.2;have j:=w.hold.2;have ez:av (.ac .held 1 (ay z))=.ac .held 1 (ay z):=by simp only[av,ta];rfl
 rw[d.X,d.Y,d.C]at m f;rw[p]at n f;rw[d.Pa]at o f;rw[ez]at j f;have g:aJ 0 0 0 [.agg (aG c.ep a.X a.Y a.C),T,a.Pa,.ac .held 1 (ay z)]=aa:=by rw[aJ,aI,m,aJ,n,aJ,o,aJ,j];rfl
 refine⟨E,R,Wl (z:=1) (R0:=W7) (L:=LF) (q:=qF) O O O ?_ g f G a2⟩;simp only[aJ,bR]at g;simp only[iM];rw[yn _ g.1,yn _ g.2.1,yn _ g.2.2.1,Wu hb O,p,d.Pa];simp only[av,aG,bA,d.X,d.Y,d.C]
def aiJ(h:am)(j:c_ c a)(m:dJ a)(d:c.Fit)(w:gE c=0)(E:¬F c.aS<F c.ak)(o:F (cr (eY c.doc))<=1000000)(A:gL c.doc=aa){e:Int}
 (n:jh c.U c.ae c.ep c.aH (cr (eY c.doc)) c.bH (c.aS.map iO)=((0,0),ar,e)):∃r h',SF.call 20 [.agg (aA c a)] h=J (r,h')/\∃B,IL B (nR c.U c.ae c.ep c.aH (cr (eY c.doc)) c.bH (c.aS.map iO)).1/\r=.ret (.tuple [.agg [im 0,im 0],B,(ar:I),im 0]):=by
 refine VN h j m d w E A (Post:=λr _=>∃B,IL B (nR c.U c.ae c.ep c.aH (cr (eY c.doc)) c.bH (c.aS.map iO)).1/\r=.ret (.tuple [.agg [im 0,im 0],B,(ar:I),im 0])) λT e K f g g1 g2 g6 g8 gd ⟨G,k2,k3⟩=>?_;have p:=Vy j m f g (z:=c.aS.map iO) d.2.1 d.2.2.2.2.1 o (by rw[bI];exact d.2.2.2.2.2) k3;obtain⟨l1,-,-,l3,-,-⟩:=mW j G;have z1:=vm;have s5:=zu (u:=0) (v:=0) k2;rw[jb k2]at s5;have l6:=wX k2;obtain⟨B,q,R⟩:=ago j m f g (z:=c.aS.map iO) d.2.1 d.2.2.2.2.1 (by rw[bI];exact d.2.2.2.2.2) k3;rw[bI]at p R;rw[n]at p;have b52:=UA;have kB:=aj.mk q;clear G k2 k3 j m d w E f g o A q n;generalize nR c.U c.ae c.ep c.aH (cr (eY c.doc)) c.bH (c.aS.map iO)=z0 at *
 generalize aG c.ep a.X a.Y a.C=KY at *
 generalize a.Pa=PA at *
 unfold Ma;simp only[Ie,rK,Code.tl];unfold im at *
 repeat' (first|simp(maxSteps:=9^9) (disch:=first|exact dZ|fail) only[gW,reduceIte,aR,aM,DN, *]|refine dX ?_ ?_<;>(intro _;try omega))
 all_goals exact⟨_,_,O,B,kB.M,O⟩
end
def Rz:List (List Int):=[[1,1],[1,2]]
def Oz:List Int:=[1,2]
def Cz:List Int:=bF [5,7]
def jM:Dc:=⟨3,0,0,0,0,9,[],[],[],bT 32 0⟩
def nw(k d f:Int):Pr:=⟨k,0,eO 4 d,eO 4 f⟩
def cz(l:List Pr)(z:List (Int × Int)):Ce:=⟨Rz,Oz,0,Cz,jM,[1,2],l,z⟩
def eG:Pr:=nw 1 100 101
def dB:Pr:=nw 2 102 103
def vX:List UInt8:=cr (eY jM)
def az:Int:=645765691
def bz:Int:=686257420
def ez:Int:=223354490
def xv:Int:=258281322
def zn1:NT.ej Rz Oz 0 Cz jM [1]=440:=by decide+kernel
def zn2:NT.ej Rz Oz 0 Cz jM [2,1]=1:=by decide+kernel
def zn3:NT.ej Rz Oz 0 Cz d0 [1,2]=170:=by decide+kernel
def zn4:NT.ej Rz Oz 0 Cz jM [1,2]=0:=by decide+kernel
def zc0:gE c0=440:=by decide+kernel
def zc1:gE (cz [] [])=0:=by decide+kernel
def zp0:mY (cz [] []) (1,0)=(420,[]):=by decide+kernel
def zp1:mD (cz [] []) dB=(0,[dB]):=by decide+kernel
def zp2:mD (cz [dB] []) eG=(0,[eG,dB]):=by decide+kernel
def zp3:(mD (cz [eG,dB] []) (nw 2 1 2)).1=151:=by decide+kernel
def zp4:(mD (cz [eG,dB] []) (nw 3 1 2)).1=420:=by decide+kernel
def zm1:nx Rz Oz 0 Cz vX [eG,dB] 1 [(0,12)] 100 101=(az,0):=by decide+kernel
def zm2:nx Rz Oz 0 Cz vX [eG,dB] 2 [(1,19)] 102 103=(bz,0):=by decide+kernel
def zq1:mY (cz [eG,dB] []) (2,bz)=(0,[(2,bz)]):=by decide+kernel
def zq2:mY (cz [eG,dB] [(2,bz)]) (1,az)=(0,[(1,az),(2,bz)]):=by decide+kernel
def zc5:gE (cz [eG,dB] [(1,az),(2,bz)])=0:=by decide+kernel
def zd1:gL jM=aa:=by decide+kernel
def zk:jh Rz Oz 0 Cz vX [eG,dB] [az,bz]=((ez,xv),aa,0):=by decide+kernel
def zv:nE (ah Cz 0) vX ez xv=aa:=by decide+kernel
def ztl:F vX<=1000000:=by decide+kernel
def ard:Tryz.f27.results.toList=[.cell 0 27,.tmp 1]:=by kernel_rfl
def arf:Tryz.f29.results.toList=[.cell 6 46]:=by kernel_rfl
def E4(c:cd W8 g a y)(d:LA.contains g=aa)(e:LB.contains g=aa)(f:LC.contains g=aa)(j:LD.contains g=aa)(m:LE.contains g=aa)(n:LF.contains g=aa):cd SF g a y:=yc (NI (sO c d e) f j m) n
def afE(k x y):iK af 46 [(0,im k),(2,im x),(3,im y)]=J (.agg (bm ⟨k,0,x,y⟩)):=by kernel_rfl
def aoS(h:am)(k d f:Int):∃r h',SF.call 29 [im k,im d,im f] h=J (r,h')/\r=.ret (.agg (bm (nw k d f))):=by
 have j:=(E4 (Y2 4 d) O O O O O O).call;have m:=(E4 (Y2 4 f) O O O O O O).call;have z:=zA;have g:=afE k (eO 4 d) (eO 4 f);have st:bU af (h.push (bm ⟨0,0,0,0⟩)) 46 (.ptr (.box (F h.V)) 0) (.agg (bm ⟨k,0,eO 4 d,eO 4 f⟩))=J (h.push (bm ⟨k,0,eO 4 d,eO 4 f⟩)):=xq _;have o:=vH (aQ h (bm ⟨k,0,eO 4 d,eO 4 f⟩));unfold nw;generalize n:bm ⟨k,0,eO 4 d,eO 4 f⟩=p at *
 generalize bm ⟨0,0,0,0⟩=e at *
 unfold im at *
 refine cq O func29 O ?_;refine br @arf ?_;exact⟨_,_,O,O⟩
def Xz:I:=.ac .aK 1 [[.ac .aK 1 (ay [1,1])],[.ac .aK 1 (ay [1,2])]]
def Yz:I:=.ac .aK 1 (ay [1,2])
def zr:RL Xz Rz:=by
 refine⟨.aK,1,[.ac .aK 1 (ay [1,1]),.ac .aK 1 (ay [1,2])],O,λ_=>rfl,O,λi a f d e=>?_⟩
 match i with
 |0=>injection d with d;injection e with e;subst d;subst e;exact⟨_,_,O,λ_=>rfl⟩
 |1=>injection d with d;injection e with e;subst d;subst e;exact⟨_,_,O,λ_=>rfl⟩
 |i+2=>simp at d
def yJ:IL Yz Oz:=⟨_,_,O,λ_=>rfl⟩
def FH:av Xz=Xz:=by unfold Xz;simp only[av,dV,bA,ta];rfl
def FI:av Yz=Yz:=by unfold Yz;simp only[av,ta];rfl
def agd:fF af 22 2 [(0,.ac .aK 1 (ay [1,1])),(1,.ac .aK 1 (ay [1,2]))]=J Xz:=by kernel_rfl
def afB:iK af 25 [(0,Xz),(1,Yz)]=J (.agg [Xz,Yz]):=by kernel_rfl
def UJ(a):fF af 23 1 [(0,((a:Int):I))]=J (.ac .aK 1 (ay [a])):=by kernel_rfl
def aiB:jL Rz Oz 5 [7]=0:=by decide+kernel
def aiz:fD Rz [5,7]=[(0,12),(1,19)]:=by decide+kernel
def axd(h:am):∃m e,SL m [(0,12),(1,19)]/\IL e Cz/\av m=m/\av e=e/\∃r h',SF.call 27 [] h=J (r,h')/\r=.ret (.tuple [.agg (aG 0 Xz Yz e),m]):=by
 obtain⟨m,e,n,f,A⟩:=amZ zr yJ (⟨.aK,1,O,λ_=>rfl⟩:IL (.ac .aK 1 (ay [7])) [7]) aZ aZ 5 aiB;rw[aiz]at n;have f:IL e Cz:=f;rw[FH,FI]at A;have B:av (.ac .aK 1 (ay [7]))=.ac .aK 1 (ay [7]):=by simp only[av,ta];rfl
 rw[B]at A;have w:=A.oG ⟨[],[],0,[]⟩;have p:av m=m:=by obtain⟨k,s,rfl,-⟩:=n;have u:I.tuple [.ac (cJ k) s (bD [(0,12),(1,19)]),ea ⟨[],[],0,[]⟩ e,im 0]=.tuple [.ac k s (bD [(0,12),(1,19)]),e,im 0]:=w;have v:=(Tp (I.tuple.inj u)).1;rw[av,Pm];exact v
 have q:av e=e:=by obtain⟨k,s,rfl,-⟩:=f;have u:I.tuple [ea ⟨[],[],0,[]⟩ m,.ac (cJ k) s (ay Cz),im 0]=.tuple [m,.ac k s (ay Cz),im 0]:=w;have v:=(Tp (Tp (I.tuple.inj u)).2).1;rw[av,ta];exact v
 have D:=(E4 A O O O O O O).call;refine⟨m,e,n,f,p,q,?_⟩;have G:=Ip 1 1;have R:=Ip 1 2;have b3:=agd;have b4:=afB;have b5:=UJ 7;have z5:=ax8;have z7:=LS;have bd:=Ux zr yJ f;have g:(I.agg [Xz,Yz]).bL=J [Xz,Yz]:=uw zr yJ;have o:(I.agg (aG 0 Xz Yz e)).bL=J (aG 0 Xz Yz e):=mV zr yJ f;obtain⟨d,j⟩:∃d,(h.push (aG 0 nl nl nl)).push [Xz,Yz]=d:=⟨_,O⟩;have s1:bU af ((h.push (aG 0 nl nl nl)).push [nl,nl]) 25 (.ptr (.box (F (h.push (aG 0 nl nl nl)).V)) 0) (.agg [Xz,Yz])=J d:=by rw[<-j];exact jC g cD O O
 have t0:d.V[F h.V]?=J (aG 0 nl nl nl):=by rw[<-j];exact aP (aQ _ _)
 have t1:d.V[F (h.push (aG 0 nl nl nl)).V]?=J [Xz,Yz]:=by rw[<-j];exact aQ _ _
 have l1:aF af Gt d 25 (.ptr (.box (F (h.push (aG 0 nl nl nl)).V)) 0)=J (.agg [Xz,Yz]):=ul t1;have s2:bU af d 27 (.ptr (.box (F h.V)) 0) (.agg (aG 0 Xz Yz e))=J (d.put (F h.V) (aG 0 Xz Yz e)):=by rw[e7 (off:=0) o sF t0 O (aT 4)];rfl
 have l2:aF af Gt (d.put (F h.V) (aG 0 Xz Yz e)) 27 (.ptr (.box (F h.V)) 0)=J (.agg (aG 0 Xz Yz e)):=by rw[gt cD sF (dy (aU.1 t0).1) (kj O)];rfl
 clear t0 t1 w A n f p q g;unfold Yz at *
 generalize Xz=X at *
 generalize aG 0 X (.ac .aK 1 (ay [1,2])) e=K at *
 generalize aG 0 nl nl nl=E at *
 unfold im at *
 refine cq O func27 O ?_;refine br @ard ?_;exact⟨_,_,O,O⟩
def LG:List bk:=LF++[20,29,27]
noncomputable def Ri:bk->Option (List I->am->Option (I × am)):=mN SF LG
noncomputable abbrev SG:=whole af Gt Ri
def Aa:nG Ri LG:=t_
def Cc(c:cd SF g a y)(d:LG.contains g=aa):cd SG g a y:=c.up (L:=LG) d
def NJ(c:cd SC g a y)(d:LD.contains g=aa)(e:LE.contains g=aa)(f:LF.contains g=aa)(j:LG.contains g=aa):cd SG g a y:=Cc (yc ((c.mix (L:=LD) d).mix (L:=LE) e) f) j
def ahR(c:cd SD g a y)(d:LE.contains g=aa)(e:LF.contains g=aa)(f:LG.contains g=aa):cd SG g a y:=Cc (yc (c.mix (L:=LE) d) e) f
def Vv(c:cd SB g a y)(d:LC.contains g=aa)(e:LD.contains g=aa)(f:LE.contains g=aa)(j:LF.contains g=aa)(m:LG.contains g=aa):cd SG g a y:=NJ (c.mix (L:=LC) d) e f j m
def E6(c:cd W8 g a y)(d:LA.contains g=aa)(e:LB.contains g=aa)(f:LC.contains g=aa)(j:LD.contains g=aa)(m:LE.contains g=aa)(n:LF.contains g=aa)(o:LG.contains g=aa):cd SG g a y:=Cc (E4 c d e f j m n) o
def aoP{a}:ly (jn c a):=by
 unfold jn;split
 .exact⟨λ_ _ h=>by cases h;rfl,λ_ _ h=>by cases h;rfl⟩
 .exact Z2
section
variable {c:Ce} {a a2:CA}
def Fl(f:c_ c a)(e:dJ a)(d:c.Fit):cd SG 11 [.agg (aG c.ep a.X a.Y a.C),.agg (bQ c.doc a.p a.r a.n),a.W] (.tuple [.agg (aA (jR c) (jn c a)),im c.ej]):=NJ (Y5 f e d) O O O rfl
def aj3(f:c_ c a)(e:dJ a)(d:c.Fit):cd SG 12 [.agg (aG c.ep a.X a.Y a.C),.agg (bQ c.doc a.p a.r a.n),a.W] (.tuple [.agg (aA (jR c) (jn c a)),im c.ej]):=NJ (am7 f e d) O O O rfl
def Wy(f:c_ c a)(e:dJ a)(d:c.Fit):cd SG 14 [.agg (aA c a)] (im (gE c)):=ahR (Y1 f e d) O O rfl
def Fm(m:c_ c a)(g:dJ a)(q:ly a)(n:c.Fit)(j:F c.bH<1000000)(p:Pr):∃d,c_ (ma c p) d/\dJ d/\ly d/\cd SG 16 [.agg (aA c a),.agg (bm p)] (.tuple [.agg (aA (ma c p) d),im (mD c p).1]):=by
 obtain⟨d,e,f,o,r⟩:=am1 m g q n j p;refine⟨d,e,f,o,Cc (yc (cd.Bg (L:=LE) (r ⟨[],[],0,[]⟩) O (by simp only[bA,av,vi g,Rb]) (by simp only[aJ,aI,qi m g];rfl) ?_ ?_) O) O⟩
 .simp only[ea,ja,ND e f];rfl
 .simp[aI,aJ,qi e f,im]
def I0(m:c_ c a)(g:dJ a)(q:ly a)(n:c.Fit)(j:F c.aS<1000000)(p:Int × Int):∃d,c_ (oe c p) d/\dJ d/\ly d/\cd SG 18 [.agg (aA c a),.agg (bN p)] (.tuple [.agg (aA (oe c p) d),im (mY c p).1]):=by
 obtain⟨d,e,f,o,r⟩:=am2 m g q n j p;refine⟨d,e,f,o,Cc (yc (cd.Bg (L:=LE) (r ⟨[],[],0,[]⟩) O (by simp only[bA,av,vi g];rfl) (by simp only[aJ,aI,qi m g];rfl) ?_ ?_) O) O⟩
 .simp only[ea,ja,ND e f];rfl
 .simp[aI,aJ,qi e f,im]
def ajW(e:c_ c a)(d:dJ a)(f:c.Fit)(g:gE c≠0∨F c.aS<F c.ak):cd SG 20 [.agg (aA c a)] (.tuple [.agg [im 0,im 0],.ac .nil 0 [],(ar:I),im (gE c)]):=by obtain⟨_,_,j,rfl⟩:=aiH ⟨[],[],0,[]⟩ e d f g;exact cd.new (L:=LG) j O (by simp only[bA,av,vi d]) (by simp only[aJ,aI,qi e d];rfl) O rfl
def Wz(j:c_ c a)(f:dJ a)(o:c.Fit)(p:gE c=0)(r:¬F c.aS<F c.ak)(g:F (cr (eY c.doc))<=1000000)(q:gL c.doc=aa){n e:Int}
 (d:jh c.U c.ae c.ep c.aH (cr (eY c.doc)) c.bH (c.aS.map iO)=((m,n),aa,e)):cd SG 20 [.agg (aA c a)] (.tuple [.agg [im m,im n],.ac .nil 0 [],(aa:I),im 0]):=by
 obtain⟨_,_,u,rfl⟩:=aiI ⟨[],[],0,[]⟩ j f o p r g q (by rw[d]);rw[d]at u;exact cd.new (L:=LG) u O (by simp only[bA,av,vi f]) (by simp only[aJ,aI,qi j f];rfl) O rfl
def Cx(k d f):cd SG 29 [im k,im d,im f] (.agg (bm (nw k d f))):=by obtain⟨_,_,e,rfl⟩:=aoS ⟨[],[],0,[]⟩ k d f;exact cd.new (L:=LG) e O O O O rfl
def WA(m:c_ c a)(d:dJ a)(f:c.Fit)(e:gL c.doc=aa):∃T,BL T (cr (eY c.doc))/\av T=T/\cd SG 28 [.agg (bQ c.doc a.p a.r a.n)] (.tuple [T,im 0]):=by obtain⟨T,g,j,n⟩:=P' m.d f.2.2.2.1;rw[d.p,d.r,d.n,aC e]at n;exact⟨T,g e,j,Vv n O O O O O⟩
end
def aj4:∃j m,SL j [(0,12),(1,19)]/\IL m Cz/\av j=j/\av m=m/\cd SG 27 [] (.tuple [.agg (aG 0 Xz Yz m),j]):=by
 obtain⟨j,m,d,e,f,g,_,_,q,rfl⟩:=axd ⟨[],[],0,[]⟩;refine⟨j,m,d,e,f,g,cd.new (L:=LG) q O O O ?_ ?_⟩
 .obtain⟨k,s,o,-⟩:=d;obtain⟨p,r,n,-⟩:=e;simp only[ea,ja,aG,r_ o f,r_ n g,r_ (show Xz=.ac .aK 1 _ from O) FH,r_ (show Yz=.ac .aK 1 _ from O) FI]
 .obtain⟨-,f1⟩:=d.hold;obtain⟨-,f2⟩:=e.hold;obtain⟨-,f3⟩:=zr.iE;obtain⟨-,f4⟩:=yJ.hold;rw[f]at f1;rw[g]at f2;rw[FH]at f3;rw[FI]at f4;simp[aI,aJ,aG,f1,f2,f3,f4]
def abQ(k):tK k k=aa:=by cases k<;>simp[tK]
def Ll:∀a b:List I,gJ a a=aa->gJ b b=aa->gJ (a++b) (a++b)=aa
 | [],b,_,e=>e
 |x::a,b,d,e=>by simp only[gJ,bR]at d;rw[fw,gJ,d.1,Ll a b d.2 e];rfl
def abR:∀l:List UInt8,gJ (l.map jc) (l.map jc)=aa
 | []=>rfl
 |x::l=>by rw[dK,gJ,abR l];simp[df,ip,jc]
def abM(p):gJ (bm p) (bm p)=aa:=by simp[gJ,df,ip,bm]
def auL(p):gJ (bN p) (bN p)=aa:=by simp[gJ,df,ip,bN]
def abN:∀l:List Pr,nB (cU l) (cU l)=aa
 | []=>rfl
 |x::l=>by show(gJ (bm x) (bm x)&&nB (cU l) (cU l))=aa;rw[abM,abN l];rfl
def abP:∀l:List (Int × Int),nB (bD l) (bD l)=aa
 | []=>rfl
 |x::l=>by show(gJ (bN x) (bN x)&&nB (bD l) (bD l))=aa;rw[auL,abP l];rfl
def PL.same{l}(h:PL x l):df x x=aa:=by obtain⟨k,s,rfl,-⟩:=h;simp[df,abQ,abN]
def SL.same(h:SL x l):df x x=aa:=by obtain⟨k,s,rfl,-⟩:=h;simp[df,abQ,abP]
def R9{a}(d:c_ c a):df (.agg (aA c a)) (.agg (aA c a))=aa:=by
 rw[df];unfold aA bQ;refine Ll _ _ (Ll _ _ ?_ (Ll _ _ ?_ (abR _))) ?_
 .simp[aG,gJ,df,ip,d.x.same,d.y.same,d.cm.same]
 .simp[gJ,df,ip,im,d.d.p.same,d.d.r.same,d.d.n.same]
 .simp[gJ,d.w.same,d.pa.same,d.z.same]
def cw(w:List Int)(d:Dc):Ce:=⟨Rz,Oz,0,Cz,d,w,[],[]⟩
def aw(d W:I):CA:=⟨Xz,Yz,d,nl,nl,nl,W,nl,nl⟩
def A5:IL nl []:=⟨.nil,0,O,λd=>absurd O d⟩
def Kk{o}{w}(m:IL o Cz)(n:IL y w)(e:d.pa=[])(f:d.rv=[])(g:d.nd=[])(j:F d.tx=32):c_ (cw w d) (aw o y):=
 ⟨zr,yJ,m,⟨by rw[show(cw w d).doc.pa=[] from e];exact A5,by rw[show(cw w d).doc.rv=[] from f];exact A5,by rw[show(cw w d).doc.nd=[] from g];exact A5,j⟩,n,hh.pa,hh.z⟩
def OU{d}(e:av d=d)(f:av y=y):dJ (aw d y):=⟨FH,FI,e,O,O,O,f,O,O⟩
def Z6{d}:ly (aw d y):=⟨λ_ _ h=>by cases h;rfl,λ_ _ h=>by cases h;rfl⟩
def N4{w}(f:F w<=1000000)(e:d.pQ):(cw w d).Fit:=⟨by show F Rz<=_;decide,by show F Cz<=_;decide,f,e,by show(F ([]:List Pr))<=_;decide,by show(F ([]:List (Int × Int)))<=_;decide⟩
def NH:jM.pQ:=⟨aZ,by decide,by decide⟩
def Vr:d0.pQ:=⟨aZ,by decide,by decide⟩
def sW{l}(d:F l<=1000000)(e:F z<=1000000):(cz l z).Fit:=⟨by show F Rz<=_;decide,by show F Cz<=_;decide,by show(F ([1,2]:List Int))<=_;decide,NH,d,e⟩
def ajn:c0.Fit:=⟨aZ,by decide,by decide,Vr,by decide,by decide⟩
def QG{a}{e}(h:c.ej=e)(d:e≠0):jR c=c0/\jn c a=a0:=by unfold jR jn;rw[aL (by rw[h];exact d),aL (by rw[h];exact d)];exact⟨O,O⟩
def aoM{a}(h:c.ej=0):jR c={c with bH:=[],aS:=[]}/\jn c a={a with Pa:=nl,Z:=nl}:=by unfold jR jn;rw[aC h,aC h];exact⟨O,O⟩
def Po(l):av (.ac .aK 1 (ay l))=.ac .aK 1 (ay l):=by simp only[av,ta];rfl
def ax9:(fY af 31).bind I.bL=J (bQ d0 nl nl nl):=by kernel_rfl
def afD:iK af 31 [(0,im 3),(5,im 9)]=J (.agg (bQ jM nl nl nl)):=by kernel_rfl
def afC:iK af 31 []=J (.agg (bQ d0 nl nl nl)):=by kernel_rfl
def awG:cN af 31=J 41:=by kernel_rfl
def afG(k):iK af 48 [(0,im k)]=J (.agg (bN (k,0))):=by kernel_rfl
def Uz(k z):iK af 48 [(0,im k),(1,im z)]=J (.agg (bN (k,z))):=by kernel_rfl
def avt(k)(a b):gV af 72 (.ac k 2 (bD [a,b])) ao (J (.v (.int .i64 1))) ao=J (.ac (qX k ar ar 1) 2 (bD [a])):=by kernel_rfl
def avu(k)(a b):gV af 72 (.ac k 2 (bD [a,b])) (J (.v (.int .i64 1))) ao ao=J (.ac (qX k aa ar 1) 2 (bD [b])):=by kernel_rfl
def sC(e:F D=48)(d:(I.agg D).bL=J D):bU af (H.push (aA c0 a0)) 35 (.ptr (.box (F H.V)) 0) (.agg D)=J (H.push D):=by rw[rz hh.len e d (aQ _ _),mF]
def uB:Tryz.f8.results.toList=[.tmp 0]:=by kernel_rfl
def aor{e}(o:IL e Cz)(j:av e=e)(n:BL T vX)(g:av T=T)(t)(s)(k d f):∀h,SG.call 30 [.agg (aG 0 Xz Yz e),T,.ac .aK 4 (cU [eG,dB]),im k,.ac t 2 (bD [s]),im d,im f] h=J (.ret (.tuple [im (nx Rz Oz 0 Cz vX [eG,dB] k [s] d f).1,im (nx Rz Oz 0 Cz vX [eG,dB] k [s] d f).2]),h):=by have m:PL (.ac .aK 4 (cU [eG,dB])) [eG,dB]:=⟨_,_,O,λ_=>rfl⟩;have p:cd SF 30 _ _:=E4 (Y4 (ep:=0) zr yJ o n m (⟨t,2,O,λ_=>rfl⟩:SL (.ac t 2 (bD [s])) [s]) aZ aZ cB k d f) O O O O O O;refine cd.use (L:=LG) p O ?_;simp only[bA,av,JB,aG,FH,FI,j,g];rfl
def ZT20{p:Prop}(h:p:=by
 simp only[js]at hz;subst hz;refine mI (x:=.ptr (.box (F f.V)) 0) (v:=.agg D7) cD O O O cD (sY) ?_ ?_<;>(simp only[fe,eE];exact f_ @uB @and_self)):p:=h
def auM(h:am):∃r h',SG.call 8 [] h=J (r,h')/\r=.ret (aa:I):=by
 obtain⟨z4,R,hU,hV,eU,eV,q27⟩:=aj4;have c27:=q27.call;have i1:IL (.ac .aK 1 (ay [1])) [1]:=⟨_,_,O,λ_=>rfl⟩;have i2:IL (.ac .aK 1 (ay [2,1])) [2,1]:=⟨_,_,O,λ_=>rfl⟩;have i3:IL (.ac .aK 1 (ay [1,2])) [1,2]:=⟨_,_,O,λ_=>rfl⟩;have o1:=Kk (d:=jM) hV i1 O O O O;have o2:=Kk (d:=jM) hV i2 O O O O;have o3:=Kk (d:=d0) hV i3 O O O O;have u:c_ (cz [] []) (aw R (.ac .aK 1 (ay [1,2]))):=Kk (d:=jM) hV i3 O O O O;have e1:=OU eV (Po [1]);have B:=OU eV (Po [2,1]);have g:=OU eV (Po [1,2]);have n1:∀h,SG.call 11 [.agg (aG 0 Xz Yz R),.agg (bQ jM nl nl nl),.ac .aK 1 (ay [1])] h=J (.ret (.tuple [.agg (aA c0 a0),im 440]),h):=by have m:=(Fl o1 e1 (N4 aZ NH)).call;obtain⟨f1,f2⟩:=QG (c:=cw [1] jM) (a:=aw R (.ac .aK 1 (ay [1]))) zn1 aZ;rw[f1,f2,show(cw [1] jM).ej=440 from zn1]at m;exact m
 have n2:∀h,SG.call 11 [.agg (aG 0 Xz Yz R),.agg (bQ jM nl nl nl),.ac .aK 1 (ay [2,1])] h=J (.ret (.tuple [.agg (aA c0 a0),im 1]),h):=by have m:=(Fl o2 B (N4 aZ NH)).call;obtain⟨f1,f2⟩:=QG (c:=cw [2,1] jM) (a:=aw R (.ac .aK 1 (ay [2,1]))) zn2 aZ;rw[f1,f2,show(cw [2,1] jM).ej=1 from zn2]at m;exact m
 have n3:∀h,SG.call 11 [.agg (aG 0 Xz Yz R),.agg (bQ d0 nl nl nl),.ac .aK 1 (ay [1,2])] h=J (.ret (.tuple [.agg (aA c0 a0),im 170]),h):=by have m:=(Fl o3 g (N4 aZ Vr)).call;obtain⟨f1,f2⟩:=QG (c:=cw [1,2] d0) (a:=aw R (.ac .aK 1 (ay [1,2]))) zn3 aZ;rw[f1,f2,show(cw [1,2] d0).ej=170 from zn3]at m;exact m
 have n4:∀h,SG.call 11 [.agg (aG 0 Xz Yz R),.agg (bQ jM nl nl nl),.ac .aK 1 (ay [1,2])] h=J (.ret (.tuple [.agg (aA (cz [] []) (aw R (.ac .aK 1 (ay [1,2])))),im 0]),h):=by have m:=(Fl u g (sW aZ aZ)).call;obtain⟨f1,f2⟩:=aoM (c:=cz [] []) (a:=aw R (.ac .aK 1 (ay [1,2]))) zn4;rw[f1,f2,show(cz [] []).ej=0 from zn4]at m;exact m
 obtain⟨a5,o5,-,-,q5⟩:=I0 u g Z6 (sW aZ aZ) aZ (1,0);have p5:oe (cz [] []) (1,0)=c0:=by unfold oe;rw[zp0];rfl
 rw[p5]at o5 q5;rw[zp0]at q5;have c5:=q5.call;have c6:=(ajW u g (sW aZ aZ) (.inr aZ)).call;rw[zc1]at c6;have c7:=(Wy hh FG ajn).call;rw[zc0]at c7;have c8:=(Wy u g (sW aZ aZ)).call;rw[zc1]at c8;obtain⟨T,hT,eT,q9⟩:∃T,BL T vX/\av T=T/\cd SG 28 [.agg (bQ jM nl nl nl)] (.tuple [T,im 0]):=WA u g (sW aZ aZ) zd1;have c9:=q9.call;have m1:∀h,SG.call 29 [im 1,im 100,im 101] h=J (.ret (.agg (bm eG)),h):=(Cx 1 100 101).call;have m2:∀h,SG.call 29 [im 2,im 102,im 103] h=J (.ret (.agg (bm dB)),h):=(Cx 2 102 103).call;have m3:=(Cx 2 1 2).call;have m4:=(Cx 3 1 2).call;obtain⟨a6,o6,h6,l6,qp1⟩:=Fm u g Z6 (sW aZ aZ) aZ dB;have p6:ma (cz [] []) dB=cz [dB] []:=by unfold ma;rw[zp1];rfl
 rw[p6]at o6 qp1;rw[zp1]at qp1;have c10:=qp1.call;obtain⟨a7,E,h7,l7,qp2⟩:=Fm o6 h6 l6 (sW aZ aZ) (by show(F ([dB]:List Pr))<_;decide) eG;have p7:ma (cz [dB] []) eG=cz [eG,dB] []:=by unfold ma;rw[zp2];rfl
 rw[p7]at E qp2;rw[zp2]at qp2;have Ir:=qp2.call;obtain⟨a8,o8,-,-,qp3⟩:=Fm E h7 l7 (sW aZ aZ) (by show(F ([eG,dB]:List Pr))<_;decide) (nw 2 1 2);rw[zp3]at qp3;have c12:=qp3.call;obtain⟨a9,o9,-,-,qp4⟩:=Fm E h7 l7 (sW aZ aZ) (by show(F ([eG,dB]:List Pr))<_;decide) (nw 3 1 2);rw[zp4]at qp4;have UY:=qp4.call;obtain⟨kU,sU,rfl,JM⟩:=hU;have JM:=JM cB;subst JM;have hL:PL (.ac .aK 4 (cU [eG,dB])) [eG,dB]:=⟨_,_,O,λ_=>rfl⟩;have yp:av (.ac .aK 4 (cU [eG,dB]))=.ac .aK 4 (cU [eG,dB]):=by simp only[av,JB];rfl
 have mk:=λ(t:Tok) (s:Int × Int) (k z1 z2:Int)=>aor hV eV hT eT t s k z1 z2;have c14:=mk (qX kU ar ar 1) (0,12) 1 100 101;have c15:=mk (qX kU aa ar 1) (1,19) 2 102 103;rw[zm1]at c14;rw[zm2]at c15;obtain⟨a10,o10,WG,J5,qp5⟩:=I0 E h7 l7 (sW aZ aZ) aZ (2,bz);have p10:oe (cz [eG,dB] []) (2,bz)=cz [eG,dB] [(2,bz)]:=by unfold oe;rw[zq1];rfl
 rw[p10]at o10 qp5;rw[zq1]at qp5;have c16:=qp5.call;obtain⟨a11,o11,WH,Y',qp6⟩:=I0 o10 WG J5 (sW aZ aZ) (by show(F ([(2,bz)]:List (Int × Int)))<_;decide) (1,az);have p11:oe (cz [eG,dB] [(2,bz)]) (1,az)=cz [eG,dB] [(1,az),(2,bz)]:=by unfold oe;rw[zq2];rfl
 rw[p11]at o11 qp6;rw[zq2]at qp6;have c17:=qp6.call;have c18:=(Wz o11 WH (sW aZ aZ) zc5 aZ ztl zd1 zk).call;have qv:=E6 (Y8 hT ztl (ah Cz 0) ez xv) O O O O O O O;rw[eT,show nE (ah Cz 0) vX ez xv=aa from zv]at qv;have c19:=qv.call;have W9:SL (.ac kU 2 (bD [(0,12),(1,19)])) [(0,12),(1,19)]:=⟨kU,2,O,λ_=>rfl⟩;have lnU:dp af 72 (.ac kU 2 (bD [(0,12),(1,19)]))=J (.v (.int .i64 2)):=W9.dp;have lnN:dp af 23 (.ac .nil 0 [])=J (.v (.int .i64 0)):=A5.dp;have lnV:dp af 23 R=J (.v (.int .i64 2)):=hV.dp;have lnW:dp af 23 (.ac .aK 1 (ay [1,2]))=J (.v (.int .i64 2)):=i3.dp;have ixV:dM af 23 R (.v (.int .i64 0))=J (.elem 1 (ay Cz) 0 0):=hV.ix (i:=0) aZ;have ldV:∀H:am,aF af Gt H 3 (.elem 1 (ay Cz) 0 0)=J ((ah Cz 0:Int):I):=λH=>ev aZ;have ixP0:dM af 32 (.ac .aK 4 (cU [eG,dB])) (.v (.int .i64 0))=J (.elem 4 (cU [eG,dB]) 0 0):=hL.ix (i:=0) aZ;have ixP1:dM af 32 (.ac .aK 4 (cU [eG,dB])) (.v (.int .i64 1))=J (.elem 4 (cU [eG,dB]) 1 0):=hL.ix (i:=1) aZ;have ldP0:∀H:am,aF af Gt H 46 (.elem 4 (cU [eG,dB]) 0 0)=J (.agg (bm eG)):=λH=>vI O;have ldP1:∀H:am,aF af Gt H 46 (.elem 4 (cU [eG,dB]) 1 0)=J (.agg (bm dB)):=λH=>vI O;have sl1:=avt kU (0,12) (1,19);have sl2:=avu kU (0,12) (1,19);have bp:=agj eG dB;have bz1:=afG 1;have bz2:=Uz 2 bz;have bz3:=Uz 1 az;have bo:=UJ 1;have bo2:=Ip 1 2;have bo3:=Ip 2 1;have bdz:=afD;have bde:=afC;have be:=acV;have z27:=LS;have z31:=ax9;have z35:=uK;have z52:=Hu;have f27:=λb=>mR (b:=b);have f35:=vm;have sD:=R9 u;have sP:=abM dB;have sP2:df (.agg (bm dB)) (.agg (bm dB))=aa:=by rw[df];exact sP
 have sY:=R9 E;have kcell:(I.agg (aG 0 Xz Yz R)).bL=J (aG 0 Xz Yz R):=mV zr yJ hV;have dcell:(I.agg (bQ jM nl nl nl)).bL=J (bQ jM nl nl nl):=o1.d.cells;obtain⟨H0,uc⟩:∃H,h.push (aG 0 Xz Yz R)=H:=⟨_,O⟩;obtain⟨H1,qn⟩:∃H,H0.push (bQ jM nl nl nl)=H:=⟨_,O⟩;obtain⟨H2,wI⟩:∃H,H1.push (aA c0 a0)=H:=⟨_,O⟩;obtain⟨H3,yo⟩:∃H,H2.push (aA c0 a0)=H:=⟨_,O⟩;obtain⟨H4,As⟩:∃H,H3.push (aA c0 a0)=H:=⟨_,O⟩;obtain⟨H5,wJ⟩:∃H,H4.push (aA (cz [] []) (aw R (.ac .aK 1 (ay [1,2]))))=H:=⟨_,O⟩;obtain⟨H6,CC⟩:∃H,H5.push (aA c0 a5)=H:=⟨_,O⟩;obtain⟨f,Fs⟩:∃H,H6.push [im 0,im 0]=H:=⟨_,O⟩;obtain⟨H8,Ft⟩:∃H,f.push (aA (cz [dB] []) a6)=H:=⟨_,O⟩;obtain⟨H9,Fu⟩:∃H,H8.put (F f.V) (aA (cz [eG,dB] []) a7)=H:=⟨_,O⟩;obtain⟨H10,D⟩:∃H,H9.push (aA (ma (cz [eG,dB] []) (nw 2 1 2)) a8)=H:=⟨_,O⟩;obtain⟨n,I7⟩:∃H,H10.push (aA (ma (cz [eG,dB] []) (nw 3 1 2)) a9)=H:=⟨_,O⟩;obtain⟨H12,Fp⟩:∃H,n.push (aA (cz [eG,dB] [(2,bz)]) a10)=H:=⟨_,O⟩;obtain⟨G,I8⟩:∃H,H12.put (F n.V) (aA (cz [eG,dB] [(1,az),(2,bz)]) a11)=H:=⟨_,O⟩;obtain⟨H14,I9⟩:∃H,G.push [im ez,im xv]=H:=⟨_,O⟩;have s0:bU af (h.push (aG 0 nl nl nl)) 27 (.ptr (.box (F h.V)) 0) (.agg (aG 0 Xz Yz R))=J H0:=by rw[<-uc];exact jC kcell sF O O
 have s1:bU af (H0.push (bQ d0 nl nl nl)) 31 (.ptr (.box (F H0.V)) 0) (.agg (bQ jM nl nl nl))=J H1:=by rw[<-qn];exact jC dcell awG O O
 have s2:bU af (H1.push (aA c0 a0)) 35 (.ptr (.box (F H1.V)) 0) (.agg (aA c0 a0))=J H2:=by rw[<-wI];exact sC hh.len hh.cells
 have s3:bU af (H2.push (aA c0 a0)) 35 (.ptr (.box (F H2.V)) 0) (.agg (aA c0 a0))=J H3:=by rw[<-yo];exact sC hh.len hh.cells
 have s4:bU af (H3.push (aA c0 a0)) 35 (.ptr (.box (F H3.V)) 0) (.agg (aA c0 a0))=J H4:=by rw[<-As];exact sC hh.len hh.cells
 have s5:bU af (H4.push (aA c0 a0)) 35 (.ptr (.box (F H4.V)) 0) (.agg (aA (cz [] []) (aw R (.ac .aK 1 (ay [1,2])))))=J H5:=by rw[<-wJ];exact sC u.len u.cells
 have s6:bU af (H5.push (aA c0 a0)) 35 (.ptr (.box (F H5.V)) 0) (.agg (aA c0 a5))=J H6:=by rw[<-CC];exact sC o5.len o5.cells
 have s7:bU af (H6.push [im 0,im 0]) 52 (.ptr (.box (F H6.V)) 0) (.agg [im 0,im 0])=J f:=by rw[<-Fs];exact jC O Hh O O
 have s8:bU af (f.push (aA c0 a0)) 35 (.ptr (.box (F f.V)) 0) (.agg (aA (cz [dB] []) a6))=J H8:=by rw[<-Ft];exact sC o6.len o6.cells
 have t8:H8.V[F f.V]?=J (aA (cz [dB] []) a6):=by rw[<-Ft];exact aQ _ _
 have s9:bU af H8 35 (.ptr (.box (F f.V)) 0) (.agg (aA (cz [eG,dB] []) a7))=J H9:=by rw[<-Fu];exact rz o6.len E.len E.cells t8
 have s10:bU af (H9.push (aA c0 a0)) 35 (.ptr (.box (F H9.V)) 0) (.agg (aA (ma (cz [eG,dB] []) (nw 2 1 2)) a8))=J H10:=by rw[<-D];exact sC o8.len o8.cells
 have s11:bU af (H10.push (aA c0 a0)) 35 (.ptr (.box (F H10.V)) 0) (.agg (aA (ma (cz [eG,dB] []) (nw 3 1 2)) a9))=J n:=by rw[<-I7];exact sC o9.len o9.cells
 have s12:bU af (n.push (aA c0 a0)) 35 (.ptr (.box (F n.V)) 0) (.agg (aA (cz [eG,dB] [(2,bz)]) a10))=J H12:=by rw[<-Fp];exact sC o10.len o10.cells
 have t12:H12.V[F n.V]?=J (aA (cz [eG,dB] [(2,bz)]) a10):=by rw[<-Fp];exact aQ _ _
 have s13:bU af H12 35 (.ptr (.box (F n.V)) 0) (.agg (aA (cz [eG,dB] [(1,az),(2,bz)]) a11))=J G:=by rw[<-I8];exact rz o10.len o11.len o11.cells t12
 have s14:bU af (G.push [im 0,im 0]) 52 (.ptr (.box (F G.V)) 0) (.agg [im ez,im xv])=J H14:=by rw[<-I9];exact jC O Hh O O
 have n0:F H0.V=F h.V+1:=by rw[<-uc,bP]
 have n1':F H1.V=F h.V+2:=by rw[<-qn,bP,n0]
 have n2':F H2.V=F h.V+3:=by rw[<-wI,bP,n1']
 have n3':F H3.V=F h.V+4:=by rw[<-yo,bP,n2']
 have n4':F H4.V=F h.V+5:=by rw[<-As,bP,n3']
 have n5':F H5.V=F h.V+6:=by rw[<-wJ,bP,n4']
 have n6':F H6.V=F h.V+7:=by rw[<-CC,bP,n5']
 have n7':F f.V=F h.V+8:=by rw[<-Fs,bP,n6']
 have n8':F H8.V=F h.V+9:=by rw[<-Ft,bP,n7']
 have n9':F H9.V=F h.V+9:=by rw[<-Fu,jA,n8']
 have n11':F n.V=F h.V+11:=by rw[<-I7,bP,<-D,bP,n9']
 have up:∀{z0:am} {b:Nat} {d cs2:List I},z0.V[b]?=J d->(z0.push cs2).V[b]?=J d:=λm=>aP m;have r1:∀{b:Nat} {d:List I},H1.V[b]?=J d->H4.V[b]?=J d:=λm=>by rw[<-As,<-yo,<-wI];exact up (up (up m))
 have r4:∀{b:Nat} {d:List I},H4.V[b]?=J d->f.V[b]?=J d:=λm=>by rw[<-Fs,<-CC,<-wJ];exact up (up (up m))
 have r7:∀{b:Nat} {d:List I},f.V[b]?=J d->H9.V[b]?=J d:=λ{b d} m=>by have:=(aU.1 m).1;rw[<-Fu,cG ag,<-Ft];exact up m
 have r9:∀{b:Nat} {d:List I},H9.V[b]?=J d->n.V[b]?=J d:=λm=>by rw[<-I7,<-D];exact up (up m)
 have r11:∀{b:Nat} {d:List I},n.V[b]?=J d->H14.V[b]?=J d:=λ{b d} m=>by have:=(aU.1 m).1;rw[<-I9];refine up ?_;rw[<-I8,cG ag,<-Fp];exact up m
 have tk:H1.V[F h.V]?=J (aG 0 Xz Yz R):=by rw[<-qn,<-uc];exact up (aQ _ _)
 have td:H1.V[F H0.V]?=J (bQ jM nl nl nl):=by rw[<-qn];exact aQ _ _
 have tc:H5.V[F H4.V]?=J (aA (cz [] []) (aw R (.ac .aK 1 (ay [1,2])))):=by rw[<-wJ];exact aQ _ _
 have r5:∀{b:Nat} {d:List I},H5.V[b]?=J d->f.V[b]?=J d:=λm=>by rw[<-Fs,<-CC];exact up (up m)
 have lk:∀{z0:am},z0.V[F h.V]?=J (aG 0 Xz Yz R)->aF af Gt z0 27 (.ptr (.box (F h.V)) 0)=J (.agg (aG 0 Xz Yz R)):=λm=>by rw[gt cD sF m (kj O)];rfl
 have lc:∀{z0:am},z0.V[F h.V]?=J (aG 0 Xz Yz R)->aF af Gt z0 23 (.ptr (.box (F h.V)) 3)=J R:=λm=>by rw[fI kC m];rfl
 have A:∀{b:Nat} {d:List I},H1.V[b]?=J d->H2.V[b]?=J d:=λm=>by rw[<-wI];exact up m
 have e0b:∀{b:Nat} {d:List I},H2.V[b]?=J d->H3.V[b]?=J d:=λm=>by rw[<-yo];exact up m
 have e0c:∀{b:Nat} {d:List I},H5.V[b]?=J d->H6.V[b]?=J d:=λm=>by rw[<-CC];exact up m
 have g1:=lk tk;have g2:=lk (A tk);have g3:=lk (e0b (A tk));have g4:=lk (r1 tk);have g5:=lk (r9 (r7 (r4 (r1 tk))));have g6:=lc (r4 (r1 tk));have g7:=lc (r11 (r9 (r7 (r4 (r1 tk)))));have I6:F (bQ jM nl nl nl)=41:=o1.d.len;have d1:=yM I6 td;have d2:=yM I6 (A td);have d4:=yM I6 (r1 td);have d5:=yM I6 (r4 (r1 td));have x1:=jy u.len tc;have x2:=jy u.len (e0c tc);have x3:=jy u.len (r5 tc);have x3w:aF af Gt f 23 (.ptr (.box (F H4.V)) 45)=J (.ac .aK 1 (ay [1,2])):=(mW u (r5 tc)).2.2.1;have y1:=jy o6.len t8;have t9:H9.V[F f.V]?=J (aA (cz [eG,dB] []) a7):=by rw[<-Fu];exact dy ag
 have y2:=jy E.len t9;have y3:=jy E.len (by rw[<-D];exact up t9:H10.V[F f.V]?=J (aA (cz [eG,dB] []) a7));have y4:=jy E.len (r9 t9);have y5:=jy o10.len t12;have x4:=jy u.len (up (cs2:=aA c0 a0) (r5 tc));have y7:=jy E.len (up (cs2:=aA c0 a0) t9);have y8:=jy E.len (up (cs2:=aA c0 a0) (by rw[<-D];exact up t9:H10.V[F f.V]?=J (aA (cz [eG,dB] []) a7)));have t13:G.V[F n.V]?=J (aA (cz [eG,dB] [(1,az),(2,bz)]) a11):=by rw[<-I8];exact dy (by rw[<-Fp,bP];omega)
 have y6:=jy o11.len t13;have vS:=wX (by rw[<-I9];exact aQ G [im ez,im xv]:H14.V[F G.V]?=J [im ez,im xv]);clear q27 i1 i2 i3 o1 o2 o3 u e1 B g q5 p5 o5 hT q9 o6 h6 l6 qp1 p6 E h7 l7 qp2 p7 o8 qp3 o9 qp4 hL yp mk o10 WG J5 qp5 p10 o11 WH Y' qp6 p11 qv W9 hV eU JM eT eV kcell dcell up r1 r4 r7 r9 r11 tk td tc r5 lk lc A e0b e0c t8 t9 t12 t13 n0 n1' n2' n3' n4' n5' n6' n7' n8' n9' n11' uc qn wI yo As wJ CC Fs Ft Fu D I7 Fp I8 I9;simp only at c5 c10 Ir c16 c17;generalize aG 0 Xz Yz R=K at *
 generalize aG 0 nl nl nl=K0 at *
 generalize bQ jM nl nl nl=z3 at *
 generalize bQ d0 nl nl nl=D0 at *
 generalize aA (cz [] []) (aw R (.ac .aK 1 (ay [1,2])))=DA at *
 generalize aA c0 a5=D5 at *
 generalize aA (cz [dB] []) a6=D6 at *
 generalize aA (cz [eG,dB] []) a7=D7 at *
 generalize aA (ma (cz [eG,dB] []) (nw 2 1 2)) a8=D8 at *
 generalize aA (ma (cz [eG,dB] []) (nw 3 1 2)) a9=D9 at *
 generalize aA (cz [eG,dB] [(2,bz)]) a10=D10 at *
 generalize aA (cz [eG,dB] [(1,az),(2,bz)]) a11=D11 at *
 generalize aA c0 a0=Z0 at *
 generalize bm eG=B1 at *
 generalize bm dB=B2 at *
 generalize bm (nw 2 1 2)=B3 at *
 generalize bm (nw 3 1 2)=B4 at *
 generalize cU [eG,dB]=PLz at *
 generalize bD [(0,12),(1,19)]=SU at *
 generalize bD [(0,12)]=SU1 at *
 generalize bD [(1,19)]=SU2 at *
 generalize bN (1,0)=R0 at *
 generalize bN (2,bz)=R2 at *
 generalize bN (1,az)=R1 at *
 generalize ay Cz=CzL at *
 generalize ah Cz 0=key at *
 generalize az=va at *
 generalize bz=vb at *
 generalize ez=ve at *
 generalize xv=vs at *
 unfold im at *
 refine cq O func8 O ?_;refine br @uB ?_;refine bJ.gen λA wL iD fA eg=>?_;have q0_0:A.get 0=ar:=by rw[wL];exact gS
 have q0_1:A.get 1=.ptr (.box (F h.V)) 0:=by rw[wL];exact gS
 have q0_2:A.get 2=.ac kU 2 SU:=by rw[wL];exact gS
 have q0_10:A.get 10=.ptr (.box (F H4.V)) 0:=by rw[wL];exact gS
 have q0_18:A.get 18=T:=by rw[wL];exact gS
 have q0_19:A.get 19=.v (.int .i64 0):=by rw[wL];exact gS
 have q0_20:A.get 20=.ac .aK 4 PLz:=by rw[wL];exact gS
 have q0_d:A.defers=[]:=by rw[iD];exact gS
 clear wL iD fA eg c27 n1 n2 n3 n4 c5 c6 c7 c8 c9 m1 m2 s0 s1 s2 s3 s4 s5 s6 s7 g1 g2 g3 g4 d1 d2 d4 d5 x1 x2 x3w bo bo2 bo3 bdz bde be z27 z31 lnN lnW lnU bp bz1 g6;refine jB [(0,8),(3,8)] Aa cD (λz hz=>?_) ?_
 .simp only[gX,rI,or_false]at hz;rcases hz with rfl|rfl
  .refine mI (x:=.ptr (.box (F H4.V)) 0) (v:=.agg DA) cD O O O cD (sD) ?_ ?_<;>(simp only[fe,eE];exact f_ @uB @and_self)
  .refine mI (x:=.elem 4 PLz 1 0) (v:=.agg B2) cD O O O cD (sP2) ?_ ?_<;>(simp only[fe,eE];exact f_ @uB @and_self)
 refine br @uB ?_;refine bJ.gen λe1 w i_ vA CZ=>?_;have q1_0:e1.get 0=ar:=by rw[w];exact gA
 have q1_1:e1.get 1=.ptr (.box (F h.V)) 0:=by rw[w];exact gA
 have q1_2:e1.get 2=.ac kU 2 SU:=by rw[w];exact gA
 have q1_18:e1.get 18=T:=by rw[w];exact gA
 have q1_19:e1.get 19=.v (.int .i64 0):=by rw[w];exact gA
 have q1_20:e1.get 20=.ac .aK 4 PLz:=by rw[w];exact gA
 have q1_21:e1.get 21=.ptr (.box (F f.V)) 0:=by rw[w];exact gA
 have q1_22:e1.get 22=.v (.int .i64 0):=by rw[w];exact gA
 have q1_d:e1.defers=[]:=by rw[i_];exact gA
 clear w i_ vA CZ q0_0 q0_1 q0_2 q0_10 q0_18 q0_19 q0_20 q0_d c10 s8 x3 x4 sD sP sP2 ixP1 ldP1;refine eI Aa cD ?_;refine br @uB ?_;refine bJ.gen λB q jV pq yD=>?_;have q2_0:B.get 0=ar:=by rw[q];exact gA
 have q2_1:B.get 1=.ptr (.box (F h.V)) 0:=by rw[q];exact gA
 have q2_2:B.get 2=.ac kU 2 SU:=by rw[q];exact gA
 have q2_18:B.get 18=T:=by rw[q];exact gA
 have q2_19:B.get 19=.v (.int .i64 0):=by rw[q];exact gA
 have q2_20:B.get 20=.ac .aK 4 PLz:=by rw[q];exact gA
 have q2_21:B.get 21=.ptr (.box (F f.V)) 0:=by rw[q];exact gA
 have q2_22:B.get 22=.v (.int .i64 0):=by rw[q];exact gA
 have q2_23:B.get 23=.v (.int .i64 0):=by rw[q];exact gA
 have q2_d:B.defers=[]:=by rw[jV];exact gA
 clear q jV pq yD q1_0 q1_1 q1_2 q1_18 q1_19 q1_20 q1_21 q1_22 q1_d Ir s9 y1 ixP0 ldP0;refine jB [(0,6)] Aa cD (λz hz=>?_) ?_
 .exact ZT20
 refine br @uB ?_;refine bJ.gen λg o rZ hp3 FT=>?_;have q3_0:g.get 0=ar:=by rw[o];exact gA
 have q3_1:g.get 1=.ptr (.box (F h.V)) 0:=by rw[o];exact gA
 have q3_2:g.get 2=.ac kU 2 SU:=by rw[o];exact gA
 have q3_18:g.get 18=T:=by rw[o];exact gA
 have q3_19:g.get 19=.v (.int .i64 0):=by rw[o];exact gA
 have q3_20:g.get 20=.ac .aK 4 PLz:=by rw[o];exact gA
 have q3_21:g.get 21=.ptr (.box (F f.V)) 0:=by rw[o];exact gA
 have q3_22:g.get 22=.v (.int .i64 0):=by rw[o];exact gA
 have q3_23:g.get 23=.v (.int .i64 0):=by rw[o];exact gA
 have q3_25:g.get 25=.v (.int .i64 151):=by rw[o];exact gA
 have q3_d:g.defers=[]:=by rw[rZ];exact gA
 clear o rZ hp3 FT q2_0 q2_1 q2_2 q2_18 q2_19 q2_20 q2_21 q2_22 q2_23 q2_d c12 m3 s10 y2 y7;refine jB [(0,6)] Aa cD (λz hz=>?_) ?_
 .exact ZT20
 refine br @uB ?_;refine bJ.gen λe4 j rb uf ug=>?_;have q4_0:e4.get 0=ar:=by rw[j];exact gA
 have q4_1:e4.get 1=.ptr (.box (F h.V)) 0:=by rw[j];exact gA
 have q4_2:e4.get 2=.ac kU 2 SU:=by rw[j];exact gA
 have q4_18:e4.get 18=T:=by rw[j];exact gA
 have q4_19:e4.get 19=.v (.int .i64 0):=by rw[j];exact gA
 have q4_20:e4.get 20=.ac .aK 4 PLz:=by rw[j];exact gA
 have q4_21:e4.get 21=.ptr (.box (F f.V)) 0:=by rw[j];exact gA
 have q4_22:e4.get 22=.v (.int .i64 0):=by rw[j];exact gA
 have q4_23:e4.get 23=.v (.int .i64 0):=by rw[j];exact gA
 have q4_25:e4.get 25=.v (.int .i64 151):=by rw[j];exact gA
 have q4_27:e4.get 27=.v (.int .i64 420):=by rw[j];exact gA
 have q4_d:e4.defers=[]:=by rw[rb];exact gA
 clear j rb uf ug q3_0 q3_1 q3_2 q3_18 q3_19 q3_20 q3_21 q3_22 q3_23 q3_25 q3_d UY m4 s11 y3 y8 sY;refine eI Aa cD ?_;refine br @uB ?_;refine eI Aa cD ?_;refine br @uB ?_;refine bJ.gen λp e FD Ps FU=>?_;have q5_0:p.get 0=ar:=by rw[e];exact gA
 have q5_1:p.get 1=.ptr (.box (F h.V)) 0:=by rw[e];exact gA
 have q5_18:p.get 18=T:=by rw[e];exact gA
 have q5_19:p.get 19=.v (.int .i64 0):=by rw[e];exact gA
 have q5_22:p.get 22=.v (.int .i64 0):=by rw[e];exact gA
 have q5_23:p.get 23=.v (.int .i64 0):=by rw[e];exact gA
 have q5_25:p.get 25=.v (.int .i64 151):=by rw[e];exact gA
 have q5_27:p.get 27=.v (.int .i64 420):=by rw[e];exact gA
 have q5_29:p.get 29=.v (.int .i64 0):=by rw[e];exact gA
 have q5_31:p.get 31=.v (.int .i64 0):=by rw[e];exact gA
 have q5_33:p.get 33=.v (.int .i64 0):=by rw[e];exact gA
 have q5_34:p.get 34=.v (.int .i64 0):=by rw[e];exact gA
 have q5_35:p.get 35=.ptr (.box (F G.V)) 0:=by rw[e];exact gA
 have q5_37:p.get 37=aa:=by rw[e];exact gA
 have q5_38:p.get 38=.v (.int .i64 0):=by rw[e];exact gA
 have q5_d:p.defers=[]:=by rw[FD];exact gA
 clear e FD Ps FU q4_0 q4_1 q4_2 q4_18 q4_19 q4_20 q4_21 q4_22 q4_23 q4_25 q4_27 q4_d c14 c15 c16 c17 c18 s12 s13 s14 y4 y5 y6 g5 sl1 sl2 bz2 bz3;refine eI Aa cD ?_;refine br @uB ?_;exact⟨_,_,O,O⟩
def LH:List bk:=LG++[8]
noncomputable def Rj:bk->Option (List I->am->Option (I × am)):=mN SG LH
noncomputable abbrev SH:=whole af Gt Rj
def x_:nG Rj LH:=t_
def qK{b}(c:cd SG g a y)(e:LH.contains g=aa)(d:bA b=a):∀h,SH.call g b h=J (.ret y,h):=cd.use (L:=LH) c e d
def auN:∀h,SH.call 8 [] h=J (.ret (aa:I),h):=by obtain⟨_,_,d,rfl⟩:=auM ⟨[],[],0,[]⟩;exact bX (L:=LH) O O O d O rfl
def hA(a:CA):CA:=⟨av a.X,av a.Y,av a.C,av a.p,av a.r,av a.n,av a.W,av a.Pa,av a.Z⟩
def I5(a):dJ (hA a):=⟨nr _,nr _,nr _,nr _,nr _,nr _,nr _,nr _,nr _⟩
section
variable {c:Ce} {a:CA}
def Om(d:c_ c a):c_ c (hA a):=⟨d.x.iE.1,d.y.hold.1,d.cm.hold.1,⟨d.d.p.hold.1,d.d.r.hold.1,d.d.n.hold.1,d.d.t⟩,d.w.hold.1,d.pa.iE.1,d.z.hold.1⟩
end
structure Tb(D:List I):Prop where
 len:D.length=48
 cells:(I.agg D).bL=J D
def Vf{a}(d:c_ c a):Tb (aA c a):=⟨d.len,d.cells⟩
section
variable {c:Ce} {a:CA}
end
def KB:Tryz.f136.results.toList=[.tmp 4]:=by kernel_rfl
def ajG:BE W8 202:=ajF.up rfl
def aqQ(h:am)(x y:I)(a b:List Int)(B:IL x a)(D:IL y b)(hl:F a<=1000000)(g:F a<=F b):
 ∃r h',W8.call 136 [x,y] h=J (r,h')/\h'=h/\r=.ret (im (lP a b)):=by
 obtain⟨k,s,rfl,n⟩:=B;obtain⟨G,u,rfl,e⟩:=D;have p:=aj.mk (au n e);clear n e;have u23:=underlying23;have z3:=eQ;have fG:=c' a;have v:=c' b;unfold im;refine cq O func136 O ?_;refine br @KB ?_;refine cK (λz0 m H=>∃i:Nat,i<=F a/\z0=F a-i/\m.get 0=.ac k s (ay a)/\m.get 1=.ac G u (ay b)/\m.get 5=.v (.int .i64 ((bE i).foldl (λx f=>cV x (cO (ah a f) (ah b f))) 0))/\m.get 6=(i:Nat)/\m.defers=[]/\H=h) ?_ (F a) _ _ ?_;rotate_left 1
 .refine⟨0,ck _,O,?_,?_,?_,?_,?_,O⟩<;>exact gR
 rintro z0 m H ⟨i,hi,rfl,g0,g1,g5,g6,hd,rfl⟩;by_cases d:i<F a
 .have o:s=1:=p.M.1 (by intro R;rw[R]at d;simp at d);have e:u=1:=p.M.2 (by intro R;rw[R]at g;simp at g;rw[g]at d;simp at d);subst o;subst e;have l1:=ev (H:=H) (l:=a) (i:=i) (s:=1) d;have l2:=ev (H:=H) (l:=b) (i:=i) (s:=1) ag;have cm:=ajG (ah a i) (ah b i);have ca:=aeF ((bE i).foldl (λx f=>cV x (cO (ah a f) (ah b f))) 0) (cO (ah a i) (ah b i));have j:cV ((bE i).foldl (λx f=>cV x (cO (ah a f) (ah b f))) 0) (cO (ah a i) (ah b i))=(bE (i+1)).foldl (λx f=>cV x (cO (ah a f) (ah b f))) 0:=by rw[jH,List.foldl_append];rfl
  have q:=aj.mk j;clear j;have w:(i:Int)<(F a:Int):=by omega
  have A:(i:Int)<(F b:Int):=by omega
  generalize (bE i).foldl (λx f=>cV x (cO (ah a f) (ah b f))) 0=acc at *
  generalize ah a i=ai at *
  generalize ah b i=bi at *
  unfold im at *
  refine br @KB ?_;refine eI B_ cD ?_;refine bB @KB @bh ?_;exact⟨F a-(i+1),by omega,i+1,by omega,O,by trivial,by trivial,by rw[q.M],by simp⟩
 .have:i=F a:=by omega
  subst this;refine br @KB ?_;exact⟨_,_,O,O,O⟩
def xh:Tryz.f65.results.toList=[.tmp 6,.tmp 7,.tmp 8]:=by kernel_rfl
def aoX(n):∀h,W8.call 133 [im n] h=J (.ret (.v (.bool (cA n))),h):=bX (L:=L8) O O O (bX (L:=L7) O O O (aoW _ _) O O _) O rfl
def aoY(x)(l)(m:IL x l)(j:F l<=9223372036854775807):∀h,W8.call 135 [x] h=J (.ret (.v (.bool (l.all cA))),h):=by obtain⟨d,e⟩:=m.hold;obtain⟨f,g⟩:=d.hold;exact bX (L:=L8) (A:=[av x]) O O (by simp[aJ,e]) (bX (L:=L7) (A:=[av (av x)]) O O (by simp[aJ,g]) (ao1 _ l f j _) O O _) O rfl
def ahY(x y)(U)(ae)(p:RL x U)(q:IL y ae):∀h,W8.call 134 [.agg [x,y]] h=J (.ret (im (b7 U:Nat)),h):=by obtain⟨j,m,n,o⟩:=oi p q;obtain⟨d,e,f,g⟩:=oi j m;exact bX (L:=L8) (A:=[.agg [av x,av y]]) O O (by simp[aJ,aI,n,o]) (bX (L:=L7) (A:=[.agg [av (av x),av (av y)]]) O O (by simp[aJ,aI,f,g]) (Vx _ _ U ae d e _) O O _) O rfl
def aqz:BF W8 137:=BF.up O (BF.up (R:=W6) (L:=L7) O λx d h=>aqI x d h)
def ae3(f:cS H=aa){z}{B}{G}(p:IL z G)(w:F G<=1000):
 ∃q H',gB af H #[23,23] (.ac .aK 1 [[im B]]) z=J (.ac q 1 (ay (B::G)),H')/\Ext H H'/\cS H'=aa:=by
 obtain⟨k,s,rfl,o⟩:=p;obtain⟨i,m,d,r,n⟩:=A6;by_cases g:G=[]
 .subst g;refine⟨.aK,H,?_,.refl _,f⟩;have:=Uo (P:=af) (h:=H) (t0:=23) (t1:=23) (i:=i) (sz:=1) (k:=.aK) (es:=[[im B]]) (x:=.ac k s (ay [])) underlying23 (.inl ⟨_,underlying23⟩) m ag (by rw[d];exact n) (by simp[jX,rowsOf,ay]) (.inl d.symm);exact this
 .have j:=o g;subst j;have e:F (ay G)=F G:=c' G;have v:=lu (ag:1+F G<=1001) r;have:=zV (P:=af) (h:=H) (n0:=0) (k:=.aK) (t0:=23) (t1:=23) (i:=i) (sz:=1) (es:=[[im B]]) (new:=ay G) (x:=.ac k 1 (ay G)) underlying23 (.inl ⟨_,underlying23⟩) m ag (by rw[d];exact n) (by simp[jX,rowsOf,d]) (by intro A;exact g (List.map_eq_nil_iff.1 A)) (by rw[e];simp only[eR,gh,oy];omega) (by rw[e];simp only[eR,gh];omega) (.inl d.symm) (.inr (.inl O));rw[d]at this;have u:=Grown.one (n0:=H.tn) (h:=H) (k:=.aK) (.inr (.inl O)) f (aT _);exact⟨_,_,this,u.ext (.refl _) (aT _),u.ok⟩
def arA(h:am)(eH:cS h=aa)(x y z:I)(U:List (List Int))(ae G:List Int)(B:Int)(hx:RL x U)(E:IL y ae)(hz:IL z G)(hl:F G<=1000)(qs:F U<=1000000):
 ∃r h',W8.call 65 [.agg [x,y],im B,z] h=J (r,h')/\
  ((jL U ae B G≠0/\r=.ret (.tuple [.ac .nil 0 [],.ac .nil 0 [],im (jL U ae B G)]))∨
  (jL U ae B G=0/\∃t1 t2,r=.ret (.tuple [.ac t1 2 (bD (fD U (B::G))),.ac t2 1 (ay (bF (B::G))),im 0]))):=by
 have bx:=uw hx E;have c1:=ahy x y U ae hx E qs;have o:=aoX B;have w:=aoY z G hz ag;have c4:=ahY x y U ae hx E;have R:=aQ h [x,y];have l0:=ul R;have l1:=qu R;have lz:=hz.dp;have bl:=oA B;have vA:aj (cE U ae≠0->jL U ae B G=cE U ae):=⟨λj=>by unfold jL;rw[aC j]⟩;have pq:aj (cE U ae=0->jL U ae B G=if cA B&&G.all cA&&decide ((F G:Int)=(b7 U:Nat)-1) then 0 else 1):=⟨λj=>by unfold jL;rw[aL (by simp[j])]⟩;have kok:=aj.mk (λj=>@oj ae U j);have kcp:=aj.mk (λj=>@pV ae U j);have yv:(b7 U:Int)<=1000000∨cE U ae≠0:=by
  by_cases j:cE U ae=0
  .have:=(pV j).2;exact .inl ag
  .exact .inr j
 obtain⟨k2,v,m,xH,oH⟩:=ae3 (H:=h.push [x,y]) (B:=B) eH hz hl;have kH:=aj.mk (au (Ext.trans (.push _ _) xH:Ext h v) oH);have l2:=qu (xH.box _ _ R);have kb0:=aj.mk (xH.box _ _ R);have kx:=aj.mk hx;clear hx E hz R xH oH;generalize jL U ae B G=res at *
 unfold im at *
 refine cq O func65 O ?_;by_cases e:cE U ae=0;rotate_left 1
 .have e1:=vA.M e;have d:=aj.mk (au e e1);clear e1 yv o w c4 m l2;generalize cE U ae=j at *
  refine bB @xh @bG ?_;exact⟨_,_,O,.inl ⟨by rw[d.M.2];exact d.M.1,by rw[d.M.2]⟩⟩
 rw[e]at c1;have q:=pq.M e;have hcp:=kcp.M e;have hw:IntKind.i64.wrap ((b7 U:Nat)-1:Int)=(b7 U:Nat)-1:=ji ag ag;clear vA pq kcp yv;have bad:∀(j:(cA B&&G.all cA&&decide ((F G:Int)=(b7 U:Nat)-1))=ar),res=1:=λj=>by rw[q,aL (by simp[j])]
 have good:∀(j:(cA B&&G.all cA&&decide ((F G:Int)=(b7 U:Nat)-1))=aa),res=0:=λj=>by rw[q,aC j]
 have kb:=aj.mk bad;have kg:=aj.mk good;clear bad good q;cases f:cA B with
 |false=>rw[f]at o;have d:aj (res=1):=⟨kb.M (by rw[f];rfl)⟩;clear f e w c4 m l2;refine bB @xh @bG ?_;exact⟨_,_,O,.inl ⟨by rw[d.M];decide,by rw[d.M]⟩⟩
 |true=>
 rw[f]at o;by_cases h3:(F G:Int)=(b7 U:Nat)-1;rotate_left 1
 .have d3:decide ((F G:Int)=((b7 U:Nat):Int)-1)=ar:=cR h3;have d:aj (res=1):=⟨kb.M (by rw[f,d3];simp)⟩;clear f h3 e w m l2;refine bB @xh @bG ?_;exact⟨_,_,O,.inl ⟨by rw[d.M];decide,by rw[d.M]⟩⟩
 have d3:decide ((F G:Int)=((b7 U:Nat):Int)-1)=aa:=cy h3;cases D:G.all cA with
 |false=>rw[D]at w;have d:aj (res=1):=⟨kb.M (by rw[f,D];rfl)⟩;clear f D e m l2;refine bB @xh @bG ?_;exact⟨_,_,O,.inl ⟨by rw[d.M];decide,by rw[d.M]⟩⟩
 |true=>
 rw[D]at w;have d:aj (res=0):=⟨kg.M (by rw[f,D,d3];rfl)⟩;have oE:F (B::G)=b7 U:=by simp;omega
 obtain⟨w1,w2,w3,w4⟩:=kok.M e;have kw:=aj.mk w3;have ks:=aj.mk oE;obtain⟨k,s,xs,rfl,hs,gH,jl⟩:=kx.M;have kk:=aj.mk (au hs jl);have u23:=underlying23;have u22:=underlying22;have u36:=underlying72;have z23:=g_;have z3:=eQ;have fG:F (xs.map λa=>[a])=F U:=by rw[bI];exact gH
 have yy:=c' (B::G);have b72:fF af 72 0 []=J (.ac .aK 2 []):=by kernel_rfl
 have b23:fF af 23 0 []=J (.ac .aK 1 []):=by kernel_rfl
 clear hs jl w1 w3 w4 f D h3 e oE kok kb kg kx;generalize hS:B::G=S at *
 refine bB @xh @bG ?_;have kB:aj (Gr v v .aK):=⟨⟨.refl _,kH.M.2,.inr (.inl O)⟩⟩;have Fy:v.V[F h.V]?=J [.ac k s (xs.map λa=>[a]),y]:=kb0.M;refine cK (λz0 A H=>∃(i:Nat) (t:Tok),i<=F U/\z0=F U-i/\aj (Gr v H t)/\A.get 3=.ptr (.box (F h.V)) 0/\A.get 10=.ac k2 1 (ay S)/\A.get 11=.ac t 2 (bD ((fD U S).take i))/\A.get 12=(i:Nat)/\A.defers=[]) ?_ (F U) _ _ ?_;rotate_left 1
 .refine⟨0,.aK,ck _,O,kB,?_,?_,?_,?_,?_⟩<;>simp only[gW,reduceIte,aR,aM,bG,b72]<;>rfl
 clear c1 o w c4 l0 l1 l2 bl hw d3 lz m bx Fy;rintro z0 A H ⟨i,t,hi,rfl,n,g3,g10,g11,g12,hd⟩;have hb:H.V[F h.V]?=J [.ac k s (xs.map λa=>[a]),y]:=n.M.1.box _ _ kb0.M;have l0:=qu hb;clear hb;by_cases dx:i<F U
 .have dY:s=1:=kk.M.1 (by intro j;rw[j]at dx;simp at dx);subst dY;obtain⟨a,OB⟩:∃a,xs[i]?=J a:=⟨_,aW ag⟩;obtain⟨r,u⟩:∃r,U[i]?=J r:=⟨_,aW dx⟩;have ld:=jP (H:=H) (s:=1) OB;have FW:=kk.M.2 i a r OB u;have PC:=kw.M r (dk u);obtain⟨_,_,c6,rfl,rfl⟩:=aqQ H a (.ac k2 1 (ay S)) r S FW ⟨_,_,O,λ_=>rfl⟩ ag (by have:=ks.M;omega);have iy:(i:Int)<(F U:Int):=by omega
  have ap:=Ii (T:=72) (es:=bD ((fD U S).take i)) (r:=bN (((i:Nat):Int),lP r S)) u36 P1 aZ (by unfold bD;rw[bI,dF];omega) (.inl O) n.M.2.2;have kG2:=aj.mk n.M.app;have e9:bD ((fD U S).take i)++[bN (((i:Nat):Int),lP r S)]=bD ((fD U S).take (i+1)):=by rw[fS (NP u)];unfold bD;simp
  rw[e9]at ap;have b36:=UK ((i:Nat):Int) (lP r S);have b81:=UB ((i:Nat):Int) (lP r S);clear OB u FW PC e9;generalize lP r S=dv at *
  unfold im bN at *
  refine dL @xh @eF @bh ?_;exact⟨F U-(i+1),by omega,i+1,_,by omega,O,kG2,by simp⟩
 have gw:i=F U:=by omega
 subst gw;rw[gm (by rw[E9];exact aT _)]at g11;have hSl:F S<=1001:=by rw[<-hS];simp;omega
 clear hS b72;have fj:F (bF S)=F S:=by unfold bF;simp
 refine bB @xh @eF ?_;refine cK (λz0 A H3=>∃(g:Nat) (t2:Tok),g<=F S/\z0=F S-g/\aj (Gr v H3 t2)/\A.get 10=.ac k2 1 (ay S)/\A.get 11=.ac t 2 (bD (fD U S))/\A.get 13=.ac t2 1 (ay ((bF S).take g))/\A.get 14=(g:Nat)/\A.defers=[]) ?_ (F S) _ _ ?_;rotate_left 1
 .refine⟨0,.aK,ck _,O,⟨⟨n.M.1,n.M.2.1,.inr (.inl O)⟩⟩,?_,?_,?_,?_,?_⟩<;>simp only[gW,reduceIte,aR,aM,b23]<;>first|assumption|rfl
 clear g3 g10 g11 g12 hd l0 b23;rintro z0 A H3 ⟨g,t2,hj,rfl,n,g10,g11,g13,g14,hd⟩;by_cases p:g<F S
 .have ld:=ev (H:=H3) (l:=S) (i:=g) (s:=1) p;have o:=aqz 4 (ah S g);rw[rU sS]at o;have hG:(4:Int).toNat=Gn:=rfl;rw[hG]at o;have iy:(g:Int)<(F S:Int):=by omega
  have u:(bF S)[g]?=J ((bZ Gn (ah S g):Nat):Int):=by unfold bF;rw[ek,aW p,fy p];rfl
  have ap:=sM (x:=((bZ Gn (ah S g):Nat):Int)) (es:=(bF S).take g) (by rw[dF];omega) (.inl O) n.M.2.2;have kG2:=aj.mk n.M.app;rw[<-fS u]at ap;have bl:=oA ((bZ Gn (ah S g):Nat):Int);clear u hG;generalize ((bZ Gn (ah S g):Nat):Int)=pv at *
  generalize ah S g=sj at *
  unfold im at *
  refine dL @xh @eF @bh ?_;exact⟨F S-(g+1),by omega,g+1,_,by omega,O,kG2,by simp⟩
 .have nY:g=F S:=by omega
  subst nY;rw[gm ag]at g13;refine br @xh ?_;exact⟨_,_,O,.inr ⟨d.M,_,_,O⟩⟩
def Rq:Tryz.f64.results.toList=[.tmp 2]:=by kernel_rfl
def ajj(h:am)(x y:I)(U:List (List Int))(ae:List Int)(A:RL x U)(D:IL y ae):
 ∃r h',W8.call 64 [.agg [x,y]] h=J (r,h')/\∃b,r=.ret ((b:Bool):I)/\(b=aa->F U<=80/\F ae<=100):=by
 have bx:=uw A D;have l0:=qu (aQ h [x,y]);have l1:=Dj (aQ h [x,y]);obtain⟨k,s,n,rfl,p,B,g⟩:=A;obtain⟨ky,sy,rfl,v⟩:=D;have R:=aj.mk (au p g);clear p g v;have u23:=underlying23;have u22:=underlying22;have z23:=g_;have fG:F (n.map λa=>[a])=F U:=by rw[bI];exact B
 have azv:=c' ae;obtain⟨j,f⟩:∃j,h.push [.ac k s (n.map λa=>[a]),.ac ky sy (ay ae)]=j:=⟨_,O⟩;rw[f]at l0 l1;refine cq O func64 O ?_;refine dL @Rq @bG @f ?_;refine cK (λz2 z1 H=>∃i:Nat,i<=F U/\z2=F U-i/\z1.get 1=.ptr (.box (F h.V)) 0/\z1.get 3=(i:Nat)/\z1.defers=[]/\H=j) ?_ (F U) _ _ ?_;rotate_left 1
 .refine⟨0,ck _,O,?_,?_,?_,O⟩<;>simp only[gW,reduceIte,aR,aM,bG,f]<;>rfl
 clear bx f;rintro z2 z1 H ⟨i,hi,rfl,g1,g3,hd,rfl⟩;have G:(i<F U/\(i:Int)<80)∨(F U<=i/\¬(i:Int)<(F U:Int))∨((i:Int)<(F U:Int)/\¬(i:Int)<80):=by omega
 rcases G with⟨e,o⟩|⟨po,X7⟩|⟨m,o⟩
 .have q:s=1:=R.M.1 (by intro z0;rw[z0]at e;simp at e);subst q;obtain⟨a,d⟩:∃a,n[i]?=J a:=⟨_,aW ag⟩;obtain⟨r,w⟩:∃r,U[i]?=J r:=⟨_,aW e⟩;have ld:=jP (H:=H) (s:=1) d;obtain⟨ka,sa,rfl,u⟩:=R.M.2 i a r d w;have C0:=c' r;have m:(i:Int)<(F U:Int):=by omega
  clear d w u
  repeat' (first|simp(maxSteps:=9^9) (disch:=first|exact dZ|fail) only[gW,reduceIte,aR,aM,Rq,eF,bh, *]|refine dX ?_ ?_<;>(intro _;try omega))
  all_goals first|exact⟨_,_,O,_,O,λz0=>by cases z0⟩|exact⟨F U-(i+1),by omega,i+1,by omega,O,by simp⟩
 all_goals
  repeat' (first|simp(maxSteps:=9^9) (disch:=first|exact dZ|fail) only[gW,reduceIte,aR,aM,Rq,eF,fZ, *]|refine dX ?_ ?_<;>(intro _;try omega))
  all_goals exact⟨_,_,O,_,O,λz0=>by simp at z0<;>omega⟩
def aAg:Tryz.f24.results.toList=[.cell 8 35,.tmp 9]:=by kernel_rfl
def Old(h K:am):Prop:=∀(b:Nat) (d:List I),h.V[b]?=J d->K.V[b]?=J d
def Old.refl(h):Old h h:=λ_ _ d=>d
def Old.push(o:Old h K)(cs):Old h (K.push cs):=λ_ _ d=>aP (o _ _ d)
def Old.put(o:Old h K)(f:F h.V<=b)(cs):Old h (K.put b cs):=λc e d=>by have:=(aU.1 d).1;rw[cG ag];exact o _ _ d
abbrev cP(c:Ce)(l:List Pr):Ce:={c with bH:=l}
structure Way(c:Ce)(l:List Pr)(P:Pr->Bool)(a:CA):Prop where
 ok:c_ {c with bH:=l.filter P} a
 held:dJ a
 nil:ly a
def Way.step{l}{P}{a}(w:Way c l P a)(d:c.Fit)(f:F l<=8)(o:c.ej=0)(u:c.aS=[])(n:fJ (pJ c.ak) Pr.bC (-1) l=aa){p}(r:p∈l):
 ∃e,Way c l (λq=>P q||decide (q=p)) e/\∀h,SH.call 16 [.agg (aA {c with bH:=l.filter P} a),.agg (bm p)] h=J (.ret (.tuple [.agg (aA {c with bH:=l.filter λq=>P q||decide (q=p)} e),im 0]),h):=by
 have B:F (l.filter P)<=8:=ff (xR _ _) f;have f2:Ce.Fit {c with bH:=l.filter P}:=⟨d.1,d.2.1,d.2.2.1,d.2.2.2.1,by show(F (l.filter P))<=_;omega,d.2.2.2.2.2⟩;have v:=apJ (P:=P) o u n r;obtain⟨e,A,m,g,q⟩:=Fm w.ok w.held w.nil f2 (by show(F (l.filter P))<_;omega) p;rw[v]at q;have j:ma {c with bH:=l.filter P} p={c with bH:=l.filter λq=>P q||decide (q=p)}:=by unfold ma;rw[v];rfl
 rw[j]at A q;exact⟨e,⟨A,m,g⟩,qK q O q.held⟩
def ZO28{p:Prop}(h:p:=by (try unfold Q197 at *);omega):p:=h
def ZT3{p:Prop}(h:p:=by
 intro z hz;simp only[gX,rI,or_false]at hz;rcases hz with rfl|rfl
 .refine mI (x:=.ptr (.box (F h.V)) 0) (v:=.agg D1) cD O O O cD (sD) ?_ ?_<;>(simp only[fe,eE];exact jN @Q194 @bh @fw.{0} (au @fE.{0} @and_self))
 .refine mI (x:=A) (v:=.agg z6) cD O O O cD (sp) ?_ ?_<;>(simp only[fe,eE];exact jN @Q194 @bh @fw.{0} (au @fE.{0} @and_self))):p:=h
def ZT8{p:Prop}(h:p:=by
 intro k hk;simp only[js]at hk;subst hk;refine Ac (x:=.tuple [.agg D2,.v (.int .i64 0)]) O O ?_ ?_
 .simp only[fe,eE];refine b_ @Q194 @bh @fw.{0} @fE.{0} ?_;exact⟨ba,λ_=>trivial⟩
 .exact jN @Q194 @bh @fw.{0} @fE.{0}):p:=h
def ZS28{p:Prop}(h:p:=by
 have bx:=w0.ok.cells;have z35:=uK;have lL:=hL;have lO:=hO.dp;obtain⟨k2,s2,rfl,oD⟩:=hO;have kI:=aj.mk (au hs hI);have kO:=aj.mk oD;clear oD;have u60:=underlying60;have hlp:0<F l:=BJ.2 fH;obtain⟨H,u⟩:∃H,(h.push (aA (Q192 c (l.filter λ_=>ar)) a)).push (aA c0 a0)=H:=⟨_,O⟩;have q0:H.V[F h.V]?=J (aA (Q192 c (l.filter λ_=>ar)) a):=by rw[<-u];exact aP (aQ _ _)
 have n1:=bP h (aA (Q192 c (l.filter λ_=>ar)) a);have f:H.V[F h.V+1]?=J (aA c0 a0):=by rw[<-u,<-n1];exact aQ _ _
 have kw0:=aj.mk w0;have oH:Old h H:=by rw[<-u];exact((Old.refl h).push _).push _
 have kq:=aj.mk (au q0 (au f oH));have Yu:IntKind.i64.wrap ((F d:Int)+(F l:Int))=((F d+F l:Nat):Int):=by rw[ji ZO28 ZO28];exact ZO28
 clear q0 f oH w0 hs hI;generalize WK:aA (Q192 c (l.filter λ_=>ar)) a=z9 at *
 have kE:=aj.mk WK;clear WK;refine cq O Q193 O ?_;refine dL @Q194 @bG @u ?_;refine cK (λz7 z0 K=>∃(i:Nat) (P:Q195->Bool) (e:CA),i<=F d+F l/\z7=F d+F l-i/\aj (Q196 c l P e)/\aj (∀j,j+F d<i->∀x,l[j]?=J x->P x=aa)/\aj (K.V[F h.V]?=J (aA (Q192 c (l.filter P)) e)/\K.V[F h.V+1]?=J (aA c0 a0)/\Old h K)/\
  z0.get 1=L/\z0.get 2=.ac k2 s2 (bV d)/\z0.get 3=.func (.func Q197) [] []/\z0.get 4=.ptr (.box (F h.V)) 0/\z0.get 8=.ptr (.box (F h.V+1)) 0/\z0.get 18=(F d+F l:Nat)/\z0.get 19=(i:Nat)/\z0.defers=[]) ?_ (F d+F l) _ _ ?_
 rotate_left 1
 .refine⟨0,λ_=>ar,a,ck _,O,kw0,⟨λj q=>absurd q ZO28⟩,?_,?_,?_,?_,?_,?_,?_,?_,?_⟩
  .exact⟨by rw[kE.M];exact kq.M.1,kq.M.2⟩
  all_goals first|(simp only[gW,reduceIte,aR,aM,bG,u,n1];done)|(simp only[gW,reduceIte,aR,aM,bG,u,n1]<;>rfl)
 clear bx lO Yu u n1;rintro z7 z0 K ⟨i,P,e,hi,rfl,R,kP,g,g1,g2,g3,g4,g8,g18,g19,hd⟩;have lO:dp af 60 (.ac k2 s2 (bV d))=J ((F d:Nat):I):=BL.dp ⟨k2,s2,O,kO.M⟩;by_cases dx:i<F d+F l;rotate_left 1
 .have gw:i=F d+F l:=by exact ZO28
  subst gw;have w:l.filter P=l:=filter_all λx B=>by obtain⟨j,hj,rfl⟩:=List.mem_iff_getElem.1 B;exact kP.M j ZO28 _ (aW hj)
  have z3:=R.M;have b4:=g.M.1;have n:=g.M.2.1;rw[w]at b4;have E:c_ (Q192 c l) e:=by have:=z3.ok;rwa [w]at this
  have oK:Old h (K.put (F h.V+1) (aA (Q192 c l) e)):=g.M.2.2.put ZO28 _;have D:=aj.mk (au E (au z3.nil (au z3.held oK)));have uo:=E.len;have m0:=jy uo b4;have v0:=rz hh.len uo E.cells n;have m1:=jy uo (dy (h:=K) (b:=F h.V+1) (cs:=aA (Q192 c l) e) (aU.1 n).1);clear z3 oK E b4 n w R kP g dx hi;generalize hD:aA (Q192 c l) e=z9 at *
  have kD:=aj.mk hD;clear hD;refine br @Q194 ?_;exact⟨_,_,O,D.M.2.2.2,_,D.M.1,D.M.2.1,D.M.2.2.1,by rw[kD.M]⟩
 have iy:(i:Int)<((F d+F l:Nat):Int):=by exact ZO28
 have e1:IntKind.i64.wrap ((i:Int)-(F d:Int))=(i:Int)-(F d:Int):=ji ZO28 ZO28;obtain⟨j,hj,XT⟩:∃j,j<F l/\(i<F d/\j=(eS d i).toNat%F l∨F d<=i/\j=i-F d):=by
  by_cases q:i<F d
  .exact⟨_,Nat.mod_lt _ hlp,.inl ⟨q,O⟩⟩
  .exact⟨i-F d,by exact ZO28,.inr ⟨ZO28,O⟩⟩
 obtain⟨p,hp⟩:∃p,l[j]?=J p:=⟨_,aW hj⟩;obtain⟨A,ix,lp,lp2⟩:=kI.M.2 K j p g.M.2.2 hp;obtain⟨a2,w2,c16⟩:=kI.M.1 P e p R.M (dk hp);have kw2:=aj.mk w2;have kP2:aj (∀G,G+F d<i+1->∀x,l[G]?=J x->(P x||decide (x=p))=aa):=⟨λG q x B=>by
  by_cases z0:G+F d<i
  .rw[kP.M G z0 x B];rfl
  .have:G=j:=by rcases XT with⟨f,-⟩|⟨f,q2⟩<;>exact ZO28
   rw[this,hp]at B;injection B with B;simp[B]⟩
 have b4:=g.M.1;have n:=g.M.2.1;have m:=R.M.ok.len;have uo:=w2.ok.len;have o:=w2.ok.cells;have m0:=jy m b4;have m0b:=jy m (aP (cs:=aA c0 a0) b4);have CG:=(aU.1 b4).1;have hb8:=(aU.1 n).1;have v0:=sC (H:=K) uo o;have y1:=jy uo (aQ K (aA (Q192 c (l.filter λq=>P q||decide (q=p))) a2));have b4':(K.push (aA (Q192 c (l.filter λq=>P q||decide (q=p))) a2)).V[F h.V]?=J (aA (Q192 c (l.filter P)) e):=aP b4;have v1:=rz m uo o b4';have z1:((K.push (aA (Q192 c (l.filter λq=>P q||decide (q=p))) a2)).put (F h.V) (aA (Q192 c (l.filter λq=>P q||decide (q=p))) a2)).V[F h.V]?=J (aA (Q192 c (l.filter λq=>P q||decide (q=p))) a2):=dy (aU.1 b4').1;have z2:((K.push (aA (Q192 c (l.filter λq=>P q||decide (q=p))) a2)).put (F h.V) (aA (Q192 c (l.filter λq=>P q||decide (q=p))) a2)).V[F h.V+1]?=J (aA c0 a0):=by rw[cG ZO28];exact aP n
 have oz:Old h ((K.push (aA (Q192 c (l.filter λq=>P q||decide (q=p))) a2)).put (F h.V) (aA (Q192 c (l.filter λq=>P q||decide (q=p))) a2)):=(g.M.2.2.push _).put (aT _) _;have kz:=aj.mk (au z1 (au z2 oz));have sD:df (.agg (aA (Q192 c (l.filter P)) e)) (.agg (aA (Q192 c (l.filter P)) e))=aa:=R9 R.M.ok;have sp:df (.agg (Q198 p)) (.agg (Q198 p))=aa:=by simp[df,gJ,ip,Q198]
 clear w2 b4 b4' n m uo o z1 z2 oz R g kP hp kw0 kE kq kI;generalize WL:aA (Q192 c (l.filter λq=>P q||decide (q=p))) a2=D2 at *
 have kD2:=aj.mk WL;clear WL;generalize aA (Q192 c (l.filter P)) e=D1 at *
 generalize aA c0 a0=Z0 at *
 generalize Q198 p=z6 at *
 rcases XT with⟨f,rfl⟩|⟨f,rfl⟩
 .have azs:=UInt8.toNat_lt (eS d i);have kq1:=aj.mk f;have alN:s2=1:=kO.M (by intro q;rw[q]at f;simp at f);subst alN;have lb:=anw (h:=K) f;have alB:(i:Int)-(F d:Int)<0:=by exact ZO28
  have hiO:(i:Int)<(F d:Int):=by exact ZO28
  have YE:=acM d;have z5:=tN;unfold du at lb;have ew:IntKind.i64.wrap ((eS d i).toNat:Int)=((eS d i).toNat:Int):=ji ZO28 ZO28;have er:Int.tmod ((eS d i).toNat:Int) (F l:Int)=(((eS d i).toNat%F l:Nat):Int):=rfl;have Jq:¬((F l:Int)=0):=by exact ZO28
  have cv:=λ(z8:am)=>VF ((eS d i).toNat:Int) z8;rw[ew]at cv;have FL:(((eS d i).toNat%F l:Nat):Int)<(F l:Int):=by exact ZO28
  have XU:¬((((eS d i).toNat%F l:Nat):Int)<0):=by exact ZO28
  clear ew;generalize (eS d i).toNat%F l=j at *
  generalize ((eS d i).toNat:Int)=bv at *
  clear f;unfold im at *
  refine bB @Q194 @bh ?_;refine D4 [6] [(1,10),(5,10)] cD ?_ ?_ ?_
  .exact ZT8
  .exact ZT3
  refine b_ @Q194 @bh @fw.{0} @fE.{0} ?_;refine⟨F d+F l-(i+1),by exact ZO28,i+1,λq=>P q||decide (q=p),a2,by exact ZO28,O,kw2,kP2,⟨⟨by rw[kD2.M];exact kz.M.1,kz.M.2⟩⟩,by trivial,by trivial,by trivial,by trivial,by trivial,by trivial,by simp,by trivial⟩
 .have e2:((i:Int)-(F d:Int))=((i-F d:Nat):Int):=by exact ZO28
  have e3:=e1.trans e2;clear e1;have X_:¬(((i-F d:Nat):Int)<0):=by exact ZO28
  have FL:((i-F d:Nat):Int)<(F l:Int):=by exact ZO28
  generalize i-F d=j at *
  have kq1:=aj.mk f;clear f e2;unfold im at *
  refine bB @Q194 @bh ?_;refine D4 [6] [(1,10),(5,10)] cD ?_ ?_ ?_
  .exact ZT8
  .exact ZT3
  refine b_ @Q194 @bh @fw.{0} @fE.{0} ?_;refine⟨F d+F l-(i+1),by exact ZO28,i+1,λq=>P q||decide (q=p),a2,by exact ZO28,O,kw2,kP2,⟨⟨by rw[kD2.M];exact kz.M.1,kz.M.2⟩⟩,by trivial,by trivial,by trivial,by trivial,by trivial,by trivial,by simp,by trivial⟩):p:=h
section
open YtcbhpkjbiehcpaaGreatDoor renaming cP->Q192,aAg->Q194,Way->Q196,bm->Q198
open Go.Proofs.Tryz renaming func24->Q193
open NT renaming Pr->Q195
open Go renaming kk16->Q197
def auW(h:am)(c:Ce)(a:CA)(l:List Pr)(L:I)(hL:dp af 32 L=J ((F l:Nat):I))(hI:∀(K:am) (j:Nat) (p:Pr),Old h K->l[j]?=J p->∃A,dM af 32 L ((j:Nat):I)=J A/\aF af Gt K 46 A=J (.agg (bm p))/\∀cs,aF af Gt (K.push cs) 46 A=J (.agg (bm p)))
 (d:List UInt8) (z4:I) (hO:BL z4 d) (AN:F d<=30) (fQ:F l<=8) (fH:l≠[]) (w0:Way c l (λ_=>ar) a)
 (hs:∀(P:Pr->Bool) (a:CA) (p:Pr),Way c l P a->p∈l->∃e,Way c l (λq=>P q||decide (q=p)) e/\∀h,SH.call 16 [.agg (aA (cP c (l.filter P)) a),.agg (bm p)] h=J (.ret (.tuple [.agg (aA (cP c (l.filter λq=>P q||decide (q=p))) e),im 0]),h)):
 ∃r h',SH.call 24 [.agg (aA (cP c (l.filter λ_=>ar)) a),L,z4,.func (.func 16) [] []] h=J (r,h')/\Old h h'/\∃e,c_ (cP c l) e/\ly e/\dJ e/\r=.ret (.tuple [.agg (aA (cP c l) e),(aa:I)]):=ZS28
end
def auV(h)(c)(a)(ok:c_ c a)(A:dJ a)(m:ly a)(v:c.Fit)(E:c.ej=0)(q:c.bH=[])(G:c.aS=[])(l)(L)(o:PL L l)(e)(u)(w:BL u e)
 (p:F e<=30) (g:F l<=8) (j:l≠[]) (B:fJ (pJ c.ak) Pr.bC (-1) l=aa):
 ∃r h',SH.call 24 [.agg (aA c a),L,u,.func (.func 16) [] []] h=J (r,h')/\Old h h'/\∃f,c_ {c with bH:=l} f/\ly f/\dJ f/\r=.ret (.tuple [.agg (aA {c with bH:=l} f),(aa:I)]):=by
 have z0:cP c (l.filter λ_=>ar)=c:=by rw[show l.filter (λ_=>ar)=c.bH by rw[q];exact adD.2 λ_ _ z3=>by cases z3]
 have R:=o.dp;obtain⟨k,s,rfl,n⟩:=o;have n:=n j;subst n;have z1:=auW h c a l _ R (λK z5 z2 _ d=>⟨_,bh underlying32 xu ag (by rw[Dz];have:=(aU.1 d).1;omega),vI d,λ_=>vI d⟩) e u w p g j ⟨z0.symm ▸ ok,A,m⟩ λP a z2 z4 d=>z4.step v g E G B d;rw[z0]at z1;exact z1
abbrev Zq:=Int × Int
abbrev cZ(c:Ce)(l:List Zq):Ce:={c with aS:=l}
def aAh:Tryz.f25.results.toList=[.cell 8 35,.tmp 9]:=by kernel_rfl
structure BT(c:Ce)(l:List (Int × Int))(P:Int × Int->Bool)(a:CA):Prop where
 ok:c_ {c with aS:=l.filter P} a
 held:dJ a
 nil:ly a
structure MU(c:Ce):Prop where
 new:c.ej=0
 bH:fJ (pJ c.ak) Pr.bC (-1) c.bH=aa
 all:c.bH.length=c.ak.length
def BT.step{P}{a}(w:BT c l P a)(d:c.Fit)(g:F l<=8)(f:MU c)(o:fJ (oQ c.ak) ju (-1) l=aa)(r:p∈l):
 ∃e,BT c l (λq=>P q||decide (q=p)) e/\∀h,SH.call 18 [.agg (aA {c with aS:=l.filter P} a),.agg (bN p)] h=J (.ret (.tuple [.agg (aA {c with aS:=l.filter λq=>P q||decide (q=p)} e),im 0]),h):=by
 have A:F (l.filter P)<=8:=ff (xR _ _) g;have f2:Ce.Fit {c with aS:=l.filter P}:=⟨d.1,d.2.1,d.2.2.1,d.2.2.2.1,d.2.2.2.2.1,by show(F (l.filter P))<=_;omega⟩;have u:=apQ (P:=P) f.new f.bH f.all o r;obtain⟨e,v,n,j,q⟩:=I0 w.ok w.held w.nil f2 (by show(F (l.filter P))<_;omega) p;rw[u]at q;have m:oe {c with aS:=l.filter P} p={c with aS:=l.filter λq=>P q||decide (q=p)}:=by unfold oe;rw[u];rfl
 rw[m]at v q;exact⟨e,⟨v,n,j⟩,qK q O q.held⟩
def N6:∀{l:List (Int × Int)} {j:Nat} {p:Int × Int},l[j]?=J p->((bD l).flatten.drop (2*j)).take 2=bN p/\2*j+2<=F (bD l).flatten
 |q::l,0,p,h=>by injection h with h;subst h;exact⟨O,by show 2<=F (bD l).flatten+1+1;omega⟩
 |q::l,j+1,p,h=>by obtain⟨d,e⟩:=N6 (l:=l) (j:=j) (by simpa using h);exact⟨d,by show 2*j+2+2<=F (bD l).flatten+1+1;omega⟩
def Zg(f:H.V[b]?=J (bD l).flatten)(h:l[j]?=J p):aF af Gt H 48 (.ptr (.box b) (2*j))=J (.agg (bN p)):=by obtain⟨d,e⟩:=N6 h;rw[gt cD Hg f e,d]
def YZ(h:j<n):dM af 33 (.arr b 0 n n) ((j:Nat):I)=J (.ptr (.box b) (2*j)):=by rw[A8 underlying33 Hg ag ag,eD,oy,Nat.mul_comm]
section
open YtcbhpkjbiehcpaaGreatDoor renaming cZ->Q192,aAh->Q194,Zq->Q195,BT->Q196,bN->Q198
open Go.Proofs.Tryz renaming func25->Q193
open Go renaming kk18->Q197
def auY(h:am)(c:Ce)(a:CA)(l:List Zq)(L:I)(hL:dp af 33 L=J ((F l:Nat):I))(hI:∀(K:am) (j:Nat) (p:Zq),Old h K->l[j]?=J p->∃A,dM af 33 L ((j:Nat):I)=J A/\aF af Gt K 48 A=J (.agg (bN p))/\∀cs,aF af Gt (K.push cs) 48 A=J (.agg (bN p)))
 (d:List UInt8) (z4:I) (hO:BL z4 d) (AN:F d<=30) (fQ:F l<=8) (fH:l≠[]) (w0:BT c l (λ_=>ar) a)
 (hs:∀(P:Zq->Bool) (a:CA) (p:Zq),BT c l P a->p∈l->∃e,BT c l (λq=>P q||decide (q=p)) e/\∀h,SH.call 18 [.agg (aA (cZ c (l.filter P)) a),.agg (bN p)] h=J (.ret (.tuple [.agg (aA (cZ c (l.filter λq=>P q||decide (q=p))) e),im 0]),h)):
 ∃r h',SH.call 25 [.agg (aA (cZ c (l.filter λ_=>ar)) a),L,z4,.func (.func 18) [] []] h=J (r,h')/\Old h h'/\∃e,c_ (cZ c l) e/\ly e/\dJ e/\r=.ret (.tuple [.agg (aA (cZ c l) e),(aa:I)]):=ZS28
end
def auX(h)(c)(a)(E:c_ c a)(w:dJ a)(j:ly a)(u:c.Fit)(B:MU c)(p:c.aS=[])(l)(m:h.V[b]?=J (bD l).flatten)(e)(q)(v:BL q e)
 (o:F e<=30) (g:F l<=8) (n:l≠[]) (A:fJ (oQ c.ak) ju (-1) l=aa):
 ∃r h',SH.call 25 [.agg (aA c a),.arr b 0 (F l) (F l),q,.func (.func 18) [] []] h=J (r,h')/\Old h h'/\∃f,c_ {c with aS:=l} f/\ly f/\dJ f/\r=.ret (.tuple [.agg (aA {c with aS:=l} f),(aa:I)]):=by
 have G:cZ c (l.filter λ_=>ar)=c:=by rw[show l.filter (λ_=>ar)=c.aS by rw[p];exact adD.2 λ_ _ z2=>by cases z2]
 have R:=auY h c a l (.arr b 0 (F l) (F l)) (Gc underlying33) (λK z4 z1 z0 d=>⟨_,YZ (aU.1 d).1,Zg (z0 _ _ m) d,λ_=>Zg (aP (z0 _ _ m)) d⟩) e q v o g n ⟨G.symm ▸ E,w,j⟩ λP a z1 z3 d=>z3.step u g B A d;rw[G]at R;exact R
section
variable {X Y C N W T L S:I} {U:List (List Int)} {ae aH G:List Int} {aq:List UInt8} {l:List Pr} {s:List (Int × Int)}
def Qp(c:cd SA g a y)(d:LB.contains g=aa)(e:LC.contains g=aa)(f:LD.contains g=aa)(j:LE.contains g=aa)(m:LF.contains g=aa)(n:LG.contains g=aa):cd SG g a y:=Vv (c.up (L:=LB) d) e f j m n
def ajX(m:RL X U)(n:IL Y ae):∃b,(b=aa->F U<=80/\F ae<=100)/\cd SG 64 [.agg [av X,av Y]] ((b:Bool):I):=by obtain⟨d,e,f,g⟩:=oi m n;obtain⟨_,_,c,b,rfl,j⟩:=ajj ⟨[],[],0,[]⟩ _ _ U ae d e;exact⟨b,j,Qp (cd.new (L:=LA) c O (lh [.agg [X,Y]]) (by simp[aJ,aI,f,g]) O O) O O O O O O⟩
def aj1(e:RL X U)(f:IL Y ae)(d:F U<=1000000):cd SG 40 [.agg [av X,av Y]] (im (cE U ae)):=E6 (Y6 e f d) O O O O O O rfl
def aj2(p:RL X U)(q:IL Y ae)(r:IL N G)(o:F G<=1000)(g:F U<=1000000)(B:Int):
 (jL U ae B G≠0/\cd SG 65 [.agg [av X,av Y],im B,av N] (.tuple [.ac .nil 0 [],.ac .nil 0 [],im (jL U ae B G)]))∨
 (jL U ae B G=0/\∃t1 t2,cJ t1=t1/\cJ t2=t2/\cd SG 65 [.agg [av X,av Y],im B,av N] (.tuple [.ac t1 2 (bD (fD U (B::G))),.ac t2 1 (ay (bF (B::G))),im 0])):=by
 obtain⟨j,m,d,e⟩:=oi p q;obtain⟨n,f⟩:=r.hold;obtain⟨_,_,c,⟨u,rfl⟩|⟨u,t1,t2,rfl⟩⟩:=arA ⟨[],[],0,[]⟩ O _ _ _ U ae G B j m n o g
 .exact .inl ⟨u,Qp (cd.new (L:=LA) c O (lh [.agg [X,Y],im B,N]) (by simp[aJ,aI,d,e,f,im]) O O) O O O O O O⟩
 .refine .inr ⟨u,cJ t1,cJ t2,?_,?_,Qp (cd.new (L:=LA) c O (lh [.agg [X,Y],im B,N]) (by simp[aJ,aI,d,e,f,im]) O (by rw[aI,aJ,aI,fB,Ff,aJ,aI,fB,jw];rfl)) O O O O O O⟩
  .cases t1<;>rfl
  .cases t2<;>rfl
def ajZ(f:RL X U)(g:IL Y ae)(e:IL C aH)(d:F aH<=1000000)(ep:Int):cd SG 41 [.agg (aG ep (av X) (av Y) (av C))] (.v (.bool (iF U ep aH))):=E6 (Y3 f g e d) O O O O O O rfl
def aj0(r:RL X U)(u:IL Y ae)(n:IL C aH)(q:BL T aq)(o:PL L l)(p:SL S s)(g:F aH<=1000000)(j:F l<=1000000)(m:F s<=1000000)(ep e d f:Int):
 cd SG 30 [.agg (aG ep (av X) (av Y) (av C)),av T,av L,im e,av S,im d,im f] (.tuple [im (nx U ae ep aH aq l e s d f).1,im (nx U ae ep aH aq l e s d f).2]):=E6 (Y4 r u n q o p g j m e d f) O O O O O O rfl
def aj5(g:BL T aq)(f:F aq<=1000000)(d e s:Int):cd SG 26 [im d,av T,.agg [im e,im s]] (.v (.bool (nE d aq e s))):=E6 (Y8 g f d e s) O O O O O O rfl
end
structure ir where
 U:List (List Int)
 ae:List Int
 bM:List Int
 doc:Dc
 ak:List Int
 eZ:List (Int × Int)
structure PA where
 X:I
 Y:I
 N:I
 p:I
 r:I
 n:I
 W:I
 u:I
structure nP(x:ir)(a:PA):Prop where
 px:RL a.X x.U
 py:IL a.Y x.ae
 pn:IL a.N x.bM
 pd:nI x.doc a.p a.r a.n
 pw:IL a.W x.ak
 pu:SL a.u x.eZ
def jo(x:ir)(a:PA):List I:=[a.X,a.Y,a.N]++bQ x.doc a.p a.r a.n++[a.W,a.u]
section
variable {x:ir} {a:PA}
def nP.len(d:nP x a):F (jo x a)=46:=by have:=d.pd.len;unfold jo;simp only[db,eR,gh];omega
def RL.dm{x}{l}(h:RL x l):x.dm=aa:=by obtain⟨k,s,d,rfl,-⟩:=h;rfl
def nP.cells(d:nP x a):(I.agg (jo x a)).bL=J (jo x a):=by
 have e:=d.pd.cells;have f:a.u.dm=aa:=by obtain⟨k,s,j,-⟩:=d.pu;rw[j];rfl
 unfold I.bL at *
 simp only at e ⊢;split at e
 .rename_i g;rw[aC];unfold jo;rw[rE,rE,g];simp[d.px.dm,d.py.dm,d.pn.dm,d.pw.dm,f]
 .cases e
def aeU:fR af 59=J aa:=by kernel_rfl
def awJ:cN af 59=J 46:=by kernel_rfl
def Fe:(∀b,dQ af 59 (.ptr (.box b) 0) 0=J (.ptr (.box b) 0))/\(∀b,dQ af 59 (.ptr (.box b) 0) 1=J (.ptr (.box b) 2))/\(∀b,dQ af 59 (.ptr (.box b) 0) 2=J (.ptr (.box b) 3))/\(∀b,dQ af 59 (.ptr (.box b) 0) 3=J (.ptr (.box b) 44))/\(∀b,dQ af 59 (.ptr (.box b) 0) 4=J (.ptr (.box b) 45)):=
 ⟨λ_=>by kernel_rfl,λ_=>by kernel_rfl,λ_=>by kernel_rfl,λ_=>by kernel_rfl,λ_=>by kernel_rfl⟩
def aeT:fR af 57=J ar:=by kernel_rfl
def ano(d:nP x a)(e:H.V[b]?=J (jo x a)):aF af Gt H 59 (.ptr (.box b) 0)=J (.agg (jo x a)):=by rw[gt aeU awJ e (by have:=d.len;omega),iI,gm (by have:=d.len;omega)]
def uk(g:nP x a)(d:H.V[b]?=J (jo x a)):aF af Gt H 25 (.ptr (.box b) 0)=J (.agg [a.X,a.Y])/\aF af Gt H 22 (.ptr (.box b) 0)=J a.X/\aF af Gt H 23 (.ptr (.box b) 1)=J a.Y/\aF af Gt H 23 (.ptr (.box b) 2)=J a.N/\
 aF af Gt H 31 (.ptr (.box b) 3)=J (.agg (bQ x.doc a.p a.r a.n))/\aF af Gt H 23 (.ptr (.box b) 44)=J a.W/\aF af Gt H 57 (.ptr (.box b) 45)=J a.u:=by
 have j:=g.len;have e:=g.pd.len;have f:F ([a.X,a.Y,a.N]:List I)=3:=rfl;refine⟨?_,?_,?_,?_,?_,?_,?_⟩
 .rw[gt cD (by kernel_rfl:cN af 25=J 2) d ag];rfl
 .rw[fI cD d];rfl
 .rw[fI cD d];rfl
 .rw[fI cD d];rfl
 .rw[gt cD (by kernel_rfl:cN af 31=J 41) d ag];unfold jo;rw[jq,List.drop_left' f,uS e]
 .rw[fI kC d];unfold jo;rw[ET (i:=0) f e];rfl
 .rw[fI aeT d];unfold jo;rw[ET (i:=1) f e];rfl
end
def iV:EM.results.toList=[.cell 2 27,.tmp 3,.tmp 4,.tmp 5,.tmp 6,.tmp 7]:=by kernel_rfl
def anD(h:SL x l):dp af 57 x=J ((F l:Nat):I):=by obtain⟨k,s,rfl,-⟩:=h;have d:=underlying57;unfold dp;simp only[d,uF]
def zQ(r:dP):Prop:=∃X Y C U ae aH,RL X U/\IL Y ae/\IL C aH/\r=.ret (.tuple [.agg (aG 0 X Y C),nl,nl,nl,(ar:I),(aa:I)])
def aoN:RL nl []:=⟨.nil,0,[],O,λd=>absurd O d,O,λi a e h=>by simp at h⟩
def Z4:IL nl []:=⟨.nil,0,O,λd=>absurd O d⟩
def axm:zQ (.ret (.tuple [.agg (aG 0 nl nl nl),nl,nl,nl,(ar:I),(aa:I)])):=⟨nl,nl,nl,[],[],[],aoN,Z4,Z4,O⟩
structure EO(b:Bool)(e:Int)(x:ir):Prop where
 few:b=aa
 prog:e=0
 Ry:0<x.U.length
 KM:x.U.length<=12
 IA:(x.U.getD 0 []).length<=12
 nums:x.bM.length=(x.U.getD 0 []).length
 ak:x.ak.length<=8
 eZ:x.eZ.length=x.ak.length
noncomputable def vZ:Code:=EM.body.getD .skip
noncomputable abbrev BS(Post:dP->am->Prop):Xt->Env->am->Prop:=yf af Gt SH EM Post
structure jD(x:ir)(a:PA)(h H:am)(K:List I):Prop where
 vL:H.V[h.V.length]?=J (jo x a)
 key:H.V[h.V.length+1]?=J K
 live:cS H=aa
 fM:Old h H
def afO(h:am)(eH:cS h=aa){x:ir}{a:PA}(j:nP x a){b:Bool}(R:∀h,SH.call 64 [.agg [a.X,a.Y]] h=J (.ret ((b:Bool):I),h))(f:b=aa->∀h,SH.call 40 [.agg [a.X,a.Y]] h=J (.ret (im (cE x.U x.ae)),h))
 {Post:dP->am->Prop} (pr:∀r K,zQ r->Post r K)
 (go:EO b (cE x.U x.ae) x->(∀n∈x.bM,okF n)->∀e H,jD x a h H (aG 0 nl nl nl)->e.get 1=.ptr (.box (F h.V)) 0->e.get 2=.ptr (.box (F h.V+1)) 0->e.get 3=nl->e.get 4=nl->e.get 5=nl->e.defers=[]->bJ SH (Code.tl 3 vZ) e H (BS Post)):
 ∃r h',SH.call 23 [.agg (jo x a)] h=J (r,h')/\Post r h':=by
 have bx:=j.cells;have z27:=LS;obtain⟨H,d⟩:∃H,(h.push (jo x a)).push (aG 0 nl nl nl)=H:=⟨_,O⟩;have q0:H.V[F h.V]?=J (jo x a):=by rw[<-d];exact aP (aQ _ _)
 have B:=bP h (jo x a);have D:H.V[F h.V+1]?=J (aG 0 nl nl nl):=by rw[<-d,<-B];exact aQ _ _
 obtain⟨l25,l22,-,lN,-,lW,lU⟩:=uk j q0;have l27:aF af Gt H 27 (.ptr (.box (F h.V+1)) 0)=J (.agg (aG 0 nl nl nl)):=by rw[gt cD sF D (kj O)];rfl
 have s27:bU af H 27 (.ptr (.box (F h.V+1)) 0) (.agg (aG 0 nl nl nl))=J H:=by rw[e7 (off:=0) (cs:=aG 0 nl nl nl) (xs:=aG 0 nl nl nl) O sF D O (kj O)];exact congrArg J (jb D)
 have eN:=j.pn.dp;have eW:=j.pw.dp;have eU:=anD j.pu;have eX:=j.px.dp;obtain⟨k,s,E,eq,hs,gH,jl⟩:=j.px;obtain⟨kn,sn,eqn,F2⟩:=j.pn;have u22:=underlying22;have u23:=underlying23;have z23:=g_;have z3:=eQ;have fG:F (E.map λa=>[a])=F x.U:=by rw[bI];exact gH
 have rf:=c' x.bM;have f59:=Fe;have A:aj (jD x a h H (aG 0 nl nl nl)):=⟨⟨q0,D,by rw[<-d];exact eH,by rw[<-d];exact((Old.refl h).push _).push _⟩⟩;have kgo:=aj.mk go;have g:=aj.mk pr;have kn1:=aj.mk F2;rw[eq]at l22 eX l25 R f;rw[eqn]at lN eN;have p:=aj.mk (au hs (λa0 (CF:E[0]?=J a0) r (hr:x.U[0]?=J r)=>au (jP (H:=H) (s:=1) CF) (jl 0 a0 _ CF hr).dp));clear hs jl q0 D j eq eqn go pr F2;generalize hD:jo x a=z2 at bx d B;generalize WQ:aG 0 nl nl nl=KZ at d l27 s27 z27;have u:aj (zQ (.ret (.tuple [.agg KZ,.ac .nil 0 [],.ac .nil 0 [],.ac .nil 0 [],(ar:I),(aa:I)]))):=⟨by rw[<-WQ];exact axm⟩;clear WQ hD;generalize yB:cE x.U x.ae=pe at *
 have kpe:=aj.mk yB;clear yB;unfold im at f;refine cq O func23 O ?_;refine D_ 3 (λe K=>EO b pe x/\(∀n∈x.bM,okF n)/\e.get 1=.ptr (.box (F h.V)) 0/\e.get 2=.ptr (.box (F h.V+1)) 0/\e.get 3=nl/\e.get 4=nl/\e.get 5=nl/\e.defers=[]/\K=H) ?_ ?_;rotate_left 1
 .rintro e K ⟨hu,vx,g1,g2,g3,g4,g5,gd,rfl⟩;exact kgo.M hu vx e K A.M g1 g2 g3 g4 g5 gd
 intro bb jO;have kb:=aj.mk jO;clear jO kgo A;cases b with
 |false=>
  clear p f
  repeat' (first|simp(maxSteps:=9^9) (disch:=first|exact dZ|fail) only[gW,reduceIte,aR,aM,iV,bG,d,Code.pI, *]|refine dX ?_ ?_<;>(intro _;try omega))
  refine eI x_ cD ?_
  repeat' (first|simp(maxSteps:=9^9) (disch:=first|exact dZ|fail) only[gW,reduceIte,aR,aM,iV,bG,d,Code.pI, *]|refine dX ?_ ?_<;>(intro _;try omega))
  exact⟨_,_,O,g.M _ _ u.M⟩
 |true=>
 have f:=f O;by_cases hp:pe=0;rotate_left 1
 .have hp:=cR hp;clear p
  repeat' (first|simp(maxSteps:=9^9) (disch:=first|exact dZ|fail) only[gW,reduceIte,aR,aM,iV,bG,d,Code.pI, *]|refine dX ?_ ?_<;>(intro _;try omega))
  refine eI x_ cD ?_
  repeat' (first|simp(maxSteps:=9^9) (disch:=first|exact dZ|fail) only[gW,reduceIte,aR,aM,iV,bG,d,Code.pI, *]|refine dX ?_ ?_<;>(intro _;try omega))
  all_goals exact⟨_,_,O,g.M _ _ u.M⟩
 subst hp;by_cases v:(F x.U:Int)=0
 .clear p
  repeat' (first|simp(maxSteps:=9^9) (disch:=first|exact dZ|fail) only[gW,reduceIte,aR,aM,iV,bG,d,Code.pI, *]|refine dX ?_ ?_<;>(intro _;try omega))
  refine eI x_ cD ?_
  repeat' (first|simp(maxSteps:=9^9) (disch:=first|exact dZ|fail) only[gW,reduceIte,aR,aM,iV,bG,d,eF,Code.pI, *]|refine dX ?_ ?_<;>(intro _;try omega))
  all_goals exact⟨_,_,O,g.M _ _ u.M⟩
 have w:=p.M.1 (by intro q';rw[q']at v;simp at v);subst w;obtain⟨ld,el⟩:=p.M.2 _ (aW (ag:0<F E)) (x.U.getD 0 []) (by rw[fc,aW (ag:0<F x.U)];rfl);have hrJ:(0:Int)<(F x.U:Int):=by omega
 clear p;generalize E[0]=a0 at *
 repeat' (first|simp(maxSteps:=9^9) (disch:=first|exact dZ|fail) only[gW,reduceIte,aR,aM,iV,bG,d,Code.pI, *]|refine dX ?_ ?_<;>(intro _;try omega))
 refine eI x_ cD ?_
 repeat' (first|simp(maxSteps:=9^9) (disch:=first|exact dZ|fail) only[gW,reduceIte,aR,aM,iV,bG,d,eF,bh,Code.pI, *]|refine dX ?_ ?_<;>(intro _;try omega))
 any_goals exact⟨_,_,O,g.M _ _ u.M⟩
 have ku:aj (EO aa 0 x):=⟨⟨O,O,by omega,by omega,by omega,by omega,by omega,by omega⟩⟩;refine cK (λz1 e K=>∃i:Nat,i<=F x.bM/\z1=F x.bM-i/\aj (∀n∈x.bM.take i,okF n)/\e.get 1=.ptr (.box (F h.V)) 0/\e.get 2=.ptr (.box (F h.V+1)) 0/\e.get 3=.ac .nil 0 []/\e.get 4=.ac .nil 0 []/\e.get 5=.ac .nil 0 []/\e.get 88=.ac kn sn (ay x.bM)/\e.get 89=(F x.bM:Nat)/\e.get 90=(i:Nat)/\e.defers=[]/\K=H) ?_ (F x.bM) _ _ ?_;rotate_left 1
 .refine⟨0,ck _,O,⟨λn G=>by simp at G⟩,?_,?_,?_,?_,?_,?_,?_,?_,?_,by first|rfl|trivial⟩<;>first|(simp only[gW,reduceIte,aR,aM,B];done)|(simp only[gW,reduceIte,aR,aM,B]<;>first|rfl|(congr 2;omega))
 clear bx d B z27 lW lU eW eU hrJ v ld el f R l25 l22 eX;rintro z1 e K ⟨i,hi,rfl,ki,g1,g2,g3,g4,g5,g88,g89,g90,gd,rfl⟩;by_cases m:i<F x.bM
 .have w:sn=1:=kn1.M (by intro q;rw[q]at m;simp at m);subst w;have ldn:=ev (H:=K) (l:=x.bM) (i:=i) (s:=1) m;have iy:(i:Int)<(F x.bM:Int):=by omega
  have kv:=aj.mk (show x.bM[i]?=J (ah x.bM i) by rw[aW m,fy m]);generalize ah x.bM i=z0 at *
  unfold im at *
  by_cases h1:z0<0
  .refine bB @iV @bh ?_;exact⟨_,_,O,g.M _ _ u.M⟩
  .by_cases h2:(1073741789:Int)<=z0
   .refine bB @iV @bh ?_;exact⟨_,_,O,g.M _ _ u.M⟩
   .have ki2:aj (∀n∈x.bM.take (i+1),okF n):=⟨λn G=>by
     rw[fS kv.M]at G;rcases uQ.1 G with q|q
     .exact ki.M n q
     .rw[js.1 q];exact⟨ag,by show z0<1073741789;omega⟩⟩
    refine bB @iV @bh ?_;exact⟨F x.bM-(i+1),by omega,i+1,by omega,O,ki2,by simp⟩
 .have:i=F x.bM:=by omega
  subst this;have o:=ki.M;rw[gu]at o;have ka:=aj.mk o;clear o;refine br @iV ?_;exact kb.M _ _ ⟨ku.M,ka.M,g1,g2,g3,g4,g5,gd,O⟩
def avk(k){l}(h:0<F l):∃e,gV af 23 (.ac k 1 (ay l)) (J (.v (.int .i64 1))) ao ao=J (.ac e 1 (ay (l.drop 1))):=by have d:F (ay l)=F l:=c' l;refine⟨qX k aa ar (F l-1),?_⟩;unfold gV;simp only[Option.isSome_none,Bool.false_and,Bool.false_eq_true,if_false,underlying23,eQ,gC,d];rw[aC ag];simp only[ay];simp[gm]
def NK(h:0<F U):b7 U=F (U.getD 0 []):=by unfold b7;rw[aL ag]
def aiA{x}{b}(q:EO b (cE x.U x.ae) x)(d:∀n∈x.bM,okF n)(j:0<F x.bM):jL x.U x.ae (ah x.bM 0) (x.bM.drop 1)=0:=by
 unfold jL;rw[aL (by rw[q.prog];simp),aC];have e:cA (ah x.bM 0)=aa:=by have:=d _ (xW j);unfold cA;simp[this.1,this.2]
 have f:(x.bM.drop 1).all cA=aa:=by rw[e8];intro n g;have:=d n (List.mem_of_mem_drop g);unfold cA;simp[this.1,this.2]
 rw[e,f,NK q.Ry,<-q.nums];simp only[Bool.true_and,fL,decide_eq_true_eq];omega
def aib{l}(h:0<F l):ah l 0::l.drop 1=l:=by
 cases l with|nil=>simp at h|cons a t=>rfl
def ir.dg(x:ir):Ce:=⟨x.U,x.ae,0,bF x.bM,x.doc,x.ak,[],[]⟩
def PA.ca(a:PA)(t:Tok)(x:ir):CA:=⟨a.X,a.Y,.ac t 1 (ay (bF x.bM)),a.p,a.r,a.n,a.W,nl,nl⟩
def nP.ce{x}{a}(d:nP x a)(t):c_ x.dg (a.ca t x):=⟨d.px,d.py,⟨_,_,O,λ_=>rfl⟩,d.pd,d.pw,⟨.nil,0,O,λe=>absurd O e⟩,⟨.nil,0,O,λe=>absurd O e⟩⟩
def afP(h:am){x:ir}{a:PA}(d:nP x a){b:Bool}(q:EO b (cE x.U x.ae) x)(G:x.doc.pQ)(hn:∀n∈x.bM,okF n){Post:dP->am->Prop}(pr:∀r K,zQ r->Post r K)
 (go:x.dg.ej=0->iF x.U 0 (bF x.bM)=aa->∀t1 t2 e H,jD x a h H (aG 0 a.X a.Y (.ac t2 1 (ay (bF x.bM))))->e.get 1=.ptr (.box (F h.V)) 0->e.get 2=.ptr (.box (F h.V+1)) 0->e.get 3=nl->e.get 4=nl->e.get 5=nl->e.get 10=.ac t1 2 (bD (fD x.U x.bM))->e.defers=[]->bJ SH (Code.tl 6 vZ) e H (BS Post))
   (v:jD x a h H (aG 0 nl nl nl)) (g1:e.get 1=.ptr (.box (F h.V)) 0) (g2:e.get 2=.ptr (.box (F h.V+1)) 0) (g3:e.get 3=nl) (g4:e.get 4=nl) (g5:e.get 5=nl) (gd:e.defers=[]):
 bJ SH (Code.tl 3 vZ) e H (BS Post):=by
 have f:0<F x.bM:=by have h1:=(pV q.prog).1;rw[NK q.Ry]at h1;have:=q.nums;omega
 have fH:x.bM≠[]:=by intro z;rw[z]at f;simp at f
 obtain⟨l25,l22,-,lN,lD,lW,lU⟩:=uk d v.vL;have FE:=aiA q hn f;have wN:F x.bM<=12:=by have:=q.IA;have:=q.nums;omega
 have hrb:=q.KM;obtain⟨kn,sn,eqn,F2⟩:=d.pn;have dY:=F2 fH;subst dY;obtain⟨k2,esl⟩:=avk kn f;have hz:IL (.ac k2 1 (ay (x.bM.drop 1))) (x.bM.drop 1):=⟨k2,1,O,λ_=>rfl⟩;rcases aj2 d.px d.py hz (by rw[fL];omega) ag (ah x.bM 0) with⟨z,-⟩|⟨-,t1,t2,YA,YB,c⟩
 .exact absurd FE z
 rw[aib f]at c;have c65:=qK c O (show bA [.agg [a.X,a.Y],im (ah x.bM 0),.ac k2 1 (ay (x.bM.drop 1))]=_ from O);have okc:=d.ce t2;have B:IL (.ac t2 1 (ay (bF x.bM))) (bF x.bM):=⟨_,_,O,λ_=>rfl⟩;have okh:=Om okc;have fj:F (bF x.bM)=F x.bM:=by unfold bF;simp
 have fit:x.dg.Fit:=⟨by show List.length x.U<=_;omega,by show(List.length (bF x.bM))<=_;omega,by have:=q.ak;exact Nat.le_trans this aZ,G,Nat.zero_le _,Nat.zero_le _⟩;have c12:=qK (aj3 okh (I5 _) fit) O (show bA [.agg (aG 0 a.X a.Y (.ac t2 1 (ay (bF x.bM)))),.agg (bQ x.doc a.p a.r a.n),a.W]=_ by simp only[bA,av,ye,aG];rfl);have A:=qK (ajZ d.px d.py B ag 0) O (show bA [.agg (aG 0 a.X a.Y (.ac t2 1 (ay (bF x.bM))))]=_ by simp only[bA,av,aG]);have oN:=yR okh;have Qm:=oN.len;have w:=oN.cells;have bK:=mV (ep:=0) d.px d.py B;have g:=aj.mk (And.intro d.px (And.intro d.py B));have b0:=Ux d.px d.py B;have z35:=uK;have ldn:=ev (H:=H) (l:=x.bM) (i:=0) (s:=1) f;obtain⟨p,u⟩:∃p,H.put (List.length h.V+1) (aG 0 a.X a.Y (.ac t2 1 (ay (bF x.bM))))=p:=⟨_,O⟩;have Xm:=(List.getElem?_eq_some_iff.1 v.key).1;have v1:bU Tryz.prog H 27 (.ptr (.box (List.length h.V+1)) 0) (.agg (aG 0 a.X a.Y (.ac t2 1 (ay (bF x.bM)))))=some p:=by rw[<-u,e7 (off:=0) (cs:=aG 0 nl nl nl) (xs:=aG 0 a.X a.Y (.ac t2 1 (ay (bF x.bM)))) bK sF v.key O (Nat.le_of_ble_eq_true O)];rfl
 have y0:p.V[F h.V]?=J (jo x a):=by rw[<-u,cG ag];exact v.vL
 have y1:p.V[F h.V+1]?=J (aG 0 a.X a.Y (.ac t2 1 (ay (bF x.bM)))):=by rw[<-u];exact dy Xm
 obtain⟨m,j⟩:∃m,p.push (aA (jR x.dg) (jn x.dg (hA (a.ca t2 x))))=m:=⟨_,O⟩;have v2:bU af (p.push (aA c0 a0)) 35 (.ptr (.box (F p.V)) 0) (.agg (aA (jR x.dg) (jn x.dg (hA (a.ca t2 x)))))=J m:=by rw[<-j];exact sC Qm w
 have w0:m.V[F h.V]?=J (jo x a):=by rw[<-j];exact aP y0
 have w1:m.V[F h.V+1]?=J (aG 0 a.X a.Y (.ac t2 1 (ay (bF x.bM)))):=by rw[<-j];exact aP y1
 have m25:=(uk d y0).1;have m31:=(uk d y0).2.2.2.2.1;have m23:=(uk d y0).2.2.2.2.2.1;have m27:=vG y1;have n27:=vG w1;have s27:bU af m 27 (.ptr (.box (F h.V+1)) 0) (.agg (aG 0 a.X a.Y (.ac t2 1 (ay (bF x.bM)))))=J m:=by rw[e7 (off:=0) (cs:=aG 0 a.X a.Y (.ac t2 1 (ay (bF x.bM)))) (xs:=aG 0 a.X a.Y (.ac t2 1 (ay (bF x.bM)))) bK sF w1 O (kj O)];exact congrArg J (jb w1)
 have kgo:=aj.mk go;have kun:=aj.mk pr;have R:aj (jD x a h m (aG 0 a.X a.Y (.ac t2 1 (ay (bF x.bM))))):=⟨⟨w0,w1,by rw[<-j,<-u];exact v.live,by rw[<-j,<-u];exact(v.fM.put (Nat.le_succ _) _).push _⟩⟩;have u23:=underlying23;have z3:=eQ;have f59:=Fe;have fG:=c' x.bM;rw[eqn]at lN;have JF:(0:Int)<(F x.bM:Int):=by omega
 refine D_ 3 (λo K'=>x.dg.ej=0/\iF x.U 0 (bF x.bM)=aa/\o.get 1=.ptr (.box (F h.V)) 0/\o.get 2=.ptr (.box (F h.V+1)) 0/\o.get 3=nl/\o.get 4=nl/\o.get 5=nl/\o.get 10=.ac t1 2 (bD (fD x.U x.bM))/\o.defers=[]/\K'=m) ?_ ?_;rotate_left 1
 .rintro o K' ⟨m1,m2,m3,m4,m5,m6,m7,m8,m9,rfl⟩;exact kgo.M m1 m2 t1 t2 o K' R.M m3 m4 m5 m6 m7 m8 m9
 intro bb jO;have kb:=aj.mk jO;clear jO kgo R;unfold vZ;simp only[EM,rK,Code.tl,Code.pI];clear d q G hn go pr v hz c okc B fj fit oN w y0 y1 w0 w1 okh FE eqn F2 fH lU l22 lW lD f Xm;generalize hK:aG 0 a.X a.Y (.ac t2 1 (ay (bF x.bM)))=K at *
 generalize aA (jR x.dg) (jn x.dg (hA (a.ca t2 x)))=N at *
 generalize aA c0 a0=Z0 at *
 unfold im at *
 refine br @iV ?_;refine eI x_ cD ?_;by_cases D:x.dg.ej=0;rotate_left 1
 .have dE:decide (x.dg.ej=0)=ar:=cR D;clear D A;generalize x.dg.ej=ne at *
  refine b_ @iV @bh @bG @j ?_;exact⟨_,_,O,kun.M _ _ ⟨_,_,_,_,_,_,g.M.1,g.M.2.1,g.M.2.2,by rw[hK]⟩⟩
 have kE:=aj.mk D;rw[D]at c12;clear D;cases E:iF x.U 0 (bF x.bM) with|false=>rw[E]at A;clear E;refine b_ @iV @bh @bG @j ?_;exact⟨_,_,O,kun.M _ _ ⟨_,_,_,_,_,_,g.M.1,g.M.2.1,g.M.2.2,by rw[hK]⟩⟩|true=>rw[E]at A;have kR:=aj.mk E;clear E;refine b_ @iV @bh @bG @j ?_;exact kb.M _ _ ⟨kE.M,kR.M,by simp only[gW,reduceIte,aR,aM];exact g1,by simp only[gW,reduceIte,aR,aM];exact g2,by simp only[gW,reduceIte,aR,aM];exact g3,by simp only[gW,reduceIte,aR,aM];exact g4,by simp only[gW,reduceIte,aR,aM];exact g5,by exact gS,by simp only[gW,reduceIte,aR,aM];exact gd,O⟩
def yV(x:ir)(i:Nat):Pr:=nw (ah x.ak i) (x.eZ.getD i (0,0)).1 (x.eZ.getD i (0,0)).2
def dj(x:ir):List Pr:=(bE (F x.ak)).map (yV x)
def Bi(p:Int × Int):Prop:=okF p.1/\okF p.2
def aay{x}(h:i<F x.ak):(dj x)[i]?=J (yV x i):=by unfold dj;rw[ek,xQ h];rfl
def anl(h:l[i]?=J p):aF af Gt H 108 (.elem s (bD l) i 0)=J (.agg (bN p)):=by rw[Do cD (by kernel_rfl:cN af 108=J 2) (row:=bN p) (by unfold bD;rw[ek,h];rfl) (aT 2)];rfl
def axY:(fY af 108).bind I.bL=J (bN (0,0)):=by kernel_rfl
def avJ:bU af (H.push (bN (0,0))) 108 (.ptr (.box (F H.V)) 0) (.agg (bN p))=J (H.push (bN p)):=by rw[e7 (off:=0) (cs:=bN (0,0)) (xs:=bN p) O (by kernel_rfl:cN af 108=J 2) (aQ _ _) O (aT 2)];have d:dW (bN (0,0)) 0 (bN p)=bN p:=rfl;rw[d];exact congrArg J (mF _ _ _)
def al5:(∀b,dM af 108 (.ptr (.box b) 0) (.v (.int .i64 0))=J (.ptr (.box b) 0))/\(∀b,dM af 108 (.ptr (.box b) 0) (.v (.int .i64 1))=J (.ptr (.box b) 1)):=⟨λ_=>by kernel_rfl,λ_=>by kernel_rfl⟩
def ZT45{p:Prop}(h:p:=by
 split at h
 .exact absurd h aZ
 .split at h
  .exact absurd h aZ
  .rename_i d;simpa using d):p:=h
def Dr(h:c.ej=0):gL c.doc=aa:=by
 unfold Ce.ej NT.ej at h;split at h
 .rename_i d;exact absurd h d
 .exact ZT45
section
variable {x:ir} {a:PA} {h K:am} {k:List I} {t:Tok}
def jD.push(b:jD x a h K k)(cs:List I):jD x a h (K.push cs) k:=⟨aP b.vL,aP b.key,b.live,b.fM.push cs⟩
def jD.app(b:jD x a h K k)(c:cY 0 K t):jD x a h (K.app t) k:=⟨by rw[dC];exact b.vL,by rw[dC];exact b.key,zU b.live c,λ_ _ d=>by rw[dC];exact b.fM _ _ d⟩
def U7(b:jD x a h K k)(c:cY 0 K t):cY 0 (K.app t) (.free K.tn):=(Grown.one c b.live (ck _)).can
end
def afQ(h:am){x:ir}{a:PA}(f:nP x a)(G:x.doc.pQ)(AY:F x.ak<=8)(R:F x.eZ=F x.ak)(OH:F (bF x.bM)<=1000000)(hr8:F x.U<=1000000)(hE:x.dg.ej=0){Post:dP->am->Prop}(pr:∀r K,zQ r->Post r K)
 (go:(∀n∈x.eZ,Bi n)->∀T,BL T (cr (eY x.doc))->av T=T->∀L e K,PL L (dj x)->jD x a h K (aG 0 a.X a.Y (.ac t2 1 (ay (bF x.bM))))->e.get 1=.ptr (.box (F h.V)) 0->e.get 2=.ptr (.box (F h.V+1)) 0->e.get 3=T->e.get 4=L->e.get 5=nl->∀{t1},e.get 10=.ac t1 2 (bD (fD x.U x.bM))->e.defers=[]->bJ SH (Code.tl 9 vZ) e K (BS Post))
    (hB:jD x a h H (aG 0 a.X a.Y (.ac t2 1 (ay (bF x.bM))))) (g1:e.get 1=.ptr (.box (F h.V)) 0) (g2:e.get 2=.ptr (.box (F h.V+1)) 0) (g3:e.get 3=nl) (g4:e.get 4=nl) (g5:e.get 5=nl) (E:e.get 10=.ac t1 2 (bD (fD x.U x.bM))) (gd:e.defers=[]):
 bJ SH (Code.tl 6 vZ) e H (BS Post):=by
 obtain⟨-,-,-,-,lD,lW,-⟩:=uk f hB.vL;have okc:=f.ce t2;have okh:=Om okc;have fit:x.dg.Fit:=⟨hr8,OH,ff AY aZ,G,ck _,ck _⟩;obtain⟨T,hT,Ja,cT⟩:=WA okh (I5 _) fit (Dr hE);have Is:=qK cT O (show bA [.agg (bQ x.doc a.p a.r a.n)]=_ by simp only[bA,av,ye];rfl);have D:=λk z0 z1=>qK (Cx k z0 z1) O (Cx k z0 z1).held;have hC:IL (.ac t2 1 (ay (bF x.bM))) (bF x.bM):=⟨_,_,O,λ_=>rfl⟩;have bK:=mV (ep:=0) f.px f.py hC;have m:=aj.mk (au f.px (au f.py hC));have eW:=f.pw.dp;obtain⟨kw,sw,eqw,F5⟩:=f.pw;obtain⟨ku,su,equ,F3⟩:=f.pu;have kwu:=aj.mk (au F5 F3);have kok:=aj.mk f;have keu:=aj.mk equ;rw[eqw]at lW eW;have u23:=underlying23;have u57:=underlying57;have z3:=eQ;have z108:cN af 108=J 2:=by kernel_rfl
 have f59:=Fe;have zc:=axY;have ia:=al5;have fG:=c' x.ak;have YE:=uF x.eZ;have kgo:=aj.mk go;have kun:=aj.mk pr;have kB:=aj.mk hB;have kT:=aj.mk (au hT Ja);clear hT Ja go pr hB cT okc okh fit hC G F5 F3 f eqw equ hE;generalize hK:aG 0 a.X a.Y (.ac t2 1 (ay (bF x.bM)))=o at *
 unfold im at *
 refine D_ 3 (λj K'=>(∀n∈x.eZ,Bi n)/\∃L,PL L (dj x)/\jD x a h K' o/\j.get 1=.ptr (.box (F h.V)) 0/\j.get 2=.ptr (.box (F h.V+1)) 0/\j.get 3=T/\j.get 4=L/\j.get 5=nl/\j.get 10=.ac t1 2 (bD (fD x.U x.bM))/\j.defers=[]) ?_ ?_;rotate_left 1
 .rintro j K' ⟨m0,L,mL,m1,m2,m3,m4,m5,m6,m7,m8⟩;exact kgo.M m0 T kT.M.1 kT.M.2 L j K' mL m1 m2 m3 m4 m5 m6 m7 m8
 intro bb jO;have kb:=aj.mk jO;clear jO kgo;unfold vZ;simp only[EM,rK,Code.tl,Code.pI];refine br @iV ?_;have kK:=aj.mk hK;have lenK:F o=4:=by rw[<-hK];rfl
 have w:=aj.mk (au lenK bK);clear hK lenK;refine cK (λz2 e K=>∃(i:Nat) (t:Tok) (sz:Nat),i<=F x.ak/\z2=F x.ak-i/\aj (jD x a h K o/\cY 0 K t)/\aj (sz=4∨((dj x).take i=[]/\t=.nil))/\aj (∀n∈x.eZ.take i,Bi n)/\
  e.get 1=.ptr (.box (F h.V)) 0/\e.get 2=.ptr (.box (F h.V+1)) 0/\e.get 3=T/\e.get 4=.ac t sz (cU ((dj x).take i))/\e.get 5=nl/\e.get 10=.ac t1 2 (bD (fD x.U x.bM))/\e.get 151=.ac kw sw (ay x.ak)/\e.get 152=(F x.ak:Nat)/\e.get 153=(i:Nat)/\e.defers=[]) ?_ (F x.ak) _ _ ?_
 rotate_left 1
 .refine⟨0,.nil,0,ck _,O,⟨⟨kB.M,.inl O⟩⟩,⟨.inr ⟨O,O⟩⟩,⟨λn hn=>by simp at hn⟩,?_,?_,?_,?_,?_,?_,?_,?_,?_,?_⟩<;>first|(simp only[gW,reduceIte,aR,aM];done)|(exact gA)|(exact gR)
 clear g1 g2 g3 g4 g5 E gd lD lW eW kB Is;rintro z2 e K ⟨i,t,sz,hi,rfl,v,ksz,kN,g1,g2,g3,g4,g5,E,g151,g152,g153,gd⟩;by_cases u:i<F x.ak
 .have dY:sw=1:=kwu.M.1 (by intro q;rw[q]at u;simp at u);have oD:su=2:=kwu.M.2 (by intro q;rw[q]at R;simp at R;omega);subst dY;subst oD;have Qh:=ev (H:=K) (l:=x.ak) (i:=i) (s:=1) u;have iy:(i:Int)<(F x.ak:Int):=by omega
  have alp:(i:Int)<(F x.eZ:Int):=by omega
  obtain⟨g,hp⟩:∃g,x.eZ[i]?=J g:=⟨_,aW ag⟩;have lU:=(uk kok.M v.M.1.vL).2.2.2.2.2.2;rw[keu.M]at lU;have J7:=anl (H:=K) (s:=2) hp;have sto:=avJ (H:=K) (p:=g);have q0:aF af Gt (K.push (bN g)) 3 (.ptr (.box (F K.V)) 0)=J ((g.1:Int):I):=by rw[fI eu (aQ _ _)];rfl
  have q1:aF af Gt (K.push (bN g)) 3 (.ptr (.box (F K.V)) 1)=J ((g.2:Int):I):=by rw[fI eu (aQ _ _)];rfl
  have d:=aj.mk (au (v.M.1.push (bN g)) (show cY 0 (K.push (bN g)) t by rw[sN];exact v.M.2));have l27:aF af Gt (K.push (bN g)) 27 (.ptr (.box (F h.V+1)) 0)=J (.agg o):=by rw[<-kK.M];exact vG (by rw[kK.M];exact d.M.1.key)
  have s27:bU af (K.push (bN g)) 27 (.ptr (.box (F h.V+1)) 0) (.agg o)=J (K.push (bN g)):=by rw[e7 (off:=0) (cs:=o) (xs:=o) w.M.2 sF d.M.1.key w.M.1 (by have:=w.M.1;omega),vU (by have:=w.M.1;omega)];exact congrArg J (jb d.M.1.key)
  have kU:aj (∀K,Post (.ret (.tuple [.agg o,.ac .nil 0 [],.ac .nil 0 [],.ac .nil 0 [],(ar:I),(aa:I)])) K):=⟨λ_=>kun.M _ _ ⟨_,_,_,_,_,_,m.M.1,m.M.2.1,m.M.2.2,by rw[kK.M]⟩⟩;have ap:=ae2 (H:=K.push (bN g)) (l:=(dj x).take i) (p:=yV x i) (by rw[dF];have:F (dj x)=F x.ak:=(by unfold dj;simp);omega) ksz.M d.M.2;rw[<-fS (aay u)]at ap;have bl:=agi (yV x i);have kA:=aj.mk (au (d.M.1.app d.M.2) (U7 d.M.1 d.M.2));have ex:yV x i=nw (ah x.ak i) g.1 g.2:=by unfold yV;rw[fc,hp];rfl
  have cn:=D (ah x.ak i) g.1 g.2;rw[<-ex]at cn;have kp:=aj.mk hp;clear ex hp D kun m;generalize yV x i=A at *
  generalize bm A=PR at *
  generalize ah x.ak i=wi at *
  generalize vA:g.1=p1 at *
  generalize pq:g.2=p2 at *
  have B:=aj.mk (au vA pq);clear vA pq;generalize bN g=SR at *
  generalize bN (0,0)=S0 at *
  unfold im at *
  by_cases h1:p1<0
  .refine bB @iV @bh ?_;exact⟨_,_,O,kU.M _⟩
  by_cases h2:(1073741789:Int)<=p1
  .refine bB @iV @bh ?_;exact⟨_,_,O,kU.M _⟩
  by_cases h3:p2<0
  .refine bB @iV @bh ?_;exact⟨_,_,O,kU.M _⟩
  by_cases h4:(1073741789:Int)<=p2
  .refine bB @iV @bh ?_;exact⟨_,_,O,kU.M _⟩
  have kN2:aj (∀n∈x.eZ.take (i+1),Bi n):=⟨λn hn=>by
   rw[fS kp.M]at hn;rcases uQ.1 hn with q|q
   .exact kN.M n q
   .rw[js.1 q];exact⟨⟨by rw[B.M.1];omega,by rw[B.M.1];show p1<1073741789;omega⟩,⟨by rw[B.M.2];omega,by rw[B.M.2];show p2<1073741789;omega⟩⟩⟩
  refine bB @iV @bh ?_;exact⟨F x.ak-(i+1),by omega,i+1,_,4,by omega,O,kA,⟨.inl O⟩,kN2,by simp⟩
 .have gw:i=F x.ak:=by omega
  subst gw;have e1:(dj x).take (F x.ak)=dj x:=gm (by unfold dj;simp);rw[e1]at g4 ksz;have p:=kN.M;rw[gm (ad8 R)]at p;have kN3:=aj.mk p;clear p e1 D;refine br @iV ?_;have ga:PL (.ac t sz (cU (dj x))) (dj x):=⟨t,sz,O,λq=>by
   rcases ksz.M with z|⟨z,-⟩
   .exact z
   .exact absurd z q⟩
  exact kb.M _ _ ⟨kN3.M,_,ga,v.M.1,by simp only[gW,reduceIte,aR,aM];exact g1,by simp only[gW,reduceIte,aR,aM];exact g2,by simp only[gW,reduceIte,aR,aM];exact g3,by simp only[gW,reduceIte,aR,aM];exact g4,by simp only[gW,reduceIte,aR,aM];exact g5,by simp only[gW,reduceIte,aR,aM];exact E,by simp only[gW,reduceIte,aR,aM];exact gd⟩
structure v9(K:am)(s t:Tok):Prop where
 one:cY 0 K s
 two:cY 0 K t
 apart:∀m,t=.free m->s≠ .free m
def v9.push{s}(w:v9 K s t)(cs):v9 (K.push cs) s t:=⟨by rw[sN];exact w.one,by rw[sN];exact w.two,w.apart⟩
def v9.app{s}(w:v9 K s t)(e:cS K=aa):v9 (K.app t) s (.free K.tn):=by
 refine⟨Ca w.one w.apart,(Grown.one w.two e (ck _)).can,λg f z=>?_⟩;injection f with f;subst f;rcases w.one with rfl|rfl|⟨g,rfl,-,d⟩
 .cases z
 .cases z
 .injection z with z;have:=rM d;omega
def v9.swap{s}(w:v9 K s t):v9 K t s:=⟨w.two,w.one,λd e z=>w.apart d z e⟩
def Dy(x:ir)(i:Nat):List (Int × Int):=pD x.ae [ah x.ak i] (fD x.U x.bM)
def gf(x:ir)(i:Nat):Int × Int:=nx x.U x.ae 0 (bF x.bM) (cr (eY x.doc)) (dj x) (ah x.ak i) (Dy x i) (x.eZ.getD i (0,0)).1 (x.eZ.getD i (0,0)).2
def gZ(x:ir):List (Int × Int):=(bE (F x.ak)).map λi=>(ah x.ak i,(gf x i).1)
def apV{x}(h:i<F x.ak):(gZ x)[i]?=J (ah x.ak i,(gf x i).1):=by unfold gZ;rw[ek,xQ h];rfl
def apv(x)(i):F (Dy x i)<=F x.U:=by have:=QN (ae:=x.ae) (ak:=[ah x.ak i]) (fD x.U x.bM);rw[E9]at this;unfold Dy;simpa using this
def agk(p):fF af 33 1 [(0,.agg (bN p))]=J (.ac .aK 2 [bN p]):=by kernel_rfl
def agm(p):fF af 72 1 [(0,.agg (bN p))]=J (.ac .aK 2 [bN p]):=by kernel_rfl
def amf:∃i,af.info? 48=J i/\i.size=2/\i.bytes<=64/\(i.zero.map λz=>z.cells.size)=J 2:=by
 have h:(match af.info? 48 with|some i=>iJ i.size 2&&Nat.ble i.bytes 64&&decide ((i.zero.map λz=>z.cells.size)=J 2)|none=>ar)=aa:=by kernel_rfl
 cases d:af.info? 48 with
 |none=>rw[d]at h;cases h
 |some i=>rw[d]at h;simp only[bR,decide_eq_true_eq]at h;exact⟨i,O,nM h.1.1,kj h.1.2,h.2⟩
def PB(h K:am)(v:I)(l:List (Int × Int)):Prop:=(l=[]/\v=.ac .nil 0 [])∨∃b,F h.V+1<b/\l≠[]/\v=.arr b 0 (F l) (F l)/\K.V[b]?=J (bD l).flatten
def PB.push(p:PB h K v l)(cs):PB h (K.push cs) v l:=p.imp id λ⟨b,h1,h2,h3,h4⟩=>⟨b,h1,h2,h3,aP h4⟩
def PB.app(p:PB h K v l)(t):PB h (K.app t) v l:=p.imp id λ⟨b,h1,h2,h3,h4⟩=>⟨b,h1,h2,h3,by rw[dC];exact h4⟩
def aa2{c}{d}(e:b≠c)(f:K.V[c]?=J d):(K.put b cs).V[c]?=J d:=by show(K.V.set b cs)[c]?=_;rw[List.getElem?_set_ne e];exact f
def jD.put{x}{a}{k}(w:jD x a h K k)(d:F h.V+1<b)(cs):jD x a h (K.put b cs) k:=⟨aa2 ag w.vL,aa2 ag w.key,w.live,w.fM.put ag cs⟩
def ajA(l):F (bD l).flatten=F l*2:=by
 unfold bD
 induction l with
 |nil=>rfl|cons e l d=>simp only[dK,mj,db,d,eR];show 2+_=_;omega
def aw0{x}{a}{k}(w:jD x a h K k)(B:PB h K v l)(G:F l<1000000)(f:F h.V+1<F K.V)(p):
 ∃q j,nD af K #[33,33] v (.ac .aK 2 [bN p])=J (q,j)/\PB h j q (l++[p])/\jD x a h j k:=by
 obtain⟨i,m,d,D,n⟩:=amf;have E:=lu (ag:F l+1<=1000000) D;have g:l++[p]≠[]:=by simp
 have o:F (l++[p])=F l+1:=by simp
 have e:(bD (l++[p])).flatten=(bD l).flatten++[bN p].flatten:=by rw[<-ab0,tR]
 rcases B with⟨rfl,rfl⟩|⟨b,r,u,rfl,A⟩
 .have:=Bt (P:=af) (t0:=33) (t1:=33) (h:=K) (k:=.nil) (sz:=0) (es:=[]) (new:=[bN p]) (i:=i) (x:=.ac .aK 2 [bN p]) underlying33 underlying33 m ag (by rw[d];exact n) cB (by simp;omega) cB (.inr O) (.inl O) (by rw[d];exact Ds);refine⟨_,_,this,.inr ⟨F K.V,f,g,O,?_⟩,w.push _⟩;rw[aQ,e];rfl
 .have:=Hk (P:=af) (t0:=33) (t1:=33) (h:=K) (b:=b) (len:=l.length) (cs:=(bD l).flatten) (new:=[bN p]) (i:=i) (x:=.ac .aK 2 [bN p]) underlying33 underlying33 m ag (by rw[d];exact n) cB (by simp;omega) (by simp;omega) A (BJ.mpr u) (by rw[d,ajA]) (by rw[d];exact Ds);refine⟨_,_,this,.inr ⟨F K.V,f,g,by rw[o];rfl,?_⟩,(w.put r []).push _⟩;have:F (K.put b []).V=F K.V:=by show(F (K.V.set b []))=_;simp
  rw[<-this,aQ,e]
def afF:∀a b,iK af 48 [(0,.v a),(1,.v b)]=J (.agg [.v a,.v b]):=λ_ _=>by kernel_rfl
def ama:(∀s es k,dM af 108 (.elem s es k 0) (.v (.int .i64 0))=J (.elem s es k 0))/\(∀s es k,dM af 108 (.elem s es k 0) (.v (.int .i64 1))=J (.elem s es k 1)):=⟨λ_ _ _=>by kernel_rfl,λ_ _ _=>by kernel_rfl⟩
def afR(h:am){x:ir}{a:PA}(R:nP x a)(AY:x.ak.length<=8)(rf:x.eZ.length=x.ak.length)(OH:(bF x.bM).length<=1000000)(azF:x.U.length<=12)(D:x.U.length=x.ae.length){L:I}(hT:BL T (cr (eY x.doc)))(hL:PL L (dj x))
 (hm:∀i,i<x.ak.length->(gf x i).2=0/\okF (gf x i).1) {Post:dP->am->Prop}
 (go:∀Z K,jD x a h K (aG 0 a.X a.Y (.ac t2 1 (ay (bF x.bM))))->PB h K Z (gZ x)->Post (.ret (.tuple [.agg (aG 0 a.X a.Y (.ac t2 1 (ay (bF x.bM)))),T,L,Z,(aa:I),(aa:I)])) K)
    (hB:jD x a h H (aG 0 a.X a.Y (.ac t2 1 (ay (bF x.bM))))) (g1:e.get 1=.ptr (.box h.V.length) 0) (g2:e.get 2=.ptr (.box (h.V.length+1)) 0) (g3:e.get 3=T) (g4:e.get 4=L) (g5:e.get 5=nl) (g10:e.get 10=.ac t1 2 (bD (fD x.U x.bM))) (gd:e.defers=[]):
 bJ SH (Code.tl 9 vZ) e H (BS Post):=by
 obtain⟨-,-,-,-,-,lW,-⟩:=uk R hB.vL;have hC:IL (.ac t2 1 (ay (bF x.bM))) (bF x.bM):=⟨_,_,rfl,λ_=>rfl⟩;have JH:(dj x).length=x.ak.length:=by unfold dj;simp
 have w:∀S i,SL S (Dy x i)->∀h,SH.call 30 [.agg (aG 0 a.X a.Y (.ac t2 1 (ay (bF x.bM)))),T,L,im (ah x.ak i),S,im (x.eZ.getD i (0,0)).1,im (x.eZ.getD i (0,0)).2] h=J (.ret (.tuple [im (gf x i).1,im (gf x i).2]),h):=λS i hS=>
  qK (aj0 R.px R.py hC hT hL hS OH ag (by have:=apv x i;omega) 0 (ah x.ak i) (x.eZ.getD i (0,0)).1 (x.eZ.getD i (0,0)).2) rfl (by simp only[bA,av,aG];rfl)
 have G:=aj.mk D;clear D;have eW:=R.pw.dp;obtain⟨kw,sw,eqw,F5⟩:=R.pw;have o:=aj.mk (au R F5);rw[eqw] at lW eW;have u23:=underlying23;have z3:=eQ;have f59:=Fe;have fG:=c' x.ak;have kgo:=aj.mk go;have kB:=aj.mk hB;have km:=aj.mk hm;have kc30:=aj.mk w;clear hT hL go hB hC F5 R eqw hm w;have bK:=mV (ep:=0) o.M.1.px o.M.1.py (show IL (.ac t2 1 (ay (bF x.bM))) (bF x.bM) from⟨_,_,rfl,λ_=>rfl⟩);generalize hK:aG 0 a.X a.Y (.ac t2 1 (ay (bF x.bM)))=v at *
 have lenK:v.length=4:=by rw[<-hK];rfl
 have kLK:=aj.mk (au lenK bK);have kK:=aj.mk hK;clear hK lenK bK;unfold vZ;simp only[EM,rK,Code.tl];unfold im at *
 refine br @iV ?_;refine cK (λz2 e K=>∃(i:Nat) (Z:I),i<=x.ak.length/\z2=x.ak.length - i/\aj (jD x a h K v/\PB h K Z ((gZ x).take i))/\
  e.get 1=.ptr (.box h.V.length) 0/\e.get 2=.ptr (.box (h.V.length+1)) 0/\e.get 3=T/\e.get 4=L/\e.get 5=Z/\e.get 10=.ac t1 2 (bD (fD x.U x.bM))/\e.get 193=.ac kw sw (ay x.ak)/\e.get 194=(x.ak.length:Nat)/\e.get 195=(i:Nat)/\e.defers=[]) ?_ x.ak.length _ _ ?_
 rotate_left 1
 .refine⟨0,nl,ck _,rfl,⟨⟨kB.M,.inl ⟨rfl,rfl⟩⟩⟩,?_,?_,?_,?_,?_,?_,?_,?_,?_,?_⟩<;>first|(simp only[gW,reduceIte,aR,aM];done)|(exact gA)|(exact gR)
 clear g1 g2 g3 g4 g5 g10 gd lW eW kB;rintro z2 e K ⟨i,Z,hi,rfl,n,g1,g2,g3,g4,g5,g10,g193,g194,g195,gd⟩;by_cases A:i<x.ak.length;rotate_left 1
 .have gw:i=x.ak.length:=by omega
  subst gw;have e1:(gZ x).take x.ak.length=gZ x:=gm (by unfold gZ;simp);have hP:=kgo.M Z K n.M.1 (by have:=n.M.2;rwa [e1] at this);have kP:=aj.mk hP;clear hP e1;have l27:aF af Gt K 27 (.ptr (.box (h.V.length+1)) 0)=J (.agg v):=by rw[<-kK.M];exact vG (by rw[kK.M];exact n.M.1.key)
  have s27:bU af K 27 (.ptr (.box (h.V.length+1)) 0) (.agg v)=J K:=by rw[e7 (off:=0) (cs:=v) (xs:=v) kLK.M.2 sF n.M.1.key kLK.M.1 (by have:=kLK.M.1;omega),vU (by have:=kLK.M.1;omega)];exact congrArg J (jb n.M.1.key)
  refine br @iV ?_;exact⟨_,_,rfl,kP.M⟩
 have dY:sw=1:=o.M.2 (by intro p;rw[p] at A;simp at A);subst dY;have Qh:=ev (H:=K) (l:=x.ak) (i:=i) (s:=1) A;have iy:(i:Int)<(x.ak.length:Int):=by omega
 have oE:=uF (fD x.U x.bM);rw[E9] at oE;have u72:=underlying72;have e72:dp af 72 (.ac t1 2 (bD (fD x.U x.bM)))=J ((x.U.length:Nat):I):=by unfold dp;simp only[u72,oE]
 have kw2:aj (PB h K Z ((gZ x).take i)/\cY 0 K .nil):=⟨⟨n.M.2,.inl rfl⟩⟩;refine bB @iV @bh ?_;obtain⟨ky,sy,eqy,lV⟩:=o.M.1.py;have ky1:=aj.mk (au eqy lV);clear eqy lV;refine cK (λz2 f g=>∃(d:Nat) (r:Tok) (q:Nat),d<=x.U.length/\z2=x.U.length - d/\aj (jD x a h g v/\PB h g Z ((gZ x).take i)/\cY 0 g r)/\aj (q=2∨(pD x.ae [ah x.ak i] ((fD x.U x.bM).take d)=[]/\r=.nil))/\
  f.get 1=.ptr (.box h.V.length) 0/\f.get 2=.ptr (.box (h.V.length+1)) 0/\f.get 3=T/\f.get 4=L/\f.get 5=Z/\f.get 10=.ac t1 2 (bD (fD x.U x.bM))/\f.get 193=.ac kw 1 (ay x.ak)/\f.get 194=(x.ak.length:Nat)/\f.get 195=(i:Nat)/\
  f.get 19=(i:Nat)/\f.get 20=ah x.ak i/\f.get 21=.ac r q (bD (pD x.ae [ah x.ak i] ((fD x.U x.bM).take d)))/\f.get 200=.ac t1 2 (bD (fD x.U x.bM))/\f.get 201=(x.U.length:Nat)/\f.get 202=(d:Nat)/\f.defers=[]) ?_ x.U.length _ _ ?_
 rotate_left 1
 .refine⟨0,.nil,0,ck _,rfl,⟨⟨n.M.1,kw2.M⟩⟩,⟨.inr ⟨rfl,rfl⟩⟩,?_,?_,?_,?_,?_,?_,?_,?_,?_,?_,?_,?_,?_,?_,?_,?_⟩<;>first|(simp only[gW,reduceIte,aR,aM];done)|(exact gA)|(exact gR)
 clear g1 g2 g3 g4 g5 g10 g193 g194 g195 gd Qh n kw2 e72;rintro z2 f g ⟨d,r,q,hj,rfl,E,u,g1,g2,g3,g4,g5,g10,g193,g194,g195,g19,g20,g21,g200,g201,g202,gd⟩;by_cases alo:d<x.U.length
 .obtain⟨z4,hr⟩:∃z4,x.U[d]?=J z4:=⟨_,aW alo⟩;have B:=NP (s:=x.bM) hr;generalize lP z4 x.bM=z0 at *
  have J7:aF af Gt g 110 (.elem 2 (bD (fD x.U x.bM)) d 0)=J (.agg (bN (((d:Nat):Int),z0))):=Zj B;have stp:=awk (H:=g) (((d:Nat):Int),z0);have zc:=aye;have lb:=anq (aQ g (bN (((d:Nat):Int),z0)));have l3:aF af Gt (g.push (bN (((d:Nat):Int),z0))) 3 (.ptr (.box g.V.length) 0)=J ((d:Nat):I):=by rw[fI eu (aQ _ _)];rfl
  have m:=aj.mk (au (E.M.1.push (bN (((d:Nat):Int),z0))) (au (E.M.2.1.push (bN (((d:Nat):Int),z0))) (show cY 0 (g.push (bN (((d:Nat):Int),z0))) r by rw[sN];exact E.M.2.2)));have lo:=(uk o.M.1 m.M.1.vL).2.2.1;rw[ky1.M.1] at lo;have alT:sy=1:=ky1.M.2 (by intro p;have D:=G.M;rw[p] at D;have z:x.U.length=0:=D;omega);rw[alT] at lo;have ldo:=ev (H:=g.push (bN (((d:Nat):Int),z0))) (l:=x.ae) (i:=d) (s:=1) (by have:=G.M;omega);have AN:=c' x.ae;have f81:=ajh;have FL:(d:Int)<(x.U.length:Int):=by omega
  have hjO:(d:Int)<(x.ae.length:Int):=by have:=G.M;omega
  have z110:=Hi;have j:=ao9 (ae:=x.ae) (ak:=[ah x.ak i]) B;have epk:yY x.ae [ah x.ak i] (((d:Nat):Int),z0)=if ah x.ak i=ah x.ae d then [(((d:Nat):Int),z0)] else []:=by
   unfold yY;by_cases p:ah x.ak i=ah x.ae d
   .rw[aC p];simp[p]
   .rw[aL p];simp[p]
  rw[epk] at j;have nZ:(pD x.ae [ah x.ak i] ((fD x.U x.bM).take d)).length<=12:=by have:=QN (ae:=x.ae) (ak:=[ah x.ak i]) ((fD x.U x.bM).take d);rw[dF] at this;simp at this;omega
  have ap:=Ii (T:=72) (es:=bD (pD x.ae [ah x.ak i] ((fD x.U x.bM).take d))) (r:=bN (((d:Nat):Int),z0)) u72 P1 aZ (by rw[uF];omega) (u.M.imp id λp=>⟨by rw[p.1];rfl,p.2⟩) m.M.2.2;rw[ab0] at ap;have bl:=agm (((d:Nat):Int),z0);have kA:=aj.mk (au (m.M.1.app m.M.2.2) (au (m.M.2.1.app r) (U7 m.M.1 m.M.2.2)));clear B hr epk;by_cases p:ah x.ak i=ah x.ae d
  .rw[aC p] at j;rw[<-j] at ap;have dq:decide (ah x.ae d=ah x.ak i)=aa:=cy p.symm;have kq:=aj.mk p;clear p j;generalize bD (pD x.ae [ah x.ak i] ((fD x.U x.bM).take d))=E0 at *
   generalize bN (((d:Nat):Int),z0)=SR at *
   generalize bN (0,0)=S0 at *
   unfold im at *
   refine dL @iV @fZ @bh ?_;exact⟨x.U.length - (d+1),by omega,d+1,_,2,by omega,rfl,kA,⟨.inl rfl⟩,by simp⟩
  .rw[aL p,g'] at j;have dq:decide (ah x.ae d=ah x.ak i)=ar:=cR λz=>p z.symm;have ksz3:aj (q=2∨(pD x.ae [ah x.ak i] ((fD x.U x.bM).take (d+1))=[]/\r=.nil)):=⟨by rw[j];exact u.M⟩;have ke:=aj.mk j;clear p j ap bl kA;generalize bN (((d:Nat):Int),z0)=SR at *
   generalize bN (0,0)=S0 at *
   unfold im at *
   refine dL @iV @fZ @bh ?_;exact⟨x.U.length - (d+1),by omega,d+1,r,q,by omega,rfl,m,ksz3,by rw[ke.M];simp⟩
 .have nY:d=x.U.length:=by omega
  subst nY;have e1:(fD x.U x.bM).take x.U.length=fD x.U x.bM:=gm (by rw[E9];exact aT _);rw[e1] at g21 u;have hS:SL (.ac r q (bD (pD x.ae [ah x.ak i] (fD x.U x.bM)))) (Dy x i):=⟨r,q,rfl,λp=>by
   rcases u.M with z|⟨z,-⟩
   .exact z
   .exact absurd z p⟩
  have w:=kc30.M _ i hS;clear hS e1;have u57:=underlying57;have u33:=underlying33;have z108:cN af 108=J 2:=by kernel_rfl
  obtain⟨z1,B⟩:∃z1,x.eZ[i]?=J z1:=⟨_,aW ag⟩;obtain⟨ku,su,equ,F3⟩:=o.M.1.pu;have lU:=(uk o.M.1 E.M.1.vL).2.2.2.2.2.2;rw[equ] at lU;have Yx:su=2:=F3 (by intro p;rw[p] at rf;simp at rf;omega);rw[Yx] at lU;have il:=ama;have b48:=afF;have n0:aF af Gt g 3 (.elem 2 (bD x.eZ) i 0)=J ((z1.1:Int):I):=by rw[rm eu (row:=bN z1) (by unfold bD;rw[ek,B];rfl)];rfl
  have n1:aF af Gt g 3 (.elem 2 (bD x.eZ) i 1)=J ((z1.2:Int):I):=by rw[rm eu (row:=bN z1) (by unfold bD;rw[ek,B];rfl)];rfl
  have e2:x.eZ.getD i (0,0)=z1:=by rw[fc,B];rfl
  rw[e2] at w;have YE:=uF x.eZ;have alp:(i:Int)<(x.eZ.length:Int):=by omega
  have l27:aF af Gt g 27 (.ptr (.box (h.V.length+1)) 0)=J (.agg v):=by rw[<-kK.M];exact vG (by rw[kK.M];exact E.M.1.key)
  have kmi:=km.M i A;rw[kmi.1] at w;have hz:=kmi.2;obtain⟨Z',K2,tp,pb,bg⟩:=aw0 E.M.1 E.M.2.1 (by rw[dF];omega) (aU.mp E.M.1.key).1 (ah x.ak i,(gf x i).1);rw[<-fS (apV A)] at pb;have bl:fF af 33 1 [(0,.agg [(ah x.ak i:I),(((gf x i).1:Int):I)])]=J (.ac .aK 2 [bN (ah x.ak i,(gf x i).1)]):=agk (ah x.ak i,(gf x i).1);have kA:=aj.mk (au bg pb);clear B e2 km kmi F3 equ Yx kc30 bg pb;generalize bN (ah x.ak i,(gf x i).1)=SR at *
  generalize (gf x i).1=z at *
  have yI:¬z<0:=by have:=hz.1;omega
  have oF:¬(1073741789:Int)<=z:=by have:=hz.2;simp only[Qi] at this;omega
  clear hz;generalize ah x.ak i=wi at *
  generalize z1.1=p1 at *
  generalize z1.2=p2 at *
  generalize bD (pD x.ae [wi] (fD x.U x.bM))=E0 at *
  unfold im at *
  refine br @iV ?_;refine eI x_ cD ?_;refine bB @iV @bh ?_;exact⟨x.ak.length - (i+1),by omega,i+1,Z',by omega,rfl,kA,by simp⟩
def nV(l:List (Int × Int)):List Int:=l.flatMap λd=>[d.1,d.2]
def ajx(l):F (nV l)=2*F l:=by
 unfold nV
 induction l with
 |nil=>rfl|cons e l d=>rw[List.flatMap_cons,db,d,eR];simp only[eR,gh];omega
def An:∀(l:List (Int × Int)) (i:Nat),ah (nV l) (2*i)=(l.getD i (0,0)).1/\ah (nV l) (2*i+1)=(l.getD i (0,0)).2
 | [],i=>by simp[nV,ah]
 |p::l,0=>⟨O,O⟩
 |p::l,i+1=>An l i
def ajy(h:∀n∈l,Bi n):∀z∈nV l,okF z:=by
 intro z d;unfold nV at d;obtain⟨n,e,d⟩:=List.mem_flatMap.1 d;simp only[gX,rI,or_false]at d;rcases d with rfl|rfl
 .exact(h n e).1
 .exact(h n e).2
def aeA{ae ak y}(h:fg U ae ak=(y,aa,0))(g:0<b7 U):ak≠[]:=by
 rintro rfl;obtain⟨-,-,-,-,e,f⟩:=wt h;have:=f 0 g;have j:((bE (F U)).map λi=>ah y i*ah (U.getD i []) 0)=(bE (F U)).map λ_=>0:=wh λi _=>by rw[e i cB,Int.zero_mul]
 have z:∀L:List Nat,cI (L.map λ_=>(0:Int))=0:=by
  intro L
  induction L with
  |nil=>rfl|cons a L d=>rw[dK];simp[cI]at d ⊢;try exact d
 rw[j,z]at this;exact absurd this aZ
def ZZ(h:c.ej=0):cE c.U c.ae=0/\(∃y,fg c.U c.ae c.ak=(y,aa,0))/\F c.aH=b7 c.U:=by
 unfold Ce.ej NT.ej at h;split at h
 .rename_i j;exact absurd h j
 .rename_i g;split at h
  .exact absurd h aZ
  .rename_i f;split at h
   .exact absurd h aZ
   .split at h
    .exact absurd h aZ
    .split at h
     .exact absurd h aZ
     .rename_i d;refine⟨by simpa using g,?_,by simp at f;exact f.2.2.2⟩;rcases e:fg c.U c.ae c.ak with⟨y,b,m⟩;rw[e]at d;simp at d;exact⟨y,by rw[d.1,d.2]⟩
def aqc{x}(g:∀n∈x.eZ,Bi n)(e:F x.eZ=F x.ak):oW x.ak (nV x.eZ) (dj x):=by
 refine⟨by unfold dj;simp,by rw[ajx,e],ajy g,λi f=>⟨0,by decide,by decide,?_⟩⟩;rw[aay f,(An x.eZ i).1,(An x.eZ i).2];have d:b8 4=aa:=by decide
 unfold yV nw;rw[rU d,rU d];rfl
def VM(h:gL d=aa)(e:F d.tx=32):F (cr (eY d))<=1000:=by unfold gL ij at h;simp only[bR,decide_eq_true_eq]at h;exact NU ag ag ag e
def aqd{x}(p:∀n∈x.eZ,Bi n)(g:F x.eZ=F x.ak)(u:F x.ak<=8)(f:x.dg.ej=0)(r:F x.doc.tx=32)(q:0<F x.bM):
 ∃y,sI x.U x.ae x.ak (nV x.eZ) x.bM y (dj x) (cr (eY x.doc)) 0:=by
 obtain⟨v,⟨y,e⟩,j⟩:=ZZ f;have o:F x.bM=b7 x.U:=by have m:F (bF x.bM)=b7 x.U:=j;rw[<-m];unfold bF;rw[bI]
 have w:F (cr (eY x.doc))<=1000:=VM (d:=x.doc) (Dr (c:=x.dg) f) r;exact⟨y,aqc p g,e,aeA e (by show 0<b7 x.U;omega),by omega,by omega,by decide,o⟩
def aon{x}{y}(d:F x.U=F x.ae)(c:sI x.U x.ae x.ak (nV x.eZ) x.bM y (dj x) (cr (eY x.doc)) 0)(hi:i<F x.ak):(gf x i).2=0/\okF (gf x i).1:=by have:=VC c.qk c.acc c.ne c.wl c.tl c.ep c.sl hi;rw[(An x.eZ i).1,(An x.eZ i).2,<-aaq d]at this;unfold gf Dy;rw[this];exact⟨O,QU⟩
structure Used(x:ir)(a:PA)(t2:Tok)(T L:I)(y:List Int):Prop where
 qk:sI x.U x.ae x.ak (nV x.eZ) x.bM y (dj x) (cr (eY x.doc)) 0
 new:x.dg.ej=0
 xw:BL T (cr (eY x.doc))
 held:av T=T
 prs:PL L (dj x)
 len:x.eZ.length=x.ak.length
 Ht:x.ak.length<=8
 atg:x.U.length<=12
 aoT:x.bM.length<=12
def S9(x:ir)(a:PA)(h:am)(r:dP)(K:am):Prop:=
 zQ r∨∃t2 T L y Z,Used x a t2 T L y/\jD x a h K (aG 0 a.X a.Y (.ac t2 1 (ay (bF x.bM))))/\PB h K Z (gZ x)/\r=.ret (.tuple [.agg (aG 0 a.X a.Y (.ac t2 1 (ay (bF x.bM)))),T,L,Z,(aa:I),(aa:I)])
def afM(h:am)(eH:cS h=aa){x:ir}{a:PA}(e:nP x a)(v:x.doc.pQ):∃r h',SH.call 23 [.agg (jo x a)] h=J (r,h')/\S9 x a h r h':=by
 obtain⟨b,hb,f⟩:=ajX e.px e.py;have f:=qK f O (show bA [.agg [a.X,a.Y]]=[.agg [av a.X,av a.Y]] from O);have G:b=aa->∀h,SH.call 40 [.agg [a.X,a.Y]] h=J (.ret (im (cE x.U x.ae)),h):=λd=>qK (aj1 e.px e.py (by have:=(hb d).1;omega)) O (show bA [.agg [a.X,a.Y]]=[.agg [av a.X,av a.Y]] from O);have w:∀r K,zQ r->S9 x a h r K:=λr K z1=>.inl z1;refine afO h eH e f G w λd hn z0 H u g m n o p q=>?_;have E:0<F x.bM:=by have h1:=(pV d.prog).1;rw[NK d.Ry]at h1;have:=d.nums;omega
 have A:F (bF x.bM)<=1000000:=by unfold bF;rw[bI,d.nums];have:=d.IA;omega
 refine afP h e d v hn w (λD hk t1 t2 z0 H u g m n o p j q=>?_) u g m n o p q;refine afQ h e v d.ak d.eZ A (by have:=d.KM;omega) D w (λhN T hT Ja L z0 K hL u g m n o p {t1} j q=>?_) u g m n o p j q;obtain⟨y,R⟩:=aqd hN d.eZ d.ak D e.pd.t E;have B:=(oj d.prog).1;refine afR h e d.ak d.eZ A d.KM B hT hL (λi hi=>aon B R hi) (λZ K bg pb=>.inr ⟨t2,T,L,y,Z,⟨R,D,hT,Ja,hL,d.eZ,d.ak,d.KM,by have:=d.IA;have:=d.nums;omega⟩,bg,pb,O⟩) u g m n o p j q
def Gj(h:c.ej=0):dD (-1) c.ak=aa:=by
 unfold Ce.ej NT.ej at h;split at h
 .rename_i d;exact absurd h d
 .split at h
  .exact absurd h aZ
  .exact ZT45
def QY{α}{right}{k}:∀{ak:List Int} {last:Int} {f:Nat->α},dD last ak=aa->(∀i,i<F ak->right (f i)=aa/\k (f i)=ah ak i)->fJ right k last ((bE (F ak)).map f)=aa
 | [],_,_,_,_=>rfl
 |n::l,last,f,h,d=>by unfold dD at h;simp only[bR,decide_eq_true_eq]at h;obtain⟨e,g⟩:=d 0 (Nat.succ_pos _);have j:k (f 0)=n:=g;rw[eR,adT,dK,tS,yT,j];exact⟨e,h.1.1,QY h.2 λi m=>d (i+1) (Nat.succ_lt_succ m)⟩
def ZL{l:List Int}(h:i<F l):l.contains (ah l i)=aa:=List.elem_eq_true_of_mem (xW h)
def VJ(h:gL d=aa):F d.pa<=16/\F d.rv<=16/\F d.nd<=16:=by unfold gL ij at h;simp only[bR,decide_eq_true_eq]at h;omega
section
variable {x:ir} {a:PA} {t2:Tok} {T L:I} {y:List Int}
def aop(d:F x.U=F x.ae)(c:sI x.U x.ae x.ak (nV x.eZ) x.bM y (dj x) (cr (eY x.doc)) 0)(hi:i<F x.ak):
 gf x i=(xd x.U x.ae x.bM x.ak (nV x.eZ) (dj x) (cr (eY x.doc)) i,0):=by
 have:=VC c.qk c.acc c.ne c.wl c.tl c.ep c.sl hi;unfold xd;rw[(An x.eZ i).1,(An x.eZ i).2,<-aaq d]at this ⊢;exact this
def Used.prog(u:Used x a t2 T L y):cE x.U x.ae=0:=(ZZ (c:=x.dg) u.new).1
def Used.part(u:Used x a t2 T L y)(hi:i<F x.ak):gf x i=(xd x.U x.ae x.bM x.ak (nV x.eZ) (dj x) (cr (eY x.doc)) i,0):=aop (oj u.prog).1 u.qk hi
def Used.bH(u:Used x a t2 T L y):fJ (pJ x.ak) Pr.bC (-1) (dj x)=aa:=by refine QY (Gj (c:=x.dg) u.new) λi d=>⟨?_,O⟩;show(x.ak.contains (ah x.ak i)&&decide ((0:Int)<=0)&&decide ((0:Int)<4096)&&b8 (eO 4 _)&&b8 (eO 4 _))=aa;rw[ZL d,wB sS,wB sS];rfl
def amh{v}(h:okF v):cA v=aa:=by unfold cA;simp[h.1,h.2]
def Used.aS(u:Used x a t2 T L y){f:Nat->Int}(e:∀i,i<F x.ak->okF (f i)):fJ (oQ x.ak) ju (-1) ((bE (F x.ak)).map λi=>(ah x.ak i,f i))=aa:=
 QY (Gj (c:=x.dg) u.new) λi d=>⟨by show(x.ak.contains (ah x.ak i)&&cA (f i))=aa;rw[ZL d,amh (e i d)];rfl,O⟩
def Used.snd(u:Used x a t2 T L y):(gZ x).map iO=Gu x.U x.ae x.bM x.ak (nV x.eZ) (dj x) (cr (eY x.doc)):=by unfold gZ Gu;rw[tS];exact wh λi d=>by show(gf x i).1=_;rw[u.part (gb.1 d)]
def DF:F (dj x)=F x.ak:=by unfold dj;simp
def aaC:F (gZ x)=F x.ak:=by unfold gZ;simp
def Used.fit(u:Used x a t2 T L y){l:List Pr}(d:F l<=1000000)(e:F z<=1000000):Ce.Fit {x.dg with bH:=l,aS:=z}:=by have f:=VJ (Dr (c:=x.dg) u.new);have f:F x.doc.pa<=16/\F x.doc.rv<=16/\F x.doc.nd<=16:=f;have:=u.atg;have:=u.Ht;have:=u.aoT;exact⟨by show F x.U<=_;omega,by show(F (bF x.bM))<=_;unfold bF;rw[bI];omega,by show F x.ak<=_;omega,⟨by show F x.doc.pa<=_;omega,by show F x.doc.rv<=_;omega,by show F x.doc.nd<=_;omega⟩,d,e⟩
def Used.short(u:Used x a t2 T L y){l:List Pr}(d:F l<=1000000)(e:F z<=1000000):aer {x.dg with bH:=l,aS:=z}:=by have m:=VJ (Dr (c:=x.dg) u.new);have m:F x.doc.pa<=16/\F x.doc.rv<=16/\F x.doc.nd<=16:=m;have f:=u.fit d e;obtain⟨n,-,j,-⟩:=oj u.prog;refine⟨f.1,by show F x.ae<=_;have:F x.U<=_:=f.1;omega,λo g=>by have:=(j o g).2.2.1;omega,f.2.1,⟨by show F x.doc.pa<=_;omega,by show F x.doc.rv<=_;omega,by show F x.doc.nd<=_;omega⟩,f.2.2.1,d,e⟩
def Used.right(u:Used x a t2 T L y)(d:fJ (oQ x.ak) ju (-1) z=aa):gE {x.dg with bH:=dj x,aS:=z}=0:=
 E3.2 ⟨u.new,u.bH,d,λ_=>DF⟩
end
noncomputable def B5:Code:=Tryz.f5.body.getD .skip
def aaY(c:Tb D):∃d,Old K d/\d.V[F K.V]?=J D/\bU af (K.push (aA c0 a0)) 35 (.ptr (.box (F K.V)) 0) (.agg D)=J d:=⟨K.push D,(Old.refl K).push D,aQ _ _,sC c.len c.cells⟩
def Z3:BL (.ac .nil 0 []) []:=⟨.nil,0,O,λd=>absurd O d⟩
section
variable {x:ir} {a:PA} {t2:Tok} {T L:I} {y:List Int}
structure ayr(x:ir)(a:PA)(t2:Tok)(L ob:I)(K1:am) where
 A0:CA
 a1:CA
 a2:CA
 K2:am
 K3:am
 K4:am
 K5:am
 K6:am
 on:c_ x.dg A0
 Ir:∀h,SH.call 11 [.agg (aG 0 a.X a.Y (.ac t2 1 (ay (bF x.bM)))),.agg (bQ x.doc a.p a.r a.n),a.W] h=J (.ret (.tuple [.agg (aA x.dg A0),im 0]),h)
 s2:bU af (K1.push (aA c0 a0)) 35 (.ptr (.box K1.V.length) 0) (.agg (aA x.dg A0))=J K2
 q2:K2.V[K1.V.length]?=J (aA x.dg A0)
 c24:SH.call 24 [.agg (aA x.dg A0),L,ob,.func (.func 16) [] []] K2=J (.ret (.tuple [.agg (aA {x.dg with bH:=dj x} a1),(aa:I)]),K3)
 s4:bU af (K3.push (aA c0 a0)) 35 (.ptr (.box K3.V.length) 0) (.agg (aA {x.dg with bH:=dj x} a1))=J K4
 q4:K4.V[K1.V.length]?=J (aA x.dg A0)
 ayK:SH.call 24 [.agg (aA x.dg A0),L,.ac .nil 0 [],.func (.func 16) [] []] K4=J (.ret (.tuple [.agg (aA {x.dg with bH:=dj x} a2),(aa:I)]),K5)
 s6:bU af (K5.push (aA c0 a0)) 35 (.ptr (.box K5.V.length) 0) (.agg (aA {x.dg with bH:=dj x} a2))=J K6
 fM:Old K1 K6
 q5:K6.V[K3.V.length]?=J (aA {x.dg with bH:=dj x} a1)
 q6:K6.V[K5.V.length]?=J (aA {x.dg with bH:=dj x} a2)
 w1:c_ {x.dg with bH:=dj x} a1
 w2:c_ {x.dg with bH:=dj x} a2
 h1:dJ a1
 h2:dJ a2
 n1:ly a1
 n2:ly a2
def Used.ahp(u:Used x a t2 T L y)(m:nP x a):∃e,c_ x.dg e/\dJ e/\ly e/\∀h,SH.call 11 [.agg (aG 0 a.X a.Y (.ac t2 1 (ay (bF x.bM)))),.agg (bQ x.doc a.p a.r a.n),a.W] h=J (.ret (.tuple [.agg (aA x.dg e),im 0]),h):=by
 have j:jR x.dg=x.dg:=by unfold jR;rw[aC u.new];rfl
 have f:=Om (m.ce t2);have g:=yR f;have f0:x.dg.Fit:=u.fit (l:=[]) (z:=[]) (ck _) (ck _);have d:=qK (Fl f (I5 _) f0) O (show bA [.agg (aG 0 a.X a.Y (.ac t2 1 (ay (bF x.bM)))),.agg (bQ x.doc a.p a.r a.n),a.W]=_ by simp only[bA,av,ye,aG];rfl);rw[j]at g d;rw[u.new]at d;exact⟨_,g,QH (I5 _),aoP,d⟩
def Used.ne(u:Used x a t2 T L y):0<F x.ak:=BJ.2 u.qk.ne
structure ays(x:ir)(T:I)(bz:Nat)(ob:I)(K6:am)(a1 a2:CA)(b1 b2:Nat) where
 a3:CA
 a4:CA
 s1:Int
 s2:Int
 K7:am
 K8:am
 K9:am
 Ev:am
 U0:SH.call 25 [.agg (aA {x.dg with bH:=dj x} a1),.arr bz 0 (gZ x).length (gZ x).length,ob,.func (.func 18) [] []] K6=J (.ret (.tuple [.agg (aA {x.dg with bH:=dj x,aS:=gZ x} a3),(aa:I)]),K7)
 s8:bU af (K7.push (aA c0 a0)) 35 (.ptr (.box K7.V.length) 0) (.agg (aA {x.dg with bH:=dj x,aS:=gZ x} a3))=J K8
 l8:aF af Gt K8 35 (.ptr (.box b2) 0)=J (.agg (aA {x.dg with bH:=dj x} a2))
 ayL:SH.call 25 [.agg (aA {x.dg with bH:=dj x} a2),.arr bz 0 (gZ x).length (gZ x).length,.ac .nil 0 [],.func (.func 18) [] []] K8=J (.ret (.tuple [.agg (aA {x.dg with bH:=dj x,aS:=gZ x} a4),(aa:I)]),K9)
 s10:bU af (K9.push (aA c0 a0)) 35 (.ptr (.box K9.V.length) 0) (.agg (aA {x.dg with bH:=dj x,aS:=gZ x} a4))=J Ev
 J5:aF af Gt Ev 35 (.ptr (.box K7.V.length) 0)=J (.agg (aA {x.dg with bH:=dj x,aS:=gZ x} a3))
 UZ:∀h,SH.call 20 [.agg (aA {x.dg with bH:=dj x,aS:=gZ x} a3)] h=J (.ret (.tuple [.agg [im s1,im s2],.ac .nil 0 [],(aa:I),im 0]),h)
 Y':∀cs,aF af Gt (Ev.push cs) 35 (.ptr (.box K7.V.length) 0)=J (.agg (aA {x.dg with bH:=dj x,aS:=gZ x} a3))
 m11:∀cs,aF af Gt (Ev.push cs) 35 (.ptr (.box K9.V.length) 0)=J (.agg (aA {x.dg with bH:=dj x,aS:=gZ x} a4))
 UY:∀h,SH.call 13 [.agg (aA {x.dg with bH:=dj x,aS:=gZ x} a3),.agg (aA {x.dg with bH:=dj x,aS:=gZ x} a4)] h=J (.ret (aa:I),h)
 fM:Old K6 Ev
 c26:∀h,SH.call 26 [im (ah (bF x.bM) 0),T,.agg [im s1,im s2]] h=J (.ret (aa:I),h)
 same:df (.agg (aA {x.dg with bH:=dj x,aS:=gZ x} a3)) (.agg (aA {x.dg with bH:=dj x,aS:=gZ x} a3))=aa/\df (.agg (aA {x.dg with bH:=dj x,aS:=gZ x} a4)) (.agg (aA {x.dg with bH:=dj x,aS:=gZ x} a4))=aa
def Used.txl(u:Used x a t2 T L y)(e:nP x a):F (cr (eY x.doc))<=1000:=VM (d:=x.doc) (Dr (c:=x.dg) u.new) e.pd.t
end
def rk(b:List Int)(i:Nat):Bool:=decide (0<ah b i%Qi)
def zB(x:ir)(b:List Int)(i:Nat):Int:=if rk b i then ((gf x i).1+ah b i)%Qi else (gf x i).1
def lm(b:List Int):Nat->Int
 |0=>0
 |k+1=>if rk b k then (lm b k+ah b k)%Qi else lm b k
def jQ(x:ir)(b:List Int)(k:Nat):List Int:=((bE k).filter (rk b)).map (ah x.ak)
def fk(x:ir)(b:List Int)(k:Nat):List (Int × Int):=(bE (F x.ak)).map λi=>(ah x.ak i,if i<k then zB x b i else (gf x i).1)
def zP(b:List Int):Prop:=∀d∈b,0<=d/\d<4294967296
def zP.at{b}(h:zP b)(i):0<=ah b i/\ah b i<4294967296:=by
 by_cases d:i<F b
 .exact h _ (xW d)
 .have:ah b i=0:=by unfold ah;rw[fc,pR ag];rfl
  omega
def acv(l)(a):cI (l++[a])=cI l+a:=(acu l [a]).trans (by simp[cI])
def acq(b):∀k,0<=lm b k/\lm b k<Qi
 |0=>⟨Int.le_refl _,by show(0:Int)<Qi;decide⟩
 |k+1=>by
  rw[lm];split
  .exact⟨HC _ aZ,HB _ aZ⟩
  .exact acq b k
section
variable {x:ir} {a:PA} {t2:Tok} {T L:I} {y b:List Int}
def Used.QA(u:Used x a t2 T L y)(hi:i<F x.ak):okF (gf x i).1:=by rw[u.part hi];exact apP i
def Used.S4(u:Used x a t2 T L y)(hi:i<F x.ak):okF (zB x b i):=by
 unfold zB;split
 .exact⟨HC _ aZ,HB _ aZ⟩
 .exact u.QA hi
def acp(x)(b):∀k,Qi∣cI ((bE k).map (zB x b))-cI ((bE k).map λi=>(gf x i).1)-lm b k
 |0=>⟨0,O⟩
 |k+1=>by
  have d:=acp x b k;rw[jH,jr,jr,adN,adN,acv,acv,lm];unfold zB at d ⊢;generalize cI ((bE k).map λi=>if rk b i then ((gf x i).1+ah b i)%Qi else (gf x i).1)=e at *
  generalize cI ((bE k).map λi=>(gf x i).1)=f at *
  simp only[Qi]at *
  split<;>omega
def Used.fold(u:Used x a t2 T L y)(h:lm b (F x.ak)=0):((bE (F x.ak)).map (zB x b)).foldl cV 0=(Gu x.U x.ae x.bM x.ak (nV x.eZ) (dj x) (cr (eY x.doc))).foldl cV 0:=by
 have g:Gu x.U x.ae x.bM x.ak (nV x.eZ) (dj x) (cr (eY x.doc))=(bE (F x.ak)).map λi=>(gf x i).1:=by rw[<-u.snd];unfold gZ;rw[tS];rfl
 rw[g];have f:=acp x b (F x.ak);rw[h]at f;have j:=M6 ((bE (F x.ak)).map (zB x b));have m:=M6 ((bE (F x.ak)).map λi=>(gf x i).1);have d:=M7 ((bE (F x.ak)).map (zB x b));have e:=M7 ((bE (F x.ak)).map λi=>(gf x i).1);unfold okF at d e;simp only[Qi]at *
 omega
def QV:(fk x b (F x.ak)).map iO=(bE (F x.ak)).map (zB x b):=by unfold fk;rw[tS];exact wh λi d=>aC (gb.1 d)
def Used.Gp(u:Used x a t2 T L y):pE (dj x) ((bE (F x.ak)).map (zB x b))=aa:=
 Kj.2 ⟨by rw[bI,ME,DF],λz e=>by obtain⟨i,d,rfl⟩:=iW.1 e;exact u.S4 (gb.1 d)⟩
def Used.Zw(u:Used x a t2 T L y)(d:zP b)(hi:i<F x.ak):(!decide (zB x b i=xd x.U x.ae x.bM x.ak (nV x.eZ) (dj x) (cr (eY x.doc)) i))=rk b i:=by
 have j:=u.QA hi;have e:xd x.U x.ae x.bM x.ak (nV x.eZ) (dj x) (cr (eY x.doc)) i=(gf x i).1:=by rw[u.part hi]
 rw[e];have g:=(d.at i).1;unfold zB;cases f:rk b i with
 |false=>simp|true=>
  have m:0<ah b i%Qi:=of_decide_eq_true f;clear f e;unfold okF at j;simp only[Qi]at *
  have:¬((gf x i).1+ah b i)%1073741789=(gf x i).1:=by omega
  simp[this]
def Used.Np(u:Used x a t2 T L y)(e:zP b):nR x.U x.ae 0 (bF x.bM) (cr (eY x.doc)) (dj x) ((bE (F x.ak)).map (zB x b))=(jQ x b (F x.ak),0):=by rw[u.qk.Np u.Gp];unfold jQ;refine congrArg (λf=>(List.map (ah x.ak) f,(0:Int))) (List.filter_congr λi d=>?_);have d:=gb.1 d;rw[fy (by simpa using d),List.getElem_map,List.getElem_range];exact u.Zw e d
end
def uA:nk.results.toList=[.tmp 4]:=by kernel_rfl
def ajg:(∀b o,dQ af 48 (.ptr (.box b) o) 0=J (.ptr (.box b) o))/\∀b o,dQ af 48 (.ptr (.box b) o) 1=J (.ptr (.box b) (o+1)):=⟨λ_ _=>by kernel_rfl,λ_ _=>by kernel_rfl⟩
def N7:∀{l:List (Int × Int)} {j:Nat} {p:Int × Int},l[j]?=J p->((bD l).flatten.drop (2*j)).head?=J (im p.1)/\((bD l).flatten.drop (2*j+1)).head?=J (im p.2)/\∀v,dW (bD l).flatten (2*j+1) [im v]=(bD (l.set j (p.1,v))).flatten
 |q::l,0,p,h=>by injection h with h;subst h;exact⟨O,O,λ_=>rfl⟩
 |q::l,j+1,p,h=>by obtain⟨d,e,f⟩:=N7 (l:=l) (j:=j) (by simpa using h);exact⟨d,e,λv=>congrArg (λt=>im q.1::im q.2::t) (f v)⟩
section
variable {x:ir} {b:List Int} {i:Nat}
def Gs{k:Nat}(h:j<F x.ak):(fk x b k)[j]?=J (ah x.ak j,if j<k then zB x b j else (gf x j).1):=by unfold fk;rw[ek,xQ h];rfl
def DG(k:Nat):F (fk x b k)=F x.ak:=by unfold fk;simp
def aaB(h:i<F x.ak):(fk x b i).set i (ah x.ak i,zB x b i)=fk x b (i+1):=by
 refine ou λd=>?_;rcases dR d (F x.ak) with q|q
 .rw[Gs q,j',Gs q,DG];by_cases e:i=d
  .subst e;rw[aC O,aC h,aC (aeb _)]
  .rw[aL e];by_cases l:d<i
   .rw[aC l,aC ag]
   .rw[aL l,aL ag]
 .rw[pR (by rw[List.length_set,DG];exact q),pR (by rw[DG];exact q)]
def apU:fk x b 0=gZ x:=by unfold fk gZ;exact wh λi _=>by rw[aL (Nat.not_lt_zero _)]
def apS(h:i<F x.ak)(d:rk b i=ar):fk x b i=fk x b (i+1):=by
 rw[<-aaB h];refine ou λf=>?_;rw[j'];by_cases e:i=f
 .subst e;rw[aC O,DG,aC h,Gs h,aL (EH _)];unfold zB;rw[d];rfl
 .rw[aL e]
def Zv(k:Nat):jQ x b (k+1)=jQ x b k++if rk b k then [ah x.ak k] else []:=by unfold jQ;rw[jH,List.filter_append,jr];cases h:rk b k<;>simp[List.filter,h]
def Zu(k:Nat):F (jQ x b k)<=k:=by unfold jQ;rw[bI];exact ff (xR _ _) (by rw[ME];exact aT _)
def SM(h:0<=m):Int.tmod m 1073741789=m%1073741789:=Int.tmod_eq_emod_of_nonneg h
end
section
variable {c:Ce} {a:CA}
def ajV(j:c_ c a)(d:dJ a)(m:c.Fit)(n:gE c=0)(p:¬F c.aS<F c.ak)(g:F (cr (eY c.doc))<=1000000)(o:gL c.doc=aa){e:Int}
 (f:jh c.U c.ae c.ep c.aH (cr (eY c.doc)) c.bH (c.aS.map iO)=((0,0),ar,e)):∃B,IL B (nR c.U c.ae c.ep c.aH (cr (eY c.doc)) c.bH (c.aS.map iO)).1/\cd SG 20 [.agg (aA c a)] (.tuple [.agg [im 0,im 0],B,(ar:I),im 0]):=by
 obtain⟨_,_,r,B,⟨k,s,rfl,q⟩,rfl⟩:=aiJ ⟨[],[],0,[]⟩ j d m n p g o f;exact⟨.ac (cJ k) s (ay _),⟨_,_,O,q⟩,cd.new (L:=LG) r O (by simp only[bA,av,vi d]) (by simp only[aJ,aI,qi j d];rfl) O (by simp[aI,aJ,fB,jw,im])⟩
def ajY{l}(m:IL x l)(n:IL y l)(j:F l<=1000000):∀h,SH.call 22 [x,y] h=J (.ret (aa:I),h):=by obtain⟨d,e⟩:=m.hold;obtain⟨f,g⟩:=n.hold;obtain⟨_,_,o,rfl,rfl⟩:=auH ⟨[],[],0,[]⟩ d f j;have c:cd SE 22 [av x,av y] (aa:I):=cd.Bg (L:=LE) o O (lh [x,y]) (by simp[aJ,e,g]) O O;exact qK (Cc (yc c O) O) O rfl
end
section
variable {x:ir} {a:PA} {t2:Tok} {T L:I} {y b:List Int}
def Used.ends(u:Used x a t2 T L y)(G:nP x a)(E:zP b){n:CA}(A:c_ {x.dg with bH:=dj x,aS:=fk x b (F x.ak)} n)(o:dJ n):
 (∃v w:Int,(∀h,SH.call 20 [.agg (aA {x.dg with bH:=dj x,aS:=fk x b (F x.ak)} n)] h=J (.ret (.tuple [.agg [im v,im w],.ac .nil 0 [],(aa:I),im 0]),h))/\
  ∀h,SH.call 26 [im (ah (bF x.bM) 0),T,.agg [im v,im w]] h=J (.ret (aa:I),h))∨
 (lm b (F x.ak)≠0/\∃B,IL B (jQ x b (F x.ak))/\∀h,SH.call 20 [.agg (aA {x.dg with bH:=dj x,aS:=fk x b (F x.ak)} n)] h=J (.ret (.tuple [.agg [im 0,im 0],B,(ar:I),im 0]),h)):=by
 have tt:F (fk x b x.ak.length)=F x.ak:=DG _;have hw:=u.Ht;have f3:Ce.Fit {x.dg with bH:=dj x,aS:=fk x b (F x.ak)}:=u.fit (l:=dj x) (z:=fk x b (F x.ak)) (by rw[DF];omega) ag;have g:fJ (oQ x.ak) ju (-1) (fk x b (F x.ak))=aa:=u.aS (f:=λi=>if i<F x.ak then zB x b i else (gf x i).1) λi q=>by rw[aC q];exact u.S4 q
 have r:¬F (fk x b x.ak.length)<F x.ak:=by omega
 have e:=u.qk.ah0 (z:=(bE (F x.ak)).map (zB x b)) u.Gp;rw[<-QV]at e;have j:=ff (u.txl G) (by decide:1000<=1000000);have p:=Dr (c:=x.dg) u.new;cases m:nE (ah (bF x.bM) 0) (cr (eY x.doc)) ((ef (ah (bF x.bM) 0) (cr (eY x.doc)) (dj x):Nat):Int) (((fk x b (F x.ak)).map iO).foldl cV 0) with
 |true=>rw[m,aC O]at e;have d:=Wz (c:={x.dg with bH:=dj x,aS:=fk x b (F x.ak)}) A o f3 (u.right g) r j p e;have R:=aj5 u.xw j (ah (bF x.bM) 0) (((ef (ah (bF x.bM) 0) (cr (eY x.doc)) (dj x):Nat):Int)) (((fk x b (F x.ak)).map iO).foldl cV 0);rw[m,u.held]at R;exact .inl ⟨_,_,qK d O d.held,qK R O R.held⟩
 |false=>
  rw[m,aL cB]at e;obtain⟨B,D,d⟩:=ajV (c:={x.dg with bH:=dj x,aS:=fk x b (F x.ak)}) A o f3 (u.right g) r j p e;have z0:(nR x.U x.ae 0 (bF x.bM) (cr (eY x.doc)) (dj x) ((fk x b (F x.ak)).map iO)).1=jQ x b (F x.ak):=by rw[QV,u.Np E]
  refine .inr ⟨λz=>?_,B,z0 ▸ D,qK d O d.held⟩;rw[QV,u.fold z,u.qk.Sc]at m;cases m
end
noncomputable def B6:Code:=nk.body.getD .skip
section
variable {x:ir} {a:PA} {t2:Tok} {T L:I} {y b:List Int}
def Used.changes(u:Used x a t2 T L y)(hb:zP b){A:Nat}(wQ:b≠[]->A=1){K2:am}(eH:cS K2=aa)(hz:K2.V[i]?=J (bD (gZ x)).flatten){v5 v6 v7:I}{Q:Xt->Env->am->Prop}
 (go:∀e K,e.get 5=v5->e.get 6=v6->e.get 7=v7->e.get 8=.arr i 0 (F x.ak) (F x.ak)->e.get 11=w->e.get 13=((lm b (F x.ak):Int):I)->(∃kb s,e.get 14=.ac kb s (ay (jQ x b (F x.ak)))/\(jQ x b (F x.ak)≠[]->s=1))->e.defers=[]->
  K.V[i]?=J (bD (fk x b (F x.ak))).flatten->(∀(c:Nat) cs,c≠i->K2.V[c]?=J cs->K.V[c]?=J cs)->bJ SH (Code.tl 9 B6) e K Q)
  (g1:e.get 1=.ac k A (b.map qJ)) (g5:e.get 5=v5) (g6:e.get 6=v6) (g7:e.get 7=v7) (g8:e.get 8=.arr i 0 (F x.ak) (F x.ak)) (G:e.get 11=w) (r:e.get 13=.v (.int .i64 0)) (v:e.get 14=.ac .nil 0 []) (gd:e.defers=[]):
 bJ SH (Code.tl 8 B6) e K2 Q:=by
 have u33:dp af 33 (.arr i 0 (F x.ak) (F x.ak))=J ((F x.ak:Nat):I):=Gc underlying33;have u68:dp af 68 (.ac k A (b.map qJ))=J ((F b:Nat):I):=by have:=underlying68;unfold dp;simp only[this,bI]
 have ku:=aj.mk u;have kgo:=aj.mk go;have kb0:=aj.mk hb;have ks:=aj.mk wQ;have k0:aj (K2.V[i]?=J (bD (fk x b 0)).flatten/\(∀(c:Nat) cs,c≠i->K2.V[c]?=J cs->K2.V[c]?=J cs)/\cS K2=aa/\cY 0 K2 .nil):=⟨by rw[apU];exact hz,λ_ _ _ q=>q,eH,.inl O⟩;clear go hb wQ hz eH u;refine D_ 1 (λe K=>e.get 5=v5/\e.get 6=v6/\e.get 7=v7/\e.get 8=.arr i 0 (F x.ak) (F x.ak)/\e.get 11=w/\e.get 13=((lm b (F x.ak):Int):I)/\(∃kb s,e.get 14=.ac kb s (ay (jQ x b (F x.ak)))/\(jQ x b (F x.ak)≠[]->s=1))/\e.defers=[]/\
  K.V[i]?=J (bD (fk x b (F x.ak))).flatten/\(∀(c:Nat) cs,c≠i->K2.V[c]?=J cs->K.V[c]?=J cs)) ?_ ?_
 rotate_left 1
 .rintro e K ⟨m1,m2,m3,m4,m5,m6,m7,m8,m9,m10⟩;exact kgo.M e K m1 m2 m3 m4 m5 m6 m7 m8 m9 m10
 intro bb jO;have kbb:=aj.mk jO;clear jO kgo;unfold B6;simp only[nk,rK,Code.tl,Code.pI];refine br @uA ?_;refine cK (λz0 e K=>∃(bz:Nat) (kb:Tok) (s:Nat),bz<=F x.ak/\z0=F x.ak-bz/\aj (K.V[i]?=J (bD (fk x b bz)).flatten/\(∀(c:Nat) cs,c≠i->K2.V[c]?=J cs->K.V[c]?=J cs)/\cS K=aa/\cY 0 K kb)/\aj (s=1∨(jQ x b bz=[]/\kb=.nil))/\
  e.get 1=.ac k A (b.map qJ)/\e.get 5=v5/\e.get 6=v6/\e.get 7=v7/\e.get 8=.arr i 0 (F x.ak) (F x.ak)/\e.get 11=w/\e.get 13=((lm b bz:Int):I)/\e.get 14=.ac kb s (ay (jQ x b bz))/\e.get 54=(F x.ak:Nat)/\e.get 55=(bz:Nat)/\e.defers=[]) ?_ (F x.ak) _ _ ?_
 rotate_left 1
 .refine⟨0,.nil,0,ck _,O,k0,⟨.inr ⟨O,O⟩⟩,?_,?_,?_,?_,?_,?_,?_,?_,?_,?_,?_⟩<;>first|(simp only[gW,reduceIte,aR,aM];done)|(exact gA)|(exact gR)
 clear g1 g5 g6 g7 g8 G r v gd k0 u33;rintro z0 e K ⟨bz,kb,s,hi,rfl,f,m,g1,g5,g6,g7,g8,G,r,v,g54,g55,gd⟩;by_cases j:bz<F x.ak;rotate_left 1
 .have gw:bz=F x.ak:=by omega
  subst gw;have kk:aj (∃k' s',I.ac kb s (ay (jQ x b (F x.ak)))=.ac k' s' (ay (jQ x b (F x.ak)))/\(jQ x b (F x.ak)≠[]->s'=1)):=⟨⟨kb,s,O,λq=>m.M.resolve_right λz=>q z.1⟩⟩;clear ku kb0;refine br @uA ?_;exact kbb.M _ _ ⟨by simp only[gW,reduceIte,aR,aM];exact g5,by simp only[gW,reduceIte,aR,aM];exact g6,by simp only[gW,reduceIte,aR,aM];exact g7,by simp only[gW,reduceIte,aR,aM];exact g8,by simp only[gW,reduceIte,aR,aM];exact G,by simp only[gW,reduceIte,aR,aM];exact r,by simp only[gW,reduceIte,aR,aM];rw[v];exact kk.M,by simp only[gW,reduceIte,aR,aM];exact gd,f.M.1,f.M.2.1⟩
 have iy:(bz:Int)<(F x.ak:Int):=by omega
 have AY:=ku.M.Ht;have FB:=kb0.M.at bz;have so:=acq b bz;have hQ:∀z:Int,z<Qi->z<1073741789:=λz q=>q;have so2:=hQ _ so.2;have et:=SM FB.1;have ew:IntKind.i64.wrap (ah b bz)=ah b bz:=ji ag ag;have cv:=λ(z1:am)=>air (ah b bz) z1;rw[ew]at cv;have nq:F (b.map qJ)=F b:=bI ..;have v68:=underlying68;have z69:cN af 69=J 1:=by kernel_rfl
 by_cases d:rk b bz=ar
 .have kB2:aj (K.V[i]?=J (bD (fk x b (bz+1))).flatten/\(∀(c:Nat) cs,c≠i->K2.V[c]?=J cs->K.V[c]?=J cs)/\cS K=aa/\cY 0 K kb):=⟨by rw[<-apS j d];exact f.M⟩;have D:lm b (bz+1)=lm b bz:=by rw[lm,aL (by rw[d];simp)]
  have E:jQ x b (bz+1)=jQ x b bz:=by rw[Zv,aL (by rw[d];simp),g']
  rw[<-D]at r;rw[<-E]at v m;have hn:¬(0:Int)<ah b bz%1073741789:=λq=>by unfold rk at d;exact absurd d (by rw[cy (show 0<ah b bz%Qi from q)];simp)
  clear d D E f ew;by_cases g:bz<F b
  .have dY:A=1:=ks.M (by intro q;rw[q]at g;simp at g);subst dY;have ld:=Zk (H:=K) (s:=1) g;have R:(bz:Int)<(F b:Int):=(by omega);generalize ah b bz=z2 at *
   refine bB @uA @bh ?_;exact⟨F x.ak-(bz+1),by omega,bz+1,kb,s,by omega,O,kB2,m,by simp⟩
  .have R:¬(bz:Int)<(F b:Int):=(by omega);refine bB @uA @bh ?_;exact⟨F x.ak-(bz+1),by omega,bz+1,kb,s,by omega,O,kB2,m,by simp⟩
 .have d:rk b bz=aa:=by cases q:rk b bz<;>simp_all
  have g:bz<F b:=by
   rcases dR bz (F b) with q|q
   .exact q
   .exfalso;have z:ah b bz=0:=(by unfold ah;rw[fc,pR q];rfl);unfold rk at d;rw[z]at d;simp at d
  have dY:A=1:=ks.M (by intro q;rw[q]at g;simp at g);subst dY;have ld:=λz1:am=>Zk (H:=z1) (s:=1) g;have R:(bz:Int)<(F b:Int):=by omega
  have hp:(0:Int)<ah b bz%1073741789:=of_decide_eq_true d;have D:lm b (bz+1)=(lm b bz+ah b bz)%1073741789:=by rw[lm,aC d];rfl
  have E:jQ x b (bz+1)=jQ x b bz++[ah x.ak bz]:=by rw[Zv,aC d]
  have hm:=ku.M.QA j;have yA:=hQ _ hm.2;have ez:zB x b bz=((gf x bz).1+ah b bz)%1073741789:=by unfold zB;rw[aC d];rfl
  have pg:(fk x b bz)[bz]?=J (ah x.ak bz,(gf x bz).1):=by rw[Gs j,aL (EH _)]
  obtain⟨f1,f2,f3⟩:=N7 pg;have ix:=YZ (b:=i) (n:=x.ak.length) j;have fo:=ajg;have l2:aF af Gt K 3 (.ptr (.box i) (2*bz+1))=J (((gf x bz).1:Int):I):=by rw[fI eu f.M.1,f2];rfl
  have fl:=(N6 pg).2;have f4:=f3 (zB x b bz);rw[aaB j]at f4;have st:bU af K 3 (.ptr (.box i) (2*bz+1)) ((((gf x bz).1+ah b bz)%1073741789:Int):I)=J (K.put i (bD (fk x b (bz+1))).flatten):=by rw[<-ez,e7 (off:=2*bz+1) (cs:=(bD (fk x b bz)).flatten) (xs:=[im (zB x b bz)]) O eQ f.M.1 O ag,f4]
  have Xp:=(aU.1 f.M.1).1;have q1:(K.put i (bD (fk x b (bz+1))).flatten).V[i]?=J (bD (fk x b (bz+1))).flatten:=dy Xp;have l3:aF af Gt (K.put i (bD (fk x b (bz+1))).flatten) 3 (.ptr (.box i) (2*bz))=J (ah x.ak bz:I):=by rw[fI eu q1,(N7 (p:=(ah x.ak bz,zB x b bz)) (by rw[Gs j,aC (aeb _)])).1];rfl
  have w1:IntKind.i64.wrap ((gf x bz).1+ah b bz)=(gf x bz).1+ah b bz:=ji (by have:=hm.1;omega) ag;have t1:=SM (m:=(gf x bz).1+ah b bz) (by have:=hm.1;omega);have w2:IntKind.i64.wrap (lm b bz+ah b bz)=lm b bz+ah b bz:=ji (by have:=so.1;omega) ag;have t2:=SM (m:=lm b bz+ah b bz) (by have:=so.1;omega);have ap:=sM (H:=K.put i (bD (fk x b (bz+1))).flatten) (k:=kb) (sz:=s) (es:=jQ x b bz) (x:=ah x.ak bz) (n0:=0) (by have:=Zu (x:=x) (b:=b) bz;omega) m.M (by rw[vh];exact f.M.2.2.2);rw[<-E]at ap;have o:cS (K.put i (bD (fk x b (bz+1))).flatten)=aa:=f.M.2.2.1;have B:cY 0 (K.put i (bD (fk x b (bz+1))).flatten) kb:=by rw[vh];exact f.M.2.2.2
  have kN:aj (((K.put i (bD (fk x b (bz+1))).flatten).app kb).V[i]?=J (bD (fk x b (bz+1))).flatten/\(∀(c:Nat) cs,c≠i->K2.V[c]?=J cs->((K.put i (bD (fk x b (bz+1))).flatten).app kb).V[c]?=J cs)/\cS ((K.put i (bD (fk x b (bz+1))).flatten).app kb)=aa/\cY 0 ((K.put i (bD (fk x b (bz+1))).flatten).app kb) (.free (K.put i (bD (fk x b (bz+1))).flatten).tn)):=
   ⟨by rw[dC];exact q1,λc cs hc q=>by rw[dC,cG hc];exact f.M.2.1 c cs hc q,zU o B,(Grown.one B o (ck _)).can⟩
  have bl:=oA (ah x.ak bz);clear d E ez pg f1 f2 f3 fl f4 Xp q1 o B ew so FB hm hQ f;rw[<-t2]at D;generalize hZ:(gf x bz).1=z at *
  generalize ah b bz=z2 at *
  generalize ah x.ak bz=wi at *
  generalize hF:(bD (fk x b (bz+1))).flatten=z3 at *
  have kF:=aj.mk hF;clear hF;generalize hS:lm b bz=si at *
  unfold im at *
  refine bB @uA @bh ?_;refine eI x_ cD ?_;refine bB @uA @bh ?_;exact⟨F x.ak-(bz+1),by omega,bz+1,_,1,by omega,O,⟨by rw[kF.M];exact kN.M⟩,⟨.inl O⟩,by simp[D,t2]⟩
def ai9{d e}:de af .eql 52 d e (.agg [im 0,im 0]) (.agg [im 0,im 0])=J (aa:I):=by kernel_rfl
def ZT42{p:Prop}(h:p:=by
 refine br @uA ?_;refine eI x_ cD ?_;refine bB @uA @bh ?_;exact⟨_,_,O,O⟩):p:=h
def Used.last(u:Used x a t2 T L y)(ok:nP x a)(hb:zP b){d:CA}(on:c_ x.dg d)(D:dJ d)(hn:ly d){E:Nat}(hz:K.V[i]?=J (bD (fk x b (F x.ak))).flatten)(hk:K.V[E]?=J (aG 0 a.X a.Y (.ac t2 1 (ay (bF x.bM)))))(hc:K.V[n]?=J (aA x.dg d))
 (g5:e.get 5=.ptr (.box E) 0) (g6:e.get 6=T) (g7:e.get 7=L) (g8:e.get 8=.arr i 0 (F x.ak) (F x.ak)) (g11:e.get 11=.ptr (.box n) 0) (g13:e.get 13=((lm b (F x.ak):Int):I))   (g14:e.get 14=.ac k s (ay (jQ x b (F x.ak)))) (hs:jQ x b (F x.ak)≠[]->s=1) (gd:e.defers=[]):
 bJ SH (Code.tl 9 B6) e K (yf af Gt SH nk λr _=>r=.ret (aa:I)):=by
 have f0:x.dg.Fit:=u.fit (l:=[]) (z:=[]) (ck _) (ck _);have AY:=u.Ht;have v:F (dj x)<=8:=by rw[DF];exact u.Ht
 have w:dj x≠[]:=by intro z1;have e:=DF (x:=x);rw[z1,gh]at e;have:=u.ne;omega
 have m:F (fk x b x.ak.length)=F x.ak:=DG _;have j:fJ (oQ x.ak) ju (-1) (fk x b (F x.ak))=aa:=u.aS (f:=λbz=>if bz<F x.ak then zB x b bz else (gf x bz).1) λbz hi=>by rw[aC hi];exact u.S4 hi
 have B:fk x b (F x.ak)≠[]:=by intro z1;rw[z1,gh]at m;have:=u.ne;omega
 have pd:MU {x.dg with bH:=dj x}:=⟨u.new,u.bH,DF⟩;have f2:Ce.Fit {x.dg with bH:=dj x}:=u.fit (l:=dj x) (z:=[]) ag (ck _);obtain⟨_,K3,c24,o3,a1,o,n1,h1,rfl⟩:=auV K x.dg d on D hn f0 u.new O O (dj x) L u.prs [] (.ac .nil 0 []) Z3 (ck _) v w u.bH;obtain⟨K4,o4,q4,s4⟩:=aaY (K:=K3) (Vf o);obtain⟨_,K5,U0,o5,a3,p,n3,h3,rfl⟩:=auX K4 {x.dg with bH:=dj x} a1 o h1 n1 f2 pd O (fk x b (F x.ak)) (o4 _ _ (o3 _ _ hz)) [] (.ac .nil 0 []) Z3 (ck _) ag B j;obtain⟨g,o6,q6,s6⟩:=aaY (K:=K5) (Vf p);have l0:=jy on.len hc;have l1:=jy o.len q4;have l2:=jy p.len q6;have q:0<F (bF x.bM):=by
  have:F (bF x.bM)=b7 x.U:=by unfold bF;rw[bI];exact u.qk.sl
  rw[this];exact(pV u.prog).1
 have l8:∀bc,aF af Gt (g.push bc) 23 (.ptr (.box E) 3)=J (.ac t2 1 (ay (bF x.bM))):=λbc=>by rw[fI kC (aP (o6 _ _ (o5 _ _ (o4 _ _ (o3 _ _ hk)))))];rfl
 have l9:=λbc=>ev (H:=g.push bc) (l:=bF x.bM) (i:=0) (s:=1) q;have J5:=λu z0=>wX (aQ g [im u,im z0]);have s7:∀u z0:Int,bU af (g.push [im 0,im 0]) 52 (.ptr (.box (F g.V)) 0) (.agg [im u,im z0])=J (g.push [im u,im z0]):=λu z0=>by rw[zu (aQ _ _),mF]
 have z50:=Hu;have z35:=uK;have u23:=underlying23;have z3:=eQ;have f27:=λb=>@mR b;have fG:=c' (bF x.bM);have Ay:(0:Int)<(F (bF x.bM):Int):=by omega
 have X0:((F ([]:List (List I)):Nat):Int)=0:=rfl;have Zw:=Zu (x:=x) (b:=b) (F x.ak);have hE:=u.ends ok hb p h3;rw[m]at U0;have b52:=UA;have e52:=λo1 o2=>@ai9 o1 o2;have z52:cN af 52=J 2:=by kernel_rfl
 clear hz hk hc on D hn f0 v w m j B pd f2 o3 o4 q4 o5 q6 o6 o n1 h1 p n3 h3 q u ok hb;generalize bF x.bM=cm at *
 generalize aA x.dg d=D0 at *
 generalize aA {x.dg with bH:=dj x} a1=D1 at *
 generalize aA {x.dg with bH:=dj x,aS:=fk x b (F x.ak)} a3=D3 at *
 generalize aA c0 a0=E0 at *
 generalize ah cm 0=c0 at *
 generalize hl:jQ x b (F x.ak)=ls at *
 generalize R:lm b (F x.ak)=sm at *
 clear hl R;unfold B6;simp only[nk,rK,Code.tl];rcases hE with⟨s1,s2,UZ,c26⟩|⟨A,z2,hB,UZ⟩
 .by_cases G:sm=0
  .subst G;unfold im at *
   exact ZT42
  .have d0:decide (sm=0)=ar:=cR G;clear G;unfold im at *
   exact ZT42
 .have d0:decide (sm=0)=ar:=cR A;have c22:=ajY hB (show IL (.ac k s (ay ls)) ls from⟨_,_,O,hs⟩) ag;clear A hB hs;unfold im at *
  refine br @uA ?_;exact⟨_,_,O,O⟩
end
def anj(h:am)(eH:cS h=aa)(x:ir)(a:PA)(f:nP x a)(n:x.doc.pQ)(b:List Int)(Bv:I)(hB:UL Bv b):
 ∃r h',SH.call 6 [.agg (jo x a),Bv] h=J (r,h')/\r=.ret (aa:I):=by
 have cs:=auN;have bx:=f.cells;have l0:=ano f (aQ h (jo x a));obtain⟨_,K,c23,bg⟩:=afM (h.push (jo x a)) eH f n;have z27:=LS;rcases bg with⟨X,Y,C,U,ae,aH,px,py,pc,rfl⟩|⟨t2,T,L,y,Z,z0,p,pb,rfl⟩
 .have s27:bU af (K.push (aG 0 nl nl nl)) 27 (.ptr (.box (F K.V)) 0) (.agg (aG 0 X Y C))=J (K.push (aG 0 X Y C)):=jC (mV px py pc) sF O O;clear px py pc f n hB;generalize jo x a=z1 at *
  generalize aG 0 nl nl nl=Z0 at *
  generalize aG 0 X Y C=KY at *
  refine cq O func6 O ?_;refine bB @uA @bG ?_;exact⟨_,_,O,O⟩
 obtain⟨⟨kb,sb,rfl,wQ⟩,hb⟩:=hB;have bK:=mV (ep:=0) f.px f.py (show IL (.ac t2 1 (ay (bF x.bM))) (bF x.bM) from⟨_,_,O,λ_=>rfl⟩);obtain⟨d,g⟩:∃d,K.push (aG 0 a.X a.Y (.ac t2 1 (ay (bF x.bM))))=d:=⟨_,O⟩;have s27:bU af (K.push (aG 0 nl nl nl)) 27 (.ptr (.box (F K.V)) 0) (.agg (aG 0 a.X a.Y (.ac t2 1 (ay (bF x.bM)))))=J d:=by rw[<-g];exact jC bK sF O O
 rcases pb with⟨hz,-⟩|⟨bz,-,-,rfl,w⟩
 .exact absurd (congrArg F hz) (by rw[aaC,gh];have:=z0.ne;omega)
 obtain⟨B,E,D,nn,Ir⟩:=z0.ahp f;obtain⟨j,m⟩:∃j,d.push (aA x.dg B)=j:=⟨_,O⟩;have o2:Old d j:=by rw[<-m];exact(Old.refl d).push _
 have q2:j.V[F d.V]?=J (aA x.dg B):=by rw[<-m];exact aQ _ _
 have s2:bU af (d.push (aA c0 a0)) 35 (.ptr (.box (F d.V)) 0) (.agg (aA x.dg B))=J j:=by rw[<-m];exact sC E.len E.cells
 have q1:d.V[F K.V]?=J (aG 0 a.X a.Y (.ac t2 1 (ay (bF x.bM)))):=by rw[<-g];exact aQ _ _
 have p1:d.V[F h.V]?=J (jo x a):=by rw[<-g];exact aP (p.fM _ _ (aQ _ _))
 have l1:=vG q1;obtain⟨-,-,-,-,l2,l3,-⟩:=uk f p1;have f59:=Fe;have nq:=(aU.1 w).1;have n1:F d.V=F K.V+1:=by rw[<-g,bP]
 have z35:=uK;have R:cS j=aa:=by rw[<-m,<-g];exact p.live
 have A:∀o:Env,o.get 1=.ac kb sb (b.map qJ)->o.get 5=.ptr (.box (F K.V)) 0->o.get 6=T->o.get 7=L->o.get 8=.arr bz 0 (F x.ak) (F x.ak)->o.get 11=.ptr (.box (F d.V)) 0->o.get 13=.v (.int .i64 0)->o.get 14=.ac .nil 0 []->o.defers=[]->bJ SH (Code.tl 8 B6) o j (yf af Gt SH nk λr _=>r=.ret (aa:I)):=
  λo g1 g5 g6 g7 g8 q u v gd=>z0.changes hb wQ R (o2 _ _ (by rw[<-g];exact aP w)) (λo K' g5 g6 g7 g8 q u ⟨k,s,v,hs⟩ gd hz ho=>z0.last f hb E D nn hz (ho _ _ ag (o2 _ _ q1)) (ho _ _ ag q2) g5 g6 g7 g8 q u v hs gd) g1 g5 g6 g7 g8 q u v gd
 have kr:=aj.mk A;rw[aaC]at c23;clear A z0 p bK f n wQ hb w E D nn o2 q2 q1 p1 nq R n1 m;generalize jo x a=z1 at *
 generalize aG 0 nl nl nl=Z0 at *
 generalize aG 0 a.X a.Y (.ac t2 1 (ay (bF x.bM)))=KY at *
 generalize bQ x.doc a.p a.r a.n=DD at *
 generalize aA x.dg B=D0 at *
 generalize aA c0 a0=E0 at *
 unfold im at *
 refine cq O func6 O ?_;refine D_ 8 (λe K'=>e.get 1=.ac kb sb (b.map qJ)/\e.get 5=.ptr (.box (F K.V)) 0/\e.get 6=T/\e.get 7=L/\e.get 8=.arr bz 0 (F x.ak) (F x.ak)/\e.get 11=.ptr (.box (F d.V)) 0/\e.get 13=.v (.int .i64 0)/\e.get 14=.ac .nil 0 []/\e.defers=[]/\K'=j) ?_ ?_;rotate_left 1
 .rintro e K' ⟨m1,m2,m3,m4,m5,m6,m7,m8,m9,rfl⟩;exact kr.M e m1 m2 m3 m4 m5 m6 m7 m8 m9
 intro bb G;have kq:=aj.mk G;clear G kr
 repeat' (first|simp(maxSteps:=9^9) (disch:=first|exact dZ|fail) only[gW,reduceIte,aR,aM,uA,bG,Code.pI, *]|refine dX ?_ ?_<;>(intro _;try omega))
 exact kq.M _ _ ⟨by exact gS,by exact gS,by exact gS,by exact gS,by exact gS,by exact gS,by exact gS,by exact gS,by simp only[gW,reduceIte,aR,aM],O⟩
section
open Go.AE Go.NT Go.RowKit Go.Proofs.Tryz
def auU:ownKnob af.godebug=ao:=ax
def auS:(af.funcs.all λfn=>match fn.body with|some c=>codeOk fn.ntmps c|none=>aa)=aa:=ax
def auT : (af.funcs.all λfn => !(fn.name == "runtime.NumGoroutine")) = aa := ax
def ol:Prog af:=⟨λf d h=>by
 have:=LX.1 auT d (ac3 h);simpa using this,ax,λf d c h e=>by
 have:=LX.1 auS d (ac3 h);simpa [e] using this⟩
def oB:∀g cs,Gt g=J cs->aJ 0 0 0 cs=aa:=by
 intro g cs h;unfold Gt at h;split at h
 .injection h with h;subst h;kernel_rfl
 .split at h
  .injection h with h;subst h;kernel_rfl
  .split at h
   .injection h with h;subst h;rfl
   .cases h
noncomputable def agt(L:List bk):Bool:=L.all λe=>match af.funcs[e]? with|some d=>d.body.isSome|none=>ar
def mr{L}(h:agt L=aa):∀g∈L,∃fn,af.funcs[g]?=J fn/\fn.body.isSome=aa:=by
 intro g e;have:=e8.1 h g e;split at this
 .rename_i fn d;exact⟨fn,d,this⟩
 .cases this
def oZ(p:bk->Option (List I->am->Option (I × am))):Prop:=∀f d e,p d=J e->mo af Gt f d e
def aqj:oZ aO:=λd e f h=>by cases h
def aqk:oZ Rc:=tZ ol oB aqj (mr ax)
def aql:oZ Rd:=tZ ol oB aqk (mr ax)
def aqm:oZ Re:=tZ ol oB aql (mr ax)
def aqn:oZ DJ:=tZ ol oB aqm (mr ax)
def aqo:oZ DK:=aoy ol oB aqn (mr ax) (mr ax)
def aqp:oZ Rf:=tZ ol oB aqo (mr ax)
def G':List Int:=NT.start.map λd=>((d.toNat:Nat):Int)
def Gl:List Int:=NT.Dh.map λ(d:Nat)=>(d:Int)
def acG{K}{l:List Int}:aN K (l.map λn=>I.v (.int .u32 n)) (l.map λn=>Value.int .u32 n):=by
 induction l with
 |nil=>exact .nil|cons n l d=>exact .cons _ _ _ _ (.v _ O) d
def ZT35{p:Prop}(h:p:=by
 rw[ek,Option.map_eq_some_iff]at f;obtain⟨n,m,rfl⟩:=f;have p:=(aU.1 m).1;rw[t.cell ax j p,fc,m];rfl):p:=h
def aku{W}(h:laidMetH af Rows.ceremonySpecRow.laid W):∀g cs,Gt g=J cs->∃cells,aN (bj.init W) cs cells/\∀(j:Nat) (c:Value),cells[j]?=J c->W.cell? ⟨g,j,ao⟩=J c:=by
 rw[MakeChecks.laidMetH_plain _ _ _ ax]at h;have q:(Lib.tabData .u32 G':DataW Unit)=Rows.laid_signatory_digest_start:=ax;have r:(Lib.tabData .u32 Gl:DataW Unit)=Rows.laid_signatory_digest_numbers:=ax;intro g cs d;unfold Gt at d;split at d
 .rename_i o;injection d with d;subst d;subst o;have t := Lib.tabIs_of_head (n := 8) (g := 0) (t := 256) (e := 69) (zs := G') (k := .u32) (name := "signatory/digest.start") ax ax ax ax ax ax (by rw [q]; exact h);refine⟨G'.map λn=>Value.int .u32 n,?_,λj c f=>?_⟩
  .have:Sl=G'.map λn=>I.v (.int .u32 n):=(by unfold Sl G' bY;rw[tS];rfl);rw[this];exact acG
  .exact ZT35
 .split at d
  .rename_i _ o;injection d with d;subst d;subst o;have t := Lib.tabIs_of_head (n := 64) (g := 1) (t := 266) (e := 69) (zs := Gl) (k := .u32) (name := "signatory/digest.numbers") ax ax ax ax ax ax (by rw [r]; exact h.tail);refine⟨Gl.map λn=>Value.int .u32 n,?_,λj c f=>?_⟩
   .have:Gk=Gl.map λn=>I.v (.int .u32 n):=(by unfold Gk Gl;rw[tS];rfl);rw[this];exact acG
   .exact ZT35
  .split at d
   .injection d with d;subst d;exact⟨[],.nil,λj c f=>by simp at f⟩
   .cases d
section
variable {H:Type}
def NB:af.cellsOf 3=1:=ax
def cc5:af.cellsOf 5=1:=ax
def ahi:af.cellsOf 22=1:=ax
def EY:af.cellsOf 23=1:=ax
def ahj:af.cellsOf 25=2:=ax
def ahk:af.cellsOf 69=1:=ax
def awl:Br af 25 [(22,0),(23,1)]=aa:=ax
def Aw{d:DataW H}(h:Has af 23 cs d):∃x l,cs=[x]/\IL x l:=by
 obtain⟨k,e,rfl,n,-,-,g⟩:=h.Bq underlying23;obtain⟨l,rfl⟩:∃l:List Int,e=l.map wT:=abv λp m=>by obtain⟨-,d,f⟩:=g p m;obtain⟨o,j,-⟩:=f.ui underlying3;exact⟨o,j⟩
 exact⟨_,l,O,k,_,O,λ_=>NB⟩
def akO{d:DataW H}(h:Has af 22 cs d):∃x U,cs=[x]/\RL x U:=by
 obtain⟨k,e,rfl,v,-,-,q⟩:=h.Bq underlying22;have n:∀j∈e,∃x l,j=[x]/\IL x l:=λj f=>by obtain⟨-,d,u⟩:=q j f;exact Aw u
 clear v q;have r:∀e:List (List I),(∀j∈e,∃x l,j=[x]/\IL x l)->∃(g:List I) (U:List (List Int)),e=g.map (λa=>[a])/\F g=F U/\∀(i:Nat) (a:I) (j:List Int),g[i]?=J a->U[i]?=J j->IL a j:=by
  intro e
  induction e with
  |nil=>intro _;exact⟨[],[],O,O,λi a j m=>by simp at m⟩|cons B e A=>
   intro n;obtain⟨x,l,rfl,w⟩:=n B gj;obtain⟨g,U,rfl,o,p⟩:=A λj f=>n j (gi _ f);refine⟨x::g,l::U,O,by simp[o],λi a j m f=>?_⟩;cases i with|zero=>simp at m f;subst m;subst f;exact w|succ i=>exact p i a j (by simpa using m) (by simpa using f)
 obtain⟨g,U,rfl,o,p⟩:=r e n;exact⟨_,U,O,k,_,g,O,λ_=>EY,o,p⟩
def akQ{d:DataW H}(h:lq af 68 x d):∃l,UL x l:=by
 obtain⟨k,e,rfl,p,-,-,w⟩:=h.Bq underlying68;have j:∀o∈e,∃f:Int,o=qJ f/\0<=f/\f<4294967296:=λo n=>by obtain⟨-,d,v⟩:=w o n;obtain⟨f,r,g,u⟩:=v.P5 underlying69;simp[IntKind.min,IntKind.max,IntKind.signed,IntKind.bits]at g u;exact⟨f,r,g,by omega⟩
 have q:∀e:List (List I),(∀o∈e,∃f:Int,o=qJ f/\0<=f/\f<4294967296)->∃l:List Int,e=l.map qJ/\∀f∈l,0<=f/\f<4294967296:=by
  intro e
  induction e with
  |nil=>intro _;exact⟨[],O,λf m=>by simp at m⟩|cons E e B=>intro j;obtain⟨f,rfl,m⟩:=j E gj;obtain⟨l,rfl,p⟩:=B λo n=>j o (gi _ n);exact⟨f::l,O,λG A=>(gX.1 A).elim (λR=>R ▸ m) (p G)⟩
 obtain⟨l,rfl,g⟩:=q e j;exact⟨l,⟨k,_,O,λ_=>ahk⟩,g⟩
end
end
section
open Go.AE Go.NT Go.RowKit Go.Proofs.Tryz
def aaN:oZ Kt:=tZ ol oB aqp (mr ax)
def aqq:oZ Rg:=tZ ol oB aaN (mr ax)
def aqr:oZ Rh:=tZ ol oB aqq (mr ax)
def aqs:oZ DL:=tZ ol oB aqr (mr ax)
def aqt:oZ oh:=Ka ol oB aqs (mr ax) (λd h=>absurd O h) P4
def aqu:oZ Ku:=Ka ol oB aqt (mr ax) (λe h=>by
 unfold ZD at h;split at h
 .rename_i d;subst d;exact mr (L:=[16]) ax _ (.head _)
 .split at h
  .rename_i d;subst d;exact mr (L:=[18]) ax _ (.head _)
  .exact absurd O h) P4
def aaO:oZ aaS:=Ka ol oB aqu (mr ax) (λd h=>absurd O h) P4
def aqv:oZ aaT:=Ka ol oB aaO (mr ax) (λd h=>absurd O h) λf d g h=>by
 unfold qF at h;split at h
 .rename_i e;injection h with h;subst h;exact Wm ol oB aaO (mr (L:=[60]) ax d (nM e ▸ .head _)) f
 .split at h
  .rename_i e;injection h with h;subst h;exact Wm ol oB aaN (mr (L:=[61]) ax d (nM e ▸ .head _)) f
  .cases h
def aqw:oZ Ri:=tZ ol oB aqv (mr ax)
def aqx:oZ Rj:=tZ ol oB aqw (mr ax)
section
variable {H:Type}
def U':af.cellsOf 29=32:=ax
def Va:af.cellsOf 31=41:=ax
def acm:Br af 31 [(3,0),(3,1),(3,2),(3,3),(3,4),(3,5),(23,6),(23,7),(23,8),(29,9)]=aa:=ax
def tC{l:List I}(h:F l=n+1):∃a r,l=a::r/\F r=n:=by
 match l,h with
 |a::r,h=>exact⟨a,r,O,by simpa using h⟩
def UX:∀xs:List I,(∀i,i<F xs->∃b:UInt8,(xs.drop i).take 1=[jc b])->∃l:List UInt8,xs=l.map jc
 | [],_=>⟨[],O⟩
 |x::xs,h=>by obtain⟨b,d⟩:=h 0 cB;obtain⟨l,rfl⟩:=UX xs λi e=>h (i+1) (by simpa using e);simp at d;exact⟨b::l,by rw[d];rfl⟩
def akP{d:DataW H}(h:Has af 29 cs d):∃l:List UInt8,cs=l.map jc/\F l=32:=by
 have f:=underlying29;cases h with
 |bool e=>rw[f]at e;cases e
 |int e=>rw[f]at e;cases e
 |str e=>rw[f]at e;cases e
 |none e=>rw[f]at e;cases e
 |ac e=>rw[f]at e;cases e
 |struct e=>rw[f]at e;cases e
 |array e w j g u p=>
  rw[f]at e;injection e with e;injection e with m n;subst m;subst n;rw[U']at g;obtain⟨l,q⟩:=UX cs λi v=>by have r:=p i j[i] (aW ag);rw[cc5,Nat.mul_one]at r;obtain⟨b,o⟩:=r.SQ ax;exact⟨b,o⟩
  exact⟨l,q,by rw[q,bI]at g;exact g⟩
def akL{d:DataW H}(h:Has af 31 cs d):∃D p r n,cs=bQ D p r n/\nI D p r n:=by obtain⟨B,e⟩:=h.fields acm;rw[Va]at B;obtain⟨x0,c0,rfl,k0⟩:=tC B;obtain⟨x1,c1,rfl,k1⟩:=tC k0;obtain⟨x2,c2,rfl,k2⟩:=tC k1;obtain⟨x3,c3,rfl,k3⟩:=tC k2;obtain⟨x4,c4,rfl,k4⟩:=tC k3;obtain⟨x5,c5,rfl,k5⟩:=tC k4;obtain⟨x6,c6,rfl,k6⟩:=tC k5;obtain⟨x7,c7,rfl,k7⟩:=tC k6;obtain⟨x8,c8,rfl,k8⟩:=tC k7;obtain⟨_,E⟩:=e 0 3 0 O;obtain⟨_,G⟩:=e 1 3 1 O;obtain⟨_,R⟩:=e 2 3 2 O;obtain⟨_,q3⟩:=e 3 3 3 O;obtain⟨_,q4⟩:=e 4 3 4 O;obtain⟨_,q5⟩:=e 5 3 5 O;obtain⟨_,q6⟩:=e 6 23 6 O;obtain⟨_,q7⟩:=e 7 23 7 O;obtain⟨_,q8⟩:=e 8 23 8 O;obtain⟨_,q9⟩:=e 9 29 9 O;rw[NB]at E G R q3 q4 q5;rw[EY]at q6 q7 q8;rw[U']at q9;obtain⟨n0,g,-⟩:=E.ui underlying3;obtain⟨n1,j,-⟩:=G.ui underlying3;obtain⟨n2,m,-⟩:=R.ui underlying3;obtain⟨n3,o,-⟩:=q3.ui underlying3;obtain⟨n4,q,-⟩:=q4.ui underlying3;obtain⟨n5,u,-⟩:=q5.ui underlying3;obtain⟨p,pa,v,hp⟩:=Aw q6;obtain⟨r,rv,w,hr⟩:=Aw q7;obtain⟨n,nd,A,hn⟩:=Aw q8;obtain⟨tx,f,ht⟩:=akP q9;simp only[iI,xP,fe,eE,List.cons.injEq,and_true]at g j m o q u v w A f;rw[gm (ad8 k8)]at f;subst g;subst j;subst m;subst o;subst q;subst u;subst v;subst w;subst A;subst f;exact⟨⟨n0,n1,n2,n3,n4,n5,pa,rv,nd,tx⟩,_,_,_,O,hp,hr,hn,ht⟩
end
end
section
open Go.AE Go.NT Go.RowKit Go.Proofs.Tryz
section
variable {H:Type}
def ahl:af.cellsOf 57=1:=ax
def ahm:af.cellsOf 59=46:=ax
def U_:af.cellsOf 108=2:=ax
def awm:Br af 59 [(25,0),(23,2),(31,3),(23,44),(57,45)]=aa:=ax
def OA{l:List Int}{d:DataW H}(h:Has af 23 [x] d)(q:IL x l):F l<=9223372036854775807:=by obtain⟨k,g,e,f,-⟩:=h.Bq underlying23;obtain⟨j,m,rfl,-⟩:=q;injection e with e _;injection e with _ _ e;rw[<-e,c']at f;exact ff f aZ
def akM{D:Dc}{p r n:I}{d:DataW H}(h:Has af 31 (bQ D p r n) d)(f:nI D p r n):D.pQ:=by obtain⟨-,e⟩:=h.fields acm;obtain⟨_,g⟩:=e 6 23 6 O;obtain⟨_,j⟩:=e 7 23 7 O;obtain⟨_,m⟩:=e 8 23 8 O;rw[EY]at g j m;exact⟨OA (x:=p) g f.p,OA (x:=r) j f.r,OA (x:=n) m f.n⟩
def akR{r:List I}{d:DataW H}(h:Has af 108 r d):∃q:Int × Int,r=bN q:=by
 have f:=underlying108;cases h with
 |bool e=>rw[f]at e;cases e
 |int e=>rw[f]at e;cases e
 |str e=>rw[f]at e;cases e
 |none e=>rw[f]at e;cases e
 |ac e=>rw[f]at e;cases e
 |struct e=>rw[f]at e;cases e
 |array e E g o D n=>rw[f]at e;injection e with e;injection e with v w;subst v;subst w;rw[U_]at o;obtain⟨a,b,rfl⟩:=uo o;have p:=n 0 g[0] (aW ag);have u:=n 1 g[1] (aW ag);rw[NB]at p u;obtain⟨A,j,-⟩:=p.ui underlying3;obtain⟨B,m,-⟩:=u.ui underlying3;simp at j m;subst j;subst m;exact⟨(A,B),O⟩
def akN{d:DataW H}(h:lq af 59 x d):∃q a,x=.agg (jo q a)/\nP q a/\q.doc.pQ:=by
 obtain⟨xs,rfl,A,f⟩:=h.fields awm;rw[ahm]at A;obtain⟨_,R⟩:=f 0 25 0 O;obtain⟨_,q1⟩:=f 1 23 2 O;obtain⟨_,m⟩:=f 2 31 3 O;obtain⟨_,q3⟩:=f 3 23 44 O;obtain⟨_,q4⟩:=f 4 57 45 O;rw[ahj,iI]at R;rw[Va]at m;rw[EY]at q1 q3;rw[ahl]at q4;obtain⟨_,n⟩:=R.fields awl;obtain⟨_,D⟩:=n 0 22 0 O;obtain⟨_,G⟩:=n 1 23 1 O;rw[ahi]at D;rw[EY]at G;obtain⟨X,U,p,hx⟩:=akO D;obtain⟨Y,ae,r,E⟩:=Aw G;obtain⟨N,e,u,hn⟩:=Aw q1;obtain⟨z2,z4,z1,z3,o,j⟩:=akL m;obtain⟨W,ak,v,hw⟩:=Aw q3;rw[o]at m;have hc:=akM m j;obtain⟨B,es,w,-,-,-,he⟩:=q4.Bq underlying57;obtain⟨z0,rfl⟩:∃z0:List (Int × Int),es=z0.map bN:=abv λz1 hr=>by obtain⟨-,d,j⟩:=he z1 hr;exact akR j
 refine⟨⟨U,ae,e,z2,ak,z0⟩,⟨X,Y,N,z4,z1,z3,W,.ac B (af.cellsOf 108) (bD z0)⟩,?_,⟨hx,E,hn,j,hw,⟨B,_,O,λ_=>U_⟩⟩,hc⟩;congr 1;unfold jo;obtain⟨x0,c0,rfl,k0⟩:=tC A;obtain⟨x1,c1,rfl,k1⟩:=tC k0;obtain⟨x2,g,rfl,k2⟩:=tC k1;simp at p r u;simp only[xP,iI]at o v w;have f3:g.drop 42=(g.drop 42).take 1:=(gm (by rw[fL];omega)).symm;have f2:=(wn 1 (g.drop 41)).symm;have f1:=(wn 41 g).symm;rw[List.drop_drop]at f2;rw[f3,v,w]at f2;rw[f2,o]at f1;rw[p,r,u,f1];simp;rfl
def Zb:List TypeId:=[3,4,5,22,23,25,29,31,57,59,60,68,69,108]
end
end
end Go.Proofs.YtcbhpkjbiehcpaaGreatDoor
end
