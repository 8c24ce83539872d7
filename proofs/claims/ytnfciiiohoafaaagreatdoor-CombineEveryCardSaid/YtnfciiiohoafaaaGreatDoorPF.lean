/-
  The engine, part 27: memory, looked up where it was written; parts of strings.
-/
import Derived.Test.YtnfciiiohoafaaaGreatDoorPE
import Derived.Test.YtnfciiiohoafaaaGreatDoorPC
set_option linter.unusedSimpArgs false
set_option linter.unusedVariables false
set_option linter.constructorNameAsVariable false
section
namespace Go.AE
section
variable {h:ae} {cs:List AV} {b c:Nat} {k:Tok}
theorem wy:(h.push cs).boxes[h.boxes.length]?=some cs:=ak h cs
theorem cD(hc:c=h.boxes.length):(h.push cs).boxes[c]?=some cs:=by subst hc;exact ak h cs
theorem AH(hc:c≠h.boxes.length):(h.push cs).boxes[c]?=h.boxes[c]?:=by
 unfold ae.push
 simp only[List.getElem?_append]
 split
 ·rfl
 ·rename_i h1
  rw[List.getElem?_eq_none (by simp;omega),List.getElem?_eq_none (by omega)]
theorem CY(hb:b<h.boxes.length):(h.put b cs).boxes[b]?=some cs:=aS hb
theorem CZ(hc:c≠b):(h.put b cs).boxes[c]?=h.boxes[c]?:=av hc
theorem L8:(h.app k).boxes[c]?=h.boxes[c]?:=by rw[aT]
theorem Eh:(h.app k).boxes.length=h.boxes.length:=by rw[aT]
end
theorem ij{n0:Nat}{h:ae}{cs:List AV}{k:Tok}:bG n0 (h.push cs) k=bG n0 h k:=rfl
theorem jd{n0 b:Nat}{h:ae}{cs:List AV}{k:Tok}:bG n0 (h.put b cs) k=bG n0 h k:=rfl
theorem Ext.bZ{h h':ae}(x:Ext h h'){b:Nat}(hb:h.boxes.length<=b)(cs:List AV):Ext h (h'.put b cs):=by
 refine⟨fun c ds hc=>?_,x.loop,x.tn,x.dead,x.ok⟩
 have hlt:c<h.boxes.length:=(List.getElem?_eq_some_iff.1 hc).1
 rw[av (by omega)]
 exact x.box c ds hc
section
variable {P:Program} {G:Nat->Option (List AV)} {h:ae} {t:TypeId} {b off n:Nat} {cs:List AV}
theorem L9{z:Value}(hs:bF P t=some 1)(hb:h.boxes[b]?=some cs)(hl:off+1<=cs.length):aA P h t (.ptr (.box b) off) (.v z)=some (h.put b (bI cs off [.v z])):=aW rfl hs hb rfl hl
theorem Ma{k:Tok}{sz:Nat}{es:List (List AV)}(hs:bF P t=some 1)(hb:h.boxes[b]?=some cs)(hl:off+1<=cs.length):aA P h t (.ptr (.box b) off) (.list k sz es)=some (h.put b (bI cs off [.list k sz es])):=aW rfl hs hb rfl hl
theorem FW{l:List UInt8}{k k':IntKind}{lo hi:Int}(hu:P.underlying t=some .string)(h0:0<=lo)(h1:lo<=hi)(h2:hi<=l.length):
 ck P t (.v (.string (bs l))) (some (.v (.int k lo))) (some (.v (.int k' hi))) none=some (.v (.string (bs ((l.take hi.toNat).drop lo.toNat)))):=by
 unfold ck
 simp only[Option.isSome_none,Bool.false_and,Bool.false_eq_true,if_false,hu,np]
 have e1:bX l.length (some (AV.v (.int k' hi))) l.length=some hi.toNat:=by
  unfold bX;simp only;rw[if_pos ⟨by omega,h2⟩]
 have e2:bX hi.toNat (some (AV.v (.int k lo))) 0=some lo.toNat:=by
  unfold bX;simp only;rw[if_pos ⟨h0,by omega⟩]
 simp only[e1,e2,qt]
theorem uZ{l:List UInt8}{k:IntKind}{lo:Int}(hu:P.underlying t=some .string)(h0:0<=lo)(h1:lo<=l.length):
 ck P t (.v (.string (bs l))) (some (.v (.int k lo))) none none=some (.v (.string (bs (l.drop lo.toNat)))):=by
 unfold ck
 simp only[Option.isSome_none,Bool.false_and,Bool.false_eq_true,if_false,hu,np]
 have e1:bX l.length none l.length=some l.length:=rfl
 have e2:bX l.length (some (AV.v (.int k lo))) 0=some lo.toNat:=by
  unfold bX;simp only;rw[if_pos ⟨h0,h1⟩]
 simp only[e1,e2,qt,List.take_length]
theorem yV{l:List UInt8}{k':IntKind}{hi:Int}(hu:P.underlying t=some .string)(h0:0<=hi)(h2:hi<=l.length):
 ck P t (.v (.string (bs l))) none (some (.v (.int k' hi))) none=some (.v (.string (bs (l.take hi.toNat)))):=by
 unfold ck
 simp only[Option.isSome_none,Bool.false_and,Bool.false_eq_true,if_false,hu,np]
 have e1:bX l.length (some (AV.v (.int k' hi))) l.length=some hi.toNat:=by
  unfold bX;simp only;rw[if_pos ⟨h0,h2⟩]
 have e2:bX hi.toNat none 0=some 0:=rfl
 simp only[e1,e2,qt,List.drop_zero]
theorem Mb{r:Ref}:qi (.ptr r off)=some (.ptr r off):=rfl
end
end Go.AE
end
section
namespace Go.AE
def Env.dfr(e:Env)(d:FuncId × List AV):Env:={e with defers:=d::e.defers}
def Env.pn(e:Env)(p:Option (AV × Bool)):Env:={e with pan:=p}
section
variable {e:Env} {d:FuncId × List AV} {p:Option (AV × Bool)} {t:Nat}
theorem Mc:(e.dfr d).get t=e.get t:=rfl
theorem C0:(e.dfr d).defers=d::e.defers:=rfl
theorem Md:(e.dfr d).pan=e.pan:=rfl
theorem xd:(e.dfr d).round=e.round:=rfl
theorem Oi:(e.pn p).get t=e.get t:=rfl
theorem FX:(e.pn p).defers=e.defers:=rfl
theorem Oj:(e.pn p).pan=p:=rfl
theorem AI:(e.pn p).round=e.round:=rfl
end
def IQ(P:Program)(G:Nat->Option (List AV))(R:Rec)(ops:Array Oper)(rest:List Oper)(d:Option Tmp)(args:List AV)(e:Env)(h:ae)(Q:Xt->Env->ae->Prop)(x:AV):Prop:=
 match x with
 | .func (.func g) first cap=>cz P G R ops rest ((e.dfr (g,first++args++cap)).put d (.tuple [])) h Q
 |_=>False
def u0(P:Program)(G:Nat->Option (List AV))(R:Rec)(ops:Array Oper)(rest:List Oper)(d:Option Tmp)(e:Env)(h:ae)(Q:Xt->Env->ae->Prop)(p:Option (AV × Bool)):Prop:=
 match p with
 |some (x,false)=>cz P G R ops rest ((e.pn (some (x,true))).put d x) h Q
 |_=>cz P G R ops rest (e.put d (.v .nilIface)) h Q
section
variable {P:Program} {G:Nat->Option (List AV)} {R:Rec} {ops:Array Oper} {rest:List Oper} {e:Env} {h:ae} {Q:Xt->Env->ae->Prop} {d:Option Tmp} {ty:TypeId} {pos:String} {af:Array Edge}
theorem IT{f:Operand}{args:Array Operand}{ts:Array TypeId}(hr:e.round=none):cz P G R ops (⟨d,.defer {callee:= .value f,args,argTypes:=ts},ty,pos,af,none⟩::rest) e h Q=IQ P G R ops rest d (args.toList.map e.eval) e h Q (e.eval f):=by
 rw[CU hr]
 generalize e.eval f=y
 rcases y with _|_|_|_|_|_|_|_|⟨fn,a,b⟩|_|_
 case func=>cases fn<;>rfl
 all_goals rfl
theorem C4{g:FuncId}{first cap args:List AV}:IQ P G R ops rest d args e h Q (.func (.func g) first cap)=cz P G R ops rest ((e.dfr (g,first++args++cap)).put d (.tuple [])) h Q:=rfl
theorem C5{args:Array Operand}{ts:Array TypeId}(hr:e.round=none):cz P G R ops (⟨d,.call {callee:= .builtin .recover,args,argTypes:=ts},ty,pos,af,none⟩::rest) e h Q=u0 P G R ops rest d e h Q e.pan:=by
 rw[yR hr]
 rcases hp:e.pan with _|⟨x,b⟩
 ·rfl
 ·cases b<;>rfl
theorem yW{x:AV}:u0 P G R ops rest d e h Q (some (x,false))=cz P G R ops rest ((e.pn (some (x,true))).put d x) h Q:=rfl
theorem yX:u0 P G R ops rest d e h Q none=cz P G R ops rest (e.put d (.v .nilIface)) h Q:=rfl
theorem oC{fn:Func}{g:FuncId}{args:List AV}{ds:List (FuncId × List AV)}{x:AV}{h':ae}(hc:R.fg g args none h=some (.ret x,none,h')):bD P G R fn e ((g,args)::ds) none h=bD P G R fn e ds none h':=by
 rw[bD,hc]
theorem yY{fn:Func}{g:FuncId}{args:List AV}{ds:List (FuncId × List AV)}{x y z:AV}{h':ae}(hc:R.fg g args (some (y,false)) h=some (.ret x,some (z,true),h')):bD P G R fn e ((g,args)::ds) (some (y,false)) h=bD P G R fn e ds none h':=by
 rw[bD,hc]
end
end Go.AE
end
section
namespace Go.AE
def Me(P:Program)(G:Nat->Option (List AV))(R:Rec)(fn:Func)(Post:Res->ae->Prop):Xt->Env->ae->Prop:=fun o e h=>∃r h',yK P G R fn r h' o e h/\Post r h'
theorem AJ{P:Program}{G:Nat->Option (List AV)}{R:Rec}{fn:Func}{Post:Res->ae->Prop}{e:Env}{h:ae}:Me P G R fn Post .normal e h=∃r h',bD P G R fn e e.defers none h=some (r,h')/\Post r h':=rfl
theorem IU{P:Program}{G:Nat->Option (List AV)}{R:Rec}{fn:Func}{Post:Res->ae->Prop}{e:Env}{h:ae}:Me P G R fn Post .ret e h=∃r h',bD P G R fn e e.defers none h=some (r,h')/\Post r h':=rfl
theorem C6{P:Program}{G:Nat->Option (List AV)}{R:Rec}{fn:Func}{Post:Res->ae->Prop}{e:Env}{h:ae}{x:AV}:Me P G R fn Post (.panic x) e h=∃r h',bD P G R fn e e.defers (some (x,false)) h=some (r,h')/\Post r h':=rfl
theorem aL{P:Program}{G:Nat->Option (List AV)}{prims:FuncId->Option (List AV->ae->Option (AV × ae))}{g:FuncId}{fn:Func}{body:Code}{args:List AV}{h:ae}{Post:Res->ae->Prop}(hp:prims g=none)(hfn:P.funcs[g]?=some fn)(hb:fn.body=some body)
 (hr:Run (whole P G prims) body (Env.start args none) h (Me P G (whole P G prims) fn Post)):∃r h',(whole P G prims).call g args h=some (r,h')/\Post r h':=by
 obtain⟨o,e1,h1,h2,r,h',h3,h4⟩:=hr
 exact⟨r,h',ar hp hfn hb ⟨o,e1,h1,h2,h3⟩,h4⟩
end Go.AE
end
section
namespace Go.AE
section
variable {P:Program} {h:ae} {ts:Array TypeId} {ty:TypeId} {k:IntKind} {a b:Int}
theorem pc:bK P h .max ts ty [.v (.int k a),.v (.int k b)]=some (.v (.int k (if a<b then b else a)),h):=by
 have h1:bK P h .max ts ty [.v (.int k a),.v (.int k b)]=((bQ P (Builtin.max_ ts ty #[.int k a,.int k b])).bind eS).map (·,h):=rfl
 rw[h1]
 have h2:bQ P (Builtin.max_ ts ty #[.int k a,.int k b])=some (.int k (if a<b then b else a)):=by
  simp[Builtin.max_,Builtin.max2]
  split<;>simp_all<;>rfl
 rw[h2]
 split<;>rfl
theorem ri:bK P h .min ts ty [.v (.int k a),.v (.int k b)]=some (.v (.int k (if b<a then b else a)),h):=by
 have h1:bK P h .min ts ty [.v (.int k a),.v (.int k b)]=((bQ P (Builtin.min_ ts ty #[.int k a,.int k b])).bind eS).map (·,h):=rfl
 rw[h1]
 have h2:bQ P (Builtin.min_ ts ty #[.int k a,.int k b])=some (.int k (if b<a then b else a)):=by
  simp[Builtin.min_,Builtin.min2]
  split<;>simp_all<;>rfl
 rw[h2]
 split<;>rfl
theorem Ok{t:TypeId}{x:AV}:bK P h .len #[t] ty [x]=(cH P t x).map (·,h):=rfl
theorem u6{t:TypeId}{x:AV}:bK P h .cap #[t] ty [x]=(wQ P t x).map (·,h):=rfl
theorem append_eq{d:Option Tmp}{s x:AV}:eV P (fun _=>none) d h .append ts ty [s,x]=bP P h ts s x:=rfl
theorem AK{G:Nat->Option (List AV)}{d:Option Tmp}{s x:AV}(ht:uu G d ty=false):eV P G d h .append ts ty [s,x]=bP P h ts s x:=by
 unfold eV
 simp only[ht,Bool.false_eq_true,if_false]
theorem AL{G:Nat->Option (List AV)}{d:Option Tmp}{s x:AV}(ht:uu G d ty=true):eV P G d h .append ts ty [s,x]=iX P h ts s x:=by
 unfold eV
 simp only[ht,if_true]
theorem copy_eq{s x:AV}:bK P h .copy ts ty [s,x]=oi P h ts s x:=rfl
end
end Go.AE
end
section
namespace Go.AE
section
variable {H:Type} {P:Program} {t e:TypeId} {cs xs:List AV} {x:AV} {d:DataW H}
theorem Has.rk{k:IntKind}(h:Has P t cs d)(hu:P.underlying t=some (.int k)):∃n:Int,cs=[.v (.int k n)]/\k.min<=n/\n<=k.max:=by
 cases h with
 |int hu' n hn=>
  rw[hu] at hu';injection hu' with hu';injection hu' with hu';subst hu'
  exact⟨n,rfl,by simpa [Lit.wf] using hn⟩
 |bool hu'=>rw[hu] at hu';cases hu'
 |str hu'=>rw[hu] at hu';cases hu'
 |none hu'=>rw[hu] at hu';cases hu'
 |list hu'=>rw[hu] at hu';cases hu'
 |struct hu'=>rw[hu] at hu';cases hu'
 |array hu'=>rw[hu] at hu';cases hu'
theorem Has.yZ(h:Has P t cs d)(hu:P.underlying t=some (.int .i64)):∃n:Int,cs=[.v (.int .i64 n)]/\ -9223372036854775808<=n/\n<=9223372036854775807:=by
 obtain⟨n,h1,h2,h3⟩:=h.rk hu
 simp[IntKind.min,IntKind.max,IntKind.signed,IntKind.bits] at h2 h3
 exact⟨n,h1,h2,h3⟩
theorem Has.C7(h:Has P t cs d)(hu:P.underlying t=some (.int .u8)):∃b:UInt8,cs=dp b:=by
 obtain⟨n,h1,h2,h4⟩:=h.rk hu
 simp[IntKind.min,IntKind.max,IntKind.signed,IntKind.bits] at h2 h4
 refine⟨UInt8.ofNat n.toNat,?_⟩
 have h3:((UInt8.ofNat n.toNat).toNat:Int)=n:=by
  have:(UInt8.ofNat n.toNat).toNat=n.toNat:=by simp;omega
  rw[this];omega
 rw[h1,dp,h3]
theorem Has.kj(h:Has P t cs d)(hu:P.underlying t=some (.slice e)):∃(k:Tok) (es:List (List AV)),cs=[.list k (P.cellsOf e) es]/\es.length<=maxLen/\(k= .nil∨k= .held∨(k= .tight/\es=[]))/\(k= .nil->es=[])/\
 ∀r∈es,r.length=P.cellsOf e/\∃d:DataW H,Has P e r d:=by
 cases h with
 |bool hu'=>rw[hu] at hu';cases hu'
 |int hu'=>rw[hu] at hu';cases hu'
 |str hu'=>rw[hu] at hu';cases hu'
 |none hu'=>
  rw[hu] at hu';injection hu' with hu';injection hu' with hu';subst hu'
  exact⟨.nil,[],rfl,by simp,.inl rfl,fun _=>rfl,fun r hr=>by cases hr⟩
 |list hu' k es ds sp hk hl hd he hs=>
  rw[hu] at hu';injection hu' with hu';injection hu' with hu';subst hu'
  refine⟨k,es,rfl,hl,.inr hk,?_,fun r hr=>⟨hs r hr,?_⟩⟩
  ·rintro rfl
   rcases hk with hk|⟨hk,-⟩<;>cases hk
  ·obtain⟨i,hi,rfl⟩:=List.mem_iff_getElem.1 hr
   exact⟨ds[i],he i _ _ (List.getElem?_eq_getElem hi) (List.getElem?_eq_getElem (by omega))⟩
 |struct hu'=>rw[hu] at hu';cases hu'
 |array hu'=>rw[hu] at hu';cases hu'
theorem Has.nq{fs:Array Field}{tys:List (TypeId × Nat)}(h:Has P t xs d)(hu:P.underlying t=some (.struct fs))(hf:(fs.toList.map fun f=>(f.type,f.offset))=tys):
 xs.length=P.cellsOf t/\∀(i:Nat) (u:TypeId) (o:Nat),tys[i]?=some (u,o)->∃d:DataW H,Has P u ((xs.drop o).take (P.cellsOf u)) d:=by
 cases h with
 |bool hu'=>rw[hu] at hu';cases hu'
 |int hu'=>rw[hu] at hu';cases hu'
 |str hu'=>rw[hu] at hu';cases hu'
 |none hu'=>rw[hu] at hu';cases hu'
 |list hu'=>rw[hu] at hu';cases hu'
 |array hu'=>rw[hu] at hu';cases hu'
 |struct hu' xs ds hl hd hff=>
  rw[hu] at hu';injection hu' with hu';injection hu' with hu';subst hu'
  refine⟨hl,fun i u o ho=>?_⟩
  rw[<-hf,List.getElem?_map] at ho
  cases hq:fs.toList[i]? with
  |none=>rw[hq] at ho;cases ho
  |some f=>
   rw[hq] at ho
   simp only[Option.map_some,Option.some.injEq,Prod.mk.injEq] at ho
   have hi:i<ds.length:=by
    have:=(List.getElem?_eq_some_iff.1 hq).1
    simp at this
    omega
   have:=hff i f ds[i] (by rw[<-Array.getElem?_toList];exact hq) (List.getElem?_eq_getElem hi)
   rw[ho.1,ho.2] at this
   exact⟨_,this⟩
theorem jy.plain(h:jy P t x d)(hu:∀fs,P.underlying t≠some (.struct fs))(hu2:∀n e,P.underlying t≠some (.array n e)):Has P t [x] d:=by
 unfold jy at h
 split at h
 ·rename_i h1;exact absurd h1 (hu _)
 ·rename_i h1;exact absurd h1 (hu2 _ _)
 ·exact h
theorem jy.yZ(h:jy P t x d)(hu:P.underlying t=some (.int .i64)):∃n:Int,x= .v (.int .i64 n)/\ -9223372036854775808<=n/\n<=9223372036854775807:=by
 obtain⟨l,h1,h2⟩:=(h.plain (fun _ hq=>by rw[hu] at hq;cases hq) (fun _ _ hq=>by rw[hu] at hq;cases hq)).yZ hu
 injection h1 with h1
 exact⟨l,h1,h2⟩
theorem jy.C7(h:jy P t x d)(hu:P.underlying t=some (.int .u8)):∃b:UInt8,x= .v (.int .u8 b.toNat):=by
 obtain⟨l,h1⟩:=(h.plain (fun _ hq=>by rw[hu] at hq;cases hq) (fun _ _ hq=>by rw[hu] at hq;cases hq)).C7 hu
 injection h1 with h1
 exact⟨l,h1⟩
theorem jy.kj(h:jy P t x d)(hu:P.underlying t=some (.slice e)):∃(k:Tok) (es:List (List AV)),x= .list k (P.cellsOf e) es/\es.length<=maxLen/\(k= .nil∨k= .held∨(k= .tight/\es=[]))/\(k= .nil->es=[])/\
 ∀r∈es,r.length=P.cellsOf e/\∃d:DataW H,Has P e r d:=by
 obtain⟨k,es,h1,h2⟩:=(h.plain (fun _ hq=>by rw[hu] at hq;cases hq) (fun _ _ hq=>by rw[hu] at hq;cases hq)).kj hu
 injection h1 with h1
 exact⟨k,es,h1,h2⟩
theorem jy.nq{fs:Array Field}(h:jy P t x d)(hu:P.underlying t=some (.struct fs)):∃xs,x= .agg xs/\Has P t xs d:=by
 unfold jy at h
 rw[hu] at h
 exact h
def oD(P:Program)(t:TypeId)(tys:List (TypeId × Nat)):Bool:=
 match P.underlying t with
 |some (.struct fs)=>decide ((fs.toList.map fun f=>(f.type,f.offset))=tys)
 |_=>false
theorem tu{tys:List (TypeId × Nat)}(h:oD P t tys=true):∃fs:Array Field,P.underlying t=some (.struct fs)/\(fs.toList.map fun f=>(f.type,f.offset))=tys:=by
 unfold oD at h
 split at h
 ·rename_i fs hu;exact⟨fs,hu,by simpa using h⟩
 ·cases h
theorem jy.fields{tys:List (TypeId × Nat)}(h:jy P t x d)(hs:oD P t tys=true):∃xs,x= .agg xs/\xs.length=P.cellsOf t/\∀(i:Nat) (u:TypeId) (o:Nat),tys[i]?=some (u,o)->∃d:DataW H,Has P u ((xs.drop o).take (P.cellsOf u)) d:=by
 obtain⟨fs,hu,hf⟩:=tu hs
 obtain⟨xs,h1,h2⟩:=h.nq hu
 exact⟨xs,h1,h2.nq hu hf⟩
theorem Has.fields{tys:List (TypeId × Nat)}(h:Has P t xs d)(hs:oD P t tys=true):xs.length=P.cellsOf t/\∀(i:Nat) (u:TypeId) (o:Nat),tys[i]?=some (u,o)->∃d:DataW H,Has P u ((xs.drop o).take (P.cellsOf u)) d:=by
 obtain⟨fs,hu,hf⟩:=tu hs
 exact h.nq hu hf
theorem Qg{α:Type}{l:List α}(h:l.length=2):∃a b,l=[a,b]:=by
 match l,h with
 | [a,b],_=>exact⟨a,b,rfl⟩
theorem Ei{α:Type}{f:α->List AV}:∀{es:List (List AV)},(∀r∈es,∃a,r=f a)->∃l:List α,es=l.map f:=by
 intro es
 induction es with
 |nil=>intro _;exact⟨[],rfl⟩
 |cons r es ih=>
  intro h
  obtain⟨a,rfl⟩:=h r List.mem_cons_self
  obtain⟨l,rfl⟩:=ih fun r hr=>h r (List.mem_cons_of_mem _ hr)
  exact⟨a::l,rfl⟩
end
end Go.AE
end
section
namespace Go.AE
end Go.AE
end
section
namespace Go.AE
section
variable {a b:Nat × Operand} {i k:Nat} {n:Int} {x:ByteArray} {l:List (Nat × Operand)}
theorem Ol:fc #[]=false:=rfl
theorem Om:fc #[a]=false:=by
 obtain⟨i,o⟩:=a
 cases o with
 |const v=>
  cases v with
  |int k n=>cases k<;>rfl
  |_=>rfl
 |_=>rfl
theorem On:fc (List.toArray ((i,.tmp k)::l))=false:=rfl
theorem Oo:fc (List.toArray ((i,.const (.int .i64 n))::l))=false:=rfl
theorem Oq:fc (List.toArray ((i,.const (.string x))::l))=false:=rfl
theorem Qn:fc (List.toArray ((i,.const (.int .u8 n))::b::l))=true:=rfl
end
set_option linter.defProp false in
def goS:=And.intro @run_seq (And.intro @CG (And.intro @Ix (And.intro @FJ (And.intro @Iw (And.intro @LI (And.intro @Iv (And.intro @FH (And.intro @FI (And.intro @Av (And.intro @Iu (And.intro @FG (And.intro @CE (And.intro @wq (And.intro @CF (And.intro @tq (And.intro @yH (And.intro @yJ (And.intro @FK (And.intro @CI (And.intro @Ax (And.intro @yI (And.intro @Aw (And.intro @Ar (And.intro @yF (And.intro @Io (And.intro @Ip (And.intro @Iq (And.intro @Ir (And.intro @Is (And.intro @yD (And.intro @yE (And.intro @FF (And.intro @Iz (And.intro @CL (And.intro @LJ (And.intro @FL (And.intro @LK (And.intro @IB (And.intro @Ob (And.intro @IC (And.intro @wu (And.intro @LL (And.intro @ID (And.intro @AA (And.intro @IE (And.intro @LM (And.intro @CQ (And.intro @sC (And.intro @AB (And.intro @yO (And.intro @IF (And.intro @yP (And.intro @IG (And.intro @yQ (And.intro @IH (And.intro @wx (And.intro @CR (And.intro @Oc (And.intro @Od (And.intro @FM (And.intro @LN (And.intro @Oe (And.intro @Of (And.intro @CP (And.intro @CM (And.intro @CO (And.intro @yN (And.intro @xc (And.intro @Az (And.intro @Ik (And.intro @Il (And.intro @yy (And.intro @Fz (And.intro @Oa (And.intro @Ap (And.intro @FA (And.intro @yz (And.intro @FB (And.intro @oA (And.intro @lv (And.intro @eval_const (And.intro @eval_func (And.intro @eval_global (And.intro @FC (And.intro @CA (And.intro @yA (And.intro @uQ (And.intro @wm (And.intro @yB (And.intro @uR (And.intro @FD (And.intro @Qk (And.intro @np (And.intro @Eg (And.intro @LO (And.intro @LQ (And.intro @LR (And.intro @LS (And.intro @LU (And.intro @LV (And.intro @LW (And.intro @LX (And.intro @LY (And.intro @LZ (And.intro @II (And.intro @IJ (And.intro @IK (And.intro @Og (And.intro @Oh (And.intro @uU (And.intro @uV (And.intro @yS (And.intro @yT (And.intro @FO (And.intro @bT (And.intro @yU (And.intro @Ay (And.intro @Iy (And.intro @CJ (And.intro @AF (And.intro @IN (And.intro @CX (And.intro @CK (And.intro @yM (And.intro @Bool.not_true (And.intro @Bool.not_false (And.intro @Bool.false_eq_true (And.intro @decide_true (And.intro @decide_false (And.intro @not_true_eq_false (And.intro @not_false_eq_true (And.intro @Int.toNat_natCast (And.intro @Int.toNat_zero (And.intro @Nat.succ_ne_zero (And.intro @pc (And.intro @ri (And.intro @Ok (And.intro @u6 (And.intro @append_eq (And.intro @copy_eq (And.intro @Ol (And.intro @Om (And.intro @On (And.intro @Oo (And.intro @Oq (@Qn))))))))))))))))))))))))))))))))))))))))))))))))))))))))))))))))))))))))))))))))))))))))))))))))))))))))))))))))))))))))))))))))))))))))))))))))))
set_option linter.defProp false in
def goH:=And.intro @AJ (And.intro @IU (And.intro @C6 (And.intro @oC (And.intro @yY (And.intro @CT (And.intro @IT (And.intro @C4 (And.intro @C5 (And.intro @yW (And.intro @yX (And.intro @Mc (And.intro @C0 (And.intro @Md (And.intro @xd (And.intro @Oi (And.intro @FX (And.intro @Oj (And.intro @AI (And.intro @dc (And.intro @cP (And.intro @L9 (And.intro @Ma (And.intro @FW (And.intro @uZ (And.intro @yV (And.intro @Mb (And.intro @aw (And.intro @Nat.zero_add (@Nat.add_zero)))))))))))))))))))))))))))))
end Go.AE
end
section
namespace Go.AE
section
variable {P:Program} {G:Nat->Option (List AV)} {prims:FuncId->Option (List AV->ae->Option (AV × ae))} {Q:Xt->Env->ae->Prop} {e:Env} {h:ae}
def ug(e:Env)(params:Array Tmp)(assign body:Code):bE:={tmps:=e.tmps,params,assign,body,state:= .ready,pending:=none}
def ae.loop(h:ae)(r:bE):ae:={h with loops:=h.loops++[r]}
def ae.done(h:ae)(l:Nat)(r:bE):ae:={h with loops:=h.loops.set l {r with state:= .exhausted}}
theorem tT{f:Operand}{params:Array Tmp}{assign body:Code}{g:FuncId}{first cap:List AV}(hf:e.eval f= .func (.func g) first cap){x:AV}{h':ae}
 (hc:(whole P G prims).call g (first++[.yield h.loops.length]++cap) (h.loop (ug e params assign body))=some (.panic x,h')) (hq:Q (.panic x) e h'):
 Run (whole P G prims) (.rangeFunc f params assign body) e h Q:=by
 unfold Run
 rw[dz]
 unfold b7
 have hc':(whole P G prims).call g (first++[.yield h.loops.length]++cap) {h with loops:=h.loops++[{tmps:=e.tmps,params,assign,body,state:= .ready,pending:=none}]}=some (.panic x,h'):=hc
 simp only[hf,hc']
 exact⟨_,_,_,rfl,hq⟩
theorem wB{f:Operand}{params:Array Tmp}{assign body:Code}{g:FuncId}{first cap:List AV}(hf:e.eval f= .func (.func g) first cap){x:AV}{h':ae}{r:bE}
 (hc:(whole P G prims).call g (first++[.yield h.loops.length]++cap) (h.loop (ug e params assign body))=some (.ret x,h')) (hr:h'.loops[h.loops.length]?=some r) (hb:r.state≠ .busy) (hp:r.pending=none)
 (hq:Q .normal e (h'.done h.loops.length r)):Run (whole P G prims) (.rangeFunc f params assign body) e h Q:=by
 unfold Run
 rw[dz]
 unfold b7
 have hc':(whole P G prims).call g (first++[.yield h.loops.length]++cap) {h with loops:=h.loops++[{tmps:=e.tmps,params,assign,body,state:= .ready,pending:=none}]}=some (.ret x,h'):=hc
 simp only[hf,hc',hr,hp]
 rw[if_neg hb]
 refine⟨_,_,_,rfl,?_⟩
 simpa only[ae.done,hp] using hq
theorem wC{f:Operand}{params:Array Tmp}{assign body:Code}{g:FuncId}{first cap:List AV}(hf:e.eval f= .func (.func g) first cap){x:AV}{h':ae}{r:bE}
 (hc:(whole P G prims).call g (first++[.yield h.loops.length]++cap) (h.loop (ug e params assign body))=some (.ret x,h')) (hr:h'.loops[h.loops.length]?=some r) (hb:r.state≠ .busy) (hp:r.pending=some .ret)
 (hq:Q .ret e (h'.done h.loops.length r)):Run (whole P G prims) (.rangeFunc f params assign body) e h Q:=by
 unfold Run
 rw[dz]
 unfold b7
 have hc':(whole P G prims).call g (first++[.yield h.loops.length]++cap) {h with loops:=h.loops++[{tmps:=e.tmps,params,assign,body,state:= .ready,pending:=none}]}=some (.ret x,h'):=hc
 simp only[hf,hc',hr,hp]
 rw[if_neg hb]
 refine⟨_,_,_,rfl,?_⟩
 simpa only[ae.done,hp] using hq
def dD(l:Nat)(r:bE)(args:List AV):Env:={tmps:=j9 r.params.toList args r.tmps,defers:=[],pan:=none,round:=some l}
def ae.busy(h:ae)(l:Nat)(r:bE):ae:={h with loops:=h.loops.set l {r with state:= .busy}}
def Ot(l:Nat)(x:Res)(h':ae):Xt->Env->ae->Prop
 | .normal,_,h2=>∃r,h2.loops[l]?=some r/\x= .ret (.v (.bool true))/\h'={h2 with loops:=h2.loops.set l {r with state:= .ready,pending:=none}}
 | .ret,_,h2=>∃r,h2.loops[l]?=some r/\x= .ret (.v (.bool false))/\h'={h2 with loops:=h2.loops.set l {r with state:= .done,pending:=some .ret}}
 | .exit id,_,h2=>∃r,h2.loops[l]?=some r/\x= .ret (.v (.bool false))/\h'={h2 with loops:=h2.loops.set l {r with state:= .done,pending:=some (.exit id)}}
 | .panic z,_,h2=>x= .panic z/\h'=h2
theorem jT{l:Nat}{args:List AV}{r:bE}{x:Res}{h':ae}(hr:h.loops[l]?=some r)(hs:r.params.size=args.length)
 (ha:Run (whole P G prims) r.assign (dD l r args) h (fun o e1 h1=>o= .normal/\∃r2,h1.loops[l]?=some r2/\r2.state= .ready/\Run (whole P G prims) r.body e1 (h1.busy l r2) (Ot l x h'))):
 (whole P G prims).round l args h=some (x,h'):=by
 rw[Ao]
 unfold iC
 obtain⟨o,e1,h1,e2,rfl,r2,q1,q2,o2,e3,h3,q3,q4⟩:=ha
 have e2':(whole P G prims).code r.assign {tmps:=j9 r.params.toList args r.tmps,defers:=[],pan:=none,round:=some l} h=some (.normal,e1,h1):=e2
 have q3':(whole P G prims).code r.body e1 {h1 with loops:=h1.loops.set l {r2 with state:= .busy}}=some (o2,e3,h3):=q3
 simp only[hr,hs,if_true,e2',q1,q2]
 rw[show({h1 with loops:=h1.loops.set l {tmps:=r2.tmps,params:=r2.params,assign:=r2.assign,body:=r2.body,state:=LoopState.busy,pending:=r2.pending}}:ae)={h1 with loops:=h1.loops.set l {r2 with state:= .busy}} from rfl,q3']
 cases o2 with
 |normal=>obtain⟨r3,w1,rfl,rfl⟩:=q4;simp only[w1,Option.map_some]
 |ret=>obtain⟨r3,w1,rfl,rfl⟩:=q4;simp only[w1,Option.map_some]
 |exit id=>obtain⟨r3,w1,rfl,rfl⟩:=q4;simp only[w1,Option.map_some]
 |panic z=>obtain⟨rfl,rfl⟩:=q4;rfl
end
end Go.AE
end
section
namespace Go.AE
structure Fr(bn l0 n0:Nat)(h h':ae):Prop where
 box:∀(c:Nat) (cs:List AV),c≠bn->h.boxes[c]?=some cs->h'.boxes[c]?=some cs
 len:h.boxes.length<=h'.boxes.length
 loop:∀(l:Nat) (r:bE),l<l0->h.loops[l]?=some r->h'.loops[l]?=some r
 IV:h.loops.length<=h'.loops.length
 tn:h.tn<=h'.tn
 dead:∀n,n<n0->n∈h'.dead->n∈h.dead
 ok:aZ h=true->aZ h'=true
theorem Fr.refl(bn l0 n0:Nat)(h:ae):Fr bn l0 n0 h h:=⟨fun _ _ _ h=>h,Nat.le_refl _,fun _ _ _ h=>h,Nat.le_refl _,Nat.le_refl _,fun _ _ h=>h,fun h=>h⟩
theorem Fr.trans{bn l0 n0:Nat}{a b c:ae}(h:Fr bn l0 n0 a b)(k:Fr bn l0 n0 b c):Fr bn l0 n0 a c:=
 ⟨fun i cs hi hb=>k.box i cs hi (h.box i cs hi hb),Nat.le_trans h.len k.len,fun l r hl hr=>k.loop l r hl (h.loop l r hl hr),Nat.le_trans h.IV k.IV,Nat.le_trans h.tn k.tn,fun n hn hd=>h.dead n hn (k.dead n hn hd),fun ho=>k.ok (h.ok ho)⟩
theorem Ext.IV{h h':ae}(x:Ext h h'):h.loops.length<=h'.loops.length:=by
 rcases Nat.lt_or_ge h'.loops.length h.loops.length with hlt|hge
 ·have h1:=x.loop h'.loops.length _ (List.getElem?_eq_getElem hlt)
  have:=(List.getElem?_eq_some_iff.1 h1).1
  omega
 ·exact hge
theorem Fr.sF{bn l0 n0:Nat}{h h':ae}(x:Ext h h')(hn:n0<=h.tn):Fr bn l0 n0 h h':=
 ⟨fun c cs _ hc=>x.box c cs hc,x.len,fun l r _ hl=>x.loop l r hl,x.IV,x.tn,fun n h1 h2=>x.dead n (Nat.lt_of_lt_of_le h1 hn) h2,x.ok⟩
theorem Fr.push(bn l0 n0:Nat)(h:ae)(cs:List AV):Fr bn l0 n0 h (h.push cs):=
 ⟨fun _ _ _ hb=>aj hb,by rw[az];exact Nat.le_succ _,fun _ _ _ h=>h,Nat.le_refl _,Nat.le_refl _,fun _ _ h=>h,fun h=>h⟩
theorem Fr.put(bn l0 n0:Nat)(h:ae)(cs:List AV):Fr bn l0 n0 h (h.put bn cs):=
 ⟨fun c ds hc hb=>by rw[av hc];exact hb,by rw[dU];exact Nat.le_refl _,fun _ _ _ h=>h,Nat.le_refl _,Nat.le_refl _,fun _ _ h=>h,fun h=>h⟩
def ae.bh(h:ae)(l:Nat)(r:bE):ae:={h with loops:=h.loops.set l r}
theorem Fr.bh{bn l0 n0:Nat}{h:ae}{l:Nat}(hl:l0<=l)(r:bE):Fr bn l0 n0 h (h.bh l r):=
 ⟨fun _ _ _ hb=>hb,Nat.le_refl _,fun m q hm hq=>by rw[<-hq];exact List.getElem?_set_ne (by omega),by simp[ae.bh],Nat.le_refl _,fun _ _ h=>h,fun h=>h⟩
theorem Fr.lD{bn l0 n0:Nat}(h:ae)(r:bE):Fr bn l0 n0 h (h.loop r):=
 ⟨fun _ _ _ hb=>hb,Nat.le_refl _,fun m q hm hq=>cC hq,by simp[ae.loop],Nat.le_refl _,fun _ _ h=>h,fun h=>h⟩
theorem Fr.ext{bn l0 n0:Nat}{h h':ae}(x:Fr bn l0 n0 h h')(hb:h.boxes.length<=bn)(hl:h.loops.length<=l0)(hn:h.tn<=n0):Ext h h':=
 ⟨fun c cs hc=>x.box c cs (by have:=(List.getElem?_eq_some_iff.1 hc).1;omega) hc,fun l r hr=>x.loop l r (by have:=(List.getElem?_eq_some_iff.1 hr).1;omega) hr,x.tn,fun n h1 h2=>x.dead n (Nat.lt_of_lt_of_le h1 hn) h2,x.ok⟩
theorem rl{h:ae}{l:Nat}{r:bE}(hl:l<h.loops.length):(h.bh l r).loops[l]?=some r:=by simp[ae.bh,hl]
theorem pX{h:ae}{l m:Nat}{r:bE}(hl:m≠l):(h.bh l r).loops[m]?=h.loops[m]?:=by simp[ae.bh,List.getElem?_set_ne (Ne.symm hl)]
theorem kC{h:ae}{r:bE}:(h.loop r).loops[h.loops.length]?=some r:=by simp[ae.loop]
theorem AM{h:ae}{r q:bE}{l:Nat}(hq:h.loops[l]?=some q):(h.loop r).loops[l]?=some q:=cC hq
def St(l:Nat)(h h':ae):Prop:=(∀(b:Nat) (cs:List AV),h.boxes[b]?=some cs->h'.boxes[b]?=some cs)/\∀(m:Nat) (r:bE),m<=l->h.loops[m]?=some r->h'.loops[m]?=some r
theorem St.refl(l:Nat)(h:ae):St l h h:=⟨fun _ _ h=>h,fun _ _ _ h=>h⟩
theorem St.trans{l:Nat}{a b c:ae}(h:St l a b)(k:St l b c):St l a c:=⟨fun i cs hb=>k.1 i cs (h.1 i cs hb),fun m r hm hr=>k.2 m r hm (h.2 m r hm hr)⟩
theorem St.push(l:Nat)(h:ae)(cs:List AV):St l h (h.push cs):=⟨fun _ _ hb=>aj hb,fun _ _ _ h=>h⟩
theorem St.sF{l:Nat}{h h':ae}(x:Ext h h'):St l h h':=⟨x.box,fun m r _ hr=>x.loop m r hr⟩
theorem St.bh{l k:Nat}{h:ae}(hl:l<k)(r:bE):St l h (h.bh k r):=⟨fun _ _ hb=>hb,fun m q hm hq=>by rw[pX (by omega)];exact hq⟩
theorem St.lD(l:Nat)(h:ae)(r:bE):St l h (h.loop r):=⟨fun _ _ hb=>hb,fun m q _ hq=>AM hq⟩
theorem St.bZ{l:Nat}{h h':ae}(x:St l h h'){b:Nat}(hb:h.boxes.length<=b)(cs:List AV):St l h (h'.put b cs):=
 ⟨fun c ds hc=>by
  have hlt:c<h.boxes.length:=(List.getElem?_eq_some_iff.1 hc).1
  rw[av (by omega)]
  exact x.1 c ds hc,x.2⟩
inductive Nx (α:Type) where
 |cont (a:α) |stop (a:α) |panic (v:AV)
theorem Run.gen{R:Rec}{c:Code}{e:Env}{h:ae}{Q:Xt->Env->ae->Prop}(hq:∀e2:Env,(∀t,e2.get t=e.get t)->e2.defers=e.defers->e2.pan=e.pan->e2.round=e.round->Run R c e2 h Q):Run R c e h Q:=hq e (fun _=>rfl) rfl rfl rfl
section
variable {P:Program} {G:Nat->Option (List AV)} {prims:FuncId->Option (List AV->ae->Option (AV × ae))} {Q:Xt->Env->ae->Prop} {e:Env} {h:ae}
theorem kD{f:Operand}{params:Array Tmp}{assign body:Code}{g:FuncId}{first cap:List AV}(hf:e.eval f= .func (.func g) first cap)
 (H:∀rec:bE,rec.tmps=e.tmps->rec.params=params->rec.assign=assign->rec.body=body->rec.state= .ready->rec.pending=none->∃r h',(whole P G prims).call g (first++[.yield h.loops.length]++cap) (h.loop rec)=some (r,h')/\
  match r with
  | .panic x=>Q (.panic x) e h'
  | .ret _=>∃rc,h'.loops[h.loops.length]?=some rc/\rc.state≠ .busy/\((rc.pending=none/\Q .normal e (h'.bh h.loops.length {rc with state:= .exhausted}))∨(rc.pending=some .ret/\Q .ret e (h'.bh h.loops.length {rc with state:= .exhausted})))):
 Run (whole P G prims) (.rangeFunc f params assign body) e h Q:=by
 obtain⟨r,h',hc,hm⟩:=H (ug e params assign body) rfl rfl rfl rfl rfl rfl
 cases r with
 |panic x=>exact tT hf hc hm
 |ret x=>
  obtain⟨rc,h1,h2,h3|h3⟩:=hm
  ·exact wB hf hc h1 h2 h3.1 h3.2
  ·exact wC hf hc h1 h2 h3.1 h3.2
theorem rm{l p t:Nat}{r:bE}{x:AV}(hp:r.params=#[p])(ht:r.tmps=e.tmps):(dD l r [x]).get t=if p=t then x else e.get t:=by
 unfold dD
 rw[hp,ht]
 exact mB e.tmps p t x
theorem St.mono{l l':Nat}(hl:l<=l'){h h':ae}(x:St l' h h'):St l h h':=⟨x.1,fun m r hm hr=>x.2 m r (by omega) hr⟩
end
end Go.AE
end
section
namespace Go.AE
section
variable {P:Program} {G:Nat->Option (List AV)} {R:Rec}
end
section
variable {P:Program} {G:Nat->Option (List AV)} {prims:FuncId->Option (List AV->ae->Option (AV × ae))} {Q:Xt->Env->ae->Prop} {e:Env} {h:ae}
end
end Go.AE
end
section
namespace Go.AE
section
variable {P:Program} {G:Nat->Option (List AV)} {R:Rec} {ops:Array Oper} {k:Nat}
end
section
variable {P:Program} {G:Nat->Option (List AV)} {prims:FuncId->Option (List AV->ae->Option (AV × ae))} {Q:Xt->Env->ae->Prop} {e:Env} {h:ae}
def dy(ops:Array Oper)(k:Nat)(ps:List (Nat × Nat)):Bool:=ps.all fun p=>eW (cut ops k) p.1 p.2&&(decide (p.1<k)&&decide (p.2<k))
end
end Go.AE
end
section
namespace Go.AE
mutual
def ml(n:Nat):AV->Bool
 | .list _ _ es=>IW n es
 | .arr b _ _ _=>decide (b<n)
 | .agg cs=>nY n cs
 | .tuple cs=>nY n cs
 | .ptr (.box b) _=>decide (b<n)
 | .elem _ es _ _=>IW n es
 | .func _ a b=>nY n a&&nY n b
 | .iface _ x=>ml n x
 |_=>true
def nY(n:Nat):List AV->Bool
 | []=>true
 |x::r=>ml n x&&nY n r
def IW(n:Nat):List (List AV)->Bool
 | []=>true
 |r::rs=>nY n r&&IW n rs
end
theorem AN(n:Nat):∀(a b:List AV),nY n (a++b)=(nY n a&&nY n b)
 | [],b=>by simp[nY]
 |x::a,b=>by rw[List.cons_append,nY,nY,AN n a b,Bool.and_assoc]
theorem mG(n:Nat):∀es:List (List AV),nY n es.flatten=IW n es
 | []=>rfl
 |r::es=>by rw[List.flatten_cons,AN,IW,mG n es]
def aB.low(K:aB)(n:Nat):aB:={K with β:=K.β.take n}
section
variable {K:aB}
theorem Mf{b g:Nat}(h:K.β[b]?=some g):b<K.β.length:=(List.getElem?_eq_some_iff.1 h).1
mutual
theorem aI.low:∀{x:AV} {c:Value},aI K x c->ml K.β.length x=true
 |_,_,.bad _=>rfl
 |_,_,.v _ _=>rfl
 |_,_,.nil _=>rfl
 |_,_,.eK _ _=>rfl
 |_,_,.list _ _ es _ _ _ _ _ _ _ hv _ _ _=>by rw[ml,<-mG];exact ao.low hv
 |_,_,.arr _ _ _ _ _ _ _ hb _ _ _ _=>by rw[ml];exact decide_eq_true (Mf hb)
 |_,_,.agg _ _ hv=>by rw[ml];exact ao.low hv
 |_,_,.tuple _ _ hv=>by rw[ml];exact ao.low hv
 |_,_,.box _ _ _ hb=>by rw[ml];exact decide_eq_true (Mf hb)
 |_,_,.dW _ _=>rfl
 |_,_,.elem _ es _ _ _ _ _ _ _ hv _ _ _ _=>by rw[ml,<-mG];exact ao.low hv
 |_,_,.func _ _ _ _ _ h1 h2=>by rw[ml,ao.low h1,ao.low h2];rfl
 |_,_,.yield _ _ _=>rfl
 |_,_,.iface _ _ _ hx=>by rw[ml];exact aI.low hx
theorem ao.low:∀{xs:List AV} {cs:List Value},ao K xs cs->nY K.β.length xs=true
 |_,_,.nil=>rfl
 |_,_,.cons _ _ _ _ hx hs=>by rw[nY,aI.low hx,ao.low hs];rfl
end
theorem Nq{n b g:Nat}(hb:K.β[b]?=some g)(hn:b<n):(K.low n).β[b]?=some g:=by
 show(K.β.take n)[b]?=some g
 rw[List.getElem?_take,if_pos hn,hb]
theorem pT.low{n:Nat}{k:Tok}{g off sz m cap:Nat}(h:pT K k g off sz m cap):pT (K.low n) k g off sz m cap:=h
mutual
theorem aI.cut{n:Nat}:∀{x:AV} {c:Value},aI K x c->ml n x=true->aI (K.low n) x c
 |_,_,.bad c,_=> .bad c
 |_,_,.v x hx,_=> .v x hx
 |_,_,.nil sz,_=> .nil sz
 |_,_,.eK sz a,_=> .eK sz a
 |_,_,.list k sz es g off m cap cells hn hr hv hc ht ha,h=> .list k sz es g off m cap cells hn hr (ao.cut hv (by rw[mG];rw[ml] at h;exact h)) hc ht.low ha
 |_,_,.arr b g off len cap off' cap' hb hl hc ho hr,h=> .arr b g off len cap off' cap' (Nq hb (by rw[ml] at h;exact of_decide_eq_true h)) hl hc ho hr
 |_,_,.agg cs vs hv,h=> .agg cs vs (ao.cut hv (by rw[ml] at h;exact h))
 |_,_,.tuple cs vs hv,h=> .tuple cs vs (ao.cut hv (by rw[ml] at h;exact h))
 |_,_,.box b g off hb,h=> .box b g off (Nq hb (by rw[ml] at h;exact of_decide_eq_true h))
 |_,_,.dW g off,_=> .dW g off
 |_,_,.elem sz es i off g o p cells hr hv hc hi hp ha,h=> .elem sz es i off g o p cells hr (ao.cut hv (by rw[mG];rw[ml] at h;exact h)) hc hi hp ha
 |_,_,.func fn first cap fs cs h1 h2,h=> .func fn first cap fs cs (ao.cut h1 (by rw[ml,Bool.and_eq_true] at h;exact h.1)) (ao.cut h2 (by rw[ml,Bool.and_eq_true] at h;exact h.2))
 |_,_,.yield l g hl,_=> .yield l g hl
 |_,_,.iface t x c hx,h=> .iface t x c (aI.cut hx (by rw[ml] at h;exact h))
theorem ao.cut{n:Nat}:∀{xs:List AV} {cs:List Value},ao K xs cs->nY n xs=true->ao (K.low n) xs cs
 |_,_,.nil,_=> .nil
 |_,_,.cons x c xs cs hx hs,h=> .cons x c xs cs (aI.cut hx (by rw[nY,Bool.and_eq_true] at h;exact h.1)) (ao.cut hs (by rw[nY,Bool.and_eq_true] at h;exact h.2))
end
end
section
variable {P:Program} {G:Nat->Option (List AV)} {w0 w w':World} {K K':aB} {h h':ae} {ok:FuncId->Nat->Code->Bool}
end
end Go.AE
end
section
namespace Go.AE
section
universe u
set_option linter.defProp false in
def goT:=And.intro @Option.map_some.{0,0} (And.intro @Option.map_none.{0,0} (And.intro @Option.bind_some.{0,0} (And.intro @List.map_cons.{0,0} (And.intro @List.map_nil.{0,0} (And.intro @List.getD_cons_zero.{0} (And.intro @List.getD_cons_succ.{0} (And.intro @List.getElem?_toArray.{0} (And.intro @List.getElem?_cons_zero.{0} @List.getElem?_cons_succ.{0}))))))))
set_option linter.defProp false in
def goU:=And.intro @List.append_nil.{0} @List.nil_append.{0}
set_option linter.defProp false in
def Qo:=And.intro @az (And.intro @dU @Eh)
set_option linter.defProp false in
def SA:=And.intro @List.length_cons.{0} (And.intro @List.length_nil.{0} (And.intro @List.length_append.{0} (And.intro @az (And.intro @dU @Eh))))
set_option linter.defProp false in
def SB:=And.intro @wy (And.intro @cD (And.intro @AH (And.intro @CY (And.intro @CZ @L8))))
set_option linter.defProp false in
def SC:=And.intro @ij @jd
set_option linter.defProp false in
def SD:=And.intro @Ap (And.intro @xd @AI)
end
set_option linter.defProp false in
def G_d:=@FE
set_option linter.defProp false in
def G_n:=@CC
set_option linter.defProp false in
def B_d:=@CB
set_option linter.defProp false in
def B_n:=@As
set_option linter.defProp false in
def G_m:=@Au
set_option linter.defProp false in
def B_m:=@yG
set_option linter.defProp false in
def G_b:=@CD
set_option linter.defProp false in
def B_b:=@At
theorem dZ{p:Prop}(h:p:=by first|assumption| (exact Nat.le_refl _) |omega| (simp only[SA]<;>omega) | (simp(disch:=(first|assumption|omega| (exact(az _ _).symm) | (simp only[Qo];omega) | (refine Nat.le_antisymm ?_ ?_<;>simp only[Qo]<;>omega) |fail)) only[SB]<;>first|assumption|rfl) | (simp only[SC];assumption) | (exact oA _ _) | (simp only[SD];first|assumption|exact oA _ _)):p:=h
theorem dX{a b p:Prop}(x:a)(y:b)(f:a->b->p:=by first|exact G_d|exact G_n|exact B_d|exact B_n|exact G_m|exact B_m|exact G_b|exact B_b):p:=f x y
end Go.AE
end
section
namespace Go.AE
section
variable {P:Program} {t0 t1 t elem:TypeId} {i:TypeInfo} {h:ae} {k k':Tok} {sz:Nat} {es new:List (List AV)}
theorem xe(h0:P.underlying t0=some (.slice elem))(h1:P.underlying t1=some (.slice elem))(hi:P.info? elem=some i)(hsz:0<i.size)(hz:(i.zero.map fun z=>z.cells.size)=some i.size)(hnew:new≠[])
 (hb:(es.length+new.length) * i.bytes<=140737488355328) (hl:es.length+new.length<=9223372036854775807) (hs:sz=i.size∨es=[]) (hk:k= .nil∨k= .tight) {x:AV} (hx:eH h i.size x=some new):
 iX P h #[t0,t1] (.list k sz es) x=some (.arr h.boxes.length 0 (es.length+new.length) (es.length+new.length),h.push (es++new).flatten):=by
 unfold iX
 simp only[List.getElem?_toArray,List.getElem?_cons_zero,List.getElem?_cons_succ,Option.bind_some,h0,h1,hi,hx]
 rw[if_pos ⟨hsz,hz⟩,if_pos hs,if_neg hnew,if_pos ⟨hb,hl⟩]
 rcases hk with rfl|rfl<;>rfl
theorem xg{b len:Nat}{cs:List AV}(h0:P.underlying t0=some (.slice elem))(h1:P.underlying t1=some (.slice elem))(hi:P.info? elem=some i)(hsz:0<i.size)(hz:(i.zero.map fun z=>z.cells.size)=some i.size)(hnew:new≠[])
 (hb:(len+new.length) * i.bytes<=140737488355328) (hl:len+new.length<=9223372036854775807) (hbox:h.boxes[b]?=some cs) (h2:0<len) (h3:len * i.size=cs.length) {x:AV} (hx:eH h i.size x=some new):
 iX P h #[t0,t1] (.arr b 0 len len) x=some (.arr h.boxes.length 0 (len+new.length) (len+new.length),(h.put b []).push (cs++new.flatten)):=by
 have hn:0<new.length:=by cases new with|nil=>exact absurd rfl hnew|cons _ _=>simp
 unfold iX
 simp only[List.getElem?_toArray,List.getElem?_cons_zero,List.getElem?_cons_succ,Option.bind_some,h0,h1,hi,hx,hbox]
 rw[if_pos ⟨hsz,hz⟩,if_neg (by omega),if_pos ⟨trivial,h2,trivial,h3,hb,hl⟩]
 rfl
theorem rn{b off len cap n:Nat}{m:Int}{kk:IntKind}(h0:P.underlying t=some (.slice elem))(hs:bF P elem=some n)(hn:n≠0)(h1:0<=m)(h2:m<=cap)(h3:0<cap):ck P t (.arr b off len cap) none (some (.v (.int kk m))) none=some (.arr b off m.toNat cap):=by
 have e1:bX cap none cap=some cap:=rfl
 have e2:bX cap (some (.v (.int kk m))) len=some m.toNat:=by
  show(if 0<=m/\m<=(cap:Int) then some m.toNat else none)=_
  rw[if_pos ⟨h1,h2⟩]
 have e3:bX m.toNat none 0=some 0:=rfl
 unfold ck
 simp only[h0,hs,e1,e2,e3,Option.isSome_none,Bool.false_and,Bool.false_eq_true,false_and,if_false,hn,Nat.sub_zero,Nat.zero_mul,Nat.add_zero,ite_self]
end
end Go.AE
end
section
namespace Go.AE
def b9(sz:Nat)(h:ae)(x:AV)(rows:List (List AV)):Prop:=
 (∀r∈rows,r.length=sz)/\
 ((∃k s,x= .list k s rows/\(rows≠[]->s=sz))∨
  (∃b off cap cs,x= .arr b off rows.length cap/\rows.length<=cap/\h.boxes[b]?=some cs/\(cs.drop off).take (rows.length * sz)=rows.flatten/\off+rows.length * sz<=cs.length))
section
variable {P:Program} {G:Nat->Option (List AV)} {h h':ae} {t e:TypeId} {sz:Nat} {x:AV} {rows:List (List AV)}
theorem b9.list{k:Tok}{s:Nat}(hr:∀r∈rows,r.length=sz)(hs:rows≠[]->s=sz):b9 sz h (.list k s rows) rows:=⟨hr,.inl ⟨k,s,rfl,hs⟩⟩
theorem b9.box{b n:Nat}(hr:∀r∈rows,r.length=sz)(hn:n=rows.length)(hb:h.boxes[b]?=some rows.flatten):b9 sz h (.arr b 0 n n) rows:=by
 subst hn
 refine⟨hr,.inr ⟨b,0,rows.length,rows.flatten,rfl,Nat.le_refl _,hb,?_,?_⟩⟩
 ·rw[List.drop_zero,<-a8 hr,List.take_length]
 ·rw[a8 hr];omega
theorem b9.mono(s:b9 sz h x rows)(m:∀(b:Nat) (cs:List AV),h.boxes[b]?=some cs->h'.boxes[b]?=some cs):b9 sz h' x rows:=by
 obtain⟨hr,s⟩:=s
 refine⟨hr,?_⟩
 rcases s with s|⟨b,off,cap,cs,h1,h2,h3,h4⟩
 ·exact .inl s
 ·exact .inr ⟨b,off,cap,cs,h1,h2,m _ _ h3,h4⟩
theorem b9.ext(s:b9 sz h x rows)(m:Ext h h'):b9 sz h' x rows:=s.mono m.box
theorem b9.len(s:b9 sz h x rows)(hu:P.underlying t=some (.slice e)):cH P t x=some (.v (.int .i64 rows.length)):=by
 rcases s.2 with⟨k,s,rfl,-⟩|⟨b,off,cap,cs,rfl,-⟩
 ·exact uV hu
 ·exact yS hu
theorem b9.index(s:b9 sz h x rows)(hp:0<sz)(hu:P.underlying t=some (.slice e))(hs:bF P e=some sz){i:Nat}{row:List AV}(hi:rows[i]?=some row):
 ∃p,(∀kk,ay P t x (.v (.int kk (i:Int)))=some p)/\(cZ P e=some false->ai P G h e p=row.head?)/\(cZ P e=some true->ai P G h e p=some (.agg row)):=by
 have hlt:=(List.getElem?_eq_some_iff.1 hi).1
 have hrl:=s.1 row (List.mem_of_getElem? hi)
 rcases s.2 with⟨k,s',rfl,hk⟩|⟨b,off,cap,cs,rfl,h2,h3,h4,h5⟩
 ·have:s'=sz:=hk (by rintro rfl;simp at hlt)
  subst this
  refine⟨.elem s' rows i 0,fun kk=>?_,fun ha=>?_,fun ha=>?_⟩
  ·rw[al hu hs (by omega) (by omega),Int.toNat_natCast]
  ·rw[ez ha hi,List.drop_zero]
  ·rw[jm ha hs hi (by omega),List.drop_zero,<-hrl,List.take_length]
 ·have hrow:(cs.drop (off+i * sz)).take sz=row:=by
   have:=ot s.1 hi
   rw[<-h4,List.drop_take,List.take_take,List.drop_drop] at this
   rw[<-this]
   congr 1
   have:(i+1) * sz<=rows.length * sz:=Nat.mul_le_mul_right _ hlt
   rw[Nat.add_mul] at this
   omega
  have hfit:off+i * sz+sz<=cs.length:=by
   have:(i+1) * sz<=rows.length * sz:=Nat.mul_le_mul_right _ hlt
   rw[Nat.add_mul] at this
   omega
  refine⟨.ptr (.box b) (off+i * sz),fun kk=>?_,fun ha=>?_,fun ha=>?_⟩
  ·rw[mE hu hs (by omega) (by omega),Int.toNat_natCast]
  ·rw[dc ha h3,<-hrow]
   obtain⟨n,rfl⟩:∃n,sz=n+1:=⟨sz - 1,by omega⟩
   cases cs.drop (off+i * (n+1)) with
   |nil=>rfl
   |cons a l=>rfl
  ·rw[cP ha hs h3 hfit,hrow]
theorem b9.slice(s:b9 sz h x rows)(hp:0<sz)(hu:P.underlying t=some (.slice e))(hs:bF P e=some sz){lo hi:Option AV}{l m:Nat}
 (hhi:(hi=none/\m=rows.length)∨∃kk,hi=some (.v (.int kk (m:Int)))/\m<=rows.length) (hlo:(lo=none/\l=0)∨∃kk,lo=some (.v (.int kk (l:Int)))) (hlm:l<=m):
 ∃y,ck P t x lo hi none=some y/\b9 sz h y ((rows.take m).drop l):=by
 have hm:m<=rows.length:=by rcases hhi with⟨-,q⟩|⟨_,-,q⟩<;>omega
 have bound:∀top,rows.length<=top->bX top hi rows.length=some m:=fun top htop=>by
  rcases hhi with⟨rfl,rfl⟩|⟨kk,rfl,q⟩
  ·rfl
  ·show(if 0<=(m:Int)/\(m:Int)<=(top:Int) then some (m:Int).toNat else none)=_
   rw[if_pos ⟨by omega,by omega⟩,Int.toNat_natCast]
 have bound0:bX m lo 0=some l:=by
  rcases hlo with⟨rfl,rfl⟩|⟨kk,rfl⟩
  ·rfl
  ·show(if 0<=(l:Int)/\(l:Int)<=(m:Int) then some (l:Int).toNat else none)=_
   rw[if_pos ⟨by omega,by omega⟩,Int.toNat_natCast]
 have hr2:∀r∈(rows.take m).drop l,r.length=sz:=fun r hr=>s.1 r (List.mem_of_mem_take (List.mem_of_mem_drop hr))
 rcases s.2 with⟨k,s',rfl,hk⟩|⟨b,off,cap,cs,rfl,h2,h3,h4,h5⟩
 ·have hb1:bX rows.length none rows.length=some rows.length:=rfl
  have hok:sz=s'∨rows=[]:=by
   by_cases q:rows=[]
   ·exact .inr q
   ·exact .inl (hk q).symm
  refine⟨.list (gO k (decide (m=rows.length)) false (m - l)) s' ((rows.take m).drop l),?_,hr2,.inl ⟨_,_,rfl,fun q=>hk (by rintro rfl;simp at q)⟩⟩
  unfold ck
  simp only[hu,hs,hb1,bound rows.length (Nat.le_refl _),bound0,Option.isSome_none,Bool.false_and,Bool.false_eq_true,if_false,if_pos hok,Option.isNone_none,Bool.and_true]
 ·have hb1:bX cap none cap=some cap:=rfl
  have hlen:((rows.take m).drop l).length=m - l:=by rw[List.length_drop,List.length_take];omega
  refine⟨.arr b (if cap=l then off else off+l * sz) (m - l) (cap - l),?_,hr2,.inr ⟨b,_,cap - l,cs,by rw[hlen],by omega,h3,?_,?_⟩⟩
  ·unfold ck
   simp only[hu,hs,hb1,bound cap h2,bound0,Option.isSome_none,Bool.false_and,Bool.false_eq_true,if_false,false_and]
   rw[if_neg (by omega)]
  ·rw[hlen]
   by_cases q:cap=l
   ·have:m - l=0:=by omega
    rw[if_pos q,this,Nat.zero_mul,List.take_zero]
    have:(rows.take m).drop l=[]:=by
     apply List.eq_nil_of_length_eq_zero;rw[hlen];omega
    rw[this];rfl
   ·rw[if_neg q,qM (fun r hr=>s.1 r (List.mem_of_mem_take hr)),ni s.1,<-h4,List.take_take,<-List.drop_drop]
    have e1:min (m * sz) (rows.length * sz)=m * sz:=Nat.min_eq_left (Nat.mul_le_mul_right _ hm)
    rw[e1,List.drop_take,<-Nat.sub_mul]
  ·rw[hlen]
   have e1:m * sz<=rows.length * sz:=Nat.mul_le_mul_right _ hm
   have e2:(m - l) * sz+l * sz=m * sz:=by rw[<-Nat.add_mul,Nat.sub_add_cancel hlm]
   split<;>omega
theorem b9.got(s:b9 sz h x rows):rowsOf h sz x=some rows:=by
 rcases s.2 with⟨k,s',rfl,hk⟩|⟨b,off,cap,cs,rfl,h2,h3,h4,h5⟩
 ·unfold rowsOf
  by_cases q:rows=[]
  ·simp[q]
  ·simp[hk q]
 ·unfold rowsOf
  simp only[h3,if_pos h5,Option.some.injEq]
  apply List.ext_getElem
  ·simp
  ·intro i h1 h6
   rw[List.getElem_map,List.getElem_range]
   have:=ot s.1 (List.getElem?_eq_getElem h6)
   rw[<-h4,List.drop_take,List.take_take,List.drop_drop] at this
   rw[<-this]
   congr 1
   have:(i+1) * sz<=rows.length * sz:=Nat.mul_le_mul_right _ h6
   rw[Nat.add_mul] at this
   omega
theorem b9.news(s:b9 sz h x rows):eH h sz x=some rows:=by
 have:=s.got
 rcases s.2 with⟨k,s',rfl,-⟩|⟨b,off,cap,cs,rfl,-⟩<;>exact this
end
end Go.AE
end
section
namespace Go.AE
section
variable {P:Program} {G:Nat->Option (List AV)} {t:TypeId} {x y:Operand} {k k':IntKind} {a b:Int}
theorem fQ:bB P .and t x y (.v (.int k a)) (.v (.int k b))=some (.v (.int k (k.wrap (BitVec.ofInt k.bits a&&&BitVec.ofInt k.bits b).toNat))):=du (v:= .int k (k.wrap (BitVec.ofInt k.bits a&&&BitVec.ofInt k.bits b).toNat)) (by simp[binOp,Op.intBits];rfl)
theorem C8:bB P .or t x y (.v (.int k a)) (.v (.int k b))=some (.v (.int k (k.wrap (BitVec.ofInt k.bits a|||BitVec.ofInt k.bits b).toNat))):=du (v:= .int k (k.wrap (BitVec.ofInt k.bits a|||BitVec.ofInt k.bits b).toNat)) (by simp[binOp,Op.intBits];rfl)
theorem Ej:bB P .xor t x y (.v (.int k a)) (.v (.int k b))=some (.v (.int k (k.wrap (BitVec.ofInt k.bits a^^^BitVec.ofInt k.bits b).toNat))):=du (v:= .int k (k.wrap (BitVec.ofInt k.bits a^^^BitVec.ofInt k.bits b).toNat)) (by simp[binOp,Op.intBits];rfl)
theorem y0(h:0<=b):bB P .shl t x y (.v (.int k a)) (.v (.int k' b))=some (.v (.int k (k.wrap (a * 2^min b.toNat k.bits)))):=by
 have hn:¬b<0:=by omega
 show(bQ P (do eqGuard .shl t x y (.int k a) (.int k' b);binOp .shl t (.int k a) (.int k' b))).bind eS=_
 rw[fE]
 have hg:bQ P (eqGuard .shl t x y (.int k a) (.int k' b))=some ():=rfl
 rw[hg]
 simp[binOp,Op.shift,hn]
 rfl
theorem nr(h:0<=b):bB P .shr t x y (.v (.int k a)) (.v (.int k' b))=some (.v (.int k (a.fdiv (2^min b.toNat k.bits)))):=by
 have hn:¬b<0:=by omega
 show(bQ P (do eqGuard .shr t x y (.int k a) (.int k' b);binOp .shr t (.int k a) (.int k' b))).bind eS=_
 rw[fE]
 have hg:bQ P (eqGuard .shr t x y (.int k a) (.int k' b))=some ():=rfl
 rw[hg]
 simp[binOp,Op.shift,hn]
 rfl
end
def w32(v:BitVec 32):AV:= .v (.int .u32 (v.toNat:Int))
section
variable {P:Program} {t:TypeId} {x y:Operand} {k':IntKind} {u v:BitVec 32}
theorem wrap32(n:Int):IntKind.u32.wrap n=n%4294967296:=by
 unfold IntKind.wrap
 simp[IntKind.signed,IntKind.bits]
theorem ofInt32(v:BitVec 32):BitVec.ofInt 32 (v.toNat:Int)=v:=by
 apply BitVec.eq_of_toNat_eq
 rw[BitVec.toNat_ofInt]
 have:=v.isLt
 simp
 omega
theorem qu(v:BitVec 32):IntKind.u32.wrap (v.toNat:Int)=(v.toNat:Int):=by
 rw[wrap32]
 have:=v.isLt
 omega
theorem AO:bB P .and t x y (w32 u) (w32 v)=some (w32 (u&&&v)):=by
 unfold w32
 rw[fQ,show IntKind.u32.bits=32 from rfl,ofInt32,ofInt32,qu]
theorem pM:bB P .or t x y (w32 u) (w32 v)=some (w32 (u|||v)):=by
 unfold w32
 rw[C8,show IntKind.u32.bits=32 from rfl,ofInt32,ofInt32,qu]
theorem jP:bB P .xor t x y (w32 u) (w32 v)=some (w32 (u^^^v)):=by
 unfold w32
 rw[Ej,show IntKind.u32.bits=32 from rfl,ofInt32,ofInt32,qu]
theorem jQ:bB P .add t x y (w32 u) (w32 v)=some (w32 (u+v)):=by
 unfold w32
 rw[Eg,wrap32,BitVec.toNat_add]
 congr 3
theorem nQ{n:Nat}(hn:n<32):bB P .shr t x y (w32 u) (.v (.int k' (n:Int)))=some (w32 (u>>>n)):=by
 unfold w32
 rw[nr (by omega),Int.toNat_natCast,show IntKind.u32.bits=32 from rfl,Nat.min_eq_left (by omega),BitVec.toNat_ushiftRight,Nat.shiftRight_eq_div_pow]
 congr 3
 rw[Int.fdiv_eq_ediv_of_nonneg _ (by
  have:(0:Int)<2^n:=Int.pow_pos (by decide)
  omega)]
 simp
theorem oE{n:Nat}(hn:n<32):bB P .shl t x y (w32 u) (.v (.int k' (n:Int)))=some (w32 (u<<<n)):=by
 unfold w32
 rw[y0 (by omega),Int.toNat_natCast,show IntKind.u32.bits=32 from rfl,Nat.min_eq_left (by omega),wrap32,BitVec.toNat_shiftLeft,Nat.shiftLeft_eq]
 congr 3
end
end Go.AE
end
section
namespace Go.AE
section
variable {P:Program} {h:ae} {t0 t1 elem:TypeId} {kn k:IntKind} {i:TypeInfo} {zero:List AV} {sz n:Nat}
theorem rp(h0:P.underlying t0=some (.slice elem))(h1:P.underlying t1=some (.int kn))(hi:P.info? elem=some i)(hz:(ej P elem).bind AV.aC=some zero)(hn:0<n)(hb:n * i.bytes<=140737488355328)(hm:n<=9223372036854775807)(hs:0<i.size)(hl:zero.length=i.size):
 bP P h #[t0,t1] (.list .nil sz []) (.v (.int k (n:Nat)))=some (.arr h.boxes.length 0 n n,h.push (List.replicate n zero).flatten):=by
 unfold bP ua
 have hb2:((n:Nat):Int) * i.bytes<=140737488355328:=by
  have:((n * i.bytes:Nat):Int)<=140737488355328:=Int.ofNat_le.2 hb
  rwa [Int.natCast_mul] at this
 simp only[List.getElem?_toArray,List.getElem?_cons_zero,List.getElem?_cons_succ,Option.bind_some,h0,h1,hi,hz]
 rw[if_pos ⟨rfl,by omega,hb2,by omega,hs,hl⟩,Int.toNat_natCast]
 rfl
theorem u7{b off len cap:Nat}{cs:List AV}{new:List (List AV)}{x:AV}(h0:P.underlying t0=some (.slice elem))(h1:P.underlying t1=some (.slice elem))(hi:P.info? elem=some i)(hs:0<i.size)(hz:(i.zero.map fun z=>z.cells.size)=some i.size)
 (hx:eH h i.size x=some new) (hb:h.boxes[b]?=some cs) (h2:len+new.length<=cap) (h3:off+cap * i.size<=cs.length):
 bP P h #[t0,t1] (.arr b off len cap) x=some (.arr b off (len+new.length) cap,h.put b (bI cs (off+len * i.size) new.flatten)):=by
 unfold bP
 simp only[List.getElem?_toArray,List.getElem?_cons_zero,List.getElem?_cons_succ,Option.bind_some,h0,h1,hi,hx,hb]
 rw[if_pos ⟨hs,hz⟩,if_pos ⟨h2,h3⟩]
 rfl
end
end Go.AE
end
section
namespace Go.AE
def oF(t:Nat):Tok->Bool
 | .free i=>decide (i<t)
 |_=>true
mutual
def aV(n l t:Nat):AV->Bool
 | .list k _ es=>oF t k&&gH n l t es
 | .arr b _ _ _=>decide (b<n)
 | .agg cs=>bA n l t cs
 | .tuple cs=>bA n l t cs
 | .ptr (.box b) _=>decide (b<n)
 | .elem _ es _ _=>gH n l t es
 | .func _ a b=>bA n l t a&&bA n l t b
 | .yield i=>decide (i<l)
 | .iface _ x=>aV n l t x
 |_=>true
def bA(n l t:Nat):List AV->Bool
 | []=>true
 |x::r=>aV n l t x&&bA n l t r
def gH(n l t:Nat):List (List AV)->Bool
 | []=>true
 |r::rs=>bA n l t r&&gH n l t rs
end
theorem AP(n l t:Nat):∀(a b:List AV),bA n l t (a++b)=(bA n l t a&&bA n l t b)
 | [],b=>by simp[bA]
 |x::a,b=>by rw[List.cons_append,bA,bA,AP n l t a b,Bool.and_assoc]
theorem eL(n l t:Nat):∀es:List (List AV),bA n l t es.flatten=gH n l t es
 | []=>rfl
 |r::es=>by rw[List.flatten_cons,AP,gH,eL n l t es]
def di:Tok->Tok
 | .free _=> .held
 |k=>k
mutual
def au:AV->AV
 | .list k sz es=> .list (di k) sz (eF es)
 | .tuple cs=> .tuple (bM cs)
 | .agg cs=> .agg (bM cs)
 | .iface t x=> .iface t (au x)
 |x=>x
def bM:List AV->List AV
 | []=>[]
 |x::r=>au x::bM r
def eF:List (List AV)->List (List AV)
 | []=>[]
 |r::rs=>bM r::eF rs
end
theorem xh:∀a b:List AV,bM (a++b)=bM a++bM b
 | [],b=>rfl
 |x::a,b=>by rw[List.cons_append,bM,xh a b,bM,List.cons_append]
theorem je:∀es:List (List AV),(eF es).flatten=bM es.flatten
 | []=>rfl
 |r::es=>by rw[eF,List.flatten_cons,List.flatten_cons,xh,je es]
theorem xj:∀a:List AV,(bM a).length=a.length
 | []=>rfl
 |x::a=>by rw[bM,List.length_cons,xj a,List.length_cons]
theorem mH:∀a:List (List AV),(eF a).length=a.length
 | []=>rfl
 |x::a=>by rw[eF,List.length_cons,mH a,List.length_cons]
theorem nt{sz:Nat}:∀{es:List (List AV)},(∀r∈es,r.length=sz)->∀r∈eF es,r.length=sz
 | [],_,r,h=>by cases h
 |a::es,h,r,hr=>by
  rw[eF] at hr
  rcases List.mem_cons.1 hr with rfl|hr
  ·rw[xj];exact h a List.mem_cons_self
  ·exact nt (fun r hr=>h r (List.mem_cons_of_mem _ hr)) r hr
theorem FY(x:AV):(au x).bu=x.bu:=by cases x<;>rfl
theorem oG:∀a:List AV,(bM a).all AV.bu=a.all AV.bu
 | []=>rfl
 |x::a=>by rw[bM,List.all_cons,FY,oG a,List.all_cons]
section
variable {K:aB}
theorem SE{b g:Nat}(h:K.γ[b]?=some g):b<K.γ.length:=(List.getElem?_eq_some_iff.1 h).1
mutual
theorem aI.fit:∀{x:AV} {c:Value},aI K x c->aV K.β.length K.γ.length K.tn x=true
 |_,_,.bad _=>rfl
 |_,_,.v _ _=>rfl
 |_,_,.nil _=>rfl
 |_,_,.eK _ _=>rfl
 |_,_,.list k _ es _ _ _ _ _ _ _ hv _ ht _=>by
  rw[aV,Bool.and_eq_true,<-eL]
  refine⟨?_,ao.fit hv⟩
  cases k with
  |free i=>exact decide_eq_true ht.2.1
  |_=>rfl
 |_,_,.arr _ _ _ _ _ _ _ hb _ _ _ _=>by rw[aV];exact decide_eq_true (Mf hb)
 |_,_,.agg _ _ hv=>by rw[aV];exact ao.fit hv
 |_,_,.tuple _ _ hv=>by rw[aV];exact ao.fit hv
 |_,_,.box _ _ _ hb=>by rw[aV];exact decide_eq_true (Mf hb)
 |_,_,.dW _ _=>rfl
 |_,_,.elem _ es _ _ _ _ _ _ _ hv _ _ _ _=>by rw[aV,<-eL];exact ao.fit hv
 |_,_,.func _ _ _ _ _ h1 h2=>by rw[aV,ao.fit h1,ao.fit h2];rfl
 |_,_,.yield _ _ hl=>by rw[aV];exact decide_eq_true (SE hl)
 |_,_,.iface _ _ _ hx=>by rw[aV];exact aI.fit hx
theorem ao.fit:∀{xs:List AV} {cs:List Value},ao K xs cs->bA K.β.length K.γ.length K.tn xs=true
 |_,_,.nil=>rfl
 |_,_,.cons _ _ _ _ hx hs=>by rw[bA,aI.fit hx,ao.fit hs];rfl
end
mutual
theorem aI.pY{K2:aB}{n l t:Nat}(hβ:∀b g:Nat,b<n->K.β[b]?=some g->K2.β[b]?=some g)(hγ:∀b g:Nat,b<l->K.γ[b]?=some g->K2.γ[b]?=some g)(hic:∀g j c,K.ic g j=some c->K2.ic g j=some c)(htk:K2.tk=K.tk)(htn:K2.tn=t)(hlb:∀b,b<n->K2.lb b=K.lb b):
 ∀{x:AV} {c:Value},aI K x c->aV n l t x=true->aI K2 x c
 |_,_,.bad c,_=> .bad c
 |_,_,.v x hx,_=> .v x hx
 |_,_,.nil sz,_=> .nil sz
 |_,_,.eK sz a,_=> .eK sz a
 |_,_,.list k sz es g off m cap cells hn hr hv hc ht ha,h=>by
  rw[aV,Bool.and_eq_true] at h
  refine .list k sz es g off m cap cells hn hr (ao.pY hβ hγ hic htk htn hlb hv (by rw[eL];exact h.2)) (fun j c hj=>hic _ _ _ (hc j c hj)) ⟨ht.1,?_⟩ ha
  have h1:=h.1
  have h2:=ht.2
  cases k with
  |free i=>
   simp only at h2 ⊢
   rw[htk,htn]
   exact⟨of_decide_eq_true h1,h2.2⟩
  |_=>exact h2
 |_,_,.arr b g off len cap off' cap' hb hl hc ho hr,h=>by
  rw[aV] at h
  have hlt:=of_decide_eq_true h
  exact .arr b g off len cap off' cap' (hβ _ _ hlt hb) hl hc ho (by rw[hlb b hlt];exact hr)
 |_,_,.agg cs vs hv,h=> .agg cs vs (ao.pY hβ hγ hic htk htn hlb hv (by rw[aV] at h;exact h))
 |_,_,.tuple cs vs hv,h=> .tuple cs vs (ao.pY hβ hγ hic htk htn hlb hv (by rw[aV] at h;exact h))
 |_,_,.box b g off hb,h=> .box b g off (hβ _ _ (by rw[aV] at h;exact of_decide_eq_true h) hb)
 |_,_,.dW g off,_=> .dW g off
 |_,_,.elem sz es i off g o p cells hr hv hc hi hp ha,h=> .elem sz es i off g o p cells hr (ao.pY hβ hγ hic htk htn hlb hv (by rw[eL];rw[aV] at h;exact h)) (fun j c hj=>hic _ _ _ (hc j c hj)) hi hp ha
 |_,_,.func fn first cap fs cs h1 h2,h=> .func fn first cap fs cs (ao.pY hβ hγ hic htk htn hlb h1 (by rw[aV,Bool.and_eq_true] at h;exact h.1)) (ao.pY hβ hγ hic htk htn hlb h2 (by rw[aV,Bool.and_eq_true] at h;exact h.2))
 |_,_,.yield i g hl,h=> .yield i g (hγ _ _ (by rw[aV] at h;exact of_decide_eq_true h) hl)
 |_,_,.iface t x c hx,h=> .iface t x c (aI.pY hβ hγ hic htk htn hlb hx (by rw[aV] at h;exact h))
theorem ao.pY{K2:aB}{n l t:Nat}(hβ:∀b g:Nat,b<n->K.β[b]?=some g->K2.β[b]?=some g)(hγ:∀b g:Nat,b<l->K.γ[b]?=some g->K2.γ[b]?=some g)(hic:∀g j c,K.ic g j=some c->K2.ic g j=some c)(htk:K2.tk=K.tk)(htn:K2.tn=t)(hlb:∀b,b<n->K2.lb b=K.lb b):
 ∀{xs:List AV} {cs:List Value},ao K xs cs->bA n l t xs=true->ao K2 xs cs
 |_,_,.nil,_=> .nil
 |_,_,.cons x c xs cs hx hs,h=> .cons x c xs cs (aI.pY hβ hγ hic htk htn hlb hx (by rw[bA,Bool.and_eq_true] at h;exact h.1)) (ao.pY hβ hγ hic htk htn hlb hs (by rw[bA,Bool.and_eq_true] at h;exact h.2))
end
mutual
theorem aI.hold:∀{x:AV} {c:Value},aI K x c->aI K (au x) c
 |_,_,.bad c=> .bad c
 |_,_,.v x hx=> .v x hx
 |_,_,.nil sz=> .nil sz
 |_,_,.eK sz a=> .eK sz a
 |_,_,.list k sz es g off m cap cells hn hr hv hc ht ha=>by
  have hv':ao K (eF es).flatten cells:=by rw[je];exact ao.hold hv
  have ha':(eF es).flatten.all AV.bu=true:=by rw[je,oG];exact ha
  have hn':m=(eF es).length:=by rw[mH];exact hn
  cases k with
  |free i=>exact .list .held sz _ g off m cap cells hn' (nt hr) hv' hc ⟨ht.1,trivial⟩ ha'
  |_=>exact .list _ sz _ g off m cap cells hn' (nt hr) hv' hc ht ha'
 |_,_,.arr b g off len cap off' cap' hb hl hc ho hr=> .arr b g off len cap off' cap' hb hl hc ho hr
 |_,_,.agg cs vs hv=> .agg _ vs (ao.hold hv)
 |_,_,.tuple cs vs hv=> .tuple _ vs (ao.hold hv)
 |_,_,.box b g off hb=> .box b g off hb
 |_,_,.dW g off=> .dW g off
 |_,_,.elem sz es i off g o p cells hr hv hc hi hp ha=> .elem sz es i off g o p cells hr hv hc hi hp ha
 |_,_,.func fn first cap fs cs h1 h2=> .func fn first cap fs cs h1 h2
 |_,_,.yield l g hl=> .yield l g hl
 |_,_,.iface t x c hx=> .iface t _ c (aI.hold hx)
theorem ao.hold:∀{xs:List AV} {cs:List Value},ao K xs cs->ao K (bM xs) cs
 |_,_,.nil=> .nil
 |_,_,.cons x c xs cs hx hs=> .cons _ c _ cs (aI.hold hx) (ao.hold hs)
end
end
section
variable {P:Program} {G:Nat->Option (List AV)} {w0 w w':World} {K K':aB} {h h':ae} {ok:FuncId->Nat->Code->Bool}
end
end Go.AE
end
section
namespace Go.AE
section
variable {P:Program} {G:Nat->Option (List AV)} {w0:World} {prims:FuncId->Option (List AV->ae->Option (AV × ae))}
theorem il{L:List FuncId}(h:(L.all fun g=>match P.funcs[g]? with|some fn=>fn.body.isSome|none=>false)=true):∀g∈L,∃fn,P.funcs[g]?=some fn/\fn.body.isSome=true:=by
 intro g hg
 have:=List.all_eq_true.1 h g hg
 split at this
 ·rename_i fn hfn;exact⟨fn,hfn,this⟩
 ·cases this
variable {L:List FuncId} {R:Rec} {g:FuncId} {args:List AV} {h h2:ae} {x y:AV}
end
end Go.AE
end
section
namespace Go.NT
def dO:List Nat->Nat
 | []=>0
 |x::l=>x+dO l
def gh:List Int->Int
 | []=>1
 |x::l=>x * gh l
theorem xk{l m:List Nat}(h:l.Perm m):dO l=dO m:=by
 induction h with
 |nil=>rfl
 |cons x _ ih=>simp only[dO,ih]
 |swap x y l=>simp only[dO];omega
 |trans _ _ h1 h2=>exact h1.trans h2
theorem C9{l m:List Int}(h:l.Perm m):gh l=gh m:=by
 induction h with
 |nil=>rfl
 |cons x _ ih=>simp only[gh,ih]
 |swap x y l=>simp only[gh];rw[Int.mul_left_comm]
 |trans _ _ h1 h2=>exact h1.trans h2
theorem AQ(l m:List Nat):dO (l++m)=dO l+dO m:=by
 induction l with
 |nil=>simp[dO]
 |cons x l ih=>simp only[List.cons_append,dO,ih];omega
def rng(h:Nat):List Nat:=List.range' 1 h
theorem iI{k h:Nat}:k∈rng h↔1<=k/\k<=h:=by
 unfold rng
 rw[List.mem_range']
 constructor
 ·rintro⟨i,hi,rfl⟩;omega
 ·rintro⟨h1,h2⟩;exact⟨k - 1,by omega,by omega⟩
theorem AR(h:Nat):rng (h+1)=rng h++[h+1]:=by
 unfold rng
 rw[List.range'_1_concat,Nat.add_comm 1 h]
theorem y4(h:Nat):(rng h).length=h:=by simp[rng]
theorem FZ(h:Nat):(rng h).Nodup:=List.nodup_range' 1
theorem Mg:∀{l m:List Nat},l.Nodup->(∀x∈l,x∈m)->m.length<=l.length->l.Perm m:=by
 intro l
 induction l with
 |nil=>
  intro m _ _ hlen
  have:m=[]:=by cases m with|nil=>rfl|cons _ _=>simp at hlen
  subst this;exact .nil
 |cons x l ih=>
  intro m hl hs hlen
  have hx:=hs x List.mem_cons_self
  have hp:=List.perm_cons_erase hx
  rw[List.nodup_cons] at hl
  refine List.Perm.trans (.cons x (ih hl.2 (fun y hy=>?_) ?_)) hp.symm
  ·have hne:y≠x:=by rintro rfl;exact hl.1 hy
   exact(List.mem_erase_of_ne hne).2 (hs y (List.mem_cons_of_mem _ hy))
  ·rw[List.length_erase_of_mem hx]
   simp at hlen;omega
theorem F1{f:Nat->Nat}:∀{l:List Nat},l.Nodup->(∀x∈l,∀y∈l,f x=f y->x=y)->(l.map f).Nodup:=by
 intro l
 induction l with
 |nil=>intro _ _;exact List.nodup_nil
 |cons x l ih=>
  intro h hf
  rw[List.nodup_cons] at h
  rw[List.map_cons,List.nodup_cons]
  refine⟨fun hm=>?_,ih h.2 fun a ha b hb=>hf a (List.mem_cons_of_mem _ ha) b (List.mem_cons_of_mem _ hb)⟩
  obtain⟨y,hy,he⟩:=List.mem_map.1 hm
  have:=hf y (List.mem_cons_of_mem _ hy) x List.mem_cons_self he
  subst this
  exact h.1 hy
def fl(a n k:Nat):Nat:=if n<2 * (a * k%n) then 1 else 0
def ab(a n k:Nat):Nat:=if n<2 * (a * k%n) then n - a * k%n else a * k%n
def mu(a n:Nat):Nat:=dO ((rng (n/2)).map (fl a n))
section
variable {a b n h:Nat}
theorem IX(hc:Nat.Coprime a n){k:Nat}(h0:0<k)(h1:k<n):a * k%n≠0:=fun q=>by
 have:n∣k:=(Nat.Coprime.symm hc).dvd_of_dvd_mul_left (Nat.dvd_of_mod_eq_zero q)
 have:=Nat.le_of_dvd h0 this
 omega
theorem AS(hn:n=2 * h+1)(hc:Nat.Coprime a n){k:Nat}(hk:1<=k/\k<=h):1<=ab a n k/\ab a n k<=h:=by
 have h1:=IX hc (k:=k) (by omega) (by omega)
 have h2:=Nat.mod_lt (a * k) (show 0<n by omega)
 unfold ab
 split<;>omega
theorem Ou(hn:n=2 * h+1)(hc:Nat.Coprime a n){k l:Nat}(hk:1<=k/\k<=h)(hl:1<=l/\l<=h)(he:ab a n k=ab a n l):k=l:=by
 have hk1:=Nat.mod_lt (a * k) (show 0<n by omega)
 have hl1:=Nat.mod_lt (a * l) (show 0<n by omega)
 have key:∀{x y:Nat},x<=y->y<n->a * x%n=a * y%n->x=y:=by
  intro x y hxy hy q
  have hd:n∣a * y - a * x:=Nat.dvd_of_mod_eq_zero (Nat.sub_mod_eq_zero_of_mod_eq q.symm)
  rw[<-Nat.mul_sub] at hd
  have:=(Nat.Coprime.symm hc).dvd_of_dvd_mul_left hd
  rcases Nat.eq_zero_or_pos (y - x) with q|q
  ·omega
  ·have:=Nat.le_of_dvd q this;omega
 have key2:a * k%n+a * l%n≠n:=fun q=>by
  have hd:n∣a * (k+l):=by
   rw[Nat.mul_add]
   apply Nat.dvd_of_mod_eq_zero
   rw[Nat.add_mod,q,Nat.mod_self]
  have:=(Nat.Coprime.symm hc).dvd_of_dvd_mul_left hd
  have:=Nat.le_of_dvd (by omega) this
  omega
 have same:a * k%n=a * l%n->k=l:=fun q=>by
  rcases Nat.le_total k l with p|p
  ·exact key p (by omega) q
  ·exact(key p (by omega) q.symm).symm
 unfold ab at he
 split at he<;>split at he
 ·exact same (by omega)
 ·exact absurd (by omega) key2
 ·exact absurd (by omega) key2
 ·exact same he
theorem y5(hn:n=2 * h+1)(hc:Nat.Coprime a n):((rng h).map (ab a n)).Perm (rng h):=by
 refine Mg (F1 (FZ h) fun x hx y hy he=>Ou hn hc (iI.1 hx) (iI.1 hy) he) (fun x hx=>?_) (by simp)
 obtain⟨y,hy,rfl⟩:=List.mem_map.1 hx
 exact iI.2 (AS hn hc (iI.1 hy))
theorem Ek{f g q:Nat->Nat}:∀{l:List Nat},(∀k∈l,f k%2=(g k+q k)%2)->dO (l.map f)%2=(dO (l.map g)+dO (l.map q))%2:=by
 intro l
 induction l with
 |nil=>intro _;rfl
 |cons x l ih=>
  intro hf
  have h1:=hf x List.mem_cons_self
  have h2:=ih fun k hk=>hf k (List.mem_cons_of_mem _ hk)
  simp only[List.map_cons,dO]
  omega
theorem Ov(hn:n=2 * h+1)(ha:Nat.Coprime a n)(hb:Nat.Coprime b n){k:Nat}(hk:1<=k/\k<=h):fl (a * b) n k%2=(fl b n k+fl a n (ab b n k))%2:=by
 have hbr:=AS hn hb hk
 have hx0:=IX ha (k:=ab b n k) (by omega) (by omega)
 have hxl:=Nat.mod_lt (a * ab b n k) (show 0<n by omega)
 have hrl:=Nat.mod_lt (b * k) (show 0<n by omega)
 have e1:a * b * k%n=a * (b * k%n)%n:=by rw[Nat.mul_assoc,Nat.mul_mod_mod]
 unfold fl
 rw[e1]
 by_cases hr:n<2 * (b * k%n)
 ·have hab:ab b n k=n - b * k%n:=by unfold ab;rw[if_pos hr]
  rw[if_pos hr]
  have hyl:=Nat.mod_lt (a * (b * k%n)) (show 0<n by omega)
  have hs:(a * (b * k%n)%n+a * ab b n k%n)%n=0:=by
   rw[<-Nat.add_mod,<-Nat.mul_add,hab,show b * k%n+(n - b * k%n)=n by omega,Nat.mul_mod_left]
  have hsum:a * (b * k%n)%n+a * ab b n k%n=n:=by
   have hd:=Nat.dvd_of_mod_eq_zero hs
   obtain⟨c,hc⟩:=hd
   rcases c with _|_|c
   ·omega
   ·omega
   ·exfalso
    have:n * 2<=n * (c+1+1):=Nat.mul_le_mul_left n (by omega)
    omega
  split<;>split<;>omega
 ·have hab:ab b n k=b * k%n:=by unfold ab;rw[if_neg hr]
  rw[if_neg hr,hab]
  simp
theorem Ow(hn:n=2 * h+1)(ha:Nat.Coprime a n)(hb:Nat.Coprime b n):mu (a * b) n%2=(mu a n+mu b n)%2:=by
 have hh:n/2=h:=by omega
 unfold mu
 rw[hh,Ek (g:=fl b n) (q:=fun k=>fl a n (ab b n k)) fun k hk=>Ov hn ha hb (iI.1 hk)]
 have e:(rng h).map (fun k=>fl a n (ab b n k))=((rng h).map (ab b n)).map (fl a n):=by rw[List.map_map];rfl
 rw[e,xk ((y5 hn hb).map (fl a n))]
 omega
theorem IY(c:Nat):∀m:Nat,dO ((rng m).map fun k=>if c<k then 1 else 0)=m - c:=by
 intro m
 induction m with
 |zero=>simp[rng,dO]
 |succ m ih=>
  rw[AR,List.map_append,AQ,ih]
  simp only[List.map_cons,List.map_nil,dO]
  split<;>omega
theorem Ox(c:Nat):∀m:Nat,dO ((rng m).map fun k=>if k<=c then 1 else 0)=min c m:=by
 intro m
 induction m with
 |zero=>simp[rng,dO]
 |succ m ih=>
  rw[AR,List.map_append,AQ,ih]
  simp only[List.map_cons,List.map_nil,dO]
  split<;>omega
theorem rq{f g:Nat->Nat}:∀{l:List Nat},(∀k∈l,f k=g k)->dO (l.map f)=dO (l.map g):=by
 intro l
 induction l with
 |nil=>intro _;rfl
 |cons x l ih=>
  intro hf
  simp only[List.map_cons,dO]
  rw[hf x List.mem_cons_self,ih fun k hk=>hf k (List.mem_cons_of_mem _ hk)]
theorem Oy(hn:n=2 * h+1):mu 2 n=h - h/2:=by
 have hh:n/2=h:=by omega
 unfold mu
 rw[hh,<-IY (h/2) h]
 refine rq fun k hk=>?_
 have:=iI.1 hk
 unfold fl
 rw[Nat.mod_eq_of_lt (by omega)]
 split<;>split<;>omega
theorem Oz(hn:n=2 * h+1):mu 1 n=0:=by
 have hh:n/2=h:=by omega
 unfold mu
 rw[hh]
 have:(rng h).map (fl 1 n)=(rng h).map fun k=>if h<k then 1 else 0:=by
  apply List.map_congr_left
  intro k hk
  have:=iI.1 hk
  unfold fl
  rw[Nat.one_mul,Nat.mod_eq_of_lt (by omega)]
  split<;>split<;>omega
 rw[this,IY];omega
theorem OA:mu (a%n) n=mu a n:=by
 unfold mu
 refine rq fun k _=>?_
 unfold fl
 rw[Nat.mod_mul_mod]
theorem AT(hn:n=2 * h+1)(hc:Nat.Coprime a n)(ha:a%2=1):mu a n%2=dO ((rng h).map fun k=>a * k/n)%2:=by
 have hh:n/2=h:=by omega
 have step:∀k∈rng h,fl a n k%2=((a * k/n)+(ab a n k+k))%2:=by
  intro k _
  have hd:=Nat.div_add_mod (a * k) n
  have hr:=Nat.mod_lt (a * k) (show 0<n by omega)
  have p1:a * k%2=k%2:=by rw[Nat.mul_mod,ha];simp
  have p2:n * (a * k/n)%2=(a * k/n)%2:=by rw[Nat.mul_mod,show n%2=1 by omega];simp
  generalize n * (a * k/n)=u at *
  generalize a * k/n=v at *
  unfold fl ab
  generalize a * k%n=r at *
  split<;>omega
 unfold mu
 rw[hh,Ek step]
 have e:dO ((rng h).map fun k=>ab a n k+k)=dO ((rng h).map (ab a n))+dO ((rng h).map fun k=>k):=by
  generalize rng h=l
  induction l with
  |nil=>rfl
  |cons x l ih=>simp only[List.map_cons,dO];rw[ih];omega
 rw[e,xk (y5 hn hc),List.map_id']
 omega
end
theorem OB(f:Nat->Nat->Nat):∀(l m:List Nat),dO (l.map fun k=>dO (m.map fun j=>f k j))=dO (m.map fun j=>dO (l.map fun k=>f k j)):=by
 intro l m
 induction l with
 |nil=>
  simp only[List.map_nil,dO]
  induction m with
  |nil=>rfl
  |cons x m ih=>simp only[List.map_cons,dO];rw[<-ih]
 |cons x l ih=>
  simp only[List.map_cons,dO]
  rw[ih]
  clear ih
  induction m with
  |nil=>rfl
  |cons y m ih=>simp only[List.map_cons,dO];rw[<-ih];omega
theorem tv{m n g h k:Nat}(hn:n=2 * h+1)(hm:m=2 * g+1)(hk:k<=h):m * k/n=dO ((rng g).map fun l=>if n * l<=m * k then 1 else 0):=by
 have hle:m * k/n<=g:=by
  have:m * k/n<g+1:=by
   rw[Nat.div_lt_iff_lt_mul (by omega)]
   have h1:m * k<=m * h:=Nat.mul_le_mul_left m hk
   have h2:(g+1) * n=m * h+(g+1+h):=by
    subst hn hm
    simp only[Nat.add_mul,Nat.mul_add,Nat.mul_one,Nat.one_mul]
    have:g * (2 * h)=2 * g * h:=by rw[Nat.mul_comm 2 g,Nat.mul_assoc]
    omega
   omega
  omega
 have:(rng g).map (fun l=>if n * l<=m * k then 1 else 0)=(rng g).map fun l=>if l<=m * k/n then 1 else 0:=by
  apply List.map_congr_left
  intro l _
  have:(n * l<=m * k)↔l<=m * k/n:=by rw[Nat.le_div_iff_mul_le (by omega),Nat.mul_comm]
  simp only[this]
 rw[this,Ox];omega
theorem Mh{m n g h:Nat}(hn:n=2 * h+1)(hm:m=2 * g+1)(hc:Nat.Coprime m n):
 dO ((rng h).map fun k=>m * k/n)+dO ((rng g).map fun l=>n * l/m)=h * g:=by
 have e1:dO ((rng h).map fun k=>m * k/n)=dO ((rng h).map fun k=>dO ((rng g).map fun l=>if n * l<=m * k then 1 else 0)):=
  rq fun k hk=>tv hn hm (iI.1 hk).2
 have e2:dO ((rng g).map fun l=>n * l/m)=dO ((rng g).map fun l=>dO ((rng h).map fun k=>if m * k<=n * l then 1 else 0)):=
  rq fun l hl=>tv hm hn (iI.1 hl).2
 rw[e1,e2,OB (fun l k=>if m * k<=n * l then 1 else 0)]
 have one:∀k∈rng h,∀l∈rng g,(if n * l<=m * k then 1 else 0)+(if m * k<=n * l then 1 else 0)=1:=by
  intro k hk l hl
  have hk:=iI.1 hk
  have hne:m * k≠n * l:=fun q=>by
   have hd:n∣m * k:=⟨l,q⟩
   have:=(Nat.Coprime.symm hc).dvd_of_dvd_mul_left hd
   have:=Nat.le_of_dvd (by omega) this
   omega
  split<;>split<;>omega
 have inner:∀(k:Nat) (ls:List Nat),k∈rng h->(∀l∈ls,l∈rng g)->dO (ls.map fun l=>if n * l<=m * k then 1 else 0)+dO (ls.map fun l=>if m * k<=n * l then 1 else 0)=ls.length:=by
  intro k ls hk
  induction ls with
  |nil=>intro _;rfl
  |cons x ls ih=>
   intro hs
   have h1:=one k hk x (hs x List.mem_cons_self)
   have h2:=ih fun l hl=>hs l (List.mem_cons_of_mem _ hl)
   simp only[List.map_cons,dO,List.length_cons]
   omega
 have outer:∀(ks:List Nat),(∀k∈ks,k∈rng h)->dO (ks.map fun k=>dO ((rng g).map fun l=>if n * l<=m * k then 1 else 0))+dO (ks.map fun k=>dO ((rng g).map fun l=>if m * k<=n * l then 1 else 0))=ks.length * g:=by
  intro ks
  induction ks with
  |nil=>intro _;simp[dO]
  |cons x ks ih=>
   intro hs
   have h1:=inner x (rng g) (hs x List.mem_cons_self) (fun _ h=>h)
   rw[y4] at h1
   have h2:=ih fun l hl=>hs l (List.mem_cons_of_mem _ hl)
   simp only[List.map_cons,dO,List.length_cons,Nat.add_mul,Nat.one_mul]
   omega
 have:=outer (rng h) (fun _ h=>h)
 rw[y4] at this
 exact this
theorem AU{m n g h:Nat}(hn:n=2 * h+1)(hm:m=2 * g+1)(hc:Nat.Coprime m n):(mu m n+mu n m)%2=h * g%2:=by
 have e1:=AT hn hc (by omega)
 have e2:=AT hm hc.symm (by omega)
 have:=Mh hn hm hc
 rw[Nat.add_mod,e1,e2,<-Nat.add_mod,this]
end Go.NT
end
section
namespace Go.NT
theorem vd:∀c:Nat,(1:Int)^c=1:=by
 intro c
 induction c with
 |zero=>rfl
 |succ c ih=>rw[Int.pow_succ,ih];rfl
def isP(p:Nat):Prop:=2<=p/\∀d,d∣p->d=1∨d=p
theorem isP.coprime{p k:Nat}(hp:isP p)(h0:0<k)(h1:k<p):Nat.Coprime k p:=by
 have hd:Nat.gcd k p∣p:=Nat.gcd_dvd_right k p
 rcases hp.2 _ hd with q|q
 ·exact q
 ·have:=Nat.le_of_dvd h0 (Nat.gcd_dvd_left k p)
  omega
theorem Da(a:Int):∀l:List Nat,gh (l.map fun(k:Nat)=>a * (k:Int))=a^l.length * gh (l.map fun(k:Nat)=>(k:Int)):=by
 intro l
 induction l with
 |nil=>simp[gh]
 |cons x l ih=>
  simp only[List.map_cons,gh,ih,List.length_cons,Int.pow_succ]
  rw[Int.mul_assoc,Int.mul_assoc,Int.mul_left_comm (x:Int),<-Int.mul_assoc a,Int.mul_comm a,Int.mul_assoc]
theorem F2(f:Nat->Nat)(g:Nat->Int):∀l:List Nat,gh (l.map fun k=>(-1)^f k * g k)=(-1)^dO (l.map f) * gh (l.map g):=by
 intro l
 induction l with
 |nil=>simp[gh,dO]
 |cons x l ih=>
  simp only[List.map_cons,gh,dO,ih,Int.pow_add]
  rw[Int.mul_assoc,Int.mul_assoc,Int.mul_left_comm (g x)]
theorem F3{p:Int}{f g:Nat->Int}:∀{l:List Nat},(∀k∈l,p∣f k - g k)->p∣gh (l.map f) - gh (l.map g):=by
 intro l
 induction l with
 |nil=>intro _;simp[gh]
 |cons x l ih=>
  intro h
  have h1:=h x List.mem_cons_self
  have h2:=ih fun k hk=>h k (List.mem_cons_of_mem _ hk)
  simp only[List.map_cons,gh]
  generalize gh (l.map f)=F at *
  generalize gh (l.map g)=G at *
  have e:f x * F - g x * G=(f x - g x) * F+g x * (F - G):=by rw[Int.sub_mul,Int.mul_sub];omega
  rw[e]
  exact Int.dvd_add (Int.dvd_mul_of_dvd_left h1) (Int.dvd_mul_of_dvd_right h2)
theorem cancel{p:Nat}(hp:isP p):∀(l:List Nat) (x:Int),(∀k∈l,0<k/\k<p)->(p:Int)∣x * gh (l.map fun(k:Nat)=>(k:Int))->(p:Int)∣x:=by
 intro l
 induction l with
 |nil=>intro x _ h;simpa [gh] using h
 |cons k l ih=>
  intro x hk h
  obtain⟨h0,h1⟩:=hk k List.mem_cons_self
  refine ih x (fun j hj=>hk j (List.mem_cons_of_mem _ hj)) ?_
  simp only[List.map_cons,gh] at h
  rw[Int.mul_left_comm] at h
  generalize x * gh (l.map fun(k:Nat)=>(k:Int))=y at *
  have hn:=Int.natAbs_dvd_natAbs.2 h
  rw[Int.natAbs_mul,Int.natAbs_natCast,Int.natAbs_natCast] at hn
  have:=(hp.coprime h0 h1).symm.dvd_of_dvd_mul_left hn
  exact Int.natAbs_dvd_natAbs.1 (by rw[Int.natAbs_natCast];exact this)
theorem Nr{p h a:Nat}(hp:isP p)(hn:p=2 * h+1)(hc:Nat.Coprime a p):(p:Int)∣(a:Int)^h - (-1)^mu a p:=by
 have hh:p/2=h:=by omega
 have step:∀k∈rng h,(p:Int)∣(a:Int) * (k:Int) - (-1)^fl a p k * (ab a p k:Int):=by
  intro k _
  have hd:=Nat.div_add_mod (a * k) p
  have hr:=Nat.mod_lt (a * k) (show 0<p by omega)
  have hd2:(a:Int) * (k:Int)=(p:Int) * ((a * k/p:Nat):Int)+((a * k%p:Nat):Int):=by
   rw[<-Int.natCast_mul,<-Int.natCast_mul,<-Int.natCast_add,hd]
  unfold fl ab
  by_cases q:p<2 * (a * k%p)
  ·rw[if_pos q,if_pos q,hd2]
   have e:((p - a * k%p:Nat):Int)=(p:Int) - ((a * k%p:Nat):Int):=by omega
   rw[e]
   refine⟨((a * k/p:Nat):Int)+1,?_⟩
   rw[Int.mul_add];simp only[Int.mul_one,Int.pow_one];omega
  ·rw[if_neg q,if_neg q,hd2]
   refine⟨((a * k/p:Nat):Int),?_⟩
   simp only[Int.pow_zero,Int.one_mul];omega
 have h1:=F3 step
 rw[Da,F2,y4] at h1
 have e1:(rng h).map (fun k=>(ab a p k:Int))=((rng h).map (ab a p)).map fun(k:Nat)=>(k:Int):=by rw[List.map_map];rfl
 rw[e1,C9 ((y5 hn hc).map fun(k:Nat)=>(k:Int)),<-Int.sub_mul] at h1
 have:=cancel hp (rng h) _ (fun k hk=>by have:=iI.1 hk;omega) h1
 unfold mu
 rw[hh]
 exact this
theorem Qp{p h a:Nat}(hp:isP p)(hn:p=2 * h+1)(h0:0<a)(h1:a<p):(a^h%p=1)↔mu a p%2=0:=by
 have hg:=Nr hp hn (hp.coprime h0 h1)
 have hp2:=hp.1
 have hpow:((a^h:Nat):Int)=(a:Int)^h:=by simp
 rw[<-hpow] at hg
 constructor
 ·intro q
  rcases Nat.mod_two_eq_zero_or_one (mu a p) with r|r
  ·exact r
  ·exfalso
   have:((-1:Int))^mu a p= -1:=by
    obtain⟨c,hc⟩:∃c,mu a p=2 * c+1:=⟨mu a p/2,by omega⟩
    rw[hc,Int.pow_succ,Int.pow_mul];simp[vd]
   rw[this] at hg
   have hd:p∣a^h+1:=by
    have e:((a^h:Nat):Int) - -1=((a^h+1:Nat):Int):=by omega
    rw[e] at hg
    exact Int.natCast_dvd_natCast.1 hg
   have:=Nat.mod_eq_zero_of_dvd hd
   rw[Nat.add_mod,q] at this
   have h3:1%p=1:=Nat.mod_eq_of_lt (by omega)
   rw[h3] at this
   have:p∣2:=Nat.dvd_of_mod_eq_zero this
   have:=Nat.le_of_dvd (by omega) this
   omega
 ·intro r
  have:((-1:Int))^mu a p=1:=by
   obtain⟨c,hc⟩:∃c,mu a p=2 * c:=⟨mu a p/2,by omega⟩
   rw[hc,Int.pow_mul];simp[vd]
  rw[this] at hg
  have hpos:0<a^h:=Nat.pow_pos h0
  have hd:p∣a^h - 1:=by
   have e:((a^h:Nat):Int) - 1=((a^h - 1:Nat):Int):=by omega
   rw[e] at hg
   exact Int.natCast_dvd_natCast.1 hg
  obtain⟨c,hc⟩:=hd
  have:a^h=p * c+1:=by omega
  rw[this,Nat.mul_add_mod,Nat.mod_eq_of_lt (by omega)]
theorem F4{x n:Nat}(ho:n%2=1)(hc:Nat.Coprime (2 * x) n):mu (2 * x) n%2=(mu x n+(if n%8=3∨n%8=5 then 1 else 0))%2:=by
 have hn:n=2 * (n/2)+1:=by omega
 have h2:Nat.Coprime 2 n:=Nat.Coprime.coprime_mul_right hc
 have hx:Nat.Coprime x n:=Nat.Coprime.coprime_mul_left hc
 rw[Ow hn h2 hx,Oy hn]
 split<;>omega
theorem IZ{x n:Nat}(ho:n%2=1)(hx:x%2=1)(hc:Nat.Coprime x n):mu x n%2=(mu (n%x) x+(if x%4=3/\n%4=3 then 1 else 0))%2:=by
 have hn:n=2 * (n/2)+1:=by omega
 have hm:x=2 * (x/2)+1:=by omega
 have h:=AU hn hm hc
 rw[OA]
 have e:(n/2) * (x/2)%2=(if x%4=3/\n%4=3 then 1 else 0):=by
  rw[Nat.mul_mod]
  rcases Nat.mod_two_eq_zero_or_one (n/2) with p|p<;>rcases Nat.mod_two_eq_zero_or_one (x/2) with q|q<;>rw[p,q]<;>split<;>omega
 rw[e] at h
 split at h<;>split<;>omega
theorem y6{x n:Nat}(hc:Nat.Coprime x n):Nat.Coprime (n%x) x:=by
 unfold Nat.Coprime at *
 rw[<-Nat.gcd_rec,hc]
def xl(p:Nat):Nat->Nat->Bool
 |0,lo=>Nat.blt 0 (p%lo)
 |k+1,lo=>xl p k lo&&xl p k (lo+2^k)
theorem Db{p:Nat}:∀{k lo:Nat},xl p k lo=true->∀d,lo<=d->d<lo+2^k->p%d≠0:=by
 intro k
 induction k with
 |zero=>
  intro lo h d h1 h2
  have:d=lo:=by simp at h2;omega
  subst this
  unfold xl at h
  have:1<=p%d:=by simpa [Nat.blt] using h
  omega
 |succ k ih=>
  intro lo h d h1 h2
  unfold xl at h
  rw[Bool.and_eq_true] at h
  rw[Nat.pow_succ] at h2
  rcases Nat.lt_or_ge d (lo+2^k) with q|q
  ·exact ih h.1 d h1 q
  ·exact ih h.2 d q (by omega)
theorem I0{p k:Nat}(h2:2<=p)(h:xl p k 2=true)(hk:p<(2^k+2) * (2^k+2)):isP p:=by
 refine⟨h2,fun d hd=>?_⟩
 obtain⟨e,he⟩:=hd
 have hd0:d≠0:=by rintro rfl;simp at he;omega
 have he0:e≠0:=by rintro rfl;simp at he;omega
 by_cases hd1:d=1
 ·exact .inl hd1
 by_cases he1:e=1
 ·right;rw[he,he1,Nat.mul_one]
 exfalso
 have key:∀{x y:Nat},p=x * y->2<=x->x<2+2^k->False:=by
  intro x y hxy hx hlt
  exact Db h x hx hlt (by rw[hxy,Nat.mul_mod_right])
 rcases Nat.lt_or_ge d (2+2^k) with q|q
 ·exact key he (by omega) q
 ·rcases Nat.lt_or_ge e (2+2^k) with r|r
  ·exact key (by rw[he,Nat.mul_comm]) (by omega) r
  ·have:=Nat.mul_le_mul q r
   rw[<-he] at this
   rw[Nat.add_comm (2^k) 2] at hk
   omega
def P:Nat:=2147483579
def Q:Nat:=1073741789
theorem El:isP P:=I0 (k:=16) (by decide) (by decide+kernel) (by decide)
theorem Mi:isP Q:=I0 (k:=15) (by decide) (by decide+kernel) (by decide)
end Go.NT
end
section
namespace Go.NT
def pg:Nat->Nat->Nat->Nat->Nat->Nat
 |0,_,_,_,c=>c
 |k+1,m,a,n,c=>if n=0 then c else pg k m (a * a%m) (n/2) (if n%2=1 then c * a%m else c)
theorem nu{m:Nat}(hm:0<m):∀{k a n c:Nat},n<2^k->c<m->pg k m a n c=c * a^n%m:=by
 intro k
 induction k with
 |zero=>
  intro a n c hn hc
  have:n=0:=by simp at hn;exact hn
  subst this
  simp[pg,Nat.mod_eq_of_lt hc]
 |succ k ih=>
  intro a n c hn hc
  unfold pg
  by_cases h0:n=0
  ·subst h0;simp[Nat.mod_eq_of_lt hc]
  ·rw[if_neg h0]
   have hn2:n/2<2^k:=by rw[Nat.pow_succ] at hn;omega
   have hsq:∀e,(a * a%m)^e%m=a^(2 * e)%m:=fun e=>by
    rw[<-Nat.pow_mod,Nat.pow_mul,Nat.pow_two]
   split
   ·rename_i ho
    rw[ih hn2 (Nat.mod_lt _ hm),Nat.mul_mod,hsq,Nat.mod_mod,<-Nat.mul_mod,Nat.mul_assoc,<-Nat.pow_succ',show(2 * (n/2)).succ=n by omega]
   ·rename_i ho
    rw[ih hn2 hc,Nat.mul_mod,hsq,<-Nat.mul_mod,show 2 * (n/2)=n by omega]
def y7(a n:Nat):Nat:=pg 31 P a n 1
theorem y8{a n:Nat}(hn:n<2^31):y7 a n=a^n%P:=by
 unfold y7
 rw[nu (by decide) hn (by decide),Nat.one_mul]
def elem(x:Nat):Bool:=decide (1<=x)&&decide (x<P)&&Nat.beq (y7 x Q) 1
theorem elem_iff{x:Nat}:elem x=true↔1<=x/\x<P/\x^Q%P=1:=by
 unfold elem
 rw[y8 (by decide)]
 simp only[Bool.and_eq_true,decide_eq_true_eq]
 exact⟨fun h=>⟨h.1.1,h.1.2,Nat.eq_of_beq_eq_true h.2⟩,fun h=>⟨⟨h.1,h.2.1⟩,by rw[h.2.2];rfl⟩⟩
theorem Mj{x:Nat}(h0:1<=x)(h1:x<P):elem x=decide (mu x P%2=0):=by
 have:=Qp El (h:=Q) (a:=x) (by decide) (by omega) h1
 rw[Bool.eq_iff_iff,elem_iff,decide_eq_true_eq,<-this]
 exact⟨fun h=>h.2.2,fun h=>⟨h0,h1,h⟩⟩
theorem mI:elem 1=true:=by rw[elem_iff];exact⟨by decide,by decide,by rw[Nat.one_pow];rfl⟩
theorem oH{x y:Nat}(hx:elem x=true)(hy:elem y=true):elem (x * y%P)=true:=by
 rw[elem_iff] at *
 obtain⟨x1,x2,x3⟩:=hx
 obtain⟨y1,y2,y3⟩:=hy
 have hp:(x * y%P)^Q%P=1:=by
  rw[<-Nat.pow_mod,Nat.mul_pow,Nat.mul_mod,x3,y3];rfl
 refine⟨?_,Nat.mod_lt _ (by decide),hp⟩
 rcases Nat.eq_zero_or_pos (x * y%P) with q|q
 ·rw[q] at hp
  have:(0:Nat)^Q=0:=Nat.zero_pow (by decide)
  rw[this] at hp;cases hp
 ·exact q
theorem I4{x:Nat}(hx:elem x=true)(n:Nat):elem (x^n%P)=true:=by
 induction n with
 |zero=>exact mI
 |succ n ih=>
  have:=oH ih hx
  rwa [Nat.mod_mul_mod,<-Nat.pow_succ] at this
theorem I5{x:Nat}(hx:elem x=true)(n:Nat):x^(n%Q)%P=x^n%P:=by
 obtain⟨-,-,h⟩:=elem_iff.1 hx
 have e:n=Q * (n/Q)+n%Q:=(Nat.div_add_mod n Q).symm
 rw[show x^n=x^(Q * (n/Q)+n%Q) by rw[<-e],Nat.pow_add,Nat.pow_mul,Nat.mul_mod,Nat.pow_mod (x^Q),h,Nat.one_pow]
 simp
end Go.NT
end
