/-
  Part 7 of the library that the proof leans on.
-/
import Derived.Test.YteoljjhhdgplnaaGreatDoorL6
namespace Go.M
open Go
def xD (ρ:Gh) (n b:Nat):Prop:=ρ n=some (.cX b)∨∃z l,ρ n=some (.arr b z l)
def jY (q:RQ) (h:ah):Prop:=match q with
 | .cells _ b o n=>∃l,ai h b o n=some l∧fw l l=true
 | .look r _ _ _ _| .len r=>∃m,dV h r=some m∧ub m.1 m.1=true
structure Nx (X:Cx) (ρ:Gh) (F:Nat→Prop) (o:Ob) (c:Nat) (h:ah) (ρ':Gh) (F':Nat→Prop) (o':Ob) (c':Nat) (h':ah):Prop where
 mem:Mem X ρ' F' o' c' h'
 bd:∀t x,VR c ρ F h t x→VR c' ρ' F' h' t x
 size:h.size≤h'.size
 FF:∀b,F b→F' b
 cE:∀b cs,F b→h.rd b=some cs→h'.rd b=some cs
def Raw (ρ:Gh) (o:Ob) (h:ah) (ρ':Gh) (o':Ob) (h':ah) (ns:List Nat):Prop:=
 ∀n y,look o n=some y→n∉ns→(∃y',look o' n=some y')∧ρ' n=ρ n∧∀b,xD ρ n b→h'.get b=h.get b∧∀cs,h.rd b=some cs→h'.rd b=some cs
def jB (ρ:Gh) (v:TV) (x:Value):Prop:=(∃k b,v= .mp k∧ρ k=some (.cX b)∧x= .map (some b))∨∃k q b,v= .ptr k q∧ρ k=some (.cX b)∧x= .pointer (some ⟨b,q,none⟩)
inductive eU (ρ:Gh) (F:Nat→Prop) (o:Ob) (h:ah) (ρ':Gh) (o':Ob) (h':ah):VL→dD→Prop
 |pure (hr:Raw ρ o h ρ' o' h' []) (hh:h'=h):eU ρ F o h ρ' o' h' .pure .pure
 |alloc (hr:Raw ρ o h ρ' o' h' []):eU ρ F o h ρ' o' h' .alloc (.alloc h h')
 |Ff {q:RQ} (hr:Raw ρ o h ρ' o' h' []) (hh:h'=h) (hF:F q.cX) (hc:∃a b o n,q= .cells a b o n) (hn:jY q h):eU ρ F o h ρ' o' h' .Ff (.rd q h)
 |jK {q:RQ} {n:Nat} {y:TO} (hr:Raw ρ o h ρ' o' h' []) (hh:h'=h) (hl:look o n=some y) (hb:xD ρ n q.cX) (hn:jY q h):eU ρ F o h ρ' o' h' (.jK n) (.rd q h)
 |wN {n p b:Nat} {v:TV} {x:Value} {y:TO} (hr:Raw ρ o h ρ' o' h' []) (hh:h'=h) (hl:look o n=some y) (hb:ρ n=some (.cX b)) (hx:jB ρ v x) (ft:ai h b p 1=some [x]):eU ρ F o h ρ' o' h' (.wN n p v) (.rd (.cells false b p 1) h)
 |cU {ns:List Nat} (hr:Raw ρ o h ρ' o' h' ns):eU ρ F o h ρ' o' h' (.cU ns) (.cU h h')
 |mu {ns:List Nat} (hr:Raw ρ o h ρ' o' h' ns) (hh:h'=h):eU ρ F o h ρ' o' h' (.mu ns) (.cU h h')
 |mw (hr:Raw ρ o h ρ' o' h' []) (hG:∀b,b<h.size→h'.get b=h.get b):eU ρ F o h ρ' o' h' .mw (.cU h h')
 |bad {l:dD}:eU ρ F o h ρ' o' h' .bad l
def ee (E:Env) (X:Cx) (ρ:Gh) (F:Nat→Prop) (o:Ob) (c:Nat) (af:AF) (h:ah) (p:Oper) (K:OK):Prop:=
 ∃n0 r v o' c' ρ' F' lg,(∀n,n0≤n→dR E X.base (e6 E X.base n) (fN X.base (aS E X.base n)) p af h=some r)∧K v o' c' lg∧
  Nx X ρ F o c h ρ' F' o' c' r.h∧VR c' ρ' F' r.h v r.v∧eU ρ F o h ρ' o' r.h lg r.log
def RO:TV→Value
 | .s v=>v
 |_=>undef
def DF (E:Env) (g:FuncId):Prop:=∀base n args h v h',e6 E base n g args h=some (v,h')→h'=h
structure bR (T E:Env):Prop where
 desc:∀t d,T.desc t=some d→E.desc t=some d
 size:∀t n,T.size t=some n→E.size t=some n
 bytes:∀t n,T.bytes t=some n→E.bytes t=some n
 zero:∀t z,T.zero t=some z→E.zero t=some z∧ey z=true
 eq:∀t (a b:Array Value) z xs ys r,T.pI t=true→T.zero t=some z→kl z.cells.toList xs ys=some r→a.toList=xs.map RO→b.toList=ys.map RO→E.pI t=true∧td E 100 t (.agg a) (.agg b)=some r
 tF:∀g cs,T.tF g=some cs→E.tF g=some cs
 still:∀g,T.still g=true→DF E g
theorem jA.sub {T E:Env} {F:Nat→Prop} {h:ah} (L:bR T E) (N:jA E F h):jA T F h:=fun g cs hg=>N g cs (L.tF g cs hg)
theorem Fw:∀(l:List Value),(GR l).length=l.length
 |[]=>rfl
 |v::l=>by simp[GR,Fw l]
theorem J9:∀{l:List Value},l.all zt=true→∀t∈GR l,fz t=true
 |[],_,t,ht=>by simp[GR]at ht
 |v::l,hl,t,ht=>by
  simp only[List.all_cons,Bool.and_eq_true]at hl;simp only[GR,List.mem_cons]at ht;rcases ht with rfl |ht
  ·have:=hl.1;simp only[zt,Bool.and_eq_true]at this;exact this.2
  ·exact J9 hl.2 t ht
section
variable {T E:Env} {X:Cx} {ρ:Gh} {F:Nat→Prop} {o:Ob} {c:Nat} {af:AF} {f:Fr} {h:ah} {p:Oper} {K:OK}
theorem Mem.bN (H:Mem X ρ F o c h) {m:Nat} {y:TO} (hl:look o m=some y):∃S,OR c ρ F h X.base m S y:=let⟨S,K⟩:=H.ex;⟨S m,K.bN m y hl⟩
theorem Nx.refl (H:Mem X ρ F o c h):Nx X ρ F o c h ρ F o c h:=⟨H,fun _ _ h=>h,Nat.le_refl _,fun _ h=>h,fun _ _ _ h=>h⟩
theorem Raw.refl (ns:List Nat):Raw ρ o h ρ o h ns:=fun _ y hl _=>⟨⟨y,hl⟩,rfl,fun _ _=>⟨rfl,fun _ h=>h⟩⟩
theorem ee.pure (H:Mem X ρ F o c h) {x:Value} {v:TV} (hp:aB E af p=some x) (hv:VR c ρ F h v x) (hK:K v o c .pure):ee E X ρ F o c af h p K:=by
 refine⟨0,⟨x,h,.pure⟩,v,o,c,ρ,F,.pure,fun n _=>?_,hK,.refl H,hv,.pure (.refl _) rfl⟩;unfold dR;rw[hp]
theorem ee.VI (_:Mem X ρ F o c h) {o':Ob} {F':Nat→Prop} (H':Mem X ρ F' o' c h) (hk:∀t x,VR c ρ F h t x→VR c ρ F' h t x) (oI:∀b,F b→F' b) (hw:∀n y,look o n=some y→∃y',look o' n=some y'∧gR y y')
 {x:Value} {v:TV} (hp:aB E af p=some x) (hv:VR c ρ F' h v x) (hK:K v o' c .pure):ee E X ρ F o c af h p K:=by
 refine⟨0,⟨x,h,.pure⟩,v,o',c,ρ,F',.pure,fun n _=>?_,hK,⟨H',hk,Nat.le_refl _,oI,fun _ _ _ h=>h⟩,hv,.pure (fun n y hl _=>⟨let⟨y',h1,_⟩:=hw n y hl;⟨y',h1⟩,rfl,fun b _=>⟨rfl,fun _ h=>h⟩⟩) rfl⟩;unfold dR;rw[hp]
def c6 (c:Nat) (ρ:Gh) (F:Nat→Prop) (h:ah) (f:Fr) (af:AF):Prop:=∀t,VR c ρ F h (pc f t) (af.get t)
theorem nV (L:bR T E) (N:jA T F h) (S:c6 c ρ F h f af) {x:Operand} (hx:ph T x=true):∃v,ev E af x=some v∧VR c ρ F h (kj T f x) v:=by
 cases x with
 |tmp t=>exact⟨_,rfl,S t⟩
 |const v=>exact⟨v,by simp only[ev,aj,and_true];exact hx,pj hx⟩
 |func g=>exact⟨_,rfl,.cJ rfl (fun i t v q=>by simp at q) rfl (fun i t v q=>by simp at q)⟩
 |global g=>
  obtain⟨cs,n3,hx⟩:∃cs,cs.all zt=true∧T.tF g=some cs:=by
   simp only[ph]at hx;split at hx
   ·rename_i cs hg;exact⟨cs,hx,hg⟩
   ·cases hx
  obtain⟨n1,n2,_⟩:=N g cs hx;refine⟨.pointer (some ⟨g,0,none⟩),by simp only[ev,Env.cW,L.tF g cs hx,Option.isSome_some,bp],?_⟩;show VR c ρ F h (match T.tF g with|some cs=>.ep (GR cs) 0|none=>.j) _;rw[hx];have:=VR.ep (c:=c) (ρ:=ρ) (F:=F) (h:=h) (e:=GR cs) (o:=0) (b:=g) (q:=0) (cs:=cs) n1 n2 (by rw[Fw];omega) (fun t ht=>J9 n3 t ht) (fun j t v q1 q2=>(qf (List.all_eq_true.2 fun v hv=>by have:=List.all_eq_true.1 n3 v hv;simp only[zt,Bool.and_eq_true]at this;exact this.1)).2 j t v q1 (by simpa using q2));simpa using this
theorem na (L:bR T E) (N:jA T F h) (S:c6 c ρ F h f af):∀{l:List Operand},l.all (ph T)=true→∃vs,C2 E af l=some vs∧dh c ρ F h (GS T f l) vs
 |[],_=>⟨[],rfl,.nil⟩
 |x::l,hx=>by
  simp only[List.all_cons,Bool.and_eq_true]at hx;obtain⟨v,h1,h2⟩:=nV (E:=E) L N S hx.1;obtain⟨vs,h3,h4⟩:=na L N S hx.2;exact⟨v::vs,by simp[C2,h1,h3],.cons h2 h4⟩
def NU (c:Nat) (ρ:Gh) (F:Nat→Prop) (h:ah):List (Nat×TV)→List (Nat×Value)→Prop
 |[],[]=>True
 |a::l,b::m=>a.1=b.1∧VR c ρ F h a.2 b.2∧NU c ρ F h l m
 |_,_=>False
theorem lQ (L:bR T E) (N:jA T F h) (S:c6 c ρ F h f af):∀{l:List (Nat×Operand)},(l.map (·.2)).all (ph T)=true→∃vs,gq E af l=some vs∧NU c ρ F h (zA T f l) vs
 |[],_=>⟨[],rfl,trivial⟩
 |(i,x)::l,hx=>by
  simp only[List.map_cons,List.all_cons,Bool.and_eq_true]at hx;obtain⟨v,h1,h2⟩:=nV (E:=E) L N S hx.1;obtain⟨vs,h3,h4⟩:=lQ L N S hx.2;exact⟨(i,v)::vs,by simp[gq,h1,h3],rfl,h2,h4⟩
theorem dG {v:TV} {K:TV→Prop} (hf:force v K):K v∧v≠ .j:=by
 cases v<;>simp[force]at hf ⊢ <;>exact hf
theorem DG {k k':IntKind} {v w:Value} (h:iU k k' v=some w):k=k'∧v=w:=by
 cases k<;>cases k'<;>simp[iU]at h<;>exact⟨rfl,h⟩
theorem DH (v:Value):dQ (pure v:Sem Value)=some v:=rfl
theorem rE {k:IntKind} {x:Int} {v:Value} (h:dQ (pure (.int k x):Sem Value)=some v):ar v=true:=by
 rw[DH]at h;cases h;rfl
theorem Fx {op:BinOp} {k k':IntKind} {x y:Int} {v:Value} (h:JV op k k' x y=some v) (t:TypeId):dQ (binOp op t (.int k x) (.int k' y))=some v∧ar v=true:=by
 cases op<;>simp only[JV]at h
 case add|sub|mul|eql|neq|lss|leq|gtr|geq=>obtain⟨rfl,rfl⟩:=DG h;exact⟨by simp[binOp,Op.intArith,Op.intCmp,dQ,Pure.pure],rfl⟩
 case quo|rem=>
  refine⟨h,?_⟩;simp only[binOp]at h;split at h
  ·simp[stuck,dQ]at h
  ·simp only[Op.intDiv]at h;split at h
   ·have e:dQ (runtimePanic (.error "integer divide by zero"):Sem Value)=none:=rfl;rw[e]at h;cases h
   ·exact rE h
 case and|or|xor|andNot=>
  refine⟨h,?_⟩;simp only[binOp]at h;split at h
  ·simp[stuck,dQ]at h
  ·exact rE h
 case shl|shr=>
  refine⟨h,?_⟩;simp only[binOp,Op.shift]at h;split at h
  ·have e:dQ (runtimePanic (.error "negative shift amount"):Sem Value)=none:=rfl;rw[e]at h;cases h
  ·exact rE h
theorem bR.shape {T E:Env} (L:bR T E) {t:TypeId} {s:Bool×Nat} (h:dU T t=some s):dU E t=some s:=by
 unfold dU at h ⊢;simp only[Option.bind_eq_some_iff]at h ⊢;obtain⟨d,h1,h2⟩:=h;refine⟨d,L.desc t d h1,?_⟩;cases ha:isAgg d with
 |false=>rw[ha]at h2;exact h2
 |true=>
  rw[ha]at h2;simp only[cond_true,Option.bind_eq_some_iff]at h2 ⊢;obtain⟨n,h3,h4⟩:=h2;exact⟨n,L.size t n h3,h4⟩
theorem Ka:∀{zs:List Value} {xs ys:List TV} {r:Bool},kl zs xs ys=some r→(∀t∈xs,∃v,t= .s v)∧(∀t∈ys,∃v,t= .s v)
 |[],[],[],r,_=>⟨by simp,by simp⟩
 |[],[],_::_,r,h=>by simp[kl]at h
 |[],x::l,ys,r,h=>by simp[kl]at h
 |z::zs,[],ys,r,h=>by simp[kl]at h
 |z::zs,x::l,[],r,h=>by cases x<;>simp[kl]at h
 |z::zs,x::l,y::m,r,h=>by
  cases x<;>try(simp[kl]at h;done)
  rename_i v;cases y<;>try(simp[kl]at h;done)
  rename_i w;simp only[kl]at h;split at h
  ·split at h
   ·rename_i hq;obtain⟨k1,k2⟩:=Ka hq;refine⟨fun t ht=>?_,fun t ht=>?_⟩
    ·rcases List.mem_cons.1 ht with rfl |h2
     ·exact⟨_,rfl⟩
     ·exact k1 t h2
    ·rcases List.mem_cons.1 ht with rfl |h2
     ·exact⟨_,rfl⟩
     ·exact k2 t h2
   ·cases h
  ·cases h
theorem Kb:∀{xs:List TV} {a:List Value},dh c ρ F h xs a→(∀t∈xs,∃v,t= .s v)→a=xs.map RO
 |[],a,H,_=>by rw[H.bz];rfl
 |x::l,a,H,hs=>by
  obtain⟨v,m,rfl,h1,h2⟩:=H.aH;obtain⟨w,rfl⟩:=hs x List.mem_cons_self;rw[h1.de.1,Kb h2 fun t ht=>hs t (List.mem_cons_of_mem _ ht)];rfl
def tw:Nat→Bool→Value→Prop
 |0,true,x=>x= .pointer none
 |0,false,x=>∃a,x= .pointer (some a)
 |1,true,x=>x= .map none
 |1,false,x=>∃a,x= .map (some a)
 |2,true,x=>x= .nilFunc
 |2,false,x=>∃g a k,x= .func g a k
 |3,true,x=>x= .nilIface
 |3,false,x=>∃t v,x= .iface t v
 |4,true,x=>x= .slice none 0 0
 |4,false,x=>∃a l k,x= .slice (some a) l k
 |_,_,_=>False
theorem BA {v:TV} {x:Value} (hv:VR c ρ F h v x) {d:Nat} {b:Bool} (hb:tu v=some (d,b)):tw d b x:=by
 cases hv with
 |s hp=>
  unfold tu at hb;split at hb<;>simp_all<;>obtain⟨rfl,rfl⟩:=hb<;>simp[tw]
 |nil he=>subst he;unfold tu at hb;split at hb<;>simp_all<;>obtain⟨rfl,rfl⟩:=hb<;>simp[tw]
 |sl h1 h2 h3=>
  unfold tu at hb;split at hb<;>simp_all;obtain⟨rfl,rfl⟩:=hb;exact⟨_,_,_,rfl⟩
 |ptr=>simp[tu]at hb;obtain⟨rfl,rfl⟩:=hb;exact⟨_,rfl⟩
 |ep=>simp[tu]at hb;obtain⟨rfl,rfl⟩:=hb;exact⟨_,rfl⟩
 |mp=>simp[tu]at hb;obtain⟨rfl,rfl⟩:=hb;exact⟨_,rfl⟩
 |lr=>simp[tu]at hb;obtain⟨rfl,rfl⟩:=hb;exact⟨_,_,rfl⟩
 |cJ=>simp[tu]at hb;obtain⟨rfl,rfl⟩:=hb;exact⟨_,_,_,rfl⟩
 |_=>simp[tu]at hb
theorem nW {E:Env} {t:TypeId} {ds:TypeDesc} {d:Nat} {p q:Bool} {a b:Value} (hd:E.desc t=some ds) (hk:Bf ds=some d) (ha:tw d p a) (hb:tw d q b) (Jd:(p||q)=true):td E 100 t a b=some (p&&q):=by
 cases ds<;>simp[Bf]at hk<;>subst hk<;>cases p<;>cases q<;>simp at Jd<;>simp only[tw]at ha hb
 all_goals
  (try obtain⟨_,rfl⟩:=ha)
  (try obtain⟨_,rfl⟩:=hb)
  (try obtain⟨_,_,rfl⟩:=ha)
  (try obtain⟨_,_,rfl⟩:=hb)
  (try obtain⟨_,_,_,rfl⟩:=ha)
  (try obtain⟨_,_,_,rfl⟩:=hb)
  (try subst ha)
  (try subst hb)
  (show td E (99+1) t _ _=_)
  unfold td;rw[hd];rfl
end
def g7 (c:Nat) (ρ:Gh) (F:Nat→Prop) (h:ah) (o:Ob) (canon:Option Value) (K:OK):Prop:=∃v x,canon=some x∧VR c ρ F h v x∧K v o c .pure
section
variable {T E:Env} {X:Cx} {ρ:Gh} {F:Nat→Prop} {o:Ob} {c:Nat} {af:AF} {f:Fr} {h:ah} {p:Oper} {K:OK}
theorem jC {op:BinOp} {t:TypeId} {x y:Operand} {a b:Value} {r:Bool} (hi:∀k n k' m,¬(a= .int k n∧b= .int k' m)) (hs:∀s r,¬(a= .string s∧b= .string r)) (he:lu E t x y a b=true) (hq:td E 100 t a b=some r):
 (op= .eql→ua E op t x y a b=some (.bool r))∧(op= .neq→ua E op t x y a b=some (.bool !r)):=by
 constructor
 ·rintro rfl;unfold ua;split
  ·exact absurd ⟨rfl,rfl⟩ (hi _ _ _ _)
  ·exact absurd ⟨rfl,rfl⟩ (hs _ _)
  ·simp[bp,he,hq]
 ·rintro rfl;unfold ua;split
  ·exact absurd ⟨rfl,rfl⟩ (hi _ _ _ _)
  ·exact absurd ⟨rfl,rfl⟩ (hs _ _)
  ·simp[bp,he,hq]
theorem qm {v:Option Value} (hp:xp v o c K) {canon:Option Value} (hc:∀x,v=some x→canon=some x):g7 c ρ F h o canon K:=by
 unfold xp at hp;split at hp
 ·rename_i x;split at hp
  ·rename_i h2;exact⟨_,_,hc x rfl,.s h2,hp⟩
  ·exact hp.elim
 ·exact hp.elim
theorem tw.BB {d:Nat} {b:Bool} {n:Nat} (hv:tw d b (.chan (some n))):False:=by
 unfold tw at hv;split at hv<;>simp at hv
theorem tw.Fy {d:Nat} {b:Bool} {x:Value} (hv:tw d b x):(∀k n,x≠ .int k n)∧(∀s,x≠ .string s)∧(∀a,x≠ .agg a)∧(x= .nilIface→d=3∧b=true):=by
 unfold tw at hv;split at hv
 all_goals
  (try obtain⟨_,rfl⟩:=hv)
  (try obtain⟨_,_,rfl⟩:=hv)
  (try obtain⟨_,_,_,rfl⟩:=hv)
  (try subst hv)
  (try(exact hv.elim))
  (try simp)
theorem Ha {k k':IntKind} {v w x:Value} (h:iU k k' v=some x):iU k k' w=some w:=by
 unfold iU at h ⊢;split at h<;>first|rfl |cases h
theorem rF {p:Prop} (hw:ask p o c K) {canon:Option Value} (b:Bool) (hb:b=true↔p) (hc:canon=some (.bool b)):g7 c ρ F h o canon K:=by
 cases b with
 |true=>exact⟨_,_,hc,.s rfl,hw.1 (hb.1 rfl)⟩
 |false=>exact⟨_,_,hc,.s rfl,hw.2 fun hp=>by have:=hb.2 hp;cases this⟩
theorem nX {p:Prop} {k k':IntKind} {op:BinOp} {t:TypeId} {n m:Int} (hw:Bh k k' p o c K) (b:Bool) (hb:b=true↔p) (hv:JV op k k' n m=iU k k' (.bool b)):g7 c ρ F h o (dQ (binOp op t (.int k n) (.int k' m))) K:=by
 unfold Bh at hw;split at hw
 ·rename_i hs;exact rF hw b hb ((Fx (hv.trans (Ha hs)) t).1)
 ·exact hw.elim
theorem NV (L:bR T E) (H:Mem X ρ F o c h) {op:BinOp} {t:TypeId} {x y:Operand} {a b:TV} {xa xb:Value} (hw:Ry T op t x y a b o c K) (ha:VR c ρ F h a xa) (hb:VR c ρ F h b xb):g7 c ρ F h o (ua E op t x y xa xb) K:=by
 unfold Ry at hw;split at hw
 ·rename_i k n k' m;rw[ha.de.1,hb.de.1];show g7 c ρ F h o (dQ (binOp op t (.int k n) (.int k' m))) K;split at hw
  ·exact nX hw (n==m) (by simp) rfl
  ·exact nX hw (n != m) (by simp) rfl
  ·exact nX hw (decide (n<m)) (by simp) rfl
  ·exact nX hw (decide (n≤m)) (by simp) rfl
  ·exact nX hw (decide (n>m)) (by simp) rfl
  ·exact nX hw (decide (n≥m)) (by simp) rfl
  ·exact qm hw fun v hv=>(Fx hv t).1
 ·rename_i s r;rw[ha.de.1,hb.de.1];split at hw
  ·exact rF hw (s.data.toList==r.data.toList) (by simp) rfl
  ·exact rF hw (!(s.data.toList==r.data.toList)) (by simp) rfl
  ·exact rF hw (Op.bytesLess s.data.toList r.data.toList) (by simp) rfl
  ·exact⟨_,_,(by simp only[ua];rw[aj];exact⟨decide_eq_true om,rfl⟩),.s rfl,hw.2⟩
  ·refine qm hw fun v hv=>?_;simp only[ua]at hv;cases hv
 ·rename_i p q;rw[ha.de.1,hb.de.1];split at hw
  ·rename_i hd;have hq:td E 100 t (.bool p) (.bool q)=some (p==q):=by
    show td E (99+1) t _ _=_;unfold td;rw[L.desc _ _ hd];rfl
   obtain⟨k1,k2⟩:=jC (op:=op) (E:=E) (x:=x) (y:=y) (t:=t) (a:=.bool p) (b:=.bool q) (by rintro _ _ _ _ ⟨e,_⟩;cases e) (by rintro _ _ ⟨e,_⟩;cases e) rfl hq;split at hw
   ·exact⟨_,_,k1 rfl,.s rfl,hw⟩
   ·exact⟨_,_,k2 rfl,.s rfl,hw⟩
   ·exact hw.elim
  ·exact hw.elim
 ·rename_i xs ys;obtain⟨a',rfl,h1⟩:=ha.eC;obtain⟨b',rfl,h2⟩:=hb.eC;split at hw
  ·rename_i z he hz;split at hw
   case h_2=>exact hw.elim
   rename_i r hr;obtain⟨s1,s2⟩:=Ka hr;obtain⟨e1,e2⟩:=L.eq t a' b' z xs ys r he hz hr (Kb h1 s1) (Kb h2 s2);obtain⟨k1,k2⟩:=jC (op:=op) (E:=E) (x:=x) (y:=y) (t:=t) (a:=.agg a') (b:=.agg b') (by rintro _ _ _ _ ⟨e,_⟩;cases e) (by rintro _ _ ⟨e,_⟩;cases e) e1 e2;split at hw
   ·exact rF hw r Iff.rfl (k1 rfl)
   ·exact rF hw (!r) (by simp) (k2 rfl)
   ·exact hw.elim
  ·exact hw.elim
 ·split at hw
  ·rename_i es hq;obtain⟨GW,rfl,pO⟩:∃GW,b= .sl 0 [] GW∧((∃z fl,a= .sl (z+1) es fl)∨∃n z w,a= .tk n∧look o n=some (.arr z w es)):=by
    unfold Vl at hq;split at hq
    ·cases hq;exact⟨_,rfl,.inl ⟨_,_,rfl⟩⟩
    ·split at hq
     ·rename_i hl;cases hq;exact⟨_,rfl,.inr ⟨_,_,_,rfl,hl⟩⟩
     ·cases hq
    ·cases hq
   have bJ:xb= .slice none 0 0:=by
    cases hb with
    |nil=>rfl
    |sl _ _ hz=>omega
   subst bJ;have main:∀{ds:TypeDesc},E.desc t=some ds→Bf ds=some 4→∃r:Bool,(r=true→es=[])∧td E 100 t xa (.slice none 0 0)=some r∧∃a l k,xa= .slice a l k:=by
    intro ds h1 h2;rcases pO with⟨z,fl,rfl⟩|⟨n,z,w,rfl,hl⟩
    ·cases ha with
     |nil he=>exact⟨true,fun _=>he,nW (p:=true) (q:=true) h1 h2 rfl rfl rfl,_,_,_,rfl⟩
     |sl=>exact⟨false,(by simp),nW (p:=false) (q:=true) h1 h2 ⟨_,_,_,rfl⟩ rfl rfl,_,_,_,rfl⟩
    ·obtain⟨_,hob⟩:=H.bN hl;cases ha with
     |tk hn E3 haa h0=>
      cases hob with
      |nil xf hz=>
       rcases h0 _ xf with rfl |⟨_,_,_,_,_,_,_,rfl⟩
       ·exact⟨true,fun _=>rfl,nW (p:=true) (q:=true) h1 h2 rfl rfl rfl,_,_,_,rfl⟩
       ·exact⟨false,(by simp),nW (p:=false) (q:=true) h1 h2 ⟨_,_,_,rfl⟩ rfl rfl,_,_,_,rfl⟩
      |arr xf=>
       obtain⟨cap,_,rfl⟩:=haa _ _ _ xf;exact⟨false,(by simp),nW (p:=false) (q:=true) h1 h2 ⟨_,_,_,rfl⟩ rfl rfl,_,_,_,rfl⟩
   split at hw
   ·rename_i hd;simp only[Option.bind_eq_some_iff]at hd;obtain⟨ds,CP,Rr⟩:=hd;obtain⟨r,m1,m2,a0,l0,k0,rfl⟩:=main (L.desc _ _ CP) Rr;obtain⟨k1,k2⟩:=jC (op:=.eql) (E:=E) (x:=x) (y:=y) (t:=t) (a:=.slice a0 l0 k0) (b:=.slice none 0 0) (by rintro _ _ _ _ ⟨e,_⟩;cases e) (by rintro _ _ ⟨e,_⟩;cases e) rfl m2;cases r with
    |true=>exact⟨_,_,k1 rfl,.s rfl,hw.1 (m1 rfl)⟩
    |false=>exact⟨_,_,k1 rfl,.s rfl,hw.2⟩
   ·rename_i hd;simp only[Option.bind_eq_some_iff]at hd;obtain⟨ds,CP,Rr⟩:=hd;obtain⟨r,m1,m2,a0,l0,k0,rfl⟩:=main (L.desc _ _ CP) Rr;obtain⟨k1,k2⟩:=jC (op:=.neq) (E:=E) (x:=x) (y:=y) (t:=t) (a:=.slice a0 l0 k0) (b:=.slice none 0 0) (by rintro _ _ _ _ ⟨e,_⟩;cases e) (by rintro _ _ ⟨e,_⟩;cases e) rfl m2;cases r with
    |true=>exact⟨_,_,k2 rfl,.s rfl,hw.1 (m1 rfl)⟩
    |false=>exact⟨_,_,k2 rfl,.s rfl,hw.2⟩
   ·exact hw.elim
  split at hw
  ·rename_i d d1 p d2 q hd hp hq;split at hw
   ·rename_i hc;simp only[Bool.and_eq_true,beq_iff,Bool.or_eq_true,Bool.not_eq_true']at hc;obtain⟨⟨⟨rfl,rfl⟩,Jd⟩,me⟩:=hc;simp only[Option.bind_eq_some_iff]at hd;obtain⟨ds,CP,Rr⟩:=hd;have va:=BA ha hp;have vb:=BA hb hq;have RP:=nW (L.desc _ _ CP) Rr va vb (by simpa using Jd);obtain⟨a1,a2,a3,a4⟩:=va.Fy;obtain⟨b1,b2,b3,b4⟩:=vb.Fy;have he:lu E t x y xa xb=true:=by
     unfold lu;split
     ·obtain⟨rfl,rfl⟩:=a4 rfl;obtain⟨_,rfl⟩:=b4 rfl;rcases me with (me|me)|me
      ·simp at me
      ·rw[me];rfl
      ·rw[me];simp
     ·exact absurd rfl (a3 _)
     ·exact va.BB.elim
     ·exact vb.BB.elim
     ·rfl
    obtain⟨k1,k2⟩:=jC (op:=op) (E:=E) (x:=x) (y:=y) (t:=t) (a:=xa) (b:=xb) (by rintro k n _ _ ⟨e,_⟩;exact a1 k n e) (by rintro s _ ⟨e,_⟩;exact a2 s e) he RP;split at hw
    ·exact⟨_,_,k1 rfl,.s rfl,hw⟩
    ·exact⟨_,_,k2 rfl,.s rfl,hw⟩
    ·exact hw.elim
   ·exact hw.elim
  ·exact hw.elim
theorem rG (H:Mem X ρ F o c h) {m i q:Nat} {y:TO} (hl:look o m=some y) (hy:wP y=true) {x:Value} (hx:VR c ρ F h (.wp m i q) x):
 ∃b z l,ρ m=some (.arr b z l)∧x= .pointer (some ⟨b,i*z+q,none⟩):=by
 cases hx with
 |wp hn nR ha h0=>
  obtain⟨S,hO⟩:=H.bN hl;cases hO with
  |nil hb hz=>exact absurd hb (h0 _)
  |fD hb hz=>exact absurd hb (h0 _)
  |arr hb=>exact⟨_,_,_,hb,ha _ _ _ hb⟩
  |bZ hb=>exact⟨_,_,_,hb,ha _ _ _ hb⟩
  |_=>simp[wP]at hy
def BC:TO→Nat
 | .arr _ _ es=>es.length
 | .bZ _ es _=>es.length
 |_=>0
theorem OR.tk {base m:Nat} {S:Ft} {y:TO} (hO:OR c ρ F h base m S y) (hy:wP y=true) {x:Value} (hx:VR c ρ F h (.tk m) x):
 (BC y=0∧ρ m=some (.nil (G8 y))∧(x= .slice none 0 0∨∃b o cs,F b∧h.rd b=some cs∧0<G8 y∧o≤cs.length∧x= .slice (some ⟨b,o,some (G8 y)⟩) 0 0))∨
 ∃b cap,ρ m=some (.arr b (G8 y) (BC y))∧BC y≤cap∧x= .slice (some ⟨b,0,some (G8 y)⟩) (BC y) cap:=by
 cases hx with
 |tk hn nR ha h0=>
  cases hO with
  |nil hb hz=>exact .inl ⟨rfl,hb,h0 _ hb⟩
  |fD hb hz=>exact .inl ⟨rfl,hb,h0 _ hb⟩
  |arr hb=>obtain⟨cap,h1,h2⟩:=ha _ _ _ hb;exact .inr ⟨_,cap,hb,h1,h2⟩
  |bZ hb=>obtain⟨cap,h1,h2⟩:=ha _ _ _ hb;exact .inr ⟨_,cap,hb,h1,h2⟩
  |_=>simp[wP]at hy
theorem wR (L:bR T E) (H:Mem X ρ F o c h) {s:TypeId} {x:TV} {fd:Nat} {xv:Value} (hw:pd T s x fd o c K) (hx:VR c ρ F h x xv):
 g7 c ρ F h o ((E.desc s).bind fun d=>(gV xv).bind fun p=>(match d with
 | .struct fields=>(fields[fd]?).bind fun fl=>(E.size fl.type).bind fun n=>bp (Nat.blt 0 n) (some (.pointer (some ⟨p.1,p.2+fl.offset,none⟩)))
 |_=>none)) K:=by
 unfold pd at hw;split at hw
 ·rename_i fields hd;split at hw
  ·rename_i fl hf;split at hw
   ·rename_i n hn;split at hw
    ·rename_i h0
     have fin:∀b q,xv=Value.pointer (some ⟨b,q,none⟩)→(((E.desc s).bind fun d=>(gV xv).bind fun p=>(match d with
      | .struct fields=>(fields[fd]?).bind fun fl=>(E.size fl.type).bind fun n=>bp (Nat.blt 0 n) (some (Value.pointer (some ⟨p.1,p.2+fl.offset,none⟩)))
      |_=>none))=some (Value.pointer (some ⟨b,q+fl.offset,none⟩))):=by
      rintro b q rfl;rw[L.desc _ _ hd];simp only[Option.bind_some,gV,hf,L.size _ _ hn,h0,bp]
     split at hw
     ·cases hx with
      |ptr hb=>exact⟨_,_,fin _ _ rfl,.ptr hb,hw⟩
     ·cases hx with
      |ep h1 h2 h3 h4 h5=>exact⟨_,_,fin _ _ rfl,by rw[Nat.add_assoc];exact .ep h1 h2 h3 h4 h5,hw⟩
     ·have go:∀{m i p:Nat} {y:TO},look o m=some y→wP y=true→VR c ρ F h (.wp m i p) xv→K (.wp m i (p+fl.offset)) o c .pure→g7 c ρ F h o ((E.desc s).bind fun d=>(gV xv).bind fun p=>(match d with
       | .struct fields=>(fields[fd]?).bind fun fl=>(E.size fl.type).bind fun n=>bp (Nat.blt 0 n) (some (.pointer (some ⟨p.1,p.2+fl.offset,none⟩)))
       |_=>none)) K:=by
       intro m i p y hl hy hx hw;obtain⟨b,z,l,hb,rfl⟩:=rG H hl hy hx;cases hx with
       |wp hn nR ha h0=>
        refine⟨_,_,fin _ _ rfl,.wp hn rfl (fun b' z' l' jn=>?_) h0,hw⟩;rw[hb]at jn;cases jn;rw[Nat.add_assoc]
      split at hw
      ·rename_i hl;exact go hl rfl hx hw
      ·rename_i hl;exact go hl rfl hx hw
      ·exact hw.elim
     ·exact hw.elim
    ·exact hw.elim
   ·exact hw.elim
  ·exact hw.elim
 ·exact hw.elim
theorem fm {agg:Bool} {l:List TV} {v:TV} (ho:dT agg l=some v) {m:List Value} (H:dh c ρ F h l m):∃x,ck agg m=some x∧VR c ρ F h v x:=by
 unfold dT at ho;split at ho
 ·cases ho;exact⟨_,rfl,.fx (by simpa using H)⟩
 ·cases ho;obtain⟨x,m',rfl,h1,h2⟩:=H.aH;rw[h2.bz];exact⟨x,rfl,h1⟩
 ·cases ho
theorem xE {n:Nat} {l r:List TV} (ht:takeN n l=some r) {m:List Value} (H:dh c ρ F h l m):∃q,takeN n m=some q∧dh c ρ F h r q:=by
 rw[aM]at ht;obtain⟨h1,rfl⟩:=ht;exact⟨m.take n,by rw[aM];exact⟨by rw[←H.1];exact h1,rfl⟩,H.take n⟩
theorem Hb (L:bR T E) {t:TypeId} {x:TV} {fd:Nat} {xv:Value} (hw:Dr T t x fd o c K) (hx:VR c ρ F h x xv):
 g7 c ρ F h o ((E.desc t).bind fun d=>(UB xv).bind fun cs=>(match d with
 | .struct fields=>(fields[fd]?).bind fun fl=>mH E fl.type cs fl.offset
 |_=>none)) K:=by
 unfold Dr at hw;split at hw
 ·rename_i fields hd;split at hw
  ·rename_i fl cs hf;split at hw
   ·rename_i agg n hs;split at hw
    ·rename_i l hl;split at hw
     ·rename_i v hv;obtain⟨hK,_⟩:=dG hw;obtain⟨a,rfl,h1⟩:=hx.eC;obtain⟨q,h2,h3⟩:=xE hl (h1.drop fl.offset);obtain⟨x,h4,h5⟩:=fm hv h3;refine⟨v,x,?_,h5,hK⟩;rw[L.desc _ _ hd];simp only[Option.bind_some,UB,hf,mH,L.shape hs,h2,h4]
     ·exact hw.elim
    ·exact hw.elim
   ·exact hw.elim
  ·exact hw.elim
 ·exact hw.elim
theorem kR {i:TV} {x:Value} {n:Int} (hi:Bg i=some n) (hx:VR c ρ F h i x):Nt x=some n:=by
 unfold Bg at hi;split at hi
 ·cases hi;rw[hx.de.1];rfl
 ·cases hi
theorem wT (L:bR T E) (H:Mem X ρ F o c h) {t:TypeId} {x i:TV} {xv iv:Value} (hw:pe T t x i o c K) (hx:VR c ρ F h x xv) (hi:VR c ρ F h i iv):g7 c ρ F h o (eA E t xv iv) K:=by
 unfold pe at hw;split at hw
 ·rename_i elem i' hd wF;have hI:=kR wF hi;split at hw
  ·rename_i n hn;have fin:∀b q z len cap,xv=Value.slice (some ⟨b,q,some z⟩) len cap→0≤i'→i'<len→eA E t xv iv=some (.pointer (some ⟨b,q+i'.toNat*n,none⟩)):=by
    rintro b q z len cap rfl h1 h2;unfold eA;rw[L.desc _ _ hd,hI];simp only[Option.bind_some,L.size _ _ hn,bp,h1,h2,decide_true,Bool.and_self]
   split at hw
   ·rename_i z es fl;split at hw
    ·rename_i hz;rw[beq_iff]at hz;obtain⟨e,⟨h0,he⟩,hK⟩:=hw;cases hx with
     |nil Fz=>subst Fz;simp at he
     |sl q1 q2 q3 q4 q5 q6 q7 q8 q9 Qi=>
      have bj:=(List.getElem?_eq_some_iff.1 he).1;refine⟨_,_,fin _ _ _ _ _ rfl h0 om,?_,hK⟩;have Kc:=q8 e (List.mem_of_getElem? he);rw[←Nat.add_zero (_+_*n)];refine .ep q1 q2 ?_ (q9 e (List.mem_of_getElem? he)) fun j t v r1 r2=>Qi _ j e t v he r1 (by rw[hz];exact r2);rw[Kc,←hz];have:(i'.toNat+1)*z≤es.length*z:=Nat.mul_le_mul_right z bj;rw[Nat.add_mul]at this;subst q4;omega
    ·exact hw.elim
   ·rename_i m;have go:∀{y:TO},look o m=some y→wP y=true→G8 y=n→0≤i'→i'<BC y→K (.wp m i'.toNat 0) o c .pure→g7 c ρ F h o (eA E t xv iv) K:=by
     intro y hl hy hz h0 h1 hK;obtain⟨S,hO⟩:=H.bN hl;rcases hO.tk hy hx with⟨e,_⟩|⟨b,cap,hb,_,rfl⟩
     ·rw[e]at h1;omega
     ·refine⟨_,_,fin _ _ _ _ _ rfl h0 h1,?_,hK⟩;cases hx with
      |tk Nv nR ha h0'=>
       refine .wp Nv rfl (fun b' z2 l2 jn=>?_) (fun z2 jn=>by rw[hb]at jn;cases jn);rw[hb]at jn;cases jn;rw[Nat.zero_add,Nat.add_zero,hz]
    split at hw
    ·rename_i z w es hl;split at hw
     ·rename_i hz;obtain⟨⟨h0,h1⟩,hK⟩:=hw;exact go hl rfl (beq_iff.1 hz) h0 h1 hK
     ·exact hw.elim
    ·rename_i z es op hl;split at hw
     ·rename_i hz;obtain⟨⟨h0,h1⟩,hK⟩:=hw;exact go hl rfl (beq_iff.1 hz) h0 h1 hK
     ·exact hw.elim
    ·exact hw.elim
   ·exact hw.elim
  ·exact hw.elim
 ·rename_i len elem i' hd wF;have hI:=kR wF hi;split at hw
  ·rename_i n hn;obtain⟨⟨h1,h2⟩,hw⟩:=hw;have fin:∀b q,xv=Value.pointer (some ⟨b,q,none⟩)→eA E t xv iv=some (.pointer (some ⟨b,q+i'.toNat*n,none⟩)):=by
    rintro b q rfl;unfold eA;rw[L.desc _ _ hd,hI];simp only[Option.bind_some,L.size _ _ hn,bp,h1,h2,decide_true,Bool.and_self]
   split at hw
   ·cases hx with
    |ptr hb=>exact⟨_,_,fin _ _ rfl,.ptr hb,hw⟩
   ·cases hx with
    |ep q1 q2 q3 q4 q5=>exact⟨_,_,fin _ _ rfl,by rw[Nat.add_assoc];exact .ep q1 q2 q3 q4 q5,hw⟩
   ·exact hw.elim
  ·exact hw.elim
 ·exact hw.elim
theorem Hc (L:bR T E) {t:TypeId} {x i:TV} {xv iv:Value} (hw:Ds T t x i o c K) (hx:VR c ρ F h x xv) (hi:VR c ρ F h i iv):g7 c ρ F h o (qT E t xv iv) K:=by
 unfold Ds at hw;split at hw
 ·rename_i i' hd wF;have hI:=kR wF hi;split at hw
  ·obtain⟨b,⟨h1,h2⟩,hK⟩:=hw;rw[hx.de.1];refine⟨_,_,?_,.s rfl,hK⟩;unfold qT;rw[L.desc _ _ hd,hI];simp only[Option.bind_some,bp,h1,decide_true,h2]
  ·exact hw.elim
 ·rename_i len elem i' hd wF;have hI:=kR wF hi;split at hw
  ·rename_i z agg n cs hz hs;obtain⟨⟨h1,h2⟩,hw⟩:=hw;split at hw
   ·rename_i l hl;split at hw
    ·rename_i v hv;obtain⟨hK,_⟩:=dG hw;obtain⟨a,rfl,k1⟩:=hx.eC;obtain⟨q,h3,h4⟩:=xE hl (k1.drop (i'.toNat*z));obtain⟨x,h5,h6⟩:=fm hv h4;refine⟨v,x,?_,h6,hK⟩;unfold qT;rw[L.desc _ _ hd,hI];simp only[Option.bind_some,L.size _ _ hz,bp,h1,h2,decide_true,Bool.and_self,mH,L.shape hs,h3,h5]
    ·exact hw.elim
   ·exact hw.elim
  ·exact hw.elim
 ·exact hw.elim
end
section
variable {T E:Env} {X:Cx} {ρ:Gh} {F:Nat→Prop} {o:Ob} {c:Nat} {af:AF} {f:Fr} {h:ah} {p:Oper} {K:OK}
def BD (X:Cx) (c:Nat) (ρ:Gh) (F:Nat→Prop) (h:ah) (o:Ob) (canon:Option Value) (K:OK):Prop:=
 ∃v x o' F',canon=some x∧Mem X ρ F' o' c h∧(∀t x,VR c ρ F h t x→VR c ρ F' h t x)∧(∀b,F b→F' b)∧(∀n y,look o n=some y→∃y',look o' n=some y'∧gR y y')∧VR c ρ F' h v x∧K v o' c .pure
theorem g7.toS (H:Mem X ρ F o c h) {canon:Option Value} (R:g7 c ρ F h o canon K):BD X c ρ F h o canon K:=by
 obtain⟨v,x,h1,h2,h3⟩:=R;exact⟨v,x,o,F,h1,H,fun _ _ h=>h,fun _ h=>h,fun n y hl=>⟨y,hl,gR.refl y⟩,h2,h3⟩
theorem BD.CY {canon:Option Value} (H:Mem X ρ F o c h) (R:BD X c ρ F h o canon K) (hp:aB E af p=canon):ee E X ρ F o c af h p K:=by
 obtain⟨v,x,o',F',h1,h2,h3,h4,h5,h6,h7⟩:=R;exact ee.VI H h2 h3 h4 h5 (hp.trans h1) h6 h7
theorem nb (o:Ob) (m:Nat):∀n y,look o n=some y→∃y',look (g4 o m) n=some y'∧gR y y':=by
 intro n y hl;unfold g4;split
 ·rename_i z w es hm;rw[dF];by_cases e:n=m
  ·subst e;rw[if_pos rfl,hm];rw[hm]at hl;cases hl;exact⟨_,rfl,rfl,rfl,fun h=>by cases h⟩
  ·rw[if_neg e];exact⟨y,hl,gR.refl y⟩
 ·exact⟨y,hl,gR.refl y⟩
theorem nd {d y:Nat} {i:Int} (hi:0≤i) (hy:i≤y) (k:IntKind):bW d y (some (.int k i))=some i.toNat:=by
 simp[bW,bp,hi,hy]
theorem ij {d:Nat} {lo:Option TV} {u4:Option Value} {l:Int} (hb:Ng d lo=some l) (hl:(lo=none∧u4=none)∨∃y v,lo=some y∧u4=some v∧VR c ρ F h y v):
 (u4=none∧l=d)∨∃k,u4=some (.int k l):=by
 rcases hl with⟨rfl,rfl⟩|⟨y,v,rfl,rfl,hv⟩
 ·simp[Ng]at hb;exact .inl ⟨rfl,hb.symm⟩
 ·unfold Ng at hb;split at hb
  ·rename_i he;cases he
  ·rename_i k i he;cases he;cases hb;rw[hv.de.1];exact .inr ⟨k,rfl⟩
  ·cases hb
theorem dO {d y:Nat} {l:Int} {u4:Option Value} (h1:(u4=none∧l=d)∨∃k,u4=some (.int k l)) (h0:0≤l) (hy:l≤y):bW d y u4=some l.toNat:=by
 rcases h1 with⟨rfl,rfl⟩|⟨k,rfl⟩
 ·simp[bW]
 ·exact nd h0 hy k
theorem gH {t elem:TypeId} {n z b o' len cap:Nat} {lo hi mx:Option Value} {l hh m:Nat} (hd:E.desc t=some (.slice elem)) (hn:E.size elem=some n) (hz:n=z) (hm:bW cap len mx=some m)
 (Kd:bW len (bif mx.isSome then m else len) hi=some hh) (hc:hi.isSome||mx.isNone) (ui:bW 0 hh lo=some l):
 gy E t (.slice (some ⟨b,o',some z⟩) len cap) lo hi mx=some (.slice (some (bif Nat.beq m l then⟨b,o',some z⟩else⟨b,o'+l*z,some z⟩)) (hh - l) (m - l)):=by
 unfold gy;subst hz;rw[hd];simp only[Option.bind_some,hn,hm,Kd,ui,bp,hc];simp
theorem DI {z b oo len cap:Nat} {es:List (List TV)} {fl:Bool} (hv:VR c ρ F h (.sl z es fl) (.slice (some ⟨b,oo,some z⟩) len cap)) {l hh m:Nat} (hl:l≤hh) (hhl:hh≤es.length) (hm:hh≤m) (GW:Bool) (pQ:GW=true→m=hh):
 VR c ρ F h (.sl z ((es.take hh).drop l) GW) (.slice (some (bif Nat.beq m l then⟨b,oo,some z⟩else⟨b,oo+l*z,some z⟩)) (hh - l) (m - l)):=by
 cases hv with
 |sl q1 q2 q3 q4 q5 q6 q7 q8 q9 Qi=>
  have hlen:((es.take hh).drop l).length=hh - l:=by simp;omega
  by_cases e:m=l
  ·have e2:hh=l:=by omega
   subst e2;subst e;rw[show(bif Nat.beq m m then(⟨b,oo,some z⟩:Addr)else⟨b,oo+m*z,some z⟩)=⟨b,oo,some z⟩ by simp];refine .sl q1 q2 q3 hlen om (fun _=>rfl) (by simp;omega) (fun e he=>?_) (fun e he=>?_) fun i j e t v r1=>?_
   ·exact q8 e (List.mem_of_mem_take (List.mem_of_mem_drop he))
   ·exact q9 e (List.mem_of_mem_take (List.mem_of_mem_drop he))
   ·have:=(List.getElem?_eq_some_iff.1 r1).1;omega
  ·rw[show(bif Nat.beq m l then(⟨b,oo,some z⟩:Addr)else⟨b,oo+l*z,some z⟩)=⟨b,oo+l*z,some z⟩ by
    rw[Bk];simp[e]]
   refine .sl q1 q2 q3 hlen om (fun h=>by rw[pQ h]) ?_ (fun e he=>?_) (fun e he=>?_) fun i j e t v r1 r2 r3=>?_
   ·have:(l+(hh - l))*z≤es.length*z:=Nat.mul_le_mul_right z om;rw[Nat.add_mul]at this;subst q4;omega
   ·exact q8 e (List.mem_of_mem_take (List.mem_of_mem_drop he))
   ·exact q9 e (List.mem_of_mem_take (List.mem_of_mem_drop he))
   ·rw[List.getElem?_drop,List.getElem?_take]at r1;split at r1
    ·refine Qi (l+i) j e t v r1 r2 ?_;rw[←r3,Nat.add_mul]
     congr 1;omega
    ·cases r1
theorem jZ {t elem n:Nat} {lo hi mx:Option Value} {l hh m:Nat} (hd:E.desc t=some (.slice elem)) (hn:E.size elem=some n) (hm:bW 0 0 mx=some m)
 (Kd:bW 0 (bif mx.isSome then m else 0) hi=some hh) (hc:hi.isSome||mx.isNone) (ui:bW 0 hh lo=some l):
 gy E t (.slice none 0 0) lo hi mx=some (.slice none 0 0):=by
 unfold gy;rw[hd];simp only[Option.bind_some,hn,hm,Kd,ui,bp,hc]
def NW (c:Nat) (ρ:Gh) (F:Nat→Prop) (h:ah) (y:Option TV) (v:Option Value):Prop:=(y=none∧v=none)∨∃y' v',y=some y'∧v=some v'∧VR c ρ F h y' v'
theorem sQ (L:bR T E) {t:TypeId} {z n l hh m:Nat} {elem:TypeId} {es:List (List TV)} {fl:Bool} {xv:Value} {u4 hiv Nm:Option Value} (hd:T.desc t=some (.slice elem)) (hn:T.size elem=some n) (hz:z=n∨z=0)
 (hx:VR c ρ F h (.sl z es fl) xv) (hl:l≤hh) (hhl:hh≤es.length) (_:hh≤m) (GW:Bool) (_:GW=true→m=hh)
 (b1:∀len cap,len=es.length→len≤cap→∃m',bW cap len Nm=some m'∧bW len (bif Nm.isSome then m' else len) hiv=some hh∧hh≤m'∧(GW=true→m'=hh)) (b2:(hiv.isSome||Nm.isNone)=true) (b3:bW 0 hh u4=some l):
 ∃x,gy E t xv u4 hiv Nm=some x∧VR c ρ F h (.sl z ((es.take hh).drop l) GW) x:=by
 cases hx with
 |nil he=>
  subst he;obtain⟨m',k1,k2,_,_⟩:=b1 0 0 rfl (Nat.le_refl _);refine⟨_,jZ (L.desc _ _ hd) (L.size _ _ hn) k1 k2 b2 b3,.nil (by simp)⟩
 |sl q1 q2 q3 q4 q5 q6 q7 q8 q9 Qi=>
  have NY:n=z:=by omega
  obtain⟨m',k1,k2,k3,k4⟩:=b1 _ _ q4.symm q5;refine⟨_,gH (L.desc _ _ hd) (L.size _ _ hn) NY k1 k2 b2 b3,DI (.sl q1 q2 q3 q4 q5 q6 q7 q8 q9 Qi) hl hhl k3 GW k4⟩
theorem Ke (H:Mem X ρ F o c h) {x:TV} {z:Nat} {es:List (List TV)} (he:JY o x=some (z,es)):∃F',Mem X ρ F' (share1 o x) c h∧(∀t v,VR c ρ F h t v→VR c ρ F' h t v)∧(∀b,F b→F' b)∧(∀n y,look o n=some y→∃y',look (share1 o x) n=some y'∧gR y y')∧
 ∀xv,VR c ρ F h x xv→∃fl,VR c ρ F' h (.sl z es fl) xv:=by
 unfold JY at he;split at he
 ·cases he;exact⟨F,H,fun _ _ h=>h,fun _ h=>h,fun n y hl=>⟨y,hl,gR.refl y⟩,fun xv hx=>⟨_,hx⟩⟩
 ·rename_i m;split at he
  ·rename_i w bD hl;cases he;obtain⟨F',h1,h2,h3,h4⟩:=H.share m;exact⟨F',h1,h2,h3,nb o m,fun xv hx=>⟨false,h4 _ _ _ _ hl hx⟩⟩
  ·cases he
 ·cases he
theorem He (L:bR T E) (H:Mem X ρ F o c h) {t:TypeId} {x:TV} {xv:Value} {lo hi mx:Option TV} {u4 hiv Nm:Option Value} (hw:Dt T t x lo hi mx o c K) (hx:VR c ρ F h x xv) (ui:NW c ρ F h lo u4) (Kd:NW c ρ F h hi hiv) (EW:NW c ρ F h mx Nm):
 BD X c ρ F h o (gy E t xv u4 hiv Nm) K:=by
 unfold Dt at hw;split at hw
 ·rename_i hd;split at hw
  ·rename_i s;split at hw
   ·rename_i hh l e1 e2;obtain⟨⟨h1,h2,h3⟩,hK⟩:=hw;rcases EW with⟨_,rfl⟩|⟨_,_,e,_⟩
    ·refine g7.toS H ⟨_,_,?_,.s rfl,hK⟩;rw[hx.de.1];have a1:bW s.size s.size hiv=some hh.toNat:=dO (ij e1 Kd) om h3;have a2:bW 0 hh.toNat u4=some l.toNat:=dO (ij e2 ui) h1 om;unfold gy;rw[L.desc _ _ hd];simp only[Option.bind_some,bp,a1,a2];rfl
    ·cases e
   ·exact hw.elim
  ·exact hw.elim
 ·rename_i elem hd;split at hw
  ·rename_i n z es hn he;obtain⟨F',k1,k2,k3,k4,k5⟩:=Ke H he;obtain⟨fl,I7⟩:=k5 xv hx;split at hw
   ·rename_i hz;simp only[Bool.or_eq_true,beq_iff]at hz;split at hw
    ·rcases EW with⟨_,rfl⟩|⟨_,_,e,_⟩
     ·split at hw
      ·rename_i hh l e1 e2;have plain:(0≤l∧l≤hh∧hh≤es.length)→K (.sl z ((es.take hh.toNat).drop l.toNat) false) (share1 o x) c .pure→BD X c ρ F h o (gy E t xv u4 hiv none) K:=by
        rintro⟨h1,h2,h3⟩ hK
        obtain⟨x',q1,q2⟩:=sQ L (l:=l.toNat) (hh:=hh.toNat) (m:=hh.toNat) hd hn hz I7 om om (Nat.le_refl _) false (u4:=u4) (hiv:=hiv) (Nm:=none) (fun h=>by cases h)
         (fun len cap e3 e4=>⟨cap,rfl,by subst e3;exact dO (ij e1 Kd) om h3,by subst e3;omega,fun h=>by cases h⟩) (by simp) (dO (ij e2 ui) h1 om)
        exact⟨_,x',_,F',q1,k1,k2,k3,k4,q2,hK⟩
       split at hw
       ·split at hw
        ·obtain⟨hc,hK⟩:=hw;split at hK
         ·rename_i Zb;have Zb:=beq_iff.1 Zb;subst Zb;obtain⟨h1,h2,h3⟩:=hc;have hz8:=I7;cases hz8 with
          |nil he9=>
           subst he9;simp only[List.length_nil]at h3;have e0:hh.toNat=0:=by simp at h3;omega
           have e9:l.toNat=0:=by omega
           have b1:=dO (y:=0) (ij e1 Kd) om (by simpa using h3);have b2:=dO (y:=0) (ij e2 ui) h1 (by simp at h3;omega);rw[e0]at b1;rw[e9]at b2;exact⟨.sl 0 [] true,.slice none 0 0,_,F',jZ (L.desc _ _ hd) (L.size _ _ hn) (m:=0) (hh:=0) (l:=0) rfl b1 (by simp) b2,k1,k2,k3,k4,.nil rfl,hK⟩
          |sl q1 q2 q3=>omega
         ·exact plain hc hK
        ·rename_i n' Jd;obtain⟨hc,hK⟩:=hw;rcases hK with hK|hK
         ·exact plain hc hK
         obtain⟨h1,h2,h3⟩:=hc;obtain⟨rfl,rfl,y,rfl⟩:x= .tk n'∧lo=none∧∃y,hi=some y:=by
          unfold pvQ at Jd;split at Jd
          ·cases Jd;exact⟨rfl,rfl,_,rfl⟩
          ·cases Jd
         have Zc:u4=none:=by
          rcases ui with⟨_,e⟩|⟨_,_,e,_⟩
          ·exact e
          ·cases e
         subst Zc;have tI:l=0:=by simpa[Ng]using e2.symm
         subst tI;obtain⟨w,hl⟩:∃w,look o n'=some (.arr z w es):=by
          unfold JY at he;simp only at he;split at he
          ·rename_i w _ hl;cases he;exact⟨_,hl⟩
          ·cases he
         have a1:∀y:Nat,y=es.length→bW y y hiv=some hh.toNat:=fun y hy=>by subst hy;exact dO (ij e1 Kd) om h3
         obtain⟨Sm,hO⟩:=H.bN hl;have CT:n'<c:=by cases hx with|tk hn=>exact hn
         rcases hO.tk rfl hx with⟨h0,hb,rfl |⟨b,o',cs,q1,q2,AH,q4,rfl⟩⟩|⟨b,cap,hb,fG,rfl⟩
         ·have h0:es.length=0:=h0;have UQ:hh.toNat=0:=by omega
          refine⟨.pv n' hh.toNat,.slice none 0 0,o,F,jZ (L.desc _ _ hd) (L.size _ _ hn) (m:=0) (hh:=0) (l:=0) rfl (by have:=a1 0 om;rwa [UQ]at this) (by simp) rfl,H,fun _ _ h=>h,fun _ h=>h,fun n y hl=>⟨y,hl,gR.refl y⟩,
           .pv CT rfl (fun b z len e=>by rw[hb]at e;cases e) (fun _ _=>.inl rfl),hK⟩
         ·have h0:es.length=0:=h0;have UQ:hh.toNat=0:=by omega
          have AH:0<z:=AH
          refine⟨.pv n' hh.toNat,_,o,F,gH (L.desc _ _ hd) (L.size _ _ hn) (z:=z) (m:=0) (hh:=0) (l:=0) om rfl (by have:=a1 0 om;rwa [UQ]at this) (by simp) rfl,H,fun _ _ h=>h,fun _ h=>h,fun n y hl=>⟨y,hl,gR.refl y⟩,
           .pv CT rfl (fun b z len e=>by rw[hb]at e;cases e) (fun z' iJ=>?_),hK⟩
          have NZ:z'=z:=by rw[hb]at iJ;cases iJ;rfl
          subst NZ;exact .inr ⟨_,_,_,q1,q2,AH,q4,rfl⟩
         ·have AH:0<z:=by
           cases hO with
           |nil bJ=>rw[hb]at bJ;cases bJ
           |arr _ _ _ _ _ hz=>exact hz
          have hb:ρ n'=some (.arr b z es.length):=hb;have fG:es.length≤cap:=fG
          refine⟨.pv n' hh.toNat,_,o,F,gH (L.desc _ _ hd) (L.size _ _ hn) (z:=z) (m:=cap) (hh:=hh.toNat) (l:=0) om rfl (dO (ij e1 Kd) om h3) (by simp) rfl,H,fun _ _ h=>h,fun _ h=>h,fun n y hl=>⟨y,hl,gR.refl y⟩,
           .pv CT rfl (fun b1 z1 NB e=>?_) (fun _ e=>by rw[hb]at e;cases e),hK⟩
          rw[hb]at e;cases e;exact⟨cap,om,by simp⟩
       ·rename_i n' Um;obtain⟨hc,hK⟩:=hw;rcases hK with hK|hK
        ·exact plain hc hK
        obtain⟨h1,h2,h3⟩:=hc;obtain⟨rfl,rfl⟩:x= .tk n'∧hi=none:=by
         unfold svQ at Um;split at Um
         ·cases Um;exact⟨rfl,rfl⟩
         ·cases Um
        have Zd:hiv=none:=by
         rcases Kd with⟨_,e⟩|⟨_,_,e,_⟩
         ·exact e
         ·cases e
        subst Zd;have hhe:hh=es.length:=by simpa[Ng]using e1.symm
        subst hhe;obtain⟨w,hl⟩:∃w,look o n'=some (.arr z w es):=by
         unfold JY at he;simp only at he;split at he
         ·rename_i w _ hl;cases he;exact⟨_,hl⟩
         ·cases he
        have b3:∀y:Nat,l≤y→bW 0 y u4=some l.toNat:=fun y hy=>dO (ij e2 ui) h1 hy;obtain⟨Sm,hO⟩:=H.bN hl;have CT:n'<c:=by cases hx with|tk hn=>exact hn
        rcases hO.tk rfl hx with⟨h0,hb,rfl |⟨b,o',cs,_,_,AH,_,rfl⟩⟩|⟨b,cap,hb,fG,rfl⟩
        ·have h0:es.length=0:=h0;have tI:l.toNat=0:=by omega
         refine⟨.sv n' l.toNat,.slice none 0 0,o,F,jZ (L.desc _ _ hd) (L.size _ _ hn) (m:=0) (hh:=0) (l:=0) rfl rfl rfl (by have:=b3 0 om;rwa [tI]at this),H,fun _ _ h=>h,fun _ h=>h,fun n y hl=>⟨y,hl,gR.refl y⟩,
          .sv CT rfl (fun b z len e=>by rw[hb]at e;cases e) (fun _ _=>.inl rfl),hK⟩
        ·have h0:es.length=0:=h0;have tI:l.toNat=0:=by omega
         have AH:0<z:=AH
         refine⟨.sv n' l.toNat,_,o,F,gH (L.desc _ _ hd) (L.size _ _ hn) (z:=z) (m:=0) (hh:=0) (l:=0) om rfl rfl rfl (by have:=b3 0 om;rwa [tI]at this),H,fun _ _ h=>h,fun _ h=>h,fun n y hl=>⟨y,hl,gR.refl y⟩,
          .sv CT rfl (fun b z len e=>by rw[hb]at e;cases e) (fun _ _=>.inr ⟨_,_,_,_,rfl⟩),hK⟩
        ·have AH:0<z:=by
          cases hO with
          |nil bJ=>rw[hb]at bJ;cases bJ
          |arr _ _ _ _ _ hz=>exact hz
         have hb:ρ n'=some (.arr b z es.length):=hb;have fG:es.length≤cap:=fG
         refine⟨.sv n' l.toNat,_,o,F,gH (L.desc _ _ hd) (L.size _ _ hn) (z:=z) (m:=cap) (hh:=es.length) (l:=l.toNat) om rfl rfl rfl (b3 _ om),H,fun _ _ h=>h,fun _ h=>h,fun n y hl=>⟨y,hl,gR.refl y⟩,
          .sv CT rfl (fun b1 z1 NB e=>?_) (fun _ e=>by rw[hb]at e;cases e),hK⟩
         rw[hb]at e;cases e;cases Ze:Nat.beq cap l.toNat with
         |true=>
          have:=beq_iff.1 Ze;exact⟨_,_,rfl,fun bj=>by omega⟩
         |false=>exact⟨_,_,rfl,fun _=>Nat.zero_add _⟩
      ·exact hw.elim
     ·cases e
    ·rename_i m _;split at hw
     ·rename_i kk hh l m' e2 e3;obtain⟨⟨h1,h2,rfl,h3⟩,hK⟩:=hw;rcases EW with⟨e,_⟩|⟨y1,v1,e,rfl,tM⟩
      ·cases e
      ·cases e;rcases Kd with⟨e,_⟩|⟨y2,v2,e,rfl,JE⟩
       ·cases e
       ·cases e;have RJ:∃k,v1= .int k hh:=by
         unfold Bg at e3;split at e3
         ·cases e3;rw[tM.de.1];exact⟨_,rfl⟩
         ·cases e3
        obtain⟨k',rfl⟩:=RJ;rw[JE.de.1]
        obtain⟨x',q1,q2⟩:=sQ L (l:=l.toNat) (hh:=hh.toNat) (m:=hh.toNat) hd hn hz I7 om om (Nat.le_refl _) true (u4:=u4) (hiv:=some (.int kk hh)) (Nm:=some (.int k' hh)) (fun _=>rfl)
         (fun len cap e3 e4=>⟨hh.toNat,nd om (by subst e3;omega) k',nd om (by simp;omega) kk,Nat.le_refl _,fun _=>rfl⟩) rfl (dO (ij e2 ui) h1 om)
        exact⟨_,x',_,F',q1,k1,k2,k3,k4,q2,hK⟩
     ·exact hw.elim
   ·exact hw.elim
  ·exact hw.elim
 ·exact hw.elim
end
section
variable {T E:Env} {X:Cx} {ρ:Gh} {F:Nat→Prop} {o:Ob} {c:Nat} {af:AF} {f:Fr} {h:ah} {p:Oper} {K:OK}
theorem Hf {x:Value} (h:∀a,x≠ .agg a):x.cells= #[x]:=by
 cases x<;>first|rfl |exact absurd rfl (h _)
theorem zP {x:Value} (h:ar x=true):∀a,x≠ .agg a:=by rintro a rfl;simp[ar]at h
theorem g8 {v:TV} {x:Value} (hv:VR c ρ F h v x) (ho:okV v=true):dh c ρ F h (ax v) x.cells.toList:=by
 have one:(∀a,x≠ .agg a)→ax v=[v]→dh c ρ F h (ax v) x.cells.toList:=fun h1 h2=>by
  rw[h2,Hf h1];exact .cons hv .nil
 cases hv with
 |j=>simp[okV,wy]at ho
 |s hp=>exact one (zP hp) rfl
 |nil=>exact one (by rintro a e;cases e) rfl
 |sl=>exact one (by rintro a e;cases e) rfl
 |tk hn nR ha h0=>exact one (by rintro a rfl;simp[GZ]at nR) rfl
 |ptr=>exact one (by rintro a e;cases e) rfl
 |ep=>exact one (by rintro a e;cases e) rfl
 |wp hn nR ha h0=>exact one (by rintro a rfl;simp[Uj]at nR) rfl
 |mp=>exact one (by rintro a e;cases e) rfl
 |bg=>exact one (by rintro a e;cases e) rfl
 |sv=>simp[okV,wy]at ho
 |pv=>simp[okV,wy]at ho
 |agg hs ha=>exact⟨by simpa[ax,Value.cells]using hs,fun i t v h1 h2=>ha i t v h1 (by simpa[Value.cells]using h2)⟩
 |dg=>simp[okV,wy]at ho
 |lr=>exact one (by rintro a e;cases e) rfl
 |cJ=>exact one (by rintro a e;cases e) rfl
theorem u5:∀{n:Nat} {l xs r:List TV} {l' Jp:List Value},cF l n xs=some r→dh c ρ F h l l'→dh c ρ F h xs Jp→∃r',cF l' n Jp=some r'∧dh c ρ F h r r'
 |0,l,[],r,l',Jp,hs,hl,hx=>by
  simp[cF]at hs;subst hs;rw[hx.bz];exact⟨l',by simp[cF],hl⟩
 |0,[],x::xs,r,l',Jp,hs,hl,hx=>by simp[cF]at hs
 |0,y::l,x::xs,r,l',Jp,hs,hl,hx=>by
  simp only[cF,Option.bind_eq_some_iff,Option.some.injEq]at hs;obtain⟨q,hq,rfl⟩:=hs;obtain⟨y',m,rfl,_,h2⟩:=hl.aH;obtain⟨x',k,rfl,h3,h4⟩:=hx.aH;obtain⟨r',h5,h6⟩:=u5 hq h2 h4;exact⟨x'::r',by simp[cF,h5],.cons h3 h6⟩
 |n+1,[],xs,r,l',Jp,hs,hl,hx=>by simp[cF]at hs
 |n+1,y::l,xs,r,l',Jp,hs,hl,hx=>by
  simp only[cF,Option.bind_eq_some_iff,Option.some.injEq]at hs;obtain⟨q,hq,rfl⟩:=hs;obtain⟨y',m,rfl,h1,h2⟩:=hl.aH;obtain⟨r',h5,h6⟩:=u5 hq h2 hx;exact⟨y'::r',by simp[cF,h5],.cons h1 h6⟩
theorem rH {pT pE:Nat→Option (Nat×Nat)} (hp:∀i x,pT i=some x→pE i=some x):∀{ps:List (Nat×TV)} {zs cs:List TV} {zv:List Value} {pv:List (Nat×Value)},xr pT zs ps=some cs→dh c ρ F h zs zv→NU c ρ F h ps pv→
 ∃cv,iQ pE zv pv=some cv∧dh c ρ F h cs cv
 |[],zs,cs,zv,[],hf,hz,_=>by simp[xr]at hf;subst hf;exact⟨zv,rfl,hz⟩
 |[],zs,cs,zv,_::_,hf,hz,hq=>hq.elim
 |a::l,zs,cs,zv,[],hf,hz,hq=>hq.elim
 |a::l,zs,cs,zv,b::m,hf,hz,hq=>by
  obtain⟨e,hv,hr⟩:=hq;unfold xr at hf;split at hf
  ·rename_i q n mi;split at hf
   ·rename_i hc;simp only[Bool.and_eq_true,beq_iff]at hc;have qn:=g8 hv hc.1;split at hf
    ·rename_i qV gC;obtain⟨r',h1,h2⟩:=u5 gC hz qn;obtain⟨cv,h3,h4⟩:=rH hp hf h2 hr;refine⟨cv,?_,h4⟩;obtain⟨i,x⟩:=b;simp only[iQ];simp only at e;subst e;rw[hp _ _ mi];simp only[Option.bind_some];have:x.cells.size=n:=by have:=qn.1;simp only[Array.length_toList]at this;omega
     rw[this];simp[bp,h1,h3]
    ·cases hf
   ·cases hf
  ·cases hf
theorem Hg (L:bR T E) {t:TypeId} {ps:List (Nat×TV)} {pv:List (Nat×Value)} (hw:Dv T t ps o c K) (hp:NU c ρ F h ps pv):g7 c ρ F h o (qS E t pv) K:=by
 unfold Dv at hw;split at hw
 ·rename_i fields z hd hz;obtain⟨iJ,mi⟩:=L.zero _ _ hz;split at hw
  ·rename_i zs kf ib;rw[Array.all_toList]at kf;split at hw
   ·rename_i cs hf;have XJ:∀i x,oQ T fields i=some x→oQ E fields i=some x:=fun i x hx=>by
     unfold oQ at hx ⊢;simp only[Option.bind_eq_some_iff]at hx ⊢;obtain⟨fd,h1,n,h2,h3⟩:=hx;exact⟨fd,h1,n,L.size _ _ h2,h3⟩
    obtain⟨cv,h1,h2⟩:=rH XJ hf (fj mi ib) hp;refine⟨_,_,?_,.fx (a:=cv.toArray) (by simpa using h2),hw⟩;unfold qS;rw[L.desc _ _ hd,iJ];simp only[Option.bind_some];have VJ:(fields.all fun fd=>(E.size fd.type).isSome)=true:=by
     rw[Array.all_eq_true]at kf ⊢;intro i hi;have:=kf i hi;obtain⟨n,hn⟩:=Option.isSome_iff_exists.1 this;rw[L.size _ _ hn];rfl
    rw[VJ];simp[bp,h1]
   ·exact hw.elim
  ·exact hw.elim
 ·rename_i len elem z hd hz;obtain⟨iJ,mi⟩:=L.zero _ _ hz;split at hw
  ·rename_i n zs hn ib;split at hw
   ·rename_i cs hf;obtain⟨cv,h1,h2⟩:=rH (pE:=fun i=>some (i*n,n)) (fun i x hx=>hx) hf (fj mi ib) hp;refine⟨_,_,?_,.fx (a:=cv.toArray) (by simpa using h2),hw⟩;unfold qS;rw[L.desc _ _ hd,iJ];simp only[Option.bind_some,L.size _ _ hn,h1]
   ·exact hw.elim
  ·exact hw.elim
 ·exact hw.elim
theorem DJ (L:bR T E) {s d:TypeId} {x v:Value} (hx:oy T s d x=some v):oy E s d x=some v:=by
 unfold oy at hx ⊢;simp only[Option.bind_eq_some_iff]at hx ⊢;obtain⟨q,h1,dd,h2,h3⟩:=hx;exact⟨q,L.desc _ _ h1,dd,L.desc _ _ h2,h3⟩
end
section
variable {T E:Env} {X:Cx} {ρ:Gh} {F:Nat→Prop} {o:Ob} {c:Nat} {af:AF} {f:Fr} {h:ah} {p:Oper} {K:OK}
theorem DK {v:Value} (hp:ar v=true) (hc:∀r,v≠ .chan r):iq v v=true:=by
 cases v<;>simp[ar]at hp<;>first
  |(simp[iq];done)
  |(exact absurd rfl (hc _))
  |(rename_i a;cases a<;>simp at hp<;>simp[iq])
theorem fK {t:TV} {x:Value} (hv:VR c ρ F h t x) (he:Dp t=true):iq x x=true:=by
 cases hv with
 |j=>simp[Dp]at he
 |s hp=>exact DK hp (by rintro r rfl;simp[Dp]at he)
 |nil=>simp[iq]
 |sl=>simp[iq]
 |tk hn nR ha h0=>cases x<;>simp[GZ]at nR;simp[iq]
 |ptr=>simp[iq]
 |ep=>simp[iq]
 |wp hn nR ha h0=>cases x<;>simp[Uj]at nR;simp[iq]
 |mp=>simp[iq]
 |bg=>simp[Dp]at he
 |sv=>simp[Dp]at he
 |pv=>simp[Dp]at he
 |agg=>simp[Dp]at he
 |dg=>simp[Dp]at he
 |lr tM=>
  rename_i t v v';cases v<;>simp[Dp]at he;rename_i w;cases w<;>simp at he;rw[tM.de.1];simp[iq]
 |cJ hs ha ht hk=>
  rename_i g x y a k;cases x<;>simp[Dp]at he;cases y<;>simp at he;simp at hs ht;simp[iq,←hs,←ht]
theorem rI:∀{l:List TV} {m:List Value},dh c ρ F h l m→l.all Dp=true→fw m m=true
 |[],m,H,_=>by rw[H.bz];rfl
 |t::l,m,H,he=>by
  simp only[List.all_cons,Bool.and_eq_true]at he;obtain⟨v,m',rfl,h1,h2⟩:=H.aH;simp only[fw,Bool.and_eq_true];exact⟨fK h1 he.1,rI h2 he.2⟩
theorem zQ {c1:Nat} {gp:Gh} {l:List TV} {m:List Value} {v:VL} {q:RQ} {ρ':Gh} {o':Ob} {h':ah} (H:dh c1 gp F h l m) (sK:fw m m=true→eU ρ F o h ρ' o' h' v (.rd q h)):eU ρ F o h ρ' o' h' (JW l v) (.rd q h):=by
 unfold JW;split
 ·rename_i he;exact sK (rI H he)
 ·exact .bad
def g9 (X:Cx) (c:Nat) (ρ:Gh) (F:Nat→Prop) (h:ah) (o:Ob) (q:RQ) (K:OK):Prop:=∃v x lg ρ' o' c',q.run h=some x∧Nx X ρ F o c h ρ' F o' c' h∧VR c' ρ' F h v x∧K v o' c' lg∧eU ρ F o h ρ' o' h lg (.rd q h)
theorem g9.CY {q:RQ} (R:g9 X c ρ F h o q K) (hp:aB E af p=none) (hq:bt E af p=some q):ee E X ρ F o c af h p K:=by
 obtain⟨v,x,lg,ρ',o',c',h1,h2,h3,h4,h5⟩:=R;refine⟨0,⟨x,h,.rd q h⟩,v,o',c',ρ',F,lg,fun n _=>?_,h4,h2,h3,h5⟩;unfold dR;rw[hp,hq];simp[h1]
theorem g9.same {q:RQ} (H:Mem X ρ F o c h) {v:TV} {x:Value} {lg:VL} (h1:q.run h=some x) (h2:VR c ρ F h v x) (h3:K v o c lg) (h4:eU ρ F o h ρ o h lg (.rd q h)):g9 X c ρ F h o q K:=⟨v,x,lg,ρ,o,c,h1,.refl H,h2,h3,h4⟩
theorem rJ:∀{l:List TV} {k:Nat},(dA l k).2=[]→(dA l k).1=l
 |[],_,_=>rfl
 |t::l,k,hn=>by
  cases t<;>first|(simp only[dA]at hn ⊢;rw[rJ hn])|(simp[dA]at hn)
theorem jc {α:Type}:∀{l xs r:List α} {p:Nat},cF l p xs=some r→r=l.take p++(xs++(l.drop p).drop xs.length)
 |l,[],r,0,h=>by simp[cF]at h;subst h;simp
 |[],x::xs,r,0,h=>by simp[cF]at h
 |y::l,x::xs,r,0,h=>by
  simp only[cF,Option.bind_eq_some_iff,Option.some.injEq]at h;obtain⟨q,hq,rfl⟩:=h;have:=jc hq;simp only[List.take_zero,List.nil_append,List.drop_zero]at this;rw[this];simp
 |[],xs,r,p+1,h=>by simp[cF]at h
 |y::l,xs,r,p+1,h=>by
  simp only[cF,Option.bind_eq_some_iff,Option.some.injEq]at h;obtain⟨q,hq,rfl⟩:=h;rw[jc hq];simp
theorem xF:∀(l:List TV) (k:Nat),(dA l k).1.length=l.length
 |[],_=>rfl
 |t::l,k=>by cases t<;>simp[dA,xF l]
theorem BE (H:Mem X ρ F o c h) {S:Nat→Ft} (K0:MO X ρ F o c h S) {agg:Bool} {n p q m b:Nat} {e:List TV} {y:TO} {put:List TV→TO} {Se:Ft} {vs:List Value} {lg:VL} (hw:xq agg n p e o c lg put m K) (hl:look o m=some y) (hb:xD ρ m b) (sJ:lg= .jK m∨lg= .wN m p .j∧p=q∧ρ m=some (.cX b))
 (hc:cp c ρ F h X.base Se e vs) (hr:n≤(e.drop p).length→M.ai h b q n=some ((vs.drop p).take n))
 (RT:∀c' ρ' e' S',(∀t v,VR c ρ F h t v→VR c' ρ' F h t v)→ρ' m=ρ m→e'.length=e.length→cp c' ρ' F h X.base S' e' vs→∃S0,OR c' ρ' F h X.base m S0 (put e')∧∀R,Se.Perm (S'++R)→(S m).Perm (S0++R)):
 g9 X c ρ F h o (.cells agg b q n) K:=by
 unfold xq at hw;split at hw
 ·exact hw.elim
 ·rename_i l ht;rw[aM]at ht;obtain⟨t1,rfl⟩:=ht;have BF:=hr t1;obtain⟨S1,S2,S3,hS,a1,a2,a3⟩:=hc.part p n;have fzm:∀t v,VR 0 rA F h t v→fz t=true→VR c ρ F h t v:=fun t v hv hf=>hv.dm hf;split at hw
  ·rename_i oA;split at hw
   ·rename_i v hv;obtain⟨hK,_⟩:=dG hw;obtain⟨Ss,ls,b1,b2,b3⟩:=a2.opened c;have tI:ls.length=0:=by rw[b2.l2,oA];rfl
    have hV:=b3 c ρ (fun _ _ h=>h) om (fun i q hq=>by
     have:=(List.getElem?_eq_some_iff.1 hq).1;omega)
    rw[rJ oA]at hV;obtain⟨x,h6,h7⟩:=fm hv hV;have main:fw ((vs.drop p).take n) ((vs.drop p).take n)=true→eU ρ F o h ρ o h (YX v lg) (.rd (.cells agg b q n) h):=by
     intro he;have pl:eU ρ F o h ρ o h (.jK m) (.rd (.cells agg b q n) h):=.jK (.refl _) rfl hl hb ⟨_,BF,he⟩;rcases sJ with rfl |⟨rfl,rfl,Jo⟩
     ·exact pl
     have one:∀w,v=w→cP w=false→dM w=true→(∀cs,w≠ .agg cs)→(∀y,VR c ρ F h w y→jB ρ w y)→eU ρ F o h ρ o h (.wN m p w) (.rd (.cells agg b p n) h):=by
      rintro w rfl _ _ CV Ul;unfold dT at hv;split at hv
      ·cases hv;exact absurd rfl (CV _)
      ·rename_i l' w' heq;cases hv;rw[heq]at hV;obtain⟨y1,m1,e1,hy,AN⟩:=hV.aH;obtain rfl:=AN.bz;have Yw:n=1:=by
        have:=congrArg List.length heq;rw[List.length_take]at this;simp only[List.length_cons,List.length_nil]at this;omega
       subst Yw;rw[e1]at BF;exact .wN (.refl _) rfl hl Jo (Ul _ hy) BF
      ·cases hv
     unfold YX;split
     ·rename_i m' p' v' heq;cases heq;split
      ·exact one _ rfl rfl rfl (by rintro cs e;cases e) fun y hy=>by cases hy with|mp hb=>exact .inl ⟨_,_,rfl,hb,rfl⟩
      ·exact one _ rfl rfl rfl (by rintro cs e;cases e) fun y hy=>by cases hy with|ptr hb=>exact .inr ⟨_,_,_,rfl,hb,rfl⟩
      ·exact pl
     ·rename_i bc;exact absurd rfl (bc _ _ _)
    exact g9.same H (by simp[RQ.run,BF,h6]) h7 hK (zQ hV main)
   ·exact hw.elim
  ·rename_i q0 new oA;split at hw
   ·rename_i e' v gC hv;obtain⟨hK,_⟩:=dG hw;have hA:∀ls:List Loc,∀t v,VR c ρ F h t v→VR (c+(new.length+1)) (mz ρ c ls) F h t v:=fun ls t v=>VR.mono om (fun n l hn h1=>by rwa [eL _ _ hn]at h1) (fun n b h1=>by rw[eL _ _ (H.names _ _ h1)];exact h1) (fun _ h=>h) (fun _ _ _ h=>h);obtain⟨Ss,ls,b1,b2,b3⟩:=a2.opened c;rw[oA]at b2;have CU:ls.length=new.length+1:=b2.l2;have hV:=b3 (c+(new.length+1)) (mz ρ c ls) (hA ls) om (fun i q hq=>by rw[qk];exact hq);obtain⟨x,h6,h7⟩:=fm hv hV;have hlen:(dA ((e.drop p).take n) c).1.length=n:=by rw[xF,List.length_take];omega
    have AG:=jc gC;rw[hlen]at AG;have C6:=H.lt hl;have VK:cp (c+(new.length+1)) (mz ρ c ls) F h X.base (S1++S3) e' vs:=by
     have k1:=a1.bd (c':=c+(new.length+1)) (ρ':=mz ρ c ls) (F':=F) (h':=h) (T:=fun _=>False) H.wf (fun _ _ _=>rfl) (fun _ h=>h) (fun _ _ _ h=>h) (hA ls) (fun _ _ hf=>hf.elim);have k3:=a3.bd (c':=c+(new.length+1)) (ρ':=mz ρ c ls) (F':=F) (h':=h) (T:=fun _=>False) H.wf (fun _ _ _=>rfl) (fun _ h=>h) (fun _ _ _ h=>h) (hA ls) (fun _ _ hf=>hf.elim);have:=k1.join ((cp.jx (base:=X.base) hV).join k3);rw[List.take_append_drop,List.take_append_drop,←AG]at this;exact this
    obtain⟨S0,hO,hP⟩:=RT _ _ e' (S1++S3) (hA ls) (eL _ _ C6) (cV gC).2.1 VK;have xG:(S m).Perm (S0++Ss.flatten):=hP _ (by
     rw[hS,←b1,List.append_assoc];exact List.perm_append_comm.append_left _)
    obtain⟨M,hk⟩:=H.opens K0 (y1:=put e') hl b2 xG (fun _=>hO);refine⟨v,x,_,_,_,_,by simp[RQ.run,BF,h6],⟨M,hk,Nat.le_refl _,fun _ h=>h,fun _ _ _ h=>h⟩,h7,hK,zQ hV fun he=>(show Vm lg= .jK m by rcases sJ with rfl |⟨rfl,_⟩<;>rfl)▸ .jK (fun n' y' ql _=>⟨?_,eL _ _ (H.lt ql),fun b _=>⟨rfl,fun _ h=>h⟩⟩) rfl hl hb ⟨_,BF,he⟩⟩;rw[iA,rB b2,if_pos (H.lt ql)];simp only
    rw[dF];by_cases em:n'=m
    ·rw[if_pos em,hl];exact⟨_,rfl⟩
    ·rw[if_neg em];exact⟨_,ql⟩
   ·exact hw.elim
theorem RU {z i p n b:Nat} {v1 v2 v3:List Value} (hr:h.rd b=some (v1++(v2++v3))) (h1:v1.length=i*z) (h2:n≤(v2.drop p).length):M.ai h b (i*z+p) n=some ((v2.drop p).take n):=by
 unfold M.ai;rw[hr];simp only[Option.bind_some,aM];rcases Nat.eq_zero_or_pos n with h0|h0
 ·subst h0;simp
 ·simp only[List.length_drop]at h2;have e:(v1++(v2++v3)).drop (i*z+p)=v2.drop p++v3:=by
   rw[←h1,List.drop_append,List.drop_eq_nil_of_le om,Nat.add_sub_cancel_left,List.nil_append,List.drop_append_of_le_length om]
  rw[e];refine⟨by rw[List.length_append,List.length_drop];omega,?_⟩;rw[List.take_append_of_le_length (by rw[List.length_drop];omega)]
theorem Kf (L:bR T E) (H:Mem X ρ F o c h) {t:TypeId} {a:TV} {av:Value} (hw:JX T t a o c K) (ha:VR c ρ F h a av):
 ∃q,((gV av).bind fun p=>(dU E t).bind fun s=>some (.cells s.1 p.1 p.2 s.2))=some q∧g9 X c ρ F h o q K:=by
 unfold JX at hw;split at hw
 ·exact hw.elim
 ·rename_i agg n hs;have Vg:=L.shape hs;obtain⟨S,K0⟩:=H.ex;split at hw
  ·rename_i m q;split at hw
   ·rename_i cs hl;have hO:=K0.bN m _ hl;generalize hS:S m=Sm at hO;cases hO with
    |cells hb hg ml hc=>
     rename_i Sq b aF cs';cases ha with
     |ptr bJ=>
      rw[hb]at bJ;cases bJ;refine⟨.cells agg b q n,by simp[gV,Vg],BE H K0 hw hl (.inl hb) (.inr ⟨rfl,rfl,hb⟩) hc (fun hn=>?_) fun c' ρ' e' S' hm eK hlen VK=>⟨_,.cells (eK.trans hb) hg ml VK,fun R hR=>by rw[hS];exact hR.cons _⟩⟩;unfold M.ai;rw[dq (bu hg hg) ml (au hg)];simp only[Option.bind_some,aM,and_true];have:=hc.len;simp only[List.length_drop]at hn ⊢;omega
   ·exact hw.elim
  ·rename_i e q;split at hw
   ·rename_i l ht;split at hw
    ·rename_i v hv;obtain⟨hK,_⟩:=dG hw;cases ha with
     |ep h1 h2 h3 h4 h5=>
      rename_i b q0 cs;rw[aM]at ht;obtain⟨t1,rfl⟩:=ht;simp only[List.length_drop]at t1;have hlen:n≤(cs.drop (q0+q)).length∨n=0:=by
       simp only[List.length_drop];omega
      have hR:dh c ρ F h ((e.drop q).take n) ((cs.drop (q0+q)).take n):=by
       refine⟨by simp;omega,fun i t v r1 r2=>?_⟩;rw[List.getElem?_take]at r1 r2;split at r1
       ·rename_i bj;rw[if_pos bj]at r2;rw[List.getElem?_drop]at r1 r2;exact h5 (q+i) t v r1 (by rw[←r2];congr 1;omega)
       ·cases r1
      obtain⟨x,h6,h7⟩:=fm hv hR;have BF:M.ai h b (q0+q) n=some ((cs.drop (q0+q)).take n):=by
       unfold M.ai;rw[h2];simp only[Option.bind_some,aM,and_true];rcases hlen with h8|h8
       ·exact h8
       ·omega
      exact⟨.cells agg b (q0+q) n,by simp[gV,Vg],g9.same H (by simp[RQ.run,BF,h6]) h7 hK (zQ hR fun he=>.Ff (.refl _) rfl h1 ⟨_,_,_,_,rfl⟩ ⟨_,BF,he⟩)⟩
    ·exact hw.elim
   ·exact hw.elim
  ·rename_i m i q;split at hw
   ·rename_i z w es hl;obtain⟨e,he,hw⟩:=hw;split at hw
    ·rename_i l ht;split at hw
     ·rename_i v hv;obtain⟨hK,_⟩:=dG hw;obtain⟨b,z',l',hb,rfl⟩:=rG H hl rfl ha;obtain⟨Sm,hO⟩:=H.bN hl;cases hO with
      |nil bJ hz=>rw[hb]at bJ;cases bJ
      |arr bJ hg hf ml dy hz hlen kq fS hc hF=>
       rename_i f t0 eg aF cs;rw[hb]at bJ;cases bJ;have ft:=dq hf ml (au hg);rw[aM]at ht;obtain⟨t1,rfl⟩:=ht;simp only[List.length_drop]at t1;have Je:=kq e (List.mem_of_getElem? he);have hi:i<es.length:=(List.getElem?_eq_some_iff.1 he).1;have hle:(i+1)*z≤es.length*z:=Nat.mul_le_mul_right z hi;rw[Nat.add_mul]at hle;have hR:dh c ρ F h ((e.drop q).take n) ((cs.drop (i*z+q)).take n):=by
        refine⟨by simp;omega,fun j t v r1 r2=>?_⟩;rw[List.getElem?_take]at r1 r2;split at r1
        ·rename_i bj;rw[if_pos bj]at r2;rw[List.getElem?_drop]at r1 r2;exact hc i (q+j) e t v he r1 (by rw[←r2];congr 1;omega)
        ·cases r1
       obtain⟨x,h6,h7⟩:=fm hv hR;have BF:M.ai h b (i*z+q) n=some ((cs.drop (i*z+q)).take n):=by
        unfold M.ai;rw[ft];simp only[Option.bind_some,aM,and_true,List.length_drop];omega
       exact⟨.cells agg b (i*z+q) n,by simp[gV,Vg],g9.same H (by simp[RQ.run,BF,h6]) h7 hK (zQ hR fun AG=>.jK (.refl _) rfl hl (.inr ⟨_,_,hb⟩) ⟨_,BF,AG⟩)⟩
     ·exact hw.elim
    ·exact hw.elim
   ·rename_i z es op hl;obtain⟨b,z',l',hb,rfl⟩:=rG H hl rfl ha;have hO:=K0.bN m _ hl;generalize hS:S m=Sm at hO;cases hO with
    |fD bJ hz=>rw[hb]at bJ;cases bJ
    |bZ bJ hg hf ml dy hz hlen kq bV jb hc=>
     rename_i Sq f t0 eg aF cs;rw[hb]at bJ;cases bJ;have ft:=dq hf ml (au hg);have fc:=uR bV;refine⟨.cells agg b (i*z+q) n,by simp[gV,Vg],?_⟩
     -- a row that is there as it is
     have row:∀(GY:List TV→List (Nat×List TV)) e,(cd es op)[i]? =some e→(∀e',e'.length=z→(∀p∈GY e',p.1<es.length∧p.2.length=z)∧cd es (GY e')=(cd es op).set i e')→xq agg n q e o c (.jK m) (fun e'=>.bZ z es (GY e')) m K→g9 X c ρ F h o (.cells agg b (i*z+q) n) K:=by
      intro GY e Qa uD hw;obtain⟨c9,ib⟩:=qh kq jb;have hi:i<(cd es op).length:=(List.getElem?_eq_some_iff.1 Qa).1;have he:=ib e (List.mem_of_getElem? Qa);have jm:(cd es op).set i e=cd es op:=by
       refine List.ext_getElem? fun k=>?_;rw[List.getElem?_set];by_cases ek:i=k
       ·subst ek;rw[if_pos rfl,if_pos hi,Qa]
       ·rw[if_neg ek]
      rw[←jm]at hc;generalize cd es op=rows at*
      obtain⟨S1,S2,S3,v1,v2,v3,rfl,rfl,a1,a2,a3⟩:=jz ib hi hc;have e1:v1.length=i*z:=by
       have h1:=a1.len;have:=(eo ib Qa).2;rw[Nat.add_mul]at this;rw[←h1,List.length_take];omega
      have e2:v2.length=z:=by rw[←a2.len];exact he
      refine BE H K0 hw hl (.inr ⟨_,_,hb⟩) (.inl rfl) a2 (fun hn=>RU ft e1 (by simp only[List.length_drop]at hn ⊢;omega)) fun c' ρ' e' S' hm eK cb VK=>?_;have iJ:=uD e' (by rw[cb];exact he);have:=nT ib hi (a1.bd (T:=fun _=>False) H.wf (fun _ _ _=>rfl) (fun _ h=>h) (fun _ _ _ h=>h) hm (by simp)) VK (a3.bd (T:=fun _=>False) H.wf (fun _ _ _=>rfl) (fun _ h=>h) (fun _ _ _ h=>h) hm (by simp));rw[←iJ.2]at this;refine⟨_,.bZ (eK.trans hb) hg hf ml dy hz hlen kq bV iJ.1 this,fun R hR=>?_⟩;rw[hS];refine List.Perm.cons _ ?_;show List.Perm _ ((S1++(S'++S3))++R);rw[List.append_assoc,List.append_assoc]
      refine List.Perm.append_left S1 ((hR.append_right S3).trans ?_);rw[List.append_assoc];exact List.perm_append_comm.append_left _
     have c9:=(qh kq jb).1;have VM:∀{e':List TV},i<es.length→e'.length=z→∀p∈(i,e')::op,p.1<es.length∧p.2.length=z:=fun h1 h2 p hp=>by
      rcases List.mem_cons.1 hp with rfl |hp
      ·exact⟨h1,h2⟩
      ·exact jb p hp
     have VO:∀{e':List TV},i<es.length→e'.length=z→∀p∈[(i,e')],p.1<es.length∧p.2.length=z:=fun h1 h2 p hp=>by
      simp only[List.mem_singleton]at hp;subst hp;exact⟨h1,h2⟩
     unfold Fg at hw;split at hw
     ·obtain⟨e,he,hw⟩:=hw;exact row (fun e'=>[(i,e')]) e he (fun e' ql=>⟨VO (List.getElem?_eq_some_iff.1 he).1 ql,rfl⟩) hw
     ·rename_i j ej;obtain⟨o1,o2⟩:=jb (j,ej) (by simp);by_cases Uo:i=j
      ·subst Uo;exact row (fun e'=>[(i,e')]) ej (by show(es.set i ej)[i]? =_;rw[List.getElem?_set_self o1]) (fun e' ql=>⟨VO o1 ql,by show es.set i e'=(es.set i ej).set i e';rw[List.set_set]⟩) (hw.1 rfl)
      ·obtain⟨e,he,hw⟩:=hw.2 Uo;have Qa:(es.set j ej)[i]? =some e:=by rw[List.getElem?_set,if_neg (fun h=>Uo h.symm)];exact he
       exact row (fun e'=>(i,e')::[(j,ej)]) e Qa (fun e' ql=>⟨VM (List.getElem?_eq_some_iff.1 he).1 ql,rfl⟩) hw
     ·obtain⟨e,he,hw⟩:=hw;exact row (fun e'=>(i,e')::op) e he (fun e' ql=>⟨VM (by rw[←c9];exact(List.getElem?_eq_some_iff.1 he).1) ql,rfl⟩) hw
   ·exact hw.elim
  ·exact hw.elim
theorem nY {kd:TypeDesc} {k:Value} {n:Nat} (hk:kindOk kd k n=true):(∃b,kd= .bool∧k= .bool b∧n=1)∨(∃s,kd= .string∧k= .string s∧n=2)∨(∃i x,kd= .int i∧k= .int i x∧n=gQ i):=by
 unfold kindOk at hk;simp only[Bool.and_eq_true,beq_iff,aI]at hk;obtain⟨⟨h0,h1⟩,h2⟩:=hk;cases kd<;>simp[uI]at h1<;>try omega
 ·cases k<;>simp[aQ]at h2<;>try omega
  ·exact .inl ⟨_,rfl,rfl,h1.symm⟩
  ·rename_i i x;subst h1;cases i<;>simp[gQ]at h2
 ·rename_i i;cases k<;>simp[aQ]at h2<;>try omega
  ·subst h1;cases i<;>simp[gQ]at h2
  ·rename_i j x;have:i=j:=by subst h1;cases i<;>cases j<;>simp[gQ]at h2<;>rfl
   subst this;exact .inr (.inr ⟨_,_,rfl,rfl,h1.symm⟩)
  ·subst h1;cases i<;>simp[gQ]at h2
 ·cases k<;>simp[aQ]at h2<;>try omega
  ·rename_i i x;subst h1;cases i<;>simp[gQ]at h2
  ·exact .inr (.inl ⟨_,rfl,rfl,h1.symm⟩)
theorem ik {kd:TypeDesc} {k:Value} {n:Nat} (hk:kindOk kd k n=true):gu kd=true∧scalar k=true:=by
 rcases nY hk with⟨_,rfl,rfl,_⟩|⟨_,rfl,rfl,_⟩|⟨_,_,rfl,rfl,_⟩<;>exact⟨rfl,rfl⟩
theorem iC {kd:TypeDesc} {k k':Value} {n:Nat} (hk:kindOk kd k n=true) (nN:aQ k'=n):Instr.sameNow kd k k'=some (oG k k'):=by
 rcases nY hk with⟨b,rfl,rfl,rfl⟩|⟨s,rfl,rfl,rfl⟩|⟨i,x,rfl,rfl,rfl⟩
 ·cases k'<;>simp[aQ]at nN
  ·rfl
  ·rename_i j y;cases j<;>simp[gQ]at nN
 ·cases k'<;>simp[aQ]at nN
  ·rename_i j y;cases j<;>simp[gQ]at nN
  ·rfl
 ·cases k'<;>simp[aQ]at nN<;>try(cases i<;>simp[gQ]at nN;done)
  rename_i j y;have:i=j:=by cases i<;>cases j<;>simp[gQ]at nN<;>rfl
  subst this;simp[Instr.sameNow,oG]
def rL (c:Nat) (ρ:Gh) (F:Nat→Prop) (h:ah) (kd:Nat) (es:List (Value×TV)) (bD:List MapEntry):Prop:=
 es.length=bD.length∧∀(i:Nat) e e',es[i]? =some e→bD[i]? =some e'→e'.key=e.1∧(0<kd∧aQ e.1=kd)∧Bc e.2=true∧VR c ρ F h e.2 e'.val
theorem rL.aH {kd:Nat} {e:Value×TV} {es:List (Value×TV)} {bD:List MapEntry} (H:rL c ρ F h kd (e::es) bD):∃e' m,bD=e'::m∧e'.key=e.1∧(0<kd∧aQ e.1=kd)∧Bc e.2=true∧VR c ρ F h e.2 e'.val∧rL c ρ F h kd es m:=by
 match bD,H with
 |[],H=>have:=H.1;simp at this
 |e'::m,H=>
  obtain⟨h1,h2,h3,h4⟩:=H.2 0 e e' rfl rfl;exact⟨e',m,rfl,h1,h2,h3,h4,by simpa using H.1,fun i x x' q1 q2=>H.2 (i+1) x x' (by simpa using q1) (by simpa using q2)⟩
theorem rL.bz {kd:Nat} {bD:List MapEntry} (H:rL c ρ F h kd [] bD):bD=[]:=by have:=H.1;cases bD<;>simp_all
theorem qo {kd:TypeDesc} {k:Value} {n:Nat} (hk:kindOk kd k n=true):∀{es:List (Value×TV)} {bD:List MapEntry} (i:Nat),rL c ρ F h n es bD→
 (match fI es k with
 |some v=>∃j x,Instr.findNow kd k bD i=some (some (i+j,x))∧VR c ρ F h v x∧Bc v=true∧∃e,bD[j]? =some e∧e.val=x
 |none=>Instr.findNow kd k bD i=some none)
 |[],bD,i,H=>by rw[H.bz];rfl
 |e::es,bD,i,H=>by
  obtain⟨e',m,rfl,h1,h2,h3,h4,h5⟩:=H.aH;unfold fI Instr.findNow;rw[h1,iC hk h2.2];cases hq:oG k e.1 with
  |true=>exact⟨0,e'.val,rfl,h4,h3,e',rfl,rfl⟩
  |false=>
   have ih:=qo hk (i+1) h5;simp only
   split
   ·rename_i v hv;rw[hv]at ih;obtain⟨j,x,q1,q2,q3,e2,q4,q5⟩:=ih;exact⟨j+1,x,by rw[q1];congr 3;omega,q2,q3,e2,by simpa using q4,q5⟩
   ·rename_i hv;rw[hv]at ih;exact ih
theorem zR {t:TV} (hf:fz t=true):Dp t=true:=by
 unfold fz at hf;split at hf
 ·rename_i v;cases v<;>first|rfl |simp[uH]at hf
 ·rfl
 ·rfl
 ·rfl
 ·cases hf
theorem Kg {t:TV} {x:Value} (hv:VR c ρ F h t x) (hf:Bc t=true):Aw x x=true:=by
 have one:iq x x=true→Aw x x=true:=fun h=>by
  unfold Aw;split
  ·simp[iq]at h
  ·exact h
 unfold Bc at hf;split at hf
 ·obtain⟨a,rfl,h1⟩:=hv.eC;exact rI h1 (List.all_eq_true.2 fun t ht=>zR (List.all_eq_true.1 hf t ht))
 ·exact one (fK hv (zR hf))
theorem rL.refl {kd:Nat}:∀{es:List (Value×TV)} {bD:List MapEntry},rL c ρ F h kd es bD→ub bD bD=true
 |[],bD,H=>by rw[H.bz];rfl
 |e::es,bD,H=>by
  obtain⟨e',m,rfl,h1,h2,h3,h4,h5⟩:=H.aH;simp only[ub,Bool.and_eq_true];refine⟨⟨⟨?_,Kg h4 h3⟩,by simp⟩,h5.refl⟩;rw[h1];have:=h2.2;cases he:e.1<;>rw[he]at this<;>simp[aQ]at this<;>try omega
  all_goals simp[Aw,iq]
theorem u6 {a b:ByteArray}:(a==b)=true↔a=b:=by
 cases a;cases b;show(Array.instBEq.beq _ _)=true↔_;simp
theorem Kh {kd:TypeDesc} {k k':Value} {n:Nat} (hk:kindOk kd k n=true) (nN:aQ k'=n) (h:oG k k'=true):k=k':=by
 rcases nY hk with⟨b,rfl,rfl,rfl⟩|⟨s,rfl,rfl,rfl⟩|⟨i,x,rfl,rfl,rfl⟩
 ·cases k'<;>simp[aQ]at nN
  ·simpa[oG]using h
  ·rename_i j y;cases j<;>simp[gQ]at nN
 ·cases k'<;>simp[aQ]at nN
  ·rename_i j y;cases j<;>simp[gQ]at nN
  ·simp only[oG]at h;rw[u6.1 h]
 ·cases k'<;>simp[aQ]at nN<;>try(cases i<;>simp[gQ]at nN;done)
  rename_i j y;have:i=j:=by cases i<;>cases j<;>simp[gQ]at nN<;>rfl
  subst this;simpa[oG]using h
theorem qp {kd:TypeDesc} {k:Value} {n:Nat} (hk:kindOk kd k n=true):oG k k=true:=by
 rcases nY hk with⟨b,rfl,rfl,rfl⟩|⟨s,rfl,rfl,rfl⟩|⟨i,x,rfl,rfl,rfl⟩<;>simp[oG,u6]
theorem Ki {a b c:Value} (h:oG a b=true):oG c b=oG c a:=by
 unfold oG at h;split at h
 ·have:=eq_of_beq h;subst this;cases c<;>rfl
 ·have:=eq_of_beq h;subst this;cases c<;>rfl
 ·have:=u6.1 h;subst this;cases c<;>rfl
 ·cases h
theorem gG.find {base:Nat} {kd:TypeDesc} {k:Value} {n:Nat} (hk:kindOk kd k n=true):∀{M:List (Value×TV)} {ev:List MapEntry} {S:Ft} (i:Nat),gG c ρ F h base n S M ev→
 (match fI M k with
 |some v=>∃j x S1 S2 S3,Instr.findNow kd k ev i=some (some (i+j,x))∧S=S1++(S2++S3)∧cp c ρ F h base S2 (ax v) x.cells.toList∧cP v=eR x∧
  ∀c' ρ' v' N0,(∀e∈M,∀t∈ax e.2,kM t=true)→cp c' ρ' F h base N0 (ax v') x.cells.toList→cP v'=eR x→gG c' ρ' F h base n (S1++(N0++S3)) (dc M k v') ev
 |none=>Instr.findNow kd k ev i=some none)
 |[],ev,S,i,H=>by cases H;rfl
 |e::es,ev,S,i,H=>by
  cases H with
  |cons kr gB ha hv hl=>
   rename_i Sa Sb e' m;unfold fI Instr.findNow;rw[kr,iC hk gB.2];cases hq:oG k e.1 with
   |true=>
    refine⟨0,e'.val,[],Sa,Sb,rfl,rfl,hv,ha,fun c' ρ' v' N0 bV w9 uh=>?_⟩;unfold dc;rw[hq];have:=Kh hk gB.2 hq;subst this;have:=gG.cons (e:=(e.1,v')) kr gB uh w9 (hl.conv (c':=c') (ρ':=ρ') fun e he=>bV e (List.mem_cons_of_mem _ he));exact this
   |false=>
    have ih:=gG.find hk (i+1) hl;simp only
    split
    ·rename_i v JE;rw[JE]at ih;obtain⟨j,x,S1,S2,S3,q1,q2,q3,q4,q5⟩:=ih;refine⟨j+1,x,Sa++S1,S2,S3,by rw[q1];congr 3;omega,by rw[q2,List.append_assoc],q3,q4,fun c' ρ' v' N0 bV w9 uh=>?_⟩;unfold dc;rw[hq,List.append_assoc];exact .cons kr gB ha (hv.conv (bV e List.mem_cons_self)) (q5 c' ρ' v' N0 (fun e he=>bV e (List.mem_cons_of_mem _ he)) w9 uh)
    ·rename_i JE;rw[JE]at ih;exact ih
theorem VR.dT {v:TV} {x:Value} (H:dh c ρ F h (ax v) x.cells.toList) (ha:cP v=eR x):VR c ρ F h v x:=by
 cases v with
 |agg cs=>
  cases x<;>simp[cP,eR]at ha;exact .fx H
 |_=>
  have hx:x.cells= #[x]:=by cases x<;>first|rfl |simp[cP,eR]at ha
  rw[hx]at H;exact H.head
theorem wU {b:Bool} {l:List TV} {v:TV} {x:Value} (ho:dT b l=some v) (H:dh c ρ F h l x.cells.toList) (ha:b=eR x):ax v=l∧cP v=b∧VR c ρ F h v x:=by
 unfold dT at ho;split at ho
 ·cases ho;refine⟨rfl,rfl,?_⟩;cases x<;>simp[eR]at ha;exact .fx H
 ·cases ho;have hx:x.cells= #[x]:=by cases x<;>first|rfl |simp[eR]at ha
  rw[hx]at H;have hv:=H.head;have hn:∀cs,v≠ .agg cs:=by
   rintro cs rfl;obtain⟨a,rfl,_⟩:=hv.eC;simp[eR]at ha
  refine⟨?_,?_,hv⟩
  ·cases v<;>first|rfl |exact absurd rfl (hn _)
  ·cases v<;>first|rfl |exact absurd rfl (hn _)
 ·cases ho
theorem Kj {base:Nat} {S:Ft} {t:TV} {x:Value} (H:CR F h base S (.c t x)):iq x x=true:=by
 cases H with
 |fz hf hv=>exact fK hv (zR hf)
 |own hl hv=>
  rename_i y l;cases y with
  |cells cs=>exact fK hv rfl
  |map kd es=>exact fK hv rfl
  |dY kd es op=>exact fK hv rfl
  |arr z w es=>exact fK hv rfl
  |bZ z es op=>exact fK hv rfl
  |fM ks=>cases hv;simp[iq]
theorem cp.fw {base:Nat} {S:Ft} {l:List TV} {m:List Value} (H:cp c ρ F h base S l m):(∀t∈l,Dp t=true∨kM t=true)→fw m m=true:=by
 induction H with
 |nil=>intro _;rfl
 |vr hv _ ih=>
  rename_i t v l m _;intro hc;simp only[M.fw,Bool.and_eq_true];refine⟨?_,ih fun t ht=>hc t (List.mem_cons_of_mem _ ht)⟩;rcases hc t List.mem_cons_self with h1|h1
  ·exact fK hv h1
  ·unfold kM at h1;split at h1
   ·cases hv
   ·exact fK hv (zR h1)
 |cl hv _ ih=>
  intro hc;simp only[M.fw,Bool.and_eq_true];exact⟨Kj hv,ih fun t ht=>hc t (List.mem_cons_of_mem _ ht)⟩
theorem Hh {x:Value} (h:fw x.cells.toList x.cells.toList=true):Aw x x=true:=by
 cases x with
 |agg a=>exact h
 |_=>simpa[Aw,fw,Value.cells]using h
theorem gG.refl {base kd:Nat} {S:Ft} {l:List (Value×TV)} {m:List MapEntry} (H:gG c ρ F h base kd S l m):(∀e∈l,∀t∈ax e.2,Dp t=true∨kM t=true)→ub m m=true:=by
 induction H with
 |nil=>intro _;rfl
 |cons hk gB ha hv _ ih=>
  rename_i e e' l m _;intro hc;simp only[ub,Bool.and_eq_true];refine⟨⟨⟨?_,Hh (hv.fw (hc _ List.mem_cons_self))⟩,by simp⟩,ih fun e he=>hc e (List.mem_cons_of_mem _ he)⟩;rw[hk];have:=gB.2;cases he:e.1<;>rw[he]at this<;>simp[aQ]at this<;>try omega
  all_goals simp[Aw,iq]
theorem xI {k k':Value} {v:TV} (bc:oG k k'=false):∀{es:List (Value×TV)},fI (dc es k' v) k=fI es k
 |[]=>by simp[dc,fI,bc]
 |e::es=>by
  unfold dc;cases hq:oG k' e.1 with
  |true=>
   have h2:oG k e.1=false:=(Ki hq).trans bc;simp[fI,bc,h2]
  |false=>
   simp only[fI];rw[xI bc]
theorem gG.kinds {base kd:Nat} {S:Ft} {l:List (Value×TV)} {m:List MapEntry} (H:gG c ρ F h base kd S l m):∀e∈l,aQ e.1=kd:=by
 induction H with
 |nil=>simp
 |cons hk gB ha hv _ ih=>
  intro e he;rcases List.mem_cons.1 he with rfl |he
  ·exact gB.2
  ·exact ih e he
theorem BG {k:Value} {v:TV}:∀{es:List (Value×TV)},(k,v)∈dc es k v
 |[]=>by simp[dc]
 |e::es=>by
  unfold dc;cases oG k e.1 with
  |true=>simp
  |false=>exact List.mem_cons_of_mem _ BG
theorem u7 {kd:TypeDesc} {k:Value} {n:Nat} {v:TV} (hk:kindOk kd k n=true):∀{es:List (Value×TV)},fI (dc es k v) k=some v
 |[]=>by simp[dc,fI,qp hk]
 |e::es=>by
  unfold dc;cases hq:oG k e.1 with
  |true=>simp[fI,qp hk]
  |false=>simp[fI,hq,u7 hk]
theorem Hi (H:Mem X ρ F o c h) {S:Nat→Ft} (K0:MO X ρ F o c h S) {v:TV} {x y:Value} {m b:Nat} {yo:TO} {S1 S2 S3:Ft} {put:TV→TO} {q:RQ} {wrap:TV→TV} (hw:Du v o c (.jK m) put m fun v o c lg=>K (wrap v) o c lg)
 (hl:look o m=some yo) (hS:S m=(b,true)::(S1++(S2++S3))) (hc:cp c ρ F h X.base S2 (ax v) x.cells.toList) (ha:cP v=eR x) (fC:q.run h=some y) (oB:∀c ρ v,VR c ρ F h v x→VR c ρ F h (wrap v) y)
 (jN:eU ρ F o h ρ o h (.jK m) (.rd q h))
 (RT:∀c' ρ' v',ρ' m=ρ m→cp c' ρ' F h X.base [] (ax v') x.cells.toList→cP v'=eR x→OR c' ρ' F h X.base m ((b,true)::(S1++S3)) (put v')):
 g9 X c ρ F h o q K:=by
 unfold Du at hw;split at hw
 ·rename_i oA;obtain⟨Ss,ls,b1,b2,b3⟩:=hc.opened c;have tI:ls.length=0:=by rw[b2.l2,oA];rfl
  have hV:=b3 c ρ (fun _ _ h=>h) om (fun i q hq=>by
   have:=(List.getElem?_eq_some_iff.1 hq).1;omega)
  rw[rJ oA]at hV;exact g9.same H fC (oB _ _ _ (VR.dT hV ha)) hw jN
 ·rename_i q0 new oA;split at hw
  ·rename_i v' hv;have hA:∀ls:List Loc,∀t v,VR c ρ F h t v→VR (c+(new.length+1)) (mz ρ c ls) F h t v:=fun ls t v=>VR.mono om (fun n l hn h1=>by rwa [eL _ _ hn]at h1) (fun n b h1=>by rw[eL _ _ (H.names _ _ h1)];exact h1) (fun _ h=>h) (fun _ _ _ h=>h);obtain⟨Ss,ls,b1,b2,b3⟩:=hc.opened c;rw[oA]at b2;have CU:ls.length=new.length+1:=b2.l2;have hV:=b3 (c+(new.length+1)) (mz ρ c ls) (hA ls) om (fun i q hq=>by rw[qk];exact hq);obtain⟨e1,e2,e3⟩:=wU hv hV ha;have xG:(S m).Perm (((b,true)::(S1++S3))++Ss.flatten):=by
    rw[hS,←b1];refine List.Perm.cons _ ?_;show List.Perm _ ((S1++S3)++S2);rw[List.append_assoc];exact List.perm_append_comm.append_left _
   obtain⟨M,hk⟩:=H.opens K0 (y1:=put v') hl b2 xG (fun _=>RT _ _ v' (eL _ _ (H.lt hl)) (by rw[e1];exact cp.jx hV) (e2.trans ha));cases jN with
   |jK hr hh E4 tj N1=>
    refine⟨_,_,_,_,_,_,fC,⟨M,hk,Nat.le_refl _,fun _ h=>h,fun _ _ _ h=>h⟩,oB _ _ _ e3,hw,.jK (fun n' y' ql _=>⟨?_,eL _ _ (H.lt ql),fun b _=>⟨rfl,fun _ h=>h⟩⟩) rfl hl tj N1⟩;rw[iA,rB b2,if_pos (H.lt ql)];simp only
    rw[dF];by_cases em:n'=m
    ·rw[if_pos em,hl];exact⟨_,rfl⟩
    ·rw[if_neg em];exact⟨_,ql⟩
  ·exact hw.elim
theorem DL (L:bR T E) (H:Mem X ρ F o c h) {t:TypeId} {m k:TV} {ok:Bool} {mv kv:Value} (hw:zy T t m k ok o c K) (hm:VR c ρ F h m mv) (hk:VR c ρ F h k kv):
 (mv= .map none∧g7 c ρ F h o ((E.desc t).bind fun d=>(match(generalizing:=false) d,mv with
  | .map kt elem,.map none=>(E.desc kt).bind fun kd=>(E.zero elem).bind fun z=>bp (gu kd&&scalar kv&&ey z) (some (bif ok then .tuple #[z,.bool false]else z))
  |_,_=>none)) K)∨
 (∃r,mv= .map (some r)∧∃q,((E.desc t).bind fun d=>(match(generalizing:=false) d,mv with
  | .map kt elem,.map (some r)=>(E.desc kt).bind fun kd=>(E.zero elem).bind fun z=>bp (gu kd&&scalar kv&&ey z) (some (RQ.look r kd kv z ok))
  |_,_=>none))=some q∧g9 X c ρ F h o q K):=by
 unfold zy at hw;split at hw
 ·rename_i kt elem hd;split at hw
  ·rename_i kd z wV gB hz;obtain⟨iJ,mi⟩:=L.zero _ _ hz;rw[hk.de.1]
   have hq:∀b,kindOk kd wV (uI kd)=true→((E.desc t).bind fun d=>(match(generalizing:=false) d,Value.map (some b)with
    | .map kt elem,.map (some r)=>(E.desc kt).bind fun kd=>(E.zero elem).bind fun z=>bp (gu kd&&scalar wV&&ey z) (some (RQ.look r kd wV z ok))
    |_,_=>none))=some (RQ.look b kd wV z ok):=by
    intro b jd;obtain⟨AA,Hj⟩:=ik jd;rw[L.desc _ _ hd];simp only[Option.bind_some,L.desc _ _ gB,iJ,AA,Hj,mi,Bool.and_self,bp]
   have Nd:∀{n},kindOk kd wV n=true→kindOk kd wV (uI kd)=true:=fun {n} h=>by
    have h0:=h;unfold kindOk at h0 ⊢;simp only[Bool.and_eq_true,beq_iff]at h0 ⊢;obtain⟨⟨q1,q2⟩,q3⟩:=h0;subst q2;exact⟨⟨q1,trivial⟩,q3⟩
   split at hw
   ·rename_i n;right;split at hw
    ·rename_i kn es hl;split at hw
     ·rename_i jd;obtain⟨r,hr,hw⟩:=hw;obtain⟨Sm,hO⟩:=H.bN hl;cases hO with
      |map hb hg hlen hc bU=>
       rename_i b clock bD;have hE:rL c ρ F h kn es bD:=⟨hlen,hc⟩;cases hm with
       |mp bJ=>
        rw[hb]at bJ;cases bJ;refine⟨b,rfl,_,hq b (Nd jd),?_⟩;have zS:dV h b=some (bD,clock):=by unfold dV;rw[hg]
        have jN:eU ρ F o h ρ o h (.jK n) (.rd (RQ.look b kd wV z ok) h):=.jK (.refl _) rfl hl (.inl hb) ⟨_,zS,hE.refl⟩;have hf:=qo jd 0 hE;rw[hr]at hf;cases r with
        |some v=>
         obtain⟨j,x,q1,q2,_⟩:=hf;simp only at hw;cases ok with
         |true=>exact g9.same H (by simp[RQ.run,zS,iL,q1]) (.gF (.cons q2 (.cons (.s rfl) .nil))) hw jN
         |false=>exact g9.same H (by simp[RQ.run,zS,iL,q1]) q2 hw jN
        |none=>
         simp only at hw hf;cases ok with
         |true=>exact g9.same H (by simp[RQ.run,zS,iL,hf]) (.gF (.cons (pj mi) (.cons (.s rfl) .nil))) hw jN
         |false=>exact g9.same H (by simp[RQ.run,zS,iL,hf]) (pj mi) hw jN
     ·exact hw.elim
    ·rename_i kn es op hl;split at hw
     ·rename_i jd;obtain⟨S,K0⟩:=H.ex;have hO:=K0.bN n _ hl;generalize hS:S n=Sm at hO;cases hO with
      |dY hb hg bV hc bU=>
       rename_i Sq b clock ev;cases hm with
       |mp bJ=>
        rw[hb]at bJ;cases bJ;refine⟨b,rfl,_,hq b (Nd jd),?_⟩;have zS:dV h b=some (ev,clock):=by unfold dV;rw[hg]
        have VP:∀{M:List (Value×TV)} {S0:Ft} {lg:VL},gG c ρ F h X.base kn S0 M ev→fI M wV=none→eU ρ F o h ρ o h lg (.rd (RQ.look b kd wV z ok) h)→K (JZ ok (cT z) false) o c lg→g9 X c ρ F h o (RQ.look b kd wV z ok) K:=by
         intro M S0 lg hE Az jN hw;have hf:=hE.find jd 0;rw[Az]at hf;simp only at hf;cases ok with
         |true=>exact g9.same H (by simp[RQ.run,zS,iL,hf]) (.gF (.cons (pj mi) (.cons (.s rfl) .nil))) hw jN
         |false=>exact g9.same H (by simp[RQ.run,zS,iL,hf]) (pj mi) hw jN
        have met:∀{M:List (Value×TV)} {S0:Ft} {lg:VL} {v:TV},gG c ρ F h X.base kn S0 M ev→fI M wV=some v→(ax v).all dM=true→eU ρ F o h ρ o h lg (.rd (RQ.look b kd wV z ok) h)→K (JZ ok v true) o c lg→g9 X c ρ F h o (RQ.look b kd wV z ok) K:=by
         intro M S0 lg v hE hv hp jN hw;have hf:=hE.find jd 0;rw[hv]at hf;obtain⟨j,x,S1,S2,S3,q1,q2,q3,q4,_⟩:=hf;obtain⟨hV,_⟩:=q3.Uk (fun t v hv hf=>hv.dm hf) hp;have hx:=VR.dT hV q4;cases ok with
         |true=>exact g9.same H (by simp[RQ.run,zS,iL,q1]) (.gF (.cons hx (.cons (.s rfl) .nil))) hw jN
         |false=>exact g9.same H (by simp[RQ.run,zS,iL,q1]) hx hw jN
        split at hw
        ·obtain⟨r,hr,hw⟩:=hw;have hE:gG c ρ F h X.base kn Sq es ev:=hc;have jN:eU ρ F o h ρ o h (.jK n) (.rd (RQ.look b kd wV z ok) h):=.jK (.refl _) rfl hl (.inl hb) ⟨_,zS,hE.refl fun e he t ht=>.inr (bV e he t ht)⟩;cases r with
         |none=>simp only at hw;exact VP hE hr jN hw
         |some v=>
          simp only at hw;have hf:=hE.find jd 0;rw[hr]at hf;obtain⟨j,x,S1,S2,S3,q1,q2,q3,q4,q5⟩:=hf;refine Hi H K0 (x:=x) (y:=bif ok then .tuple #[x,.bool true]else x) (wrap:=fun v=>JZ ok v true) hw hl (by rw[hS,q2]) q3 q4 (by simp[RQ.run,zS,iL,q1]) (fun c ρ v hv=>?_) jN fun c' ρ' v' eK w9 uh=>?_
          ·cases ok with
           |true=>exact .gF (.cons hv (.cons (.s rfl) .nil))
           |false=>exact hv
          ·exact .dY (eK.trans hb) hg bV (q5 c' ρ' v' [] bV w9 uh) bU
        ·rename_i k' w;obtain⟨Jf,N3⟩:=hw;have hE:gG c ρ F h X.base kn Sq (dc es k' w) ev:=hc;have jN:eU ρ F o h ρ o h (JW (ax w) (.jK n)) (.rd (RQ.look b kd wV z ok) h):=by
          unfold JW;split
          ·rename_i he;refine .jK (.refl _) rfl hl (.inl hb) ⟨_,zS,hE.refl fun e AG t ht=>?_⟩;rcases uQ AG with rfl |h1
           ·exact .inl (List.all_eq_true.1 he t ht)
           ·exact .inr (bV e h1 t ht)
          ·exact .bad
         by_cases ek:wV=k'
         ·subst ek;have hv:=u7 (v:=w) (es:=es) jd;have hf:=hE.find jd 0;rw[hv]at hf;obtain⟨j,x,S1,S2,S3,q1,q2,q3,q4,_⟩:=hf;exact met hE hv (Jf rfl).1 jN (Jf rfl).2
         ·obtain⟨r,hr,hw⟩:=N3 ek;have bc:oG wV k'=false:=by
           cases hq:oG wV k' with
           |false=>rfl
           |true=>exact absurd (Kh jd (hE.kinds _ BG) hq) ek
          have:=xI (v:=w) (es:=es) bc;cases r with
          |none=>simp only at hw;exact VP hE (this.trans hr) jN hw
          |some v=>simp only at hw;exact met hE (this.trans hr) hw.1 jN hw.2
        ·exact hw.elim
     ·exact hw.elim
    ·exact hw.elim
   ·left;split at hw
    ·rename_i jd;obtain⟨AA,Hj⟩:=ik jd;have XM:=hm.de.1;subst XM;refine⟨rfl,?_⟩
     have hq:∀y:Value,(bif ok then Value.tuple #[z,.bool false]else z)=y→((E.desc t).bind fun d=>(match d,Value.map none with
            | .map kt elem,.map none=>(E.desc kt).bind fun kd=>(E.zero elem).bind fun z=>bp (gu kd&&scalar wV&&ey z) (some (bif ok then .tuple #[z,.bool false]else z))
            |_,_=>none))=some y:=by
      rintro y rfl;rw[L.desc _ _ hd];simp only[Option.bind_some,L.desc _ _ gB,iJ,AA,Hj,mi,Bool.and_self,bp]
     cases ok with
     |true=>exact⟨_,_,hq _ rfl,.gF (.cons (pj mi) (.cons (.s rfl) .nil)),hw⟩
     |false=>exact⟨_,_,hq _ rfl,pj mi,hw⟩
    ·exact hw.elim
   ·exact hw.elim
  ·exact hw.elim
 ·exact hw.elim
end
section
variable {T E:Env} {X:Cx} {ρ:Gh} {F:Nat→Prop} {o:Ob} {c:Nat} {af:AF} {f:Fr} {h:ah} {p:Oper} {K:OK}
def Zf:Option TO→Option (Nat×List (List TV))
 |some (.arr z _ es)=>some (z,es)
 |_=>none
theorem DM (o:Ob) (m n:Nat):Zf (look (g4 o m) n)=Zf (look o n):=by
 cases hm:look o m with
 |none=>unfold g4;rw[hm]
 |some y=>
  cases y with
  |arr z w es=>
   unfold g4;rw[hm];simp only
   rw[dF];by_cases e:n=m
   ·subst e;rw[if_pos rfl,hm];rfl
   ·rw[if_neg e]
  |_=>unfold g4;rw[hm]
theorem Kk (o:Ob) (n:Nat):cE o (.tk n)=(Zf (look o n)).map fun p=>.sl p.1 p.2 false:=by
 show(match look o n with|some (.arr z _ es)=>some (TV.sl z es false)|_=>none)=_;cases look o n with
 |none=>rfl
 |some y=>cases y<;>rfl
theorem DN (o:Ob) (m:Nat) (t:TV):cE (g4 o m) t=cE o t:=by
 cases t with
 |tk n=>rw[Kk,Kk,DM]
 |lr t v=>cases v<;>try rfl
          rename_i w;cases w<;>rfl
 |cJ g a k=>cases a<;>cases k<;>rfl
 |_=>rfl
theorem u9 (o:Ob) (v t:TV):cE (share1 o v) t=cE o t:=by
 cases v<;>try rfl
 exact DN _ _ _
theorem sR (o:Ob) (v:TV):∀l,mV (share1 o v) l=mV o l
 |[]=>rfl
 |t::l=>by simp only[mV,u9,sR o v l]
theorem Kl {t t':TV} (hf:cE o t=some t'):fz t'=true:=by
 unfold cE at hf;split at hf
 ·split at hf
  ·rename_i hp;cases hf;exact hp
  ·cases hf
 ·cases hf;rfl
 ·split at hf
  ·cases hf;rfl
  ·cases hf
 ·cases hf;rfl
 ·cases hf;rfl
 ·cases hf
theorem tP:∀{l l':List TV},mV o l=some l'→(∀t∈l',fz t=true)∧l'.length=l.length
 |[],l',hf=>by simp[mV]at hf;subst hf;exact⟨by simp,rfl⟩
 |t::l,l',hf=>by
  unfold mV at hf;split at hf
  ·rename_i v' hv;split at hf
   ·rename_i l2 hl;cases hf;obtain⟨h1,h2⟩:=tP hl;refine⟨fun t ht=>?_,by simp[h2]⟩;rcases List.mem_cons.1 ht with rfl |ht
    ·exact Kl hv
    ·exact h1 t ht
   ·cases hf
  ·cases hf
structure nf (X:Cx) (ρ:Gh) (c:Nat) (h:ah) (F:Nat→Prop) (o:Ob) (F':Nat→Prop) (o':Ob):Prop where
 mem:Mem X ρ F' o' c h
 bd:∀t x,VR c ρ F h t x→VR c ρ F' h t x
 FF:∀b,F b→F' b
 wk:∀n y,look o n=some y→∃y',look o' n=some y'∧gR y y'
theorem nf.refl (H:Mem X ρ F o c h):nf X ρ c h F o F o:=⟨H,fun _ _ h=>h,fun _ h=>h,fun _ y hl=>⟨y,hl,gR.refl y⟩⟩
theorem nf.trans {F1 F2:Nat→Prop} {o1 o2:Ob} (A:nf X ρ c h F o F1 o1) (B:nf X ρ c h F1 o1 F2 o2):nf X ρ c h F o F2 o2:=
 ⟨B.mem,fun t x hx=>B.bd t x (A.bd t x hx),fun b hb=>B.FF b (A.FF b hb),fun n y hl=>by
  obtain⟨y1,h1,h2⟩:=A.wk n y hl;obtain⟨y2,h3,h4⟩:=B.wk n y1 h1;exact⟨y2,h3,h2.trans h4⟩⟩
theorem Hk (H:Mem X ρ F o c h) (v:TV):∃F',nf X ρ c h F o F' (share1 o v)∧∀v' x,cE o v=some v'→VR c ρ F h v x→VR c ρ F' h v' x:=by
 cases v with
 |tk n=>
  obtain⟨F',h1,h2,h3,h4⟩:=H.share n;refine⟨F',⟨h1,h2,h3,nb o n⟩,fun v' x hf hx=>?_⟩;unfold cE at hf;simp only at hf;split at hf
  ·rename_i z w es hl;cases hf;exact h4 _ _ _ _ hl hx
  ·cases hf
 |sl z es fl=>
  refine⟨F,.refl H,fun v' x hf hx=>?_⟩;simp only[cE,Option.some.injEq]at hf;subst hf;cases hx with
  |nil he=>exact .nil he
  |sl h1 h2 h3 h4 h5 h6 h7 h8 h9 N4=>exact .sl h1 h2 h3 h4 h5 (fun h=>by cases h) h7 h8 h9 N4
 |s w=>
  refine⟨F,.refl H,fun v' x hf hx=>?_⟩;unfold cE at hf;simp only at hf;split at hf
  ·cases hf;exact hx
  ·cases hf
 |lr t w=>
  refine⟨F,.refl H,fun v' x hf hx=>?_⟩;unfold cE at hf;split at hf<;>simp_all
  all_goals(first|(obtain⟨rfl,rfl⟩:= ‹_∧_›;subst hf;exact hx)|skip)
 |cJ g a k=>
  refine⟨F,.refl H,fun v' x hf hx=>?_⟩;unfold cE at hf;split at hf<;>simp_all
  all_goals(first|(obtain⟨rfl,rfl,rfl⟩:= ‹_∧_∧_›;subst hf;exact hx)|skip)
 |_=>exact⟨F,.refl H,fun v' x hf hx=>by simp[cE]at hf⟩
theorem nZ:∀(l:List TV) {F:Nat→Prop} {o:Ob},Mem X ρ F o c h→∃F',nf X ρ c h F o F' (shares o l)∧∀l' m,mV o l=some l'→dh c ρ F h l m→dh c ρ F' h l' m
 |[],F,o,H=>⟨F,.refl H,fun l' m hf hm=>by simp[mV]at hf;subst hf;exact hm⟩
 |v::l,F,o,H=>by
  obtain⟨F1,A,a⟩:=Hk H v;obtain⟨F2,B,b⟩:=nZ l A.mem;refine⟨F2,A.trans B,fun l' m hf hm=>?_⟩;unfold mV at hf;split at hf
  ·rename_i v' hv;split at hf
   ·rename_i l2 hl;cases hf;obtain⟨x,m',rfl,h1,h2⟩:=hm.aH;exact .cons (B.bd _ _ (a v' x hv h1)) (b l2 m' (by rw[sR];exact hl) (h2.oH A.bd))
   ·cases hf
  ·cases hf
theorem N5 (H:Mem X ρ F o c h) (v:TV) (ho:okV v=true):∃F',nf X ρ c h F o F' (shares o (ax v))∧∀v' x,JU o v=some v'→VR c ρ F h v x→VR c ρ F' h v' x∧Bc v'=true:=by
 obtain⟨F',A,a⟩:=nZ (ax v) H;refine⟨F',A,fun v' x hf hx=>?_⟩;have one:(∀cs,v≠ .agg cs)→VR c ρ F' h v' x∧Bc v'=true:=fun CV=>by
  have tM:ax v=[v]:=by cases v<;>first|rfl |exact absurd rfl (CV _)
  have JE:JU o v=cE o v:=by cases v<;>first|rfl |exact absurd rfl (CV _)
  rw[JE]at hf;have fS:=Kl hf;rw[tM]at a;have:=a [v'] [x] (by simp[mV,hf]) (.cons hx .nil);refine⟨this.head,?_⟩;cases v'<;>simp[fz]at fS<;>simp[Bc,fz,fS]
 cases v with
 |agg cs=>
  obtain⟨q,rfl,h1⟩:=hx.eC;simp only[JU]at hf;split at hf
  ·rename_i cs' hc;cases hf;refine⟨.fx (a cs' q.toList hc h1),?_⟩;simp only[Bc];exact List.all_eq_true.2 (tP hc).1
  ·cases hf
 |_=>exact one (by intro cs e;cases e)
theorem Mem.zT (H:Mem X ρ F o c h) {S:Nat→Ft} (K:MO X ρ F o c h S) {n b:Nat} {y:TO} (hl:look o n=some y) (hb:xD ρ n b):b<h.size∧hd h b∈cQ (S n):=by
 rcases(K.bN n y hl).block with⟨b',o',h1,h2,h3,h4⟩|⟨b',z,len,cs,f,t0,eg,c0,t1,ue,h1,h2,h3,h4⟩|⟨z,h1⟩
 ·rcases hb with hb|⟨z,l,hb⟩<;>rw[h1]at hb<;>cases hb
  exact⟨H.wf.lt h2,by rw[h3];exact h4⟩
 ·rcases hb with hb|⟨z,l,hb⟩<;>rw[h1]at hb<;>cases hb
  exact⟨H.wf.lt h2,by rw[bH h2];exact h4⟩
 ·rcases hb with hb|⟨z,l,hb⟩<;>rw[h1]at hb<;>cases hb
theorem Mem.vd (H:Mem X ρ F o c h) {n b:Nat} {y:TO} (hl:look o n=some y) (hb:xD ρ n b):b<h.size:=by
 obtain⟨S,K⟩:=H.ex;exact(H.zT K hl hb).1
theorem ee.alloc {F1:Nat→Prop} {o1:Ob} (H:Mem X ρ F o c h) (S:nf X ρ c h F o F1 o1) {md:Made} {hd:oR} {y:TO} {l:Loc} {v:TV} (hp:aB E af p=none) (hq:bt E af p=none) (ha:aV E af p=some (md,hd))
 (hM:Mem X (bX ρ c (some l)) F1 ((c,y)::o1) (c+1) (h.push (md.obj h.size))) (hk:∀t x,VR c ρ F1 h t x→VR (c+1) (bX ρ c (some l)) F1 (h.push (md.obj h.size)) t x)
 (hv:VR (c+1) (bX ρ c (some l)) F1 (h.push (md.obj h.size)) v (hd.val h.size)) (hK:K v ((c,y)::o1) (c+1) .alloc):ee E X ρ F o c af h p K:=by
 refine⟨0,⟨hd.val h.size,h.push (md.obj h.size),.alloc h (h.push (md.obj h.size))⟩,v,_,_,_,F1,.alloc,fun n _=>?_,hK,⟨hM,fun t x hx=>hk t x (S.bd t x hx),by rw[ah.size_push];omega,S.FF,fun b cs hb hr=>by rw[dH H.wf.le _ (H.Fo hb)];exact hr⟩,hv,
  .alloc fun n y' hl _=>⟨?_,?_,fun b hb=>?_⟩⟩
 ·unfold dR;rw[hp,hq,ha]
 ·have:=H.lt hl;rw[aC,if_neg om];obtain⟨y2,q1,_⟩:=S.wk n y' hl;exact⟨y2,q1⟩
 ·have:=H.lt hl;rw[aW _ _ om]
 ·have:=H.vd hl hb;exact⟨by rw[ah.ak,if_neg om],fun cs hr=>by rw[dH H.wf.le _ this];exact hr⟩
end
section
variable {T E:Env} {X:Cx} {ρ:Gh} {F:Nat→Prop} {o:Ob} {c:Nat} {af:AF} {f:Fr} {h:ah} {p:Oper} {K:OK}
theorem rM (H:Mem X ρ F o c h) {cs:List TV} {cv:List Value} (hc:dh c ρ F h cs cv) (hp:aB E af p=none) (hq:bt E af p=none) (ha:aV E af p=some (.cells cv,.ptr)) (hK:K (.ptr c 0) ((c,.cells cs)::o) (c+1) .alloc):ee E X ρ F o c af h p K:=by
 obtain⟨h1,h2⟩:=H.J2 hc;exact ee.alloc H (.refl H) (md:=.cells cv) (hd:=.ptr) hp hq ha h1 h2 (.ptr (aD _ _ _)) hK
theorem N6 (H:Mem X ρ F o c h) (kd:Nat) (hp:aB E af p=none) (hq:bt E af p=none) (ha:aV E af p=some (.map,.map)) (hK:K (.mp c) ((c,.map kd [])::o) (c+1) .alloc):ee E X ρ F o c af h p K:=by
 obtain⟨h1,h2⟩:=H.RE kd;exact ee.alloc H (.refl H) (md:=.map) (hd:=.map) hp hq ha h1 h2 (.mp (aD _ _ _)) hK
theorem FA {F1:Nat→Prop} {o1:Ob} (H:Mem X ρ F o c h) (S:nf X ρ c h F o F1 o1) {z cap:Nat} {es:List (List TV)} {cv:List Value} (hE:ER c ρ F1 h z es cv) (hz:0<z) (fG:es.length≤cap)
 (hp:aB E af p=none) (hq:bt E af p=none) (ha:aV E af p=some (.cells cv,.slice z es.length cap)) (hK:K (.tk c) ((c,.arr z true es)::o1) (c+1) .alloc):ee E X ρ F o c af h p K:=by
 obtain⟨h1,h2⟩:=S.mem.zI hE hz;refine ee.alloc H S (md:=.cells cv) (hd:=.slice z es.length cap) hp hq ha h1 h2 (.tk om rfl (fun b z' len hx=>?_) (fun z' hx=>?_)) hK
 ·rw[aD]at hx;cases hx;exact⟨cap,fG,rfl⟩
 ·rw[aD]at hx;cases hx
theorem ER.replicate {z:Nat} {zs:List TV} {zv:List Value} (hz:dh c ρ F h zs zv) (hl:zs.length=z) (hf:zs.all M.fz=true):∀k,ER c ρ F h z (List.replicate k zs) (aG zv k)
 |0=>.nil z
 |k+1=>by
  have ih:=ER.replicate hz hl hf k;have h1:ER c ρ F h z [zs] zv:=by
   refine⟨by rw[←hz.1,hl];simp,fun e he=>by simp at he;subst he;exact hl,fun e he t ht=>by simp at he;subst he;exact List.all_eq_true.1 hf t ht,fun i j e t v q1 q2 q3=>?_⟩;cases i with
   |zero=>simp at q1;subst q1;exact hz.2 j t v q2 (by simpa using q3)
   |succ i=>simp at q1
  exact h1.append ih
theorem j4 {α:Type}:∀{n:Nat} {l xs:List α},n+xs.length≤l.length→∃r,cF l n xs=some r
 |0,l,[],_=>⟨l,by simp[cF]⟩
 |0,[],x::xs,h=>by simp at h
 |0,y::l,x::xs,h=>by
  obtain⟨r,hr⟩:=j4 (n:=0) (l:=l) (xs:=xs) (by simp at h ⊢;omega);exact⟨x::r,by simp[cF,hr]⟩
 |n+1,[],xs,h=>by simp at h
 |n+1,y::l,xs,h=>by
  obtain⟨r,hr⟩:=j4 (n:=n) (l:=l) (xs:=xs) (by simp at h ⊢;omega);exact⟨y::r,by simp[cF,hr]⟩
theorem ve {α:Type}:∀{l r:List α} {n:Nat} {x:α},setAt l n x=some r→n<l.length∧r.length=l.length∧∀i,r[i]? =if i=n then some x else l[i]?
 |[],r,n,x,h=>by simp[setAt]at h
 |y::l,r,0,x,h=>by
  simp[setAt]at h;subst h;refine⟨by simp,by simp,fun i=>?_⟩;cases i<;>simp
 |y::l,r,n+1,x,h=>by
  unfold setAt at h;split at h
  ·rename_i l' hl;cases h;obtain⟨h1,h2,h3⟩:=ve hl;refine⟨by simp;omega,by simp[h2],fun i=>?_⟩;cases i with
   |zero=>simp
   |succ i=>simp[h3 i]
  ·cases h
theorem ER.setAt {z:Nat} {es bD:List (List TV)} {cs:List Value} {l:List TV} {i:Nat} (A:ER c ρ F h z es cs) (hs:∀j,bD[j]? =if j=i then some l else es[j]?) (hlen:bD.length=es.length) (hi:i<es.length) (hl:l.length=z) (hf:∀t∈l,M.fz t=true)
 {cs':List Value} (hc:cs'.length=cs.length) (M8:∀j t v,l[j]? =some t→cs'[i*z+j]? =some v→VR c ρ F h t v) (Q2:∀k,(k<i*z∨(i+1)*z≤k)→cs'[k]? =cs[k]?):ER c ρ F h z bD cs':=by
 have key:∀j e,bD[j]? =some e→(j=i∧e=l)∨(j≠i∧es[j]? =some e):=fun j e he=>by
  rw[hs]at he;by_cases e1:j=i
  ·rw[if_pos e1]at he;cases he;exact .inl ⟨e1,rfl⟩
  ·rw[if_neg e1]at he;exact .inr ⟨e1,he⟩
 refine⟨by rw[hc,hlen,A.len],fun e he=>?_,fun e he=>?_,fun j k e t v q1 q2 q3=>?_⟩
 ·obtain⟨j,hj⟩:=List.getElem?_of_mem he;rcases key j e hj with⟨_,rfl⟩|⟨_,h1⟩
  ·exact hl
  ·exact A.each e (List.mem_of_getElem? h1)
 ·obtain⟨j,hj⟩:=List.getElem?_of_mem he;rcases key j e hj with⟨_,rfl⟩|⟨_,h1⟩
  ·exact hf
  ·exact A.fz e (List.mem_of_getElem? h1)
 ·rcases key j e q1 with⟨rfl,rfl⟩|⟨h1,h2⟩
  ·exact M8 k t v q2 q3
  ·have hk:k<z:=by rw[←A.each e (List.mem_of_getElem? h2)];exact(List.getElem?_eq_some_iff.1 q2).1
   refine A.cell j k e t v h2 q2 ?_;rw[←q3];refine(Q2 _ ?_).symm;rcases Nat.lt_or_gt_of_ne h1 with h3|h3
   ·left;have:(j+1)*z≤i*z:=Nat.mul_le_mul_right z h3;rw[Nat.add_mul]at this;omega
   ·right;have:(i+1)*z≤j*z:=Nat.mul_le_mul_right z h3;omega
theorem xJ {n:Nat}:∀{ps:List (Nat×TV)} {o:Ob} {F:Nat→Prop} {es bD:List (List TV)} {cs:List Value} {pv:List (Nat×Value)},Mem X ρ F o c h→p6 o n es ps=some bD→ER c ρ F h n es cs→NU c ρ F h ps pv→
 ∃F' cv,nf X ρ c h F o F' (zB o ps)∧iQ (fun i=>some (i*n,n)) cs pv=some cv∧ER c ρ F' h n bD cv∧bD.length=es.length
 |[],o,F,es,bD,cs,[],H,hf,hE,_=>by simp[p6]at hf;subst hf;exact⟨F,cs,.refl H,rfl,hE,rfl⟩
 |[],o,F,es,bD,cs,_::_,H,hf,hE,hq=>hq.elim
 |a::l,o,F,es,bD,cs,[],H,hf,hE,hq=>hq.elim
 |a::l,o,F,es,bD,cs,b::m,H,hf,hE,hq=>by
  obtain⟨e,hv,hr⟩:=hq;unfold p6 at hf;split at hf
  ·rename_i l1 hc fS;simp only[Bool.and_eq_true,beq_iff]at hc;split at hf
   ·rename_i VQ gC;obtain⟨s1,s2,s3⟩:=ve gC;obtain⟨F1,A,a1⟩:=nZ (ax a.2) H;obtain⟨f1,f2⟩:=tP fS;have qn:=a1 l1 _ fS (g8 hv hc.1);have CU:l1.length=n:=by omega
    have hE1:=hE.mono A.bd;have P4:b.2.cells.toList.length=n:=by rw[←qn.1];exact CU
    have hle:a.1*n+b.2.cells.toList.length≤cs.length:=by
     rw[P4,hE.len];have:(a.1+1)*n≤es.length*n:=Nat.mul_le_mul_right n s1;rw[Nat.add_mul]at this;omega
    obtain⟨qV,zU⟩:=j4 hle;obtain⟨t1,t2,t3⟩:=cV zU;have VS:ER c ρ F1 h n VQ qV:=by
     refine hE1.setAt s3 s2 s1 CU f1 t2 (fun j t v q1 q2=>?_) (fun k hk=>?_)
     ·have hj:j<l1.length:=(List.getElem?_eq_some_iff.1 q1).1;rw[t3,if_pos ⟨om,om⟩]at q2;exact qn.2 j t v q1 (by rw[←q2];congr 1;omega)
     ·rw[t3,if_neg];rw[Nat.add_mul]at hk;omega
    have Zg:p6 (shares o (ax a.2)) n VQ l=some bD:=by
     have key:∀(o1:Ob),(∀t,cE o1 t=cE o t)→∀(l:List (Nat×TV)) (es:List (List TV)),p6 o1 n es l=p6 o n es l:=by
      intro o1 h1 l;have h2:∀q,mV o1 q=mV o q:=by
       intro q
       induction q with
       |nil=>rfl
       |cons t q ih=>simp only[mV,h1,ih]
      induction l with
      |nil=>intro es;rfl
      |cons p l ih=>
       intro es;simp only[p6,h2,ih]
     rw[key _ (fun t=>?_)];·exact hf
     have:∀(q:List TV) (o1:Ob),cE (shares o1 q) t=cE o1 t:=by
      intro q
      induction q with
      |nil=>intro o1;rfl
      |cons v q ih=>intro o1;simp only[shares];rw[ih,u9]
     exact this _ _
    have mC:NU c ρ F1 h l m:=by
     have:∀(l:List (Nat×TV)) (m:List (Nat×Value)),NU c ρ F h l m→NU c ρ F1 h l m:=by
      intro l
      induction l with
      |nil=>intro m hm;cases m<;>exact hm
      |cons p l ih=>
       intro m hm;cases m with
       |nil=>exact hm
       |cons q m=>exact⟨hm.1,A.bd _ _ hm.2.1,ih m hm.2.2⟩
     exact this l m hr
    obtain⟨F2,cv,B,b1,b2,b3⟩:=xJ A.mem Zg VS mC;refine⟨F2,cv,A.trans B,?_,b2,by rw[b3,s2]⟩;obtain⟨i,x⟩:=b;simp only at e;subst e;simp only[iQ,Option.bind_some];have:x.cells.size=n:=by simpa using P4
    rw[this];simp only at zU;simp[bp,zU,b1]
   ·cases hf
  ·cases hf
end
end Go.M
