/-
  Part 7 of the library that the proof leans on.
-/
import Derived.Test.YtpkdpgcpmeibpaaGreatDoorL6
namespace Go.M
open Go
def BJ (ρ:Gh) (n b:Nat):Prop:=ρ n=some (.dw b)∨∃z l,ρ n=some (.arr b z l)
def mS (q:RQ) (h:ab):Prop:=match q with
 | .cells _ b o n=>∃l,an h b o n=some l∧kY l l=true
 | .look r _ _ _ _| .len r=>∃m,ff h r=some m∧x9 m.1 m.1=true
structure Nx (X:Cx) (ρ:Gh) (F:Nat→Prop) (o:Ob) (c:Nat) (h:ab) (ρ':Gh) (F':Nat→Prop) (o':Ob) (c':Nat) (h':ab):Prop where
 mem:Mem X ρ' F' o' c' h'
 bA:∀t x,VR c ρ F h t x→VR c' ρ' F' h' t x
 size:h.size≤h'.size
 FF:∀b,F b→F' b
 dn:∀b cs,F b→h.rd b=some cs→h'.rd b=some cs
def Raw (ρ:Gh) (o:Ob) (h:ab) (ρ':Gh) (o':Ob) (h':ab) (ns:List Nat):Prop:=
 ∀n y,look o n=some y→n∉ns→(∃y',look o' n=some y')∧ρ' n=ρ n∧∀b,BJ ρ n b→h'.get b=h.get b∧∀cs,h.rd b=some cs→h'.rd b=some cs
def lQ (ρ:Gh) (v:TV) (x:Value):Prop:=(∃k b,v= .mp k∧ρ k=some (.dw b)∧x= .map (some b))∨∃k q b,v= .ptr k q∧ρ k=some (.dw b)∧x= .pointer (some ⟨b,q,none⟩)
inductive gi (ρ:Gh) (F:Nat→Prop) (o:Ob) (h:ab) (ρ':Gh) (o':Ob) (h':ab):VL→eD→Prop
 |pure (hr:Raw ρ o h ρ' o' h' []) (hh:h'=h):gi ρ F o h ρ' o' h' .pure .pure
 |alloc (hr:Raw ρ o h ρ' o' h' []):gi ρ F o h ρ' o' h' .alloc (.alloc h h')
 |JV {q:RQ} (hr:Raw ρ o h ρ' o' h' []) (hh:h'=h) (hF:F q.dw) (hc:∃a b o n,q= .cells a b o n) (hn:mS q h):gi ρ F o h ρ' o' h' .JV (.rd q h)
 |mC {q:RQ} {n:Nat} {y:TO} (hr:Raw ρ o h ρ' o' h' []) (hh:h'=h) (hl:look o n=some y) (hb:BJ ρ n q.dw) (hn:mS q h):gi ρ F o h ρ' o' h' (.mC n) (.rd q h)
 |A4 {n p b:Nat} {v:TV} {x:Value} {y:TO} (hr:Raw ρ o h ρ' o' h' []) (hh:h'=h) (hl:look o n=some y) (hb:ρ n=some (.dw b)) (hx:lQ ρ v x) (gA:an h b p 1=some [x]):gi ρ F o h ρ' o' h' (.A4 n p v) (.rd (.cells false b p 1) h)
 |dE {ns:List Nat} (hr:Raw ρ o h ρ' o' h' ns):gi ρ F o h ρ' o' h' (.dE ns) (.dE h h')
 |pG {ns:List Nat} (hr:Raw ρ o h ρ' o' h' ns) (hh:h'=h):gi ρ F o h ρ' o' h' (.pG ns) (.dE h h')
 |pH (hr:Raw ρ o h ρ' o' h' []) (hG:∀b,b<h.size→h'.get b=h.get b):gi ρ F o h ρ' o' h' .pH (.dE h h')
 |bad {l:eD}:gi ρ F o h ρ' o' h' .bad l
def fv (E:Env) (X:Cx) (ρ:Gh) (F:Nat→Prop) (o:Ob) (c:Nat) (af:AF) (h:ab) (p:Oper) (K:OK):Prop:=
 ∃n0 r v o' c' ρ' F' lg,(∀n,n0≤n→eF E X.base (iK E X.base n) (iw X.base (aX E X.base n)) p af h=some r)∧K v o' c' lg∧
  Nx X ρ F o c h ρ' F' o' c' r.h∧VR c' ρ' F' r.h v r.v∧gi ρ F o h ρ' o' r.h lg r.log
def VT:TV→Value
 | .s v=>v
 |_=>undef
def yV (E:Env) (g:FuncId):Prop:=∀base n args h v h',iK E base n g args h=some (v,h')→h'=h
structure cD (T E:Env):Prop where
 desc:∀t d,T.desc t=some d→E.desc t=some d
 size:∀t n,T.size t=some n→E.size t=some n
 bytes:∀t n,T.bytes t=some n→E.bytes t=some n
 zero:∀t z,T.zero t=some z→E.zero t=some z∧fC z=true
 eq:∀t (a b:Array Value) z xs ys r,T.tu t=true→T.zero t=some z→nq z.cells.toList xs ys=some r→a.toList=xs.map VT→b.toList=ys.map VT→E.tu t=true∧xi E 100 t (.agg a) (.agg b)=some r
 x6:∀g cs,T.x6 g=some cs→E.x6 g=some cs
 still:∀g,T.still g=true→yV E g
theorem nU.sub {T E:Env} {F:Nat→Prop} {h:ab} (L:cD T E) (N:nU E F h):nU T F h:=fun g cs hg=>N g cs (L.x6 g cs hg)
theorem J8:∀(l:List Value),(Lh l).length=l.length
 |[]=>rfl
 |v::l=>by simp[Lh,J8 l]
theorem Ow:∀{l:List Value},l.all Dd=true→∀t∈Lh l,fz t=true
 |[],_,t,ht=>by simp[Lh]at ht
 |v::l,hl,t,ht=>by
  simp only[List.all_cons,Bool.and_eq_true]at hl;simp only[Lh,List.mem_cons]at ht;rcases ht with rfl |ht
  ·have:=hl.1;simp only[Dd,Bool.and_eq_true]at this;exact this.2
  ·exact Ow hl.2 t ht
section
variable {T E:Env} {X:Cx} {ρ:Gh} {F:Nat→Prop} {o:Ob} {c:Nat} {af:AF} {f:Fr} {h:ab} {p:Oper} {K:OK}
theorem Mem.ct (H:Mem X ρ F o c h) {m:Nat} {y:TO} (hl:look o m=some y):∃S,OR c ρ F h X.base m S y:=let⟨S,K⟩:=H.ex;⟨S m,K.ct m y hl⟩
theorem Nx.refl (H:Mem X ρ F o c h):Nx X ρ F o c h ρ F o c h:=⟨H,fun _ _ h=>h,Nat.le_refl _,fun _ h=>h,fun _ _ _ h=>h⟩
theorem Raw.refl (ns:List Nat):Raw ρ o h ρ o h ns:=fun _ y hl _=>⟨⟨y,hl⟩,rfl,fun _ _=>⟨rfl,fun _ h=>h⟩⟩
theorem fv.pure (H:Mem X ρ F o c h) {x:Value} {v:TV} (hp:aZ E af p=some x) (hv:VR c ρ F h v x) (hK:K v o c .pure):fv E X ρ F o c af h p K:=by
 refine⟨0,⟨x,h,.pure⟩,v,o,c,ρ,F,.pure,fun n _=>?_,hK,.refl H,hv,.pure (.refl _) rfl⟩;unfold eF;rw[hp]
theorem fv.Zn (_:Mem X ρ F o c h) {o':Ob} {F':Nat→Prop} (H':Mem X ρ F' o' c h) (hk:∀t x,VR c ρ F h t x→VR c ρ F' h t x) (rV:∀b,F b→F' b) (hw:∀n y,look o n=some y→∃y',look o' n=some y'∧jy y y')
 {x:Value} {v:TV} (hp:aZ E af p=some x) (hv:VR c ρ F' h v x) (hK:K v o' c .pure):fv E X ρ F o c af h p K:=by
 refine⟨0,⟨x,h,.pure⟩,v,o',c,ρ,F',.pure,fun n _=>?_,hK,⟨H',hk,Nat.le_refl _,rV,fun _ _ _ h=>h⟩,hv,.pure (fun n y hl _=>⟨let⟨y',h1,_⟩:=hw n y hl;⟨y',h1⟩,rfl,fun b _=>⟨rfl,fun _ h=>h⟩⟩) rfl⟩;unfold eF;rw[hp]
def dN (c:Nat) (ρ:Gh) (F:Nat→Prop) (h:ab) (f:Fr) (af:AF):Prop:=∀t,VR c ρ F h (sD f t) (af.get t)
theorem qY (L:cD T E) (N:nU T F h) (S:dN c ρ F h f af) {x:Operand} (hx:sH T x=true):∃v,ev E af x=some v∧VR c ρ F h (np T f x) v:=by
 cases x with
 |tmp t=>exact⟨_,rfl,S t⟩
 |const v=>exact⟨v,by simp only[ev,aj,and_true];exact hx,sI hx⟩
 |func g=>exact⟨_,rfl,.dc rfl (fun i t v q=>by simp at q) rfl (fun i t v q=>by simp at q)⟩
 |global g=>
  obtain⟨cs,n3,hx⟩:∃cs,cs.all Dd=true∧T.x6 g=some cs:=by
   simp only[sH]at hx;split at hx
   ·rename_i cs hg;exact⟨cs,hx,hg⟩
   ·cases hx
  obtain⟨n1,n2,_⟩:=N g cs hx;refine⟨.pointer (some ⟨g,0,none⟩),by simp only[ev,Env.dp,L.x6 g cs hx,Option.isSome_some,bO],?_⟩;show VR c ρ F h (match T.x6 g with|some cs=>.ep (Lh cs) 0|none=>.j) _;rw[hx];have:=VR.ep (c:=c) (ρ:=ρ) (F:=F) (h:=h) (e:=Lh cs) (o:=0) (b:=g) (q:=0) (cs:=cs) n1 n2 (by rw[J8];omega) (fun t ht=>Ow n3 t ht) (fun j t v q1 q2=>(tW (List.all_eq_true.2 fun v hv=>by have:=List.all_eq_true.1 n3 v hv;simp only[Dd,Bool.and_eq_true]at this;exact this.1)).2 j t v q1 (by simpa using q2));simpa using this
theorem qh (L:cD T E) (N:nU T F h) (S:dN c ρ F h f af):∀{l:List Operand},l.all (sH T)=true→∃vs,Hs E af l=some vs∧dP c ρ F h (Lj T f l) vs
 |[],_=>⟨[],rfl,.nil⟩
 |x::l,hx=>by
  simp only[List.all_cons,Bool.and_eq_true]at hx;obtain⟨v,h1,h2⟩:=qY (E:=E) L N S hx.1;obtain⟨vs,h3,h4⟩:=qh L N S hx.2;exact⟨v::vs,by simp[Hs,h1,h3],.cons h2 h4⟩
def R7 (c:Nat) (ρ:Gh) (F:Nat→Prop) (h:ab):List (Nat×TV)→List (Nat×Value)→Prop
 |[],[]=>True
 |a::l,b::m=>a.1=b.1∧VR c ρ F h a.2 b.2∧R7 c ρ F h l m
 |_,_=>False
theorem oW (L:cD T E) (N:nU T F h) (S:dN c ρ F h f af):∀{l:List (Nat×Operand)},(l.map (·.2)).all (sH T)=true→∃vs,ja E af l=some vs∧R7 c ρ F h (Di T f l) vs
 |[],_=>⟨[],rfl,trivial⟩
 |(i,x)::l,hx=>by
  simp only[List.map_cons,List.all_cons,Bool.and_eq_true]at hx;obtain⟨v,h1,h2⟩:=qY (E:=E) L N S hx.1;obtain⟨vs,h3,h4⟩:=oW L N S hx.2;exact⟨(i,v)::vs,by simp[ja,h1,h3],rfl,h2,h4⟩
theorem eK {v:TV} {K:TV→Prop} (hf:force v K):K v∧v≠ .j:=by
 cases v<;>simp[force]at hf ⊢ <;>exact hf
theorem Iy {k k':IntKind} {v w:Value} (h:kR k k' v=some w):k=k'∧v=w:=by
 cases k<;>cases k'<;>simp[kR]at h<;>exact⟨rfl,h⟩
theorem Iz (v:Value):fb (pure v:Sem Value)=some v:=rfl
theorem vu {k:IntKind} {x:Int} {v:Value} (h:fb (pure (.int k x):Sem Value)=some v):aB v=true:=by
 rw[Iz]at h;cases h;rfl
theorem J9 {op:BinOp} {k k':IntKind} {x y:Int} {v:Value} (h:Fk op k k' x y=some v) (t:TypeId):fb (binOp op t (.int k x) (.int k' y))=some v∧aB v=true:=by
 cases op<;>simp only[Fk]at h
 case add|sub|mul|eql|neq|lss|leq|gtr|geq=>obtain⟨rfl,rfl⟩:=Iy h;exact⟨by simp[binOp,Op.intArith,Op.intCmp,fb,Pure.pure],rfl⟩
 case quo|rem=>
  refine⟨h,?_⟩;simp only[binOp]at h;split at h
  ·simp[stuck,fb]at h
  ·simp only[Op.intDiv]at h;split at h
   ·have e:fb (runtimePanic (.error "integer divide by zero"):Sem Value)=none:=rfl;rw[e]at h;cases h
   ·exact vu h
 case and|or|xor|andNot=>
  refine⟨h,?_⟩;simp only[binOp]at h;split at h
  ·simp[stuck,fb]at h
  ·exact vu h
 case shl|shr=>
  refine⟨h,?_⟩;simp only[binOp,Op.shift]at h;split at h
  ·have e:fb (runtimePanic (.error "negative shift amount"):Sem Value)=none:=rfl;rw[e]at h;cases h
  ·exact vu h
theorem cD.shape {T E:Env} (L:cD T E) {t:TypeId} {s:Bool×Nat} (h:fa T t=some s):fa E t=some s:=by
 unfold fa at h ⊢;simp only[Option.bind_eq_some_iff]at h ⊢;obtain⟨d,h1,h2⟩:=h;refine⟨d,L.desc t d h1,?_⟩;cases ha:isAgg d with
 |false=>rw[ha]at h2;exact h2
 |true=>
  rw[ha]at h2;simp only[cond_true,Option.bind_eq_some_iff]at h2 ⊢;obtain⟨n,h3,h4⟩:=h2;exact⟨n,L.size t n h3,h4⟩
theorem Ox:∀{zs:List Value} {xs ys:List TV} {r:Bool},nq zs xs ys=some r→(∀t∈xs,∃v,t= .s v)∧(∀t∈ys,∃v,t= .s v)
 |[],[],[],r,_=>⟨by simp,by simp⟩
 |[],[],_::_,r,h=>by simp[nq]at h
 |[],x::l,ys,r,h=>by simp[nq]at h
 |z::zs,[],ys,r,h=>by simp[nq]at h
 |z::zs,x::l,[],r,h=>by cases x<;>simp[nq]at h
 |z::zs,x::l,y::m,r,h=>by
  cases x<;>try(simp[nq]at h;done)
  rename_i v;cases y<;>try(simp[nq]at h;done)
  rename_i w;simp only[nq]at h;split at h
  ·split at h
   ·rename_i hq;obtain⟨k1,k2⟩:=Ox hq;refine⟨fun t ht=>?_,fun t ht=>?_⟩
    ·rcases List.mem_cons.1 ht with rfl |h2
     ·exact⟨_,rfl⟩
     ·exact k1 t h2
    ·rcases List.mem_cons.1 ht with rfl |h2
     ·exact⟨_,rfl⟩
     ·exact k2 t h2
   ·cases h
  ·cases h
theorem Oy:∀{xs:List TV} {a:List Value},dP c ρ F h xs a→(∀t∈xs,∃v,t= .s v)→a=xs.map VT
 |[],a,H,_=>by rw[H.bG];rfl
 |x::l,a,H,hs=>by
  obtain⟨v,m,rfl,h1,h2⟩:=H.aO;obtain⟨w,rfl⟩:=hs x List.mem_cons_self;rw[h1.dA.1,Oy h2 fun t ht=>hs t (List.mem_cons_of_mem _ ht)];rfl
def xp:Nat→Bool→Value→Prop
 |0,true,x=>x= .pointer none
 |0,false,x=>∃a,x= .pointer (some a)
 |1,true,x=>x= .map none
 |1,false,x=>∃a,x= .map (some a)
 |2,true,x=>x= .nilFunc
 |2,false,x=>∃g a k,x= .func g a k
 |3,true,x=>x= .nilIface
 |3,false,x=>∃t v,x= .iface t v
 |4,true,x=>x= .slice none 0 0
 |4,false,x=>∃a l k,x= .slice (some a) l k
 |_,_,_=>False
theorem FH {v:TV} {x:Value} (hv:VR c ρ F h v x) {d:Nat} {b:Bool} (hb:xo v=some (d,b)):xp d b x:=by
 cases hv with
 |s hp=>
  unfold xo at hb;split at hb<;>simp_all<;>obtain⟨rfl,rfl⟩:=hb<;>simp[xp]
 |nil he=>subst he;unfold xo at hb;split at hb<;>simp_all<;>obtain⟨rfl,rfl⟩:=hb<;>simp[xp]
 |sl h1 h2 h3=>
  unfold xo at hb;split at hb<;>simp_all;obtain⟨rfl,rfl⟩:=hb;exact⟨_,_,_,rfl⟩
 |ptr=>simp[xo]at hb;obtain⟨rfl,rfl⟩:=hb;exact⟨_,rfl⟩
 |ep=>simp[xo]at hb;obtain⟨rfl,rfl⟩:=hb;exact⟨_,rfl⟩
 |mp=>simp[xo]at hb;obtain⟨rfl,rfl⟩:=hb;exact⟨_,rfl⟩
 |oB=>simp[xo]at hb;obtain⟨rfl,rfl⟩:=hb;exact⟨_,_,rfl⟩
 |dc=>simp[xo]at hb;obtain⟨rfl,rfl⟩:=hb;exact⟨_,_,_,rfl⟩
 |_=>simp[xo]at hb
theorem qZ {E:Env} {t:TypeId} {ds:TypeDesc} {d:Nat} {p q:Bool} {a b:Value} (hd:E.desc t=some ds) (hk:Fl ds=some d) (ha:xp d p a) (hb:xp d q b) (Uz:(p||q)=true):xi E 100 t a b=some (p&&q):=by
 cases ds<;>simp[Fl]at hk<;>subst hk<;>cases p<;>cases q<;>simp at Uz<;>simp only[xp]at ha hb
 all_goals
  (try obtain⟨_,rfl⟩:=ha)
  (try obtain⟨_,rfl⟩:=hb)
  (try obtain⟨_,_,rfl⟩:=ha)
  (try obtain⟨_,_,rfl⟩:=hb)
  (try obtain⟨_,_,_,rfl⟩:=ha)
  (try obtain⟨_,_,_,rfl⟩:=hb)
  (try subst ha)
  (try subst hb)
  (show xi E (99+1) t _ _=_)
  unfold xi;rw[hd];rfl
end
def jK (c:Nat) (ρ:Gh) (F:Nat→Prop) (h:ab) (o:Ob) (canon:Option Value) (K:OK):Prop:=∃v x,canon=some x∧VR c ρ F h v x∧K v o c .pure
section
variable {T E:Env} {X:Cx} {ρ:Gh} {F:Nat→Prop} {o:Ob} {c:Nat} {af:AF} {f:Fr} {h:ab} {p:Oper} {K:OK}
theorem lR {op:BinOp} {t:TypeId} {x y:Operand} {a b:Value} {r:Bool} (hi:∀k n k' m,¬(a= .int k n∧b= .int k' m)) (hs:∀s r,¬(a= .string s∧b= .string r)) (he:oD E t x y a b=true) (hq:xi E 100 t a b=some r):
 (op= .eql→x7 E op t x y a b=some (.bool r))∧(op= .neq→x7 E op t x y a b=some (.bool !r)):=by
 constructor
 ·rintro rfl;unfold x7;split
  ·exact absurd ⟨rfl,rfl⟩ (hi _ _ _ _)
  ·exact absurd ⟨rfl,rfl⟩ (hs _ _)
  ·simp[bO,he,hq]
 ·rintro rfl;unfold x7;split
  ·exact absurd ⟨rfl,rfl⟩ (hi _ _ _ _)
  ·exact absurd ⟨rfl,rfl⟩ (hs _ _)
  ·simp[bO,he,hq]
theorem ub {v:Option Value} (hp:Bw v o c K) {canon:Option Value} (hc:∀x,v=some x→canon=some x):jK c ρ F h o canon K:=by
 unfold Bw at hp;split at hp
 ·rename_i x;split at hp
  ·rename_i h2;exact⟨_,_,hc x rfl,.s h2,hp⟩
  ·exact hp.elim
 ·exact hp.elim
theorem xp.FI {d:Nat} {b:Bool} {n:Nat} (hv:xp d b (.chan (some n))):False:=by
 unfold xp at hv;split at hv<;>simp at hv
theorem xp.Ka {d:Nat} {b:Bool} {x:Value} (hv:xp d b x):(∀k n,x≠ .int k n)∧(∀s,x≠ .string s)∧(∀a,x≠ .agg a)∧(x= .nilIface→d=3∧b=true):=by
 unfold xp at hv;split at hv
 all_goals
  (try obtain⟨_,rfl⟩:=hv)
  (try obtain⟨_,_,rfl⟩:=hv)
  (try obtain⟨_,_,_,rfl⟩:=hv)
  (try subst hv)
  (try(exact hv.elim))
  (try simp)
theorem Ly {k k':IntKind} {v w x:Value} (h:kR k k' v=some x):kR k k' w=some w:=by
 unfold kR at h ⊢;split at h<;>first|rfl |cases h
theorem vw {p:Prop} (hw:ask p o c K) {canon:Option Value} (b:Bool) (hb:b=true↔p) (hc:canon=some (.bool b)):jK c ρ F h o canon K:=by
 cases b with
 |true=>exact⟨_,_,hc,.s rfl,hw.1 (hb.1 rfl)⟩
 |false=>exact⟨_,_,hc,.s rfl,hw.2 fun hp=>by have:=hb.2 hp;cases this⟩
theorem re {p:Prop} {k k':IntKind} {op:BinOp} {t:TypeId} {n m:Int} (hw:Fo k k' p o c K) (b:Bool) (hb:b=true↔p) (hv:Fk op k k' n m=kR k k' (.bool b)):jK c ρ F h o (fb (binOp op t (.int k n) (.int k' m))) K:=by
 unfold Fo at hw;split at hw
 ·rename_i hs;exact vw hw b hb ((J9 (hv.trans (Ly hs)) t).1)
 ·exact hw.elim
theorem R8 (L:cD T E) (H:Mem X ρ F o c h) {op:BinOp} {t:TypeId} {x y:Operand} {a b:TV} {xa xb:Value} (hw:VA T op t x y a b o c K) (ha:VR c ρ F h a xa) (hb:VR c ρ F h b xb):jK c ρ F h o (x7 E op t x y xa xb) K:=by
 unfold VA at hw;split at hw
 ·rename_i k n k' m;rw[ha.dA.1,hb.dA.1];show jK c ρ F h o (fb (binOp op t (.int k n) (.int k' m))) K;split at hw
  ·exact re hw (n==m) (by simp) rfl
  ·exact re hw (n != m) (by simp) rfl
  ·exact re hw (decide (n<m)) (by simp) rfl
  ·exact re hw (decide (n≤m)) (by simp) rfl
  ·exact re hw (decide (n>m)) (by simp) rfl
  ·exact re hw (decide (n≥m)) (by simp) rfl
  ·exact ub hw fun v hv=>(J9 hv t).1
 ·rename_i s r;rw[ha.dA.1,hb.dA.1];split at hw
  ·exact vw hw (s.data.toList==r.data.toList) (by simp) rfl
  ·exact vw hw (!(s.data.toList==r.data.toList)) (by simp) rfl
  ·exact vw hw (Op.bytesLess s.data.toList r.data.toList) (by simp) rfl
  ·exact⟨_,_,(by simp only[x7];rw[aj];exact⟨decide_eq_true om,rfl⟩),.s rfl,hw.2⟩
  ·refine ub hw fun v hv=>?_;simp only[x7]at hv;cases hv
 ·rename_i p q;rw[ha.dA.1,hb.dA.1];split at hw
  ·rename_i hd;have hq:xi E 100 t (.bool p) (.bool q)=some (p==q):=by
    show xi E (99+1) t _ _=_;unfold xi;rw[L.desc _ _ hd];rfl
   obtain⟨k1,k2⟩:=lR (op:=op) (E:=E) (x:=x) (y:=y) (t:=t) (a:=.bool p) (b:=.bool q) (by rintro _ _ _ _ ⟨e,_⟩;cases e) (by rintro _ _ ⟨e,_⟩;cases e) rfl hq;split at hw
   ·exact⟨_,_,k1 rfl,.s rfl,hw⟩
   ·exact⟨_,_,k2 rfl,.s rfl,hw⟩
   ·exact hw.elim
  ·exact hw.elim
 ·rename_i xs ys;obtain⟨a',rfl,h1⟩:=ha.fF;obtain⟨b',rfl,h2⟩:=hb.fF;split at hw
  ·rename_i z he hz;split at hw
   case h_2=>exact hw.elim
   rename_i r hr;obtain⟨s1,s2⟩:=Ox hr;obtain⟨e1,e2⟩:=L.eq t a' b' z xs ys r he hz hr (Oy h1 s1) (Oy h2 s2);obtain⟨k1,k2⟩:=lR (op:=op) (E:=E) (x:=x) (y:=y) (t:=t) (a:=.agg a') (b:=.agg b') (by rintro _ _ _ _ ⟨e,_⟩;cases e) (by rintro _ _ ⟨e,_⟩;cases e) e1 e2;split at hw
   ·exact vw hw r Iff.rfl (k1 rfl)
   ·exact vw hw (!r) (by simp) (k2 rfl)
   ·exact hw.elim
  ·exact hw.elim
 ·split at hw
  ·rename_i es hq;obtain⟨Lk,rfl,tF⟩:∃Lk,b= .sl 0 [] Lk∧((∃z fl,a= .sl (z+1) es fl)∨∃n z w,a= .tk n∧look o n=some (.arr z w es)):=by
    unfold Y6 at hq;split at hq
    ·cases hq;exact⟨_,rfl,.inl ⟨_,_,rfl⟩⟩
    ·split at hq
     ·rename_i hl;cases hq;exact⟨_,rfl,.inr ⟨_,_,_,rfl,hl⟩⟩
     ·cases hq
    ·cases hq
   have bV:xb= .slice none 0 0:=by
    cases hb with
    |nil=>rfl
    |sl _ _ hz=>omega
   subst bV;have main:∀{ds:TypeDesc},E.desc t=some ds→Fl ds=some 4→∃r:Bool,(r=true→es=[])∧xi E 100 t xa (.slice none 0 0)=some r∧∃a l k,xa= .slice a l k:=by
    intro ds h1 h2;rcases tF with⟨z,fl,rfl⟩|⟨n,z,w,rfl,hl⟩
    ·cases ha with
     |nil he=>exact⟨true,fun _=>he,qZ (p:=true) (q:=true) h1 h2 rfl rfl rfl,_,_,_,rfl⟩
     |sl=>exact⟨false,(by simp),qZ (p:=false) (q:=true) h1 h2 ⟨_,_,_,rfl⟩ rfl rfl,_,_,_,rfl⟩
    ·obtain⟨_,hob⟩:=H.ct hl;cases ha with
     |tk hn pF haa h0=>
      cases hob with
      |nil we hz=>
       rcases h0 _ we with rfl |⟨_,_,_,_,_,_,_,rfl⟩
       ·exact⟨true,fun _=>rfl,qZ (p:=true) (q:=true) h1 h2 rfl rfl rfl,_,_,_,rfl⟩
       ·exact⟨false,(by simp),qZ (p:=false) (q:=true) h1 h2 ⟨_,_,_,rfl⟩ rfl rfl,_,_,_,rfl⟩
      |arr we=>
       obtain⟨cap,_,rfl⟩:=haa _ _ _ we;exact⟨false,(by simp),qZ (p:=false) (q:=true) h1 h2 ⟨_,_,_,rfl⟩ rfl rfl,_,_,_,rfl⟩
   split at hw
   ·rename_i hd;simp only[Option.bind_eq_some_iff]at hd;obtain⟨ds,Hv,Vt⟩:=hd;obtain⟨r,m1,m2,a0,l0,k0,rfl⟩:=main (L.desc _ _ Hv) Vt;obtain⟨k1,k2⟩:=lR (op:=.eql) (E:=E) (x:=x) (y:=y) (t:=t) (a:=.slice a0 l0 k0) (b:=.slice none 0 0) (by rintro _ _ _ _ ⟨e,_⟩;cases e) (by rintro _ _ ⟨e,_⟩;cases e) rfl m2;cases r with
    |true=>exact⟨_,_,k1 rfl,.s rfl,hw.1 (m1 rfl)⟩
    |false=>exact⟨_,_,k1 rfl,.s rfl,hw.2⟩
   ·rename_i hd;simp only[Option.bind_eq_some_iff]at hd;obtain⟨ds,Hv,Vt⟩:=hd;obtain⟨r,m1,m2,a0,l0,k0,rfl⟩:=main (L.desc _ _ Hv) Vt;obtain⟨k1,k2⟩:=lR (op:=.neq) (E:=E) (x:=x) (y:=y) (t:=t) (a:=.slice a0 l0 k0) (b:=.slice none 0 0) (by rintro _ _ _ _ ⟨e,_⟩;cases e) (by rintro _ _ ⟨e,_⟩;cases e) rfl m2;cases r with
    |true=>exact⟨_,_,k2 rfl,.s rfl,hw.1 (m1 rfl)⟩
    |false=>exact⟨_,_,k2 rfl,.s rfl,hw.2⟩
   ·exact hw.elim
  split at hw
  ·rename_i d d1 p d2 q hd hp hq;split at hw
   ·rename_i hc;simp only[Bool.and_eq_true,beq_iff,Bool.or_eq_true,Bool.not_eq_true']at hc;obtain⟨⟨⟨rfl,rfl⟩,Uz⟩,gQ⟩:=hc;simp only[Option.bind_eq_some_iff]at hd;obtain⟨ds,Hv,Vt⟩:=hd;have va:=FH ha hp;have vb:=FH hb hq;have VU:=qZ (L.desc _ _ Hv) Vt va vb (by simpa using Uz);obtain⟨a1,a2,a3,a4⟩:=va.Ka;obtain⟨b1,b2,b3,b4⟩:=vb.Ka;have he:oD E t x y xa xb=true:=by
     unfold oD;split
     ·obtain⟨rfl,rfl⟩:=a4 rfl;obtain⟨_,rfl⟩:=b4 rfl;rcases gQ with (gQ|gQ)|gQ
      ·simp at gQ
      ·rw[gQ];rfl
      ·rw[gQ];simp
     ·exact absurd rfl (a3 _)
     ·exact va.FI.elim
     ·exact vb.FI.elim
     ·rfl
    obtain⟨k1,k2⟩:=lR (op:=op) (E:=E) (x:=x) (y:=y) (t:=t) (a:=xa) (b:=xb) (by rintro k n _ _ ⟨e,_⟩;exact a1 k n e) (by rintro s _ ⟨e,_⟩;exact a2 s e) he VU;split at hw
    ·exact⟨_,_,k1 rfl,.s rfl,hw⟩
    ·exact⟨_,_,k2 rfl,.s rfl,hw⟩
    ·exact hw.elim
   ·exact hw.elim
  ·exact hw.elim
theorem vx (H:Mem X ρ F o c h) {m i q:Nat} {y:TO} (hl:look o m=some y) (hy:A6 y=true) {x:Value} (hx:VR c ρ F h (.wp m i q) x):
 ∃b z l,ρ m=some (.arr b z l)∧x= .pointer (some ⟨b,i*z+q,none⟩):=by
 cases hx with
 |wp hn lx ha h0=>
  obtain⟨S,hO⟩:=H.ct hl;cases hO with
  |nil hb hz=>exact absurd hb (h0 _)
  |ia hb hz=>exact absurd hb (h0 _)
  |arr hb=>exact⟨_,_,_,hb,ha _ _ _ hb⟩
  |bB hb=>exact⟨_,_,_,hb,ha _ _ _ hb⟩
  |_=>simp[A6]at hy
def FJ:TO→Nat
 | .arr _ _ es=>es.length
 | .bB _ es _=>es.length
 |_=>0
theorem OR.tk {base m:Nat} {S:Ft} {y:TO} (hO:OR c ρ F h base m S y) (hy:A6 y=true) {x:Value} (hx:VR c ρ F h (.tk m) x):
 (FJ y=0∧ρ m=some (.nil (Lv y))∧(x= .slice none 0 0∨∃b o cs,F b∧h.rd b=some cs∧0<Lv y∧o≤cs.length∧x= .slice (some ⟨b,o,some (Lv y)⟩) 0 0))∨
 ∃b cap,ρ m=some (.arr b (Lv y) (FJ y))∧FJ y≤cap∧x= .slice (some ⟨b,0,some (Lv y)⟩) (FJ y) cap:=by
 cases hx with
 |tk hn lx ha h0=>
  cases hO with
  |nil hb hz=>exact .inl ⟨rfl,hb,h0 _ hb⟩
  |ia hb hz=>exact .inl ⟨rfl,hb,h0 _ hb⟩
  |arr hb=>obtain⟨cap,h1,h2⟩:=ha _ _ _ hb;exact .inr ⟨_,cap,hb,h1,h2⟩
  |bB hb=>obtain⟨cap,h1,h2⟩:=ha _ _ _ hb;exact .inr ⟨_,cap,hb,h1,h2⟩
  |_=>simp[A6]at hy
theorem A7 (L:cD T E) (H:Mem X ρ F o c h) {s:TypeId} {x:TV} {fd:Nat} {xv:Value} (hw:sE T s x fd o c K) (hx:VR c ρ F h x xv):
 jK c ρ F h o ((E.desc s).bind fun d=>(jC xv).bind fun p=>(match d with
 | .struct fields=>(fields[fd]?).bind fun fl=>(E.size fl.type).bind fun n=>bO (Nat.blt 0 n) (some (.pointer (some ⟨p.1,p.2+fl.offset,none⟩)))
 |_=>none)) K:=by
 unfold sE at hw;split at hw
 ·rename_i fields hd;split at hw
  ·rename_i fl hf;split at hw
   ·rename_i n hn;split at hw
    ·rename_i h0
     have fin:∀b q,xv=Value.pointer (some ⟨b,q,none⟩)→(((E.desc s).bind fun d=>(jC xv).bind fun p=>(match d with
      | .struct fields=>(fields[fd]?).bind fun fl=>(E.size fl.type).bind fun n=>bO (Nat.blt 0 n) (some (Value.pointer (some ⟨p.1,p.2+fl.offset,none⟩)))
      |_=>none))=some (Value.pointer (some ⟨b,q+fl.offset,none⟩))):=by
      rintro b q rfl;rw[L.desc _ _ hd];simp only[Option.bind_some,jC,hf,L.size _ _ hn,h0,bO]
     split at hw
     ·cases hx with
      |ptr hb=>exact⟨_,_,fin _ _ rfl,.ptr hb,hw⟩
     ·cases hx with
      |ep h1 h2 h3 h4 h5=>exact⟨_,_,fin _ _ rfl,by rw[Nat.add_assoc];exact .ep h1 h2 h3 h4 h5,hw⟩
     ·have go:∀{m i p:Nat} {y:TO},look o m=some y→A6 y=true→VR c ρ F h (.wp m i p) xv→K (.wp m i (p+fl.offset)) o c .pure→jK c ρ F h o ((E.desc s).bind fun d=>(jC xv).bind fun p=>(match d with
       | .struct fields=>(fields[fd]?).bind fun fl=>(E.size fl.type).bind fun n=>bO (Nat.blt 0 n) (some (.pointer (some ⟨p.1,p.2+fl.offset,none⟩)))
       |_=>none)) K:=by
       intro m i p y hl hy hx hw;obtain⟨b,z,l,hb,rfl⟩:=vx H hl hy hx;cases hx with
       |wp hn lx ha h0=>
        refine⟨_,_,fin _ _ rfl,.wp hn rfl (fun b' z' l' lF=>?_) h0,hw⟩;rw[hb]at lF;cases lF;rw[Nat.add_assoc]
      split at hw
      ·rename_i hl;exact go hl rfl hx hw
      ·rename_i hl;exact go hl rfl hx hw
      ·exact hw.elim
     ·exact hw.elim
    ·exact hw.elim
   ·exact hw.elim
  ·exact hw.elim
 ·exact hw.elim
theorem gI {agg:Bool} {l:List TV} {v:TV} (ho:e7 agg l=some v) {m:List Value} (H:dP c ρ F h l m):∃x,c8 agg m=some x∧VR c ρ F h v x:=by
 unfold e7 at ho;split at ho
 ·cases ho;exact⟨_,rfl,.gZ (by simpa using H)⟩
 ·cases ho;obtain⟨x,m',rfl,h1,h2⟩:=H.aO;rw[h2.bG];exact⟨x,rfl,h1⟩
 ·cases ho
theorem BK {n:Nat} {l r:List TV} (ht:takeN n l=some r) {m:List Value} (H:dP c ρ F h l m):∃q,takeN n m=some q∧dP c ρ F h r q:=by
 rw[bo]at ht;obtain⟨h1,rfl⟩:=ht;exact⟨m.take n,by rw[bo];exact⟨by rw[←H.1];exact h1,rfl⟩,H.take n⟩
theorem LA (L:cD T E) {t:TypeId} {x:TV} {fd:Nat} {xv:Value} (hw:Ig T t x fd o c K) (hx:VR c ρ F h x xv):
 jK c ρ F h o ((E.desc t).bind fun d=>(Yq xv).bind fun cs=>(match d with
 | .struct fields=>(fields[fd]?).bind fun fl=>pS E fl.type cs fl.offset
 |_=>none)) K:=by
 unfold Ig at hw;split at hw
 ·rename_i fields hd;split at hw
  ·rename_i fl cs hf;split at hw
   ·rename_i agg n hs;split at hw
    ·rename_i l hl;split at hw
     ·rename_i v hv;obtain⟨hK,_⟩:=eK hw;obtain⟨a,rfl,h1⟩:=hx.fF;obtain⟨q,h2,h3⟩:=BK hl (h1.drop fl.offset);obtain⟨x,h4,h5⟩:=gI hv h3;refine⟨v,x,?_,h5,hK⟩;rw[L.desc _ _ hd];simp only[Option.bind_some,Yq,hf,pS,L.shape hs,h2,h4]
     ·exact hw.elim
    ·exact hw.elim
   ·exact hw.elim
  ·exact hw.elim
 ·exact hw.elim
theorem nW {i:TV} {x:Value} {n:Int} (hi:Fm i=some n) (hx:VR c ρ F h i x):Rw x=some n:=by
 unfold Fm at hi;split at hi
 ·cases hi;rw[hx.dA.1];rfl
 ·cases hi
theorem A8 (L:cD T E) (H:Mem X ρ F o c h) {t:TypeId} {x i:TV} {xv iv:Value} (hw:sF T t x i o c K) (hx:VR c ρ F h x xv) (hi:VR c ρ F h i iv):jK c ρ F h o (fD E t xv iv) K:=by
 unfold sF at hw;split at hw
 ·rename_i elem i' hd Bn;have hI:=nW Bn hi;split at hw
  ·rename_i n hn;have fin:∀b q z len cap,xv=Value.slice (some ⟨b,q,some z⟩) len cap→0≤i'→i'<len→fD E t xv iv=some (.pointer (some ⟨b,q+i'.toNat*n,none⟩)):=by
    rintro b q z len cap rfl h1 h2;unfold fD;rw[L.desc _ _ hd,hI];simp only[Option.bind_some,L.size _ _ hn,bO,h1,h2,decide_true,Bool.and_self]
   split at hw
   ·rename_i z es fl;split at hw
    ·rename_i hz;rw[beq_iff]at hz;obtain⟨e,⟨h0,he⟩,hK⟩:=hw;cases hx with
     |nil fT=>subst fT;simp at he
     |sl q1 q2 q3 q4 q5 q6 q7 q8 q9 Q7=>
      have aN:=(List.getElem?_eq_some_iff.1 he).1;refine⟨_,_,fin _ _ _ _ _ rfl h0 om,?_,hK⟩;have UA:=q8 e (List.mem_of_getElem? he);rw[←Nat.add_zero (_+_*n)];refine .ep q1 q2 ?_ (q9 e (List.mem_of_getElem? he)) fun j t v r1 r2=>Q7 _ j e t v he r1 (by rw[hz];exact r2);rw[UA,←hz];have:(i'.toNat+1)*z≤es.length*z:=Nat.mul_le_mul_right z aN;rw[Nat.add_mul]at this;subst q4;omega
    ·exact hw.elim
   ·rename_i m;have go:∀{y:TO},look o m=some y→A6 y=true→Lv y=n→0≤i'→i'<FJ y→K (.wp m i'.toNat 0) o c .pure→jK c ρ F h o (fD E t xv iv) K:=by
     intro y hl hy hz h0 h1 hK;obtain⟨S,hO⟩:=H.ct hl;rcases hO.tk hy hx with⟨e,_⟩|⟨b,cap,hb,_,rfl⟩
     ·rw[e]at h1;omega
     ·refine⟨_,_,fin _ _ _ _ _ rfl h0 h1,?_,hK⟩;cases hx with
      |tk KZ lx ha h0'=>
       refine .wp KZ rfl (fun b' z2 l2 lF=>?_) (fun z2 lF=>by rw[hb]at lF;cases lF);rw[hb]at lF;cases lF;rw[Nat.zero_add,Nat.add_zero,hz]
    split at hw
    ·rename_i z w es hl;split at hw
     ·rename_i hz;obtain⟨⟨h0,h1⟩,hK⟩:=hw;exact go hl rfl (beq_iff.1 hz) h0 h1 hK
     ·exact hw.elim
    ·rename_i z es op hl;split at hw
     ·rename_i hz;obtain⟨⟨h0,h1⟩,hK⟩:=hw;exact go hl rfl (beq_iff.1 hz) h0 h1 hK
     ·exact hw.elim
    ·exact hw.elim
   ·exact hw.elim
  ·exact hw.elim
 ·rename_i len elem i' hd Bn;have hI:=nW Bn hi;split at hw
  ·rename_i n hn;obtain⟨⟨h1,h2⟩,hw⟩:=hw;have fin:∀b q,xv=Value.pointer (some ⟨b,q,none⟩)→fD E t xv iv=some (.pointer (some ⟨b,q+i'.toNat*n,none⟩)):=by
    rintro b q rfl;unfold fD;rw[L.desc _ _ hd,hI];simp only[Option.bind_some,L.size _ _ hn,bO,h1,h2,decide_true,Bool.and_self]
   split at hw
   ·cases hx with
    |ptr hb=>exact⟨_,_,fin _ _ rfl,.ptr hb,hw⟩
   ·cases hx with
    |ep q1 q2 q3 q4 q5=>exact⟨_,_,fin _ _ rfl,by rw[Nat.add_assoc];exact .ep q1 q2 q3 q4 q5,hw⟩
   ·exact hw.elim
  ·exact hw.elim
 ·exact hw.elim
theorem LB (L:cD T E) {t:TypeId} {x i:TV} {xv iv:Value} (hw:Ih T t x i o c K) (hx:VR c ρ F h x xv) (hi:VR c ρ F h i iv):jK c ρ F h o (uW E t xv iv) K:=by
 unfold Ih at hw;split at hw
 ·rename_i i' hd Bn;have hI:=nW Bn hi;split at hw
  ·obtain⟨b,⟨h1,h2⟩,hK⟩:=hw;rw[hx.dA.1];refine⟨_,_,?_,.s rfl,hK⟩;unfold uW;rw[L.desc _ _ hd,hI];simp only[Option.bind_some,bO,h1,decide_true,h2]
  ·exact hw.elim
 ·rename_i len elem i' hd Bn;have hI:=nW Bn hi;split at hw
  ·rename_i z agg n cs hz hs;obtain⟨⟨h1,h2⟩,hw⟩:=hw;split at hw
   ·rename_i l hl;split at hw
    ·rename_i v hv;obtain⟨hK,_⟩:=eK hw;obtain⟨a,rfl,k1⟩:=hx.fF;obtain⟨q,h3,h4⟩:=BK hl (k1.drop (i'.toNat*z));obtain⟨x,h5,h6⟩:=gI hv h4;refine⟨v,x,?_,h6,hK⟩;unfold uW;rw[L.desc _ _ hd,hI];simp only[Option.bind_some,L.size _ _ hz,bO,h1,h2,decide_true,Bool.and_self,pS,L.shape hs,h3,h5]
    ·exact hw.elim
   ·exact hw.elim
  ·exact hw.elim
 ·exact hw.elim
end
section
variable {T E:Env} {X:Cx} {ρ:Gh} {F:Nat→Prop} {o:Ob} {c:Nat} {af:AF} {f:Fr} {h:ab} {p:Oper} {K:OK}
def FK (X:Cx) (c:Nat) (ρ:Gh) (F:Nat→Prop) (h:ab) (o:Ob) (canon:Option Value) (K:OK):Prop:=
 ∃v x o' F',canon=some x∧Mem X ρ F' o' c h∧(∀t x,VR c ρ F h t x→VR c ρ F' h t x)∧(∀b,F b→F' b)∧(∀n y,look o n=some y→∃y',look o' n=some y'∧jy y y')∧VR c ρ F' h v x∧K v o' c .pure
theorem jK.toS (H:Mem X ρ F o c h) {canon:Option Value} (R:jK c ρ F h o canon K):FK X c ρ F h o canon K:=by
 obtain⟨v,x,h1,h2,h3⟩:=R;exact⟨v,x,o,F,h1,H,fun _ _ h=>h,fun _ h=>h,fun n y hl=>⟨y,hl,jy.refl y⟩,h2,h3⟩
theorem FK.HB {canon:Option Value} (H:Mem X ρ F o c h) (R:FK X c ρ F h o canon K) (hp:aZ E af p=canon):fv E X ρ F o c af h p K:=by
 obtain⟨v,x,o',F',h1,h2,h3,h4,h5,h6,h7⟩:=R;exact fv.Zn H h2 h3 h4 h5 (hp.trans h1) h6 h7
theorem qi (o:Ob) (m:Nat):∀n y,look o n=some y→∃y',look (jI o m) n=some y'∧jy y y':=by
 intro n y hl;unfold jI;split
 ·rename_i z w es hm;rw[eJ];by_cases e:n=m
  ·subst e;rw[if_pos rfl,hm];rw[hm]at hl;cases hl;exact⟨_,rfl,rfl,rfl,fun h=>by cases h⟩
  ·rw[if_neg e];exact⟨y,hl,jy.refl y⟩
 ·exact⟨y,hl,jy.refl y⟩
theorem qj {d y:Nat} {i:Int} (hi:0≤i) (hy:i≤y) (k:IntKind):cQ d y (some (.int k i))=some i.toNat:=by
 simp[cQ,bO,hi,hy]
theorem ka {d:Nat} {lo:Option TV} {yW:Option Value} {l:Int} (hb:Q2 d lo=some l) (hl:(lo=none∧yW=none)∨∃y v,lo=some y∧yW=some v∧VR c ρ F h y v):
 (yW=none∧l=d)∨∃k,yW=some (.int k l):=by
 rcases hl with⟨rfl,rfl⟩|⟨y,v,rfl,rfl,hv⟩
 ·simp[Q2]at hb;exact .inl ⟨rfl,hb.symm⟩
 ·unfold Q2 at hb;split at hb
  ·rename_i he;cases he
  ·rename_i k i he;cases he;cases hb;rw[hv.dA.1];exact .inr ⟨k,rfl⟩
  ·cases hb
theorem eS {d y:Nat} {l:Int} {yW:Option Value} (h1:(yW=none∧l=d)∨∃k,yW=some (.int k l)) (h0:0≤l) (hy:l≤y):cQ d y yW=some l.toNat:=by
 rcases h1 with⟨rfl,rfl⟩|⟨k,rfl⟩
 ·simp[cQ]
 ·exact qj h0 hy k
theorem ji {t elem:TypeId} {n z b o' len cap:Nat} {lo hi mx:Option Value} {l hh m:Nat} (hd:E.desc t=some (.slice elem)) (hn:E.size elem=some n) (hz:n=z) (hm:cQ cap len mx=some m)
 (Oz:cQ len (bif mx.isSome then m else len) hi=some hh) (hc:hi.isSome||mx.isNone) (CV:cQ 0 hh lo=some l):
 jc E t (.slice (some ⟨b,o',some z⟩) len cap) lo hi mx=some (.slice (some (bif Nat.beq m l then⟨b,o',some z⟩else⟨b,o'+l*z,some z⟩)) (hh - l) (m - l)):=by
 unfold jc;subst hz;rw[hd];simp only[Option.bind_some,hn,hm,Oz,CV,bO,hc];simp
theorem IA {z b oo len cap:Nat} {es:List (List TV)} {fl:Bool} (hv:VR c ρ F h (.sl z es fl) (.slice (some ⟨b,oo,some z⟩) len cap)) {l hh m:Nat} (hl:l≤hh) (hhl:hh≤es.length) (hm:hh≤m) (Lk:Bool) (u4:Lk=true→m=hh):
 VR c ρ F h (.sl z ((es.take hh).drop l) Lk) (.slice (some (bif Nat.beq m l then⟨b,oo,some z⟩else⟨b,oo+l*z,some z⟩)) (hh - l) (m - l)):=by
 cases hv with
 |sl q1 q2 q3 q4 q5 q6 q7 q8 q9 Q7=>
  have hlen:((es.take hh).drop l).length=hh - l:=by simp;omega
  by_cases e:m=l
  ·have e2:hh=l:=by omega
   subst e2;subst e;rw[show(bif Nat.beq m m then(⟨b,oo,some z⟩:Addr)else⟨b,oo+m*z,some z⟩)=⟨b,oo,some z⟩ by simp];refine .sl q1 q2 q3 hlen om (fun _=>rfl) (by simp;omega) (fun e he=>?_) (fun e he=>?_) fun i j e t v r1=>?_
   ·exact q8 e (List.mem_of_mem_take (List.mem_of_mem_drop he))
   ·exact q9 e (List.mem_of_mem_take (List.mem_of_mem_drop he))
   ·have:=(List.getElem?_eq_some_iff.1 r1).1;omega
  ·rw[show(bif Nat.beq m l then(⟨b,oo,some z⟩:Addr)else⟨b,oo+l*z,some z⟩)=⟨b,oo+l*z,some z⟩ by
    rw[Fs];simp[e]]
   refine .sl q1 q2 q3 hlen om (fun h=>by rw[u4 h]) ?_ (fun e he=>?_) (fun e he=>?_) fun i j e t v r1 r2 r3=>?_
   ·have:(l+(hh - l))*z≤es.length*z:=Nat.mul_le_mul_right z om;rw[Nat.add_mul]at this;subst q4;omega
   ·exact q8 e (List.mem_of_mem_take (List.mem_of_mem_drop he))
   ·exact q9 e (List.mem_of_mem_take (List.mem_of_mem_drop he))
   ·rw[List.getElem?_drop,List.getElem?_take]at r1;split at r1
    ·refine Q7 (l+i) j e t v r1 r2 ?_;rw[←r3,Nat.add_mul]
     congr 1;omega
    ·cases r1
theorem mT {t elem n:Nat} {lo hi mx:Option Value} {l hh m:Nat} (hd:E.desc t=some (.slice elem)) (hn:E.size elem=some n) (hm:cQ 0 0 mx=some m)
 (Oz:cQ 0 (bif mx.isSome then m else 0) hi=some hh) (hc:hi.isSome||mx.isNone) (CV:cQ 0 hh lo=some l):
 jc E t (.slice none 0 0) lo hi mx=some (.slice none 0 0):=by
 unfold jc;rw[hd];simp only[Option.bind_some,hn,hm,Oz,CV,bO,hc]
def R9 (c:Nat) (ρ:Gh) (F:Nat→Prop) (h:ab) (y:Option TV) (v:Option Value):Prop:=(y=none∧v=none)∨∃y' v',y=some y'∧v=some v'∧VR c ρ F h y' v'
theorem wG (L:cD T E) {t:TypeId} {z n l hh m:Nat} {elem:TypeId} {es:List (List TV)} {fl:Bool} {xv:Value} {yW hiv Q8:Option Value} (hd:T.desc t=some (.slice elem)) (hn:T.size elem=some n) (hz:z=n∨z=0)
 (hx:VR c ρ F h (.sl z es fl) xv) (hl:l≤hh) (hhl:hh≤es.length) (_:hh≤m) (Lk:Bool) (_:Lk=true→m=hh)
 (b1:∀len cap,len=es.length→len≤cap→∃m',cQ cap len Q8=some m'∧cQ len (bif Q8.isSome then m' else len) hiv=some hh∧hh≤m'∧(Lk=true→m'=hh)) (b2:(hiv.isSome||Q8.isNone)=true) (b3:cQ 0 hh yW=some l):
 ∃x,jc E t xv yW hiv Q8=some x∧VR c ρ F h (.sl z ((es.take hh).drop l) Lk) x:=by
 cases hx with
 |nil he=>
  subst he;obtain⟨m',k1,k2,_,_⟩:=b1 0 0 rfl (Nat.le_refl _);refine⟨_,mT (L.desc _ _ hd) (L.size _ _ hn) k1 k2 b2 b3,.nil (by simp)⟩
 |sl q1 q2 q3 q4 q5 q6 q7 q8 q9 Q7=>
  have Sc:n=z:=by omega
  obtain⟨m',k1,k2,k3,k4⟩:=b1 _ _ q4.symm q5;refine⟨_,ji (L.desc _ _ hd) (L.size _ _ hn) Sc k1 k2 b2 b3,IA (.sl q1 q2 q3 q4 q5 q6 q7 q8 q9 Q7) hl hhl k3 Lk k4⟩
theorem OA (H:Mem X ρ F o c h) {x:TV} {z:Nat} {es:List (List TV)} (he:Og o x=some (z,es)):∃F',Mem X ρ F' (share1 o x) c h∧(∀t v,VR c ρ F h t v→VR c ρ F' h t v)∧(∀b,F b→F' b)∧(∀n y,look o n=some y→∃y',look (share1 o x) n=some y'∧jy y y')∧
 ∀xv,VR c ρ F h x xv→∃fl,VR c ρ F' h (.sl z es fl) xv:=by
 unfold Og at he;split at he
 ·cases he;exact⟨F,H,fun _ _ h=>h,fun _ h=>h,fun n y hl=>⟨y,hl,jy.refl y⟩,fun xv hx=>⟨_,hx⟩⟩
 ·rename_i m;split at he
  ·rename_i w bU hl;cases he;obtain⟨F',h1,h2,h3,h4⟩:=H.share m;exact⟨F',h1,h2,h3,qi o m,fun xv hx=>⟨false,h4 _ _ _ _ hl hx⟩⟩
  ·cases he
 ·cases he
theorem LC (L:cD T E) (H:Mem X ρ F o c h) {t:TypeId} {x:TV} {xv:Value} {lo hi mx:Option TV} {yW hiv Q8:Option Value} (hw:Ii T t x lo hi mx o c K) (hx:VR c ρ F h x xv) (CV:R9 c ρ F h lo yW) (Oz:R9 c ρ F h hi hiv) (JL:R9 c ρ F h mx Q8):
 FK X c ρ F h o (jc E t xv yW hiv Q8) K:=by
 unfold Ii at hw;split at hw
 ·rename_i hd;split at hw
  ·rename_i s;split at hw
   ·rename_i hh l e1 e2;obtain⟨⟨h1,h2,h3⟩,hK⟩:=hw;rcases JL with⟨_,rfl⟩|⟨_,_,e,_⟩
    ·refine jK.toS H ⟨_,_,?_,.s rfl,hK⟩;rw[hx.dA.1];have a1:cQ s.size s.size hiv=some hh.toNat:=eS (ka e1 Oz) om h3;have a2:cQ 0 hh.toNat yW=some l.toNat:=eS (ka e2 CV) h1 om;unfold jc;rw[L.desc _ _ hd];simp only[Option.bind_some,bO,a1,a2];rfl
    ·cases e
   ·exact hw.elim
  ·exact hw.elim
 ·rename_i elem hd;split at hw
  ·rename_i n z es hn he;obtain⟨F',k1,k2,k3,k4,k5⟩:=OA H he;obtain⟨fl,Nb⟩:=k5 xv hx;split at hw
   ·rename_i hz;simp only[Bool.or_eq_true,beq_iff]at hz;split at hw
    ·rcases JL with⟨_,rfl⟩|⟨_,_,e,_⟩
     ·split at hw
      ·rename_i hh l e1 e2;have plain:(0≤l∧l≤hh∧hh≤es.length)→K (.sl z ((es.take hh.toNat).drop l.toNat) false) (share1 o x) c .pure→FK X c ρ F h o (jc E t xv yW hiv none) K:=by
        rintro⟨h1,h2,h3⟩ hK
        obtain⟨x',q1,q2⟩:=wG L (l:=l.toNat) (hh:=hh.toNat) (m:=hh.toNat) hd hn hz Nb om om (Nat.le_refl _) false (yW:=yW) (hiv:=hiv) (Q8:=none) (fun h=>by cases h)
         (fun len cap e3 e4=>⟨cap,rfl,by subst e3;exact eS (ka e1 Oz) om h3,by subst e3;omega,fun h=>by cases h⟩) (by simp) (eS (ka e2 CV) h1 om)
        exact⟨_,x',_,F',q1,k1,k2,k3,k4,q2,hK⟩
       split at hw
       ·split at hw
        ·obtain⟨hc,hK⟩:=hw;split at hK
         ·rename_i hz9;have hz9:=beq_iff.1 hz9;subst hz9;obtain⟨h1,h2,h3⟩:=hc;have hz8:=Nb;cases hz8 with
          |nil he9=>
           subst he9;simp only[List.length_nil]at h3;have e0:hh.toNat=0:=by simp at h3;omega
           have e9:l.toNat=0:=by omega
           have b1:=eS (y:=0) (ka e1 Oz) om (by simpa using h3);have b2:=eS (y:=0) (ka e2 CV) h1 (by simp at h3;omega);rw[e0]at b1;rw[e9]at b2;exact⟨.sl 0 [] true,.slice none 0 0,_,F',mT (L.desc _ _ hd) (L.size _ _ hn) (m:=0) (hh:=0) (l:=0) rfl b1 (by simp) b2,k1,k2,k3,k4,.nil rfl,hK⟩
          |sl q1 q2 q3=>omega
         ·exact plain hc hK
        ·rename_i n' Uz;obtain⟨hc,hK⟩:=hw;rcases hK with hK|hK
         ·exact plain hc hK
         obtain⟨h1,h2,h3⟩:=hc;obtain⟨rfl,rfl,y,rfl⟩:x= .tk n'∧lo=none∧∃y,hi=some y:=by
          unfold pvQ at Uz;split at Uz
          ·cases Uz;exact⟨rfl,rfl,_,rfl⟩
          ·cases Uz
         have acF:yW=none:=by
          rcases CV with⟨_,e⟩|⟨_,_,e,_⟩
          ·exact e
          ·cases e
         subst acF;have mP:l=0:=by simpa[Q2]using e2.symm
         subst mP;obtain⟨w,hl⟩:∃w,look o n'=some (.arr z w es):=by
          unfold Og at he;simp only at he;split at he
          ·rename_i w _ hl;cases he;exact⟨_,hl⟩
          ·cases he
         have a1:∀y:Nat,y=es.length→cQ y y hiv=some hh.toNat:=fun y hy=>by subst hy;exact eS (ka e1 Oz) om h3
         obtain⟨Sm,hO⟩:=H.ct hl;have Hy:n'<c:=by cases hx with|tk hn=>exact hn
         rcases hO.tk rfl hx with⟨h0,hb,rfl |⟨b,o',cs,q1,q2,BL,q4,rfl⟩⟩|⟨b,cap,hb,fK,rfl⟩
         ·have h0:es.length=0:=h0;have YC:hh.toNat=0:=by omega
          refine⟨.pv n' hh.toNat,.slice none 0 0,o,F,mT (L.desc _ _ hd) (L.size _ _ hn) (m:=0) (hh:=0) (l:=0) rfl (by have:=a1 0 om;rwa [YC]at this) (by simp) rfl,H,fun _ _ h=>h,fun _ h=>h,fun n y hl=>⟨y,hl,jy.refl y⟩,
           .pv Hy rfl (fun b z len e=>by rw[hb]at e;cases e) (fun _ _=>.inl rfl),hK⟩
         ·have h0:es.length=0:=h0;have YC:hh.toNat=0:=by omega
          have BL:0<z:=BL
          refine⟨.pv n' hh.toNat,_,o,F,ji (L.desc _ _ hd) (L.size _ _ hn) (z:=z) (m:=0) (hh:=0) (l:=0) om rfl (by have:=a1 0 om;rwa [YC]at this) (by simp) rfl,H,fun _ _ h=>h,fun _ h=>h,fun n y hl=>⟨y,hl,jy.refl y⟩,
           .pv Hy rfl (fun b z len e=>by rw[hb]at e;cases e) (fun z' kI=>?_),hK⟩
          have Sd:z'=z:=by rw[hb]at kI;cases kI;rfl
          subst Sd;exact .inr ⟨_,_,_,q1,q2,BL,q4,rfl⟩
         ·have BL:0<z:=by
           cases hO with
           |nil bV=>rw[hb]at bV;cases bV
           |arr _ _ _ _ _ hz=>exact hz
          have hb:ρ n'=some (.arr b z es.length):=hb;have fK:es.length≤cap:=fK
          refine⟨.pv n' hh.toNat,_,o,F,ji (L.desc _ _ hd) (L.size _ _ hn) (z:=z) (m:=cap) (hh:=hh.toNat) (l:=0) om rfl (eS (ka e1 Oz) om h3) (by simp) rfl,H,fun _ _ h=>h,fun _ h=>h,fun n y hl=>⟨y,hl,jy.refl y⟩,
           .pv Hy rfl (fun b1 z1 RF e=>?_) (fun _ e=>by rw[hb]at e;cases e),hK⟩
          rw[hb]at e;cases e;exact⟨cap,om,by simp⟩
       ·rename_i n' hsq;obtain⟨hc,hK⟩:=hw;rcases hK with hK|hK
        ·exact plain hc hK
        obtain⟨h1,h2,h3⟩:=hc;obtain⟨rfl,rfl⟩:x= .tk n'∧hi=none:=by
         unfold svQ at hsq;split at hsq
         ·cases hsq;exact⟨rfl,rfl⟩
         ·cases hsq
        have acG:hiv=none:=by
         rcases Oz with⟨_,e⟩|⟨_,_,e,_⟩
         ·exact e
         ·cases e
        subst acG;have hhe:hh=es.length:=by simpa[Q2]using e1.symm
        subst hhe;obtain⟨w,hl⟩:∃w,look o n'=some (.arr z w es):=by
         unfold Og at he;simp only at he;split at he
         ·rename_i w _ hl;cases he;exact⟨_,hl⟩
         ·cases he
        have b3:∀y:Nat,l≤y→cQ 0 y yW=some l.toNat:=fun y hy=>eS (ka e2 CV) h1 hy;obtain⟨Sm,hO⟩:=H.ct hl;have Hy:n'<c:=by cases hx with|tk hn=>exact hn
        rcases hO.tk rfl hx with⟨h0,hb,rfl |⟨b,o',cs,_,_,BL,_,rfl⟩⟩|⟨b,cap,hb,fK,rfl⟩
        ·have h0:es.length=0:=h0;have mP:l.toNat=0:=by omega
         refine⟨.sv n' l.toNat,.slice none 0 0,o,F,mT (L.desc _ _ hd) (L.size _ _ hn) (m:=0) (hh:=0) (l:=0) rfl rfl rfl (by have:=b3 0 om;rwa [mP]at this),H,fun _ _ h=>h,fun _ h=>h,fun n y hl=>⟨y,hl,jy.refl y⟩,
          .sv Hy rfl (fun b z len e=>by rw[hb]at e;cases e) (fun _ _=>.inl rfl),hK⟩
        ·have h0:es.length=0:=h0;have mP:l.toNat=0:=by omega
         have BL:0<z:=BL
         refine⟨.sv n' l.toNat,_,o,F,ji (L.desc _ _ hd) (L.size _ _ hn) (z:=z) (m:=0) (hh:=0) (l:=0) om rfl rfl rfl (by have:=b3 0 om;rwa [mP]at this),H,fun _ _ h=>h,fun _ h=>h,fun n y hl=>⟨y,hl,jy.refl y⟩,
          .sv Hy rfl (fun b z len e=>by rw[hb]at e;cases e) (fun _ _=>.inr ⟨_,_,_,_,rfl⟩),hK⟩
        ·have BL:0<z:=by
          cases hO with
          |nil bV=>rw[hb]at bV;cases bV
          |arr _ _ _ _ _ hz=>exact hz
         have hb:ρ n'=some (.arr b z es.length):=hb;have fK:es.length≤cap:=fK
         refine⟨.sv n' l.toNat,_,o,F,ji (L.desc _ _ hd) (L.size _ _ hn) (z:=z) (m:=cap) (hh:=es.length) (l:=l.toNat) om rfl rfl rfl (b3 _ om),H,fun _ _ h=>h,fun _ h=>h,fun n y hl=>⟨y,hl,jy.refl y⟩,
          .sv Hy rfl (fun b1 z1 RF e=>?_) (fun _ e=>by rw[hb]at e;cases e),hK⟩
         rw[hb]at e;cases e;cases hbq:Nat.beq cap l.toNat with
         |true=>
          have:=beq_iff.1 hbq;exact⟨_,_,rfl,fun aN=>by omega⟩
         |false=>exact⟨_,_,rfl,fun _=>Nat.zero_add _⟩
      ·exact hw.elim
     ·cases e
    ·rename_i m _;split at hw
     ·rename_i kk hh l m' e2 e3;obtain⟨⟨h1,h2,rfl,h3⟩,hK⟩:=hw;rcases JL with⟨e,_⟩|⟨y1,v1,e,rfl,pJ⟩
      ·cases e
      ·cases e;rcases Oz with⟨e,_⟩|⟨y2,v2,e,rfl,HX⟩
       ·cases e
       ·cases e;have AJ:∃k,v1= .int k hh:=by
         unfold Fm at e3;split at e3
         ·cases e3;rw[pJ.dA.1];exact⟨_,rfl⟩
         ·cases e3
        obtain⟨k',rfl⟩:=AJ;rw[HX.dA.1]
        obtain⟨x',q1,q2⟩:=wG L (l:=l.toNat) (hh:=hh.toNat) (m:=hh.toNat) hd hn hz Nb om om (Nat.le_refl _) true (yW:=yW) (hiv:=some (.int kk hh)) (Q8:=some (.int k' hh)) (fun _=>rfl)
         (fun len cap e3 e4=>⟨hh.toNat,qj om (by subst e3;omega) k',qj om (by simp;omega) kk,Nat.le_refl _,fun _=>rfl⟩) rfl (eS (ka e2 CV) h1 om)
        exact⟨_,x',_,F',q1,k1,k2,k3,k4,q2,hK⟩
     ·exact hw.elim
   ·exact hw.elim
  ·exact hw.elim
 ·exact hw.elim
end
section
variable {T E:Env} {X:Cx} {ρ:Gh} {F:Nat→Prop} {o:Ob} {c:Nat} {af:AF} {f:Fr} {h:ab} {p:Oper} {K:OK}
theorem LD {x:Value} (h:∀a,x≠ .agg a):x.cells= #[x]:=by
 cases x<;>first|rfl |exact absurd rfl (h _)
theorem DC {x:Value} (h:aB x=true):∀a,x≠ .agg a:=by rintro a rfl;simp[aB]at h
theorem jL {v:TV} {x:Value} (hv:VR c ρ F h v x) (ho:okV v=true):dP c ρ F h (aI v) x.cells.toList:=by
 have one:(∀a,x≠ .agg a)→aI v=[v]→dP c ρ F h (aI v) x.cells.toList:=fun h1 h2=>by
  rw[h2,LD h1];exact .cons hv .nil
 cases hv with
 |j=>simp[okV,AE]at ho
 |s hp=>exact one (DC hp) rfl
 |nil=>exact one (by rintro a e;cases e) rfl
 |sl=>exact one (by rintro a e;cases e) rfl
 |tk hn lx ha h0=>exact one (by rintro a rfl;simp[Ln]at lx) rfl
 |ptr=>exact one (by rintro a e;cases e) rfl
 |ep=>exact one (by rintro a e;cases e) rfl
 |wp hn lx ha h0=>exact one (by rintro a rfl;simp[Yc]at lx) rfl
 |mp=>exact one (by rintro a e;cases e) rfl
 |bg=>exact one (by rintro a e;cases e) rfl
 |sv=>simp[okV,AE]at ho
 |pv=>simp[okV,AE]at ho
 |agg hs ha=>exact⟨by simpa[aI,Value.cells]using hs,fun i t v h1 h2=>ha i t v h1 (by simpa[Value.cells]using h2)⟩
 |dk=>simp[okV,AE]at ho
 |oB=>exact one (by rintro a e;cases e) rfl
 |dc=>exact one (by rintro a e;cases e) rfl
theorem yX:∀{n:Nat} {l xs r:List TV} {l' NG:List Value},dJ l n xs=some r→dP c ρ F h l l'→dP c ρ F h xs NG→∃r',dJ l' n NG=some r'∧dP c ρ F h r r'
 |0,l,[],r,l',NG,hs,hl,hx=>by
  simp[dJ]at hs;subst hs;rw[hx.bG];exact⟨l',by simp[dJ],hl⟩
 |0,[],x::xs,r,l',NG,hs,hl,hx=>by simp[dJ]at hs
 |0,y::l,x::xs,r,l',NG,hs,hl,hx=>by
  simp only[dJ,Option.bind_eq_some_iff,Option.some.injEq]at hs;obtain⟨q,hq,rfl⟩:=hs;obtain⟨y',m,rfl,_,h2⟩:=hl.aO;obtain⟨x',k,rfl,h3,h4⟩:=hx.aO;obtain⟨r',h5,h6⟩:=yX hq h2 h4;exact⟨x'::r',by simp[dJ,h5],.cons h3 h6⟩
 |n+1,[],xs,r,l',NG,hs,hl,hx=>by simp[dJ]at hs
 |n+1,y::l,xs,r,l',NG,hs,hl,hx=>by
  simp only[dJ,Option.bind_eq_some_iff,Option.some.injEq]at hs;obtain⟨q,hq,rfl⟩:=hs;obtain⟨y',m,rfl,h1,h2⟩:=hl.aO;obtain⟨r',h5,h6⟩:=yX hq h2 hx;exact⟨y'::r',by simp[dJ,h5],.cons h1 h6⟩
theorem vy {pT pE:Nat→Option (Nat×Nat)} (hp:∀i x,pT i=some x→pE i=some x):∀{ps:List (Nat×TV)} {zs cs:List TV} {zv:List Value} {pv:List (Nat×Value)},By pT zs ps=some cs→dP c ρ F h zs zv→R7 c ρ F h ps pv→
 ∃cv,kO pE zv pv=some cv∧dP c ρ F h cs cv
 |[],zs,cs,zv,[],hf,hz,_=>by simp[By]at hf;subst hf;exact⟨zv,rfl,hz⟩
 |[],zs,cs,zv,_::_,hf,hz,hq=>hq.elim
 |a::l,zs,cs,zv,[],hf,hz,hq=>hq.elim
 |a::l,zs,cs,zv,b::m,hf,hz,hq=>by
  obtain⟨e,hv,hr⟩:=hq;unfold By at hf;split at hf
  ·rename_i q n pq;split at hf
   ·rename_i hc;simp only[Bool.and_eq_true,beq_iff]at hc;have uc:=jL hv hc.1;split at hf
    ·rename_i uY jG;obtain⟨r',h1,h2⟩:=yX jG hz uc;obtain⟨cv,h3,h4⟩:=vy hp hf h2 hr;refine⟨cv,?_,h4⟩;obtain⟨i,x⟩:=b;simp only[kO];simp only at e;subst e;rw[hp _ _ pq];simp only[Option.bind_some];have:x.cells.size=n:=by have:=uc.1;simp only[Array.length_toList]at this;omega
     rw[this];simp[bO,h1,h3]
    ·cases hf
   ·cases hf
  ·cases hf
theorem LG (L:cD T E) {t:TypeId} {ps:List (Nat×TV)} {pv:List (Nat×Value)} (hw:Ik T t ps o c K) (hp:R7 c ρ F h ps pv):jK c ρ F h o (uV E t pv) K:=by
 unfold Ik at hw;split at hw
 ·rename_i fields z hd hz;obtain⟨kI,pq⟩:=L.zero _ _ hz;split at hw
  ·rename_i zs cC j6;rw[Array.all_toList]at cC;split at hw
   ·rename_i cs hf;have Uw:∀i x,sc T fields i=some x→sc E fields i=some x:=fun i x hx=>by
     unfold sc at hx ⊢;simp only[Option.bind_eq_some_iff]at hx ⊢;obtain⟨fd,h1,n,h2,h3⟩:=hx;exact⟨fd,h1,n,L.size _ _ h2,h3⟩
    obtain⟨cv,h1,h2⟩:=vy Uw hf (gG pq j6) hp;refine⟨_,_,?_,.gZ (a:=cv.toArray) (by simpa using h2),hw⟩;unfold uV;rw[L.desc _ _ hd,kI];simp only[Option.bind_some];have Zo:(fields.all fun fd=>(E.size fd.type).isSome)=true:=by
     rw[Array.all_eq_true]at cC ⊢;intro i hi;have:=cC i hi;obtain⟨n,hn⟩:=Option.isSome_iff_exists.1 this;rw[L.size _ _ hn];rfl
    rw[Zo];simp[bO,h1]
   ·exact hw.elim
  ·exact hw.elim
 ·rename_i len elem z hd hz;obtain⟨kI,pq⟩:=L.zero _ _ hz;split at hw
  ·rename_i n zs hn j6;split at hw
   ·rename_i cs hf;obtain⟨cv,h1,h2⟩:=vy (pE:=fun i=>some (i*n,n)) (fun i x hx=>hx) hf (gG pq j6) hp;refine⟨_,_,?_,.gZ (a:=cv.toArray) (by simpa using h2),hw⟩;unfold uV;rw[L.desc _ _ hd,kI];simp only[Option.bind_some,L.size _ _ hn,h1]
   ·exact hw.elim
  ·exact hw.elim
 ·exact hw.elim
theorem IB (L:cD T E) {s d:TypeId} {x v:Value} (hx:rO T s d x=some v):rO E s d x=some v:=by
 unfold rO at hx ⊢;simp only[Option.bind_eq_some_iff]at hx ⊢;obtain⟨q,h1,dd,h2,h3⟩:=hx;exact⟨q,L.desc _ _ h1,dd,L.desc _ _ h2,h3⟩
end
section
variable {T E:Env} {X:Cx} {ρ:Gh} {F:Nat→Prop} {o:Ob} {c:Nat} {af:AF} {f:Fr} {h:ab} {p:Oper} {K:OK}
theorem IC {v:Value} (hp:aB v=true) (hc:∀r,v≠ .chan r):kX v v=true:=by
 cases v<;>simp[aB]at hp<;>first
  |(simp[kX];done)
  |(exact absurd rfl (hc _))
  |(rename_i a;cases a<;>simp at hp<;>simp[kX])
theorem iq {t:TV} {x:Value} (hv:VR c ρ F h t x) (he:Ic t=true):kX x x=true:=by
 cases hv with
 |j=>simp[Ic]at he
 |s hp=>exact IC hp (by rintro r rfl;simp[Ic]at he)
 |nil=>simp[kX]
 |sl=>simp[kX]
 |tk hn lx ha h0=>cases x<;>simp[Ln]at lx;simp[kX]
 |ptr=>simp[kX]
 |ep=>simp[kX]
 |wp hn lx ha h0=>cases x<;>simp[Yc]at lx;simp[kX]
 |mp=>simp[kX]
 |bg=>simp[Ic]at he
 |sv=>simp[Ic]at he
 |pv=>simp[Ic]at he
 |agg=>simp[Ic]at he
 |dk=>simp[Ic]at he
 |oB pJ=>
  rename_i t v v';cases v<;>simp[Ic]at he;rename_i w;cases w<;>simp at he;rw[pJ.dA.1];simp[kX]
 |dc hs ha ht hk=>
  rename_i g x y a k;cases x<;>simp[Ic]at he;cases y<;>simp at he;simp at hs ht;simp[kX,←hs,←ht]
theorem vz:∀{l:List TV} {m:List Value},dP c ρ F h l m→l.all Ic=true→kY m m=true
 |[],m,H,_=>by rw[H.bG];rfl
 |t::l,m,H,he=>by
  simp only[List.all_cons,Bool.and_eq_true]at he;obtain⟨v,m',rfl,h1,h2⟩:=H.aO;simp only[kY,Bool.and_eq_true];exact⟨iq h1 he.1,vz h2 he.2⟩
theorem DD {c1:Nat} {iX:Gh} {l:List TV} {m:List Value} {v:VL} {q:RQ} {ρ':Gh} {o':Ob} {h':ab} (H:dP c1 iX F h l m) (fG:kY m m=true→gi ρ F o h ρ' o' h' v (.rd q h)):gi ρ F o h ρ' o' h' (Oe l v) (.rd q h):=by
 unfold Oe;split
 ·rename_i he;exact fG (vz H he)
 ·exact .bad
def jM (X:Cx) (c:Nat) (ρ:Gh) (F:Nat→Prop) (h:ab) (o:Ob) (q:RQ) (K:OK):Prop:=∃v x lg ρ' o' c',q.run h=some x∧Nx X ρ F o c h ρ' F o' c' h∧VR c' ρ' F h v x∧K v o' c' lg∧gi ρ F o h ρ' o' h lg (.rd q h)
theorem jM.HB {q:RQ} (R:jM X c ρ F h o q K) (hp:aZ E af p=none) (hq:b7 E af p=some q):fv E X ρ F o c af h p K:=by
 obtain⟨v,x,lg,ρ',o',c',h1,h2,h3,h4,h5⟩:=R;refine⟨0,⟨x,h,.rd q h⟩,v,o',c',ρ',F,lg,fun n _=>?_,h4,h2,h3,h5⟩;unfold eF;rw[hp,hq];simp[h1]
theorem jM.same {q:RQ} (H:Mem X ρ F o c h) {v:TV} {x:Value} {lg:VL} (h1:q.run h=some x) (h2:VR c ρ F h v x) (h3:K v o c lg) (h4:gi ρ F o h ρ o h lg (.rd q h)):jM X c ρ F h o q K:=⟨v,x,lg,ρ,o,c,h1,.refl H,h2,h3,h4⟩
theorem vA:∀{l:List TV} {k:Nat},(eH l k).2=[]→(eH l k).1=l
 |[],_,_=>rfl
 |t::l,k,hn=>by
  cases t<;>first|(simp only[eH]at hn ⊢;rw[vA hn])|(simp[eH]at hn)
theorem lh {α:Type}:∀{l xs r:List α} {p:Nat},dJ l p xs=some r→r=l.take p++(xs++(l.drop p).drop xs.length)
 |l,[],r,0,h=>by simp[dJ]at h;subst h;simp
 |[],x::xs,r,0,h=>by simp[dJ]at h
 |y::l,x::xs,r,0,h=>by
  simp only[dJ,Option.bind_eq_some_iff,Option.some.injEq]at h;obtain⟨q,hq,rfl⟩:=h;have:=lh hq;simp only[List.take_zero,List.nil_append,List.drop_zero]at this;rw[this];simp
 |[],xs,r,p+1,h=>by simp[dJ]at h
 |y::l,xs,r,p+1,h=>by
  simp only[dJ,Option.bind_eq_some_iff,Option.some.injEq]at h;obtain⟨q,hq,rfl⟩:=h;rw[lh hq];simp
theorem BM:∀(l:List TV) (k:Nat),(eH l k).1.length=l.length
 |[],_=>rfl
 |t::l,k=>by cases t<;>simp[eH,BM l]
theorem FL (H:Mem X ρ F o c h) {S:Nat→Ft} (K0:MO X ρ F o c h S) {agg:Bool} {n p q m b:Nat} {e:List TV} {y:TO} {put:List TV→TO} {Se:Ft} {vs:List Value} {lg:VL} (hw:Bx agg n p e o c lg put m K) (hl:look o m=some y) (hb:BJ ρ m b) (wC:lg= .mC m∨lg= .A4 m p .j∧p=q∧ρ m=some (.dw b))
 (hc:da c ρ F h X.base Se e vs) (hr:n≤(e.drop p).length→M.an h b q n=some ((vs.drop p).take n))
 (lS:∀c' ρ' e' S',(∀t v,VR c ρ F h t v→VR c' ρ' F h t v)→ρ' m=ρ m→e'.length=e.length→da c' ρ' F h X.base S' e' vs→∃S0,OR c' ρ' F h X.base m S0 (put e')∧∀R,Se.Perm (S'++R)→(S m).Perm (S0++R)):
 jM X c ρ F h o (.cells agg b q n) K:=by
 unfold Bx at hw;split at hw
 ·exact hw.elim
 ·rename_i l ht;rw[bo]at ht;obtain⟨t1,rfl⟩:=ht;have Kb:=hr t1;obtain⟨S1,S2,S3,hS,a1,a2,a3⟩:=hc.part p n;have fzm:∀t v,VR 0 xM F h t v→fz t=true→VR c ρ F h t v:=fun t v hv hf=>hv.dC hf;split at hw
  ·rename_i oA;split at hw
   ·rename_i v hv;obtain⟨hK,_⟩:=eK hw;obtain⟨Ss,ls,b1,b2,b3⟩:=a2.opened c;have mP:ls.length=0:=by rw[b2.l2,oA];rfl
    have hV:=b3 c ρ (fun _ _ h=>h) om (fun i q hq=>by
     have:=(List.getElem?_eq_some_iff.1 hq).1;omega)
    rw[vA oA]at hV;obtain⟨x,h6,h7⟩:=gI hv hV;have main:kY ((vs.drop p).take n) ((vs.drop p).take n)=true→gi ρ F o h ρ o h (nmL v lg) (.rd (.cells agg b q n) h):=by
     intro he;have pl:gi ρ F o h ρ o h (.mC m) (.rd (.cells agg b q n) h):=.mC (.refl _) rfl hl hb ⟨_,Kb,he⟩;rcases wC with rfl |⟨rfl,rfl,AT⟩
     ·exact pl
     have one:∀w,v=w→dz w=false→eR w=true→(∀cs,w≠ .agg cs)→(∀y,VR c ρ F h w y→lQ ρ w y)→gi ρ F o h ρ o h (.A4 m p w) (.rd (.cells agg b p n) h):=by
      rintro w rfl _ _ Hz Ol;unfold e7 at hv;split at hv
      ·cases hv;exact absurd rfl (Hz _)
      ·rename_i l' w' heq;cases hv;rw[heq]at hV;obtain⟨y1,m1,e1,hy,HH⟩:=hV.aO;obtain rfl:=HH.bG;have Ui:n=1:=by
        have:=congrArg List.length heq;rw[List.length_take]at this;simp only[List.length_cons,List.length_nil]at this;omega
       subst Ui;rw[e1]at Kb;exact .A4 (.refl _) rfl hl AT (Ol _ hy) Kb
      ·cases hv
     unfold nmL;split
     ·rename_i m' p' v' heq;cases heq;split
      ·exact one _ rfl rfl rfl (by rintro cs e;cases e) fun y hy=>by cases hy with|mp hb=>exact .inl ⟨_,_,rfl,hb,rfl⟩
      ·exact one _ rfl rfl rfl (by rintro cs e;cases e) fun y hy=>by cases hy with|ptr hb=>exact .inr ⟨_,_,_,rfl,hb,rfl⟩
      ·exact pl
     ·rename_i bH;exact absurd rfl (bH _ _ _)
    exact jM.same H (by simp[RQ.run,Kb,h6]) h7 hK (DD hV main)
   ·exact hw.elim
  ·rename_i q0 new oA;split at hw
   ·rename_i e' v jG hv;obtain⟨hK,_⟩:=eK hw;have hA:∀ls:List Loc,∀t v,VR c ρ F h t v→VR (c+(new.length+1)) (pI ρ c ls) F h t v:=fun ls t v=>VR.mono om (fun n l hn h1=>by rwa [fR _ _ hn]at h1) (fun n b h1=>by rw[fR _ _ (H.names _ _ h1)];exact h1) (fun _ h=>h) (fun _ _ _ h=>h);obtain⟨Ss,ls,b1,b2,b3⟩:=a2.opened c;rw[oA]at b2;have vd:ls.length=new.length+1:=b2.l2;have hV:=b3 (c+(new.length+1)) (pI ρ c ls) (hA ls) om (fun i q hq=>by rw[ua];exact hq);obtain⟨x,h6,h7⟩:=gI hv hV;have hlen:(eH ((e.drop p).take n) c).1.length=n:=by rw[BM,List.length_take];omega
    have vo:=lh jG;rw[hlen]at vo;have HK:=H.lt hl;have Zp:da (c+(new.length+1)) (pI ρ c ls) F h X.base (S1++S3) e' vs:=by
     have k1:=a1.bA (c':=c+(new.length+1)) (ρ':=pI ρ c ls) (F':=F) (h':=h) (T:=fun _=>False) H.wf (fun _ _ _=>rfl) (fun _ h=>h) (fun _ _ _ h=>h) (hA ls) (fun _ _ hf=>hf.elim);have k3:=a3.bA (c':=c+(new.length+1)) (ρ':=pI ρ c ls) (F':=F) (h':=h) (T:=fun _=>False) H.wf (fun _ _ _=>rfl) (fun _ h=>h) (fun _ _ _ h=>h) (hA ls) (fun _ _ hf=>hf.elim);have:=k1.join ((da.lN (base:=X.base) hV).join k3);rw[List.take_append_drop,List.take_append_drop,←vo]at this;exact this
    obtain⟨S0,hO,hP⟩:=lS _ _ e' (S1++S3) (hA ls) (fR _ _ HK) (dG jG).2.1 Zp;have FM:(S m).Perm (S0++Ss.flatten):=hP _ (by
     rw[hS,←b1,List.append_assoc];exact List.perm_append_comm.append_left _)
    obtain⟨M,hk⟩:=H.opens K0 (y1:=put e') hl b2 FM (fun _=>hO);refine⟨v,x,_,_,_,_,by simp[RQ.run,Kb,h6],⟨M,hk,Nat.le_refl _,fun _ h=>h,fun _ _ _ h=>h⟩,h7,hK,DD hV fun he=>(show Y7 lg= .mC m by rcases wC with rfl |⟨rfl,_⟩<;>rfl)▸ .mC (fun n' y' AI _=>⟨?_,fR _ _ (H.lt AI),fun b _=>⟨rfl,fun _ h=>h⟩⟩) rfl hl hb ⟨_,Kb,he⟩⟩;rw[ku,vn b2,if_pos (H.lt AI)];simp only
    rw[eJ];by_cases em:n'=m
    ·rw[if_pos em,hl];exact⟨_,rfl⟩
    ·rw[if_neg em];exact⟨_,AI⟩
   ·exact hw.elim
theorem VV {z i p n b:Nat} {v1 v2 v3:List Value} (hr:h.rd b=some (v1++(v2++v3))) (h1:v1.length=i*z) (h2:n≤(v2.drop p).length):M.an h b (i*z+p) n=some ((v2.drop p).take n):=by
 unfold M.an;rw[hr];simp only[Option.bind_some,bo];rcases Nat.eq_zero_or_pos n with h0|h0
 ·subst h0;simp
 ·simp only[List.length_drop]at h2;have e:(v1++(v2++v3)).drop (i*z+p)=v2.drop p++v3:=by
   rw[←h1,List.drop_append,List.drop_eq_nil_of_le om,Nat.add_sub_cancel_left,List.nil_append,List.drop_append_of_le_length om]
  rw[e];refine⟨by rw[List.length_append,List.length_drop];omega,?_⟩;rw[List.take_append_of_le_length (by rw[List.length_drop];omega)]
theorem OB (L:cD T E) (H:Mem X ρ F o c h) {t:TypeId} {a:TV} {av:Value} (hw:Of T t a o c K) (ha:VR c ρ F h a av):
 ∃q,((jC av).bind fun p=>(fa E t).bind fun s=>some (.cells s.1 p.1 p.2 s.2))=some q∧jM X c ρ F h o q K:=by
 unfold Of at hw;split at hw
 ·exact hw.elim
 ·rename_i agg n hs;have kp:=L.shape hs;obtain⟨S,K0⟩:=H.ex;split at hw
  ·rename_i m q;split at hw
   ·rename_i cs hl;have hO:=K0.ct m _ hl;generalize hS:S m=Sm at hO;cases hO with
    |cells hb hg AK hc=>
     rename_i Sq b bd cs';cases ha with
     |ptr bV=>
      rw[hb]at bV;cases bV;refine⟨.cells agg b q n,by simp[jC,kp],FL H K0 hw hl (.inl hb) (.inr ⟨rfl,rfl,hb⟩) hc (fun hn=>?_) fun c' ρ' e' S' hm fQ hlen Zp=>⟨_,.cells (fQ.trans hb) hg AK Zp,fun R hR=>by rw[hS];exact hR.cons _⟩⟩;unfold M.an;rw[eW (cG hg hg) AK (aT hg)];simp only[Option.bind_some,bo,and_true];have:=hc.len;simp only[List.length_drop]at hn ⊢;omega
   ·exact hw.elim
  ·rename_i e q;split at hw
   ·rename_i l ht;split at hw
    ·rename_i v hv;obtain⟨hK,_⟩:=eK hw;cases ha with
     |ep h1 h2 h3 h4 h5=>
      rename_i b q0 cs;rw[bo]at ht;obtain⟨t1,rfl⟩:=ht;simp only[List.length_drop]at t1;have hlen:n≤(cs.drop (q0+q)).length∨n=0:=by
       simp only[List.length_drop];omega
      have hR:dP c ρ F h ((e.drop q).take n) ((cs.drop (q0+q)).take n):=by
       refine⟨by simp;omega,fun i t v r1 r2=>?_⟩;rw[List.getElem?_take]at r1 r2;split at r1
       ·rename_i aN;rw[if_pos aN]at r2;rw[List.getElem?_drop]at r1 r2;exact h5 (q+i) t v r1 (by rw[←r2];congr 1;omega)
       ·cases r1
      obtain⟨x,h6,h7⟩:=gI hv hR;have Kb:M.an h b (q0+q) n=some ((cs.drop (q0+q)).take n):=by
       unfold M.an;rw[h2];simp only[Option.bind_some,bo,and_true];rcases hlen with h8|h8
       ·exact h8
       ·omega
      exact⟨.cells agg b (q0+q) n,by simp[jC,kp],jM.same H (by simp[RQ.run,Kb,h6]) h7 hK (DD hR fun he=>.JV (.refl _) rfl h1 ⟨_,_,_,_,rfl⟩ ⟨_,Kb,he⟩)⟩
    ·exact hw.elim
   ·exact hw.elim
  ·rename_i m i q;split at hw
   ·rename_i z w es hl;obtain⟨e,he,hw⟩:=hw;split at hw
    ·rename_i l ht;split at hw
     ·rename_i v hv;obtain⟨hK,_⟩:=eK hw;obtain⟨b,z',l',hb,rfl⟩:=vx H hl rfl ha;obtain⟨Sm,hO⟩:=H.ct hl;cases hO with
      |nil bV hz=>rw[hb]at bV;cases bV
      |arr bV hg hf AK eG hz hlen pK iz hc hF=>
       rename_i f t0 gX bd cs;rw[hb]at bV;cases bV;have gA:=eW hf AK (aT hg);rw[bo]at ht;obtain⟨t1,rfl⟩:=ht;simp only[List.length_drop]at t1;have Nl:=pK e (List.mem_of_getElem? he);have hi:i<es.length:=(List.getElem?_eq_some_iff.1 he).1;have hle:(i+1)*z≤es.length*z:=Nat.mul_le_mul_right z hi;rw[Nat.add_mul]at hle;have hR:dP c ρ F h ((e.drop q).take n) ((cs.drop (i*z+q)).take n):=by
        refine⟨by simp;omega,fun j t v r1 r2=>?_⟩;rw[List.getElem?_take]at r1 r2;split at r1
        ·rename_i aN;rw[if_pos aN]at r2;rw[List.getElem?_drop]at r1 r2;exact hc i (q+j) e t v he r1 (by rw[←r2];congr 1;omega)
        ·cases r1
       obtain⟨x,h6,h7⟩:=gI hv hR;have Kb:M.an h b (i*z+q) n=some ((cs.drop (i*z+q)).take n):=by
        unfold M.an;rw[gA];simp only[Option.bind_some,bo,and_true,List.length_drop];omega
       exact⟨.cells agg b (i*z+q) n,by simp[jC,kp],jM.same H (by simp[RQ.run,Kb,h6]) h7 hK (DD hR fun vo=>.mC (.refl _) rfl hl (.inr ⟨_,_,hb⟩) ⟨_,Kb,vo⟩)⟩
     ·exact hw.elim
    ·exact hw.elim
   ·rename_i z es op hl;obtain⟨b,z',l',hb,rfl⟩:=vx H hl rfl ha;have hO:=K0.ct m _ hl;generalize hS:S m=Sm at hO;cases hO with
    |ia bV hz=>rw[hb]at bV;cases bV
    |bB bV hg hf AK eG hz hlen pK b6 iW hc=>
     rename_i Sq f t0 gX bd cs;rw[hb]at bV;cases bV;have gA:=eW hf AK (aT hg);have fc:=yM b6;refine⟨.cells agg b (i*z+q) n,by simp[jC,kp],?_⟩
     -- a row that is there as it is
     have row:∀(Ll:List TV→List (Nat×List TV)) e,(cZ es op)[i]? =some e→(∀e',e'.length=z→(∀p∈Ll e',p.1<es.length∧p.2.length=z)∧cZ es (Ll e')=(cZ es op).set i e')→Bx agg n q e o c (.mC m) (fun e'=>.bB z es (Ll e')) m K→jM X c ρ F h o (.cells agg b (i*z+q) n) K:=by
      intro Ll e Nh vh hw;obtain⟨eP,j6⟩:=tY pK iW;have hi:i<(cZ es op).length:=(List.getElem?_eq_some_iff.1 Nh).1;have he:=j6 e (List.mem_of_getElem? Nh);have lD:(cZ es op).set i e=cZ es op:=by
       refine List.ext_getElem? fun k=>?_;rw[List.getElem?_set];by_cases ek:i=k
       ·subst ek;rw[if_pos rfl,if_pos hi,Nh]
       ·rw[if_neg ek]
      rw[←lD]at hc;generalize cZ es op=rows at*
      obtain⟨S1,S2,S3,v1,v2,v3,rfl,rfl,a1,a2,a3⟩:=lP j6 hi hc;have e1:v1.length=i*z:=by
       have h1:=a1.len;have:=(fy j6 Nh).2;rw[Nat.add_mul]at this;rw[←h1,List.length_take];omega
      have e2:v2.length=z:=by rw[←a2.len];exact he
      refine FL H K0 hw hl (.inr ⟨_,_,hb⟩) (.inl rfl) a2 (fun hn=>VV gA e1 (by simp only[List.length_drop]at hn ⊢;omega)) fun c' ρ' e' S' hm fQ cY Zp=>?_;have kI:=vh e' (by rw[cY];exact he);have:=qW j6 hi (a1.bA (T:=fun _=>False) H.wf (fun _ _ _=>rfl) (fun _ h=>h) (fun _ _ _ h=>h) hm (by simp)) Zp (a3.bA (T:=fun _=>False) H.wf (fun _ _ _=>rfl) (fun _ h=>h) (fun _ _ _ h=>h) hm (by simp));rw[←kI.2]at this;refine⟨_,.bB (fQ.trans hb) hg hf AK eG hz hlen pK b6 kI.1 this,fun R hR=>?_⟩;rw[hS];refine List.Perm.cons _ ?_;show List.Perm _ ((S1++(S'++S3))++R);rw[List.append_assoc,List.append_assoc]
      refine List.Perm.append_left S1 ((hR.append_right S3).trans ?_);rw[List.append_assoc];exact List.perm_append_comm.append_left _
     have eP:=(tY pK iW).1;have Zq:∀{e':List TV},i<es.length→e'.length=z→∀p∈(i,e')::op,p.1<es.length∧p.2.length=z:=fun h1 h2 p hp=>by
      rcases List.mem_cons.1 hp with rfl |hp
      ·exact⟨h1,h2⟩
      ·exact iW p hp
     have Zr:∀{e':List TV},i<es.length→e'.length=z→∀p∈[(i,e')],p.1<es.length∧p.2.length=z:=fun h1 h2 p hp=>by
      simp only[List.mem_singleton]at hp;subst hp;exact⟨h1,h2⟩
     unfold JW at hw;split at hw
     ·obtain⟨e,he,hw⟩:=hw;exact row (fun e'=>[(i,e')]) e he (fun e' AI=>⟨Zr (List.getElem?_eq_some_iff.1 he).1 AI,rfl⟩) hw
     ·rename_i j ej;obtain⟨o1,o2⟩:=iW (j,ej) (by simp);by_cases Ye:i=j
      ·subst Ye;exact row (fun e'=>[(i,e')]) ej (by show(es.set i ej)[i]? =_;rw[List.getElem?_set_self o1]) (fun e' AI=>⟨Zr o1 AI,by show es.set i e'=(es.set i ej).set i e';rw[List.set_set]⟩) (hw.1 rfl)
      ·obtain⟨e,he,hw⟩:=hw.2 Ye;have Nh:(es.set j ej)[i]? =some e:=by rw[List.getElem?_set,if_neg (fun h=>Ye h.symm)];exact he
       exact row (fun e'=>(i,e')::[(j,ej)]) e Nh (fun e' AI=>⟨Zq (List.getElem?_eq_some_iff.1 he).1 AI,rfl⟩) hw
     ·obtain⟨e,he,hw⟩:=hw;exact row (fun e'=>(i,e')::op) e he (fun e' AI=>⟨Zq (by rw[←eP];exact(List.getElem?_eq_some_iff.1 he).1) AI,rfl⟩) hw
   ·exact hw.elim
  ·exact hw.elim
theorem ri {kd:TypeDesc} {k:Value} {n:Nat} (hk:kindOk kd k n=true):(∃b,kd= .bool∧k= .bool b∧n=1)∨(∃s,kd= .string∧k= .string s∧n=2)∨(∃i x,kd= .int i∧k= .int i x∧n=eE i):=by
 unfold kindOk at hk;simp only[Bool.and_eq_true,beq_iff,ba]at hk;obtain⟨⟨h0,h1⟩,h2⟩:=hk;cases kd<;>simp[yD]at h1<;>try omega
 ·cases k<;>simp[bk]at h2<;>try omega
  ·exact .inl ⟨_,rfl,rfl,h1.symm⟩
  ·rename_i i x;subst h1;cases i<;>simp[eE]at h2
 ·rename_i i;cases k<;>simp[bk]at h2<;>try omega
  ·subst h1;cases i<;>simp[eE]at h2
  ·rename_i j x;have:i=j:=by subst h1;cases i<;>cases j<;>simp[eE]at h2<;>rfl
   subst this;exact .inr (.inr ⟨_,_,rfl,rfl,h1.symm⟩)
  ·subst h1;cases i<;>simp[eE]at h2
 ·cases k<;>simp[bk]at h2<;>try omega
  ·rename_i i x;subst h1;cases i<;>simp[eE]at h2
  ·exact .inr (.inl ⟨_,rfl,rfl,h1.symm⟩)
theorem kb {kd:TypeDesc} {k:Value} {n:Nat} (hk:kindOk kd k n=true):jb kd=true∧scalar k=true:=by
 rcases ri hk with⟨_,rfl,rfl,_⟩|⟨_,rfl,rfl,_⟩|⟨_,_,rfl,rfl,_⟩<;>exact⟨rfl,rfl⟩
theorem ky {kd:TypeDesc} {k k':Value} {n:Nat} (hk:kindOk kd k n=true) (kH:bk k'=n):Instr.sameNow kd k k'=some (mR k k'):=by
 rcases ri hk with⟨b,rfl,rfl,rfl⟩|⟨s,rfl,rfl,rfl⟩|⟨i,x,rfl,rfl,rfl⟩
 ·cases k'<;>simp[bk]at kH
  ·rfl
  ·rename_i j y;cases j<;>simp[eE]at kH
 ·cases k'<;>simp[bk]at kH
  ·rename_i j y;cases j<;>simp[eE]at kH
  ·rfl
 ·cases k'<;>simp[bk]at kH<;>try(cases i<;>simp[eE]at kH;done)
  rename_i j y;have:i=j:=by cases i<;>cases j<;>simp[eE]at kH<;>rfl
  subst this;simp[Instr.sameNow,mR]
def vB (c:Nat) (ρ:Gh) (F:Nat→Prop) (h:ab) (kd:Nat) (es:List (Value×TV)) (bU:List MapEntry):Prop:=
 es.length=bU.length∧∀(i:Nat) e e',es[i]? =some e→bU[i]? =some e'→e'.key=e.1∧(0<kd∧bk e.1=kd)∧Fg e.2=true∧VR c ρ F h e.2 e'.val
theorem vB.aO {kd:Nat} {e:Value×TV} {es:List (Value×TV)} {bU:List MapEntry} (H:vB c ρ F h kd (e::es) bU):∃e' m,bU=e'::m∧e'.key=e.1∧(0<kd∧bk e.1=kd)∧Fg e.2=true∧VR c ρ F h e.2 e'.val∧vB c ρ F h kd es m:=by
 match bU,H with
 |[],H=>have:=H.1;simp at this
 |e'::m,H=>
  obtain⟨h1,h2,h3,h4⟩:=H.2 0 e e' rfl rfl;exact⟨e',m,rfl,h1,h2,h3,h4,by simpa using H.1,fun i x x' q1 q2=>H.2 (i+1) x x' (by simpa using q1) (by simpa using q2)⟩
theorem vB.bG {kd:Nat} {bU:List MapEntry} (H:vB c ρ F h kd [] bU):bU=[]:=by have:=H.1;cases bU<;>simp_all
theorem ud {kd:TypeDesc} {k:Value} {n:Nat} (hk:kindOk kd k n=true):∀{es:List (Value×TV)} {bU:List MapEntry} (i:Nat),vB c ρ F h n es bU→
 (match fN es k with
 |some v=>∃j x,Instr.findNow kd k bU i=some (some (i+j,x))∧VR c ρ F h v x∧Fg v=true∧∃e,bU[j]? =some e∧e.val=x
 |none=>Instr.findNow kd k bU i=some none)
 |[],bU,i,H=>by rw[H.bG];rfl
 |e::es,bU,i,H=>by
  obtain⟨e',m,rfl,h1,h2,h3,h4,h5⟩:=H.aO;unfold fN Instr.findNow;rw[h1,ky hk h2.2];cases hq:mR k e.1 with
  |true=>exact⟨0,e'.val,rfl,h4,h3,e',rfl,rfl⟩
  |false=>
   have ih:=ud hk (i+1) h5;simp only
   split
   ·rename_i v hv;rw[hv]at ih;obtain⟨j,x,q1,q2,q3,e2,q4,q5⟩:=ih;exact⟨j+1,x,by rw[q1];congr 3;omega,q2,q3,e2,by simpa using q4,q5⟩
   ·rename_i hv;rw[hv]at ih;exact ih
theorem DE {t:TV} (hf:fz t=true):Ic t=true:=by
 unfold fz at hf;split at hf
 ·rename_i v;cases v<;>first|rfl |simp[yC]at hf
 ·rfl
 ·rfl
 ·rfl
 ·cases hf
theorem OC {t:TV} {x:Value} (hv:VR c ρ F h t x) (hf:Fg t=true):EB x x=true:=by
 have one:kX x x=true→EB x x=true:=fun h=>by
  unfold EB;split
  ·simp[kX]at h
  ·exact h
 unfold Fg at hf;split at hf
 ·obtain⟨a,rfl,h1⟩:=hv.fF;exact vz h1 (List.all_eq_true.2 fun t ht=>DE (List.all_eq_true.1 hf t ht))
 ·exact one (iq hv (DE hf))
theorem vB.refl {kd:Nat}:∀{es:List (Value×TV)} {bU:List MapEntry},vB c ρ F h kd es bU→x9 bU bU=true
 |[],bU,H=>by rw[H.bG];rfl
 |e::es,bU,H=>by
  obtain⟨e',m,rfl,h1,h2,h3,h4,h5⟩:=H.aO;simp only[x9,Bool.and_eq_true];refine⟨⟨⟨?_,OC h4 h3⟩,by simp⟩,h5.refl⟩;rw[h1];have:=h2.2;cases he:e.1<;>rw[he]at this<;>simp[bk]at this<;>try omega
  all_goals simp[EB,kX]
theorem yY {a b:ByteArray}:(a==b)=true↔a=b:=by
 cases a;cases b;show(Array.instBEq.beq _ _)=true↔_;simp
theorem OD {kd:TypeDesc} {k k':Value} {n:Nat} (hk:kindOk kd k n=true) (kH:bk k'=n) (h:mR k k'=true):k=k':=by
 rcases ri hk with⟨b,rfl,rfl,rfl⟩|⟨s,rfl,rfl,rfl⟩|⟨i,x,rfl,rfl,rfl⟩
 ·cases k'<;>simp[bk]at kH
  ·simpa[mR]using h
  ·rename_i j y;cases j<;>simp[eE]at kH
 ·cases k'<;>simp[bk]at kH
  ·rename_i j y;cases j<;>simp[eE]at kH
  ·simp only[mR]at h;rw[yY.1 h]
 ·cases k'<;>simp[bk]at kH<;>try(cases i<;>simp[eE]at kH;done)
  rename_i j y;have:i=j:=by cases i<;>cases j<;>simp[eE]at kH<;>rfl
  subst this;simpa[mR]using h
theorem ue {kd:TypeDesc} {k:Value} {n:Nat} (hk:kindOk kd k n=true):mR k k=true:=by
 rcases ri hk with⟨b,rfl,rfl,rfl⟩|⟨s,rfl,rfl,rfl⟩|⟨i,x,rfl,rfl,rfl⟩<;>simp[mR,yY]
theorem OE {a b c:Value} (h:mR a b=true):mR c b=mR c a:=by
 unfold mR at h;split at h
 ·have:=eq_of_beq h;subst this;cases c<;>rfl
 ·have:=eq_of_beq h;subst this;cases c<;>rfl
 ·have:=yY.1 h;subst this;cases c<;>rfl
 ·cases h
theorem jh.find {base:Nat} {kd:TypeDesc} {k:Value} {n:Nat} (hk:kindOk kd k n=true):∀{M:List (Value×TV)} {ev:List MapEntry} {S:Ft} (i:Nat),jh c ρ F h base n S M ev→
 (match fN M k with
 |some v=>∃j x S1 S2 S3,Instr.findNow kd k ev i=some (some (i+j,x))∧S=S1++(S2++S3)∧da c ρ F h base S2 (aI v) x.cells.toList∧dz v=gg x∧
  ∀c' ρ' v' Sf,(∀e∈M,∀t∈aI e.2,nP t=true)→da c' ρ' F h base Sf (aI v') x.cells.toList→dz v'=gg x→jh c' ρ' F h base n (S1++(Sf++S3)) (dL M k v') ev
 |none=>Instr.findNow kd k ev i=some none)
 |[],ev,S,i,H=>by cases H;rfl
 |e::es,ev,S,i,H=>by
  cases H with
  |cons vC j5 ha hv hl=>
   rename_i Sa Sb e' m;unfold fN Instr.findNow;rw[vC,ky hk j5.2];cases hq:mR k e.1 with
   |true=>
    refine⟨0,e'.val,[],Sa,Sb,rfl,rfl,hv,ha,fun c' ρ' v' Sf b6 pD yf=>?_⟩;unfold dL;rw[hq];have:=OD hk j5.2 hq;subst this;have:=jh.cons (e:=(e.1,v')) vC j5 yf pD (hl.conv (c':=c') (ρ':=ρ') fun e he=>b6 e (List.mem_cons_of_mem _ he));exact this
   |false=>
    have ih:=jh.find hk (i+1) hl;simp only
    split
    ·rename_i v HX;rw[HX]at ih;obtain⟨j,x,S1,S2,S3,q1,q2,q3,q4,q5⟩:=ih;refine⟨j+1,x,Sa++S1,S2,S3,by rw[q1];congr 3;omega,by rw[q2,List.append_assoc],q3,q4,fun c' ρ' v' Sf b6 pD yf=>?_⟩;unfold dL;rw[hq,List.append_assoc];exact .cons vC j5 ha (hv.conv (b6 e List.mem_cons_self)) (q5 c' ρ' v' Sf (fun e he=>b6 e (List.mem_cons_of_mem _ he)) pD yf)
    ·rename_i HX;rw[HX]at ih;exact ih
theorem VR.e7 {v:TV} {x:Value} (H:dP c ρ F h (aI v) x.cells.toList) (ha:dz v=gg x):VR c ρ F h v x:=by
 cases v with
 |agg cs=>
  cases x<;>simp[dz,gg]at ha;exact .gZ H
 |_=>
  have hx:x.cells= #[x]:=by cases x<;>first|rfl |simp[dz,gg]at ha
  rw[hx]at H;exact H.head
theorem A9 {b:Bool} {l:List TV} {v:TV} {x:Value} (ho:e7 b l=some v) (H:dP c ρ F h l x.cells.toList) (ha:b=gg x):aI v=l∧dz v=b∧VR c ρ F h v x:=by
 unfold e7 at ho;split at ho
 ·cases ho;refine⟨rfl,rfl,?_⟩;cases x<;>simp[gg]at ha;exact .gZ H
 ·cases ho;have hx:x.cells= #[x]:=by cases x<;>first|rfl |simp[gg]at ha
  rw[hx]at H;have hv:=H.head;have hn:∀cs,v≠ .agg cs:=by
   rintro cs rfl;obtain⟨a,rfl,_⟩:=hv.fF;simp[gg]at ha
  refine⟨?_,?_,hv⟩
  ·cases v<;>first|rfl |exact absurd rfl (hn _)
  ·cases v<;>first|rfl |exact absurd rfl (hn _)
 ·cases ho
theorem OF {base:Nat} {S:Ft} {t:TV} {x:Value} (H:CR F h base S (.c t x)):kX x x=true:=by
 cases H with
 |fz hf hv=>exact iq hv (DE hf)
 |own hl hv=>
  rename_i y l;cases y with
  |cells cs=>exact iq hv rfl
  |map kd es=>exact iq hv rfl
  |fW kd es op=>exact iq hv rfl
  |arr z w es=>exact iq hv rfl
  |bB z es op=>exact iq hv rfl
  |eQ ks=>cases hv;simp[kX]
theorem da.kY {base:Nat} {S:Ft} {l:List TV} {m:List Value} (H:da c ρ F h base S l m):(∀t∈l,Ic t=true∨nP t=true)→kY m m=true:=by
 induction H with
 |nil=>intro _;rfl
 |vr hv _ ih=>
  rename_i t v l m _;intro hc;simp only[M.kY,Bool.and_eq_true];refine⟨?_,ih fun t ht=>hc t (List.mem_cons_of_mem _ ht)⟩;rcases hc t List.mem_cons_self with h1|h1
  ·exact iq hv h1
  ·unfold nP at h1;split at h1
   ·cases hv
   ·exact iq hv (DE h1)
 |cl hv _ ih=>
  intro hc;simp only[M.kY,Bool.and_eq_true];exact⟨OF hv,ih fun t ht=>hc t (List.mem_cons_of_mem _ ht)⟩
theorem LH {x:Value} (h:kY x.cells.toList x.cells.toList=true):EB x x=true:=by
 cases x with
 |agg a=>exact h
 |_=>simpa[EB,kY,Value.cells]using h
theorem jh.refl {base kd:Nat} {S:Ft} {l:List (Value×TV)} {m:List MapEntry} (H:jh c ρ F h base kd S l m):(∀e∈l,∀t∈aI e.2,Ic t=true∨nP t=true)→x9 m m=true:=by
 induction H with
 |nil=>intro _;rfl
 |cons hk j5 ha hv _ ih=>
  rename_i e e' l m _;intro hc;simp only[x9,Bool.and_eq_true];refine⟨⟨⟨?_,LH (hv.kY (hc _ List.mem_cons_self))⟩,by simp⟩,ih fun e he=>hc e (List.mem_cons_of_mem _ he)⟩;rw[hk];have:=j5.2;cases he:e.1<;>rw[he]at this<;>simp[bk]at this<;>try omega
  all_goals simp[EB,kX]
theorem BN {k k':Value} {v:TV} (bH:mR k k'=false):∀{es:List (Value×TV)},fN (dL es k' v) k=fN es k
 |[]=>by simp[dL,fN,bH]
 |e::es=>by
  unfold dL;cases hq:mR k' e.1 with
  |true=>
   have h2:mR k e.1=false:=(OE hq).trans bH;simp[fN,bH,h2]
  |false=>
   simp only[fN];rw[BN bH]
theorem jh.kinds {base kd:Nat} {S:Ft} {l:List (Value×TV)} {m:List MapEntry} (H:jh c ρ F h base kd S l m):∀e∈l,bk e.1=kd:=by
 induction H with
 |nil=>simp
 |cons hk j5 ha hv _ ih=>
  intro e he;rcases List.mem_cons.1 he with rfl |he
  ·exact j5.2
  ·exact ih e he
theorem FN {k:Value} {v:TV}:∀{es:List (Value×TV)},(k,v)∈dL es k v
 |[]=>by simp[dL]
 |e::es=>by
  unfold dL;cases mR k e.1 with
  |true=>simp
  |false=>exact List.mem_cons_of_mem _ FN
theorem yZ {kd:TypeDesc} {k:Value} {n:Nat} {v:TV} (hk:kindOk kd k n=true):∀{es:List (Value×TV)},fN (dL es k v) k=some v
 |[]=>by simp[dL,fN,ue hk]
 |e::es=>by
  unfold dL;cases hq:mR k e.1 with
  |true=>simp[fN,ue hk]
  |false=>simp[fN,hq,yZ hk]
theorem LI (H:Mem X ρ F o c h) {S:Nat→Ft} (K0:MO X ρ F o c h S) {v:TV} {x y:Value} {m b:Nat} {yo:TO} {S1 S2 S3:Ft} {put:TV→TO} {q:RQ} {wrap:TV→TV} (hw:Ij v o c (.mC m) put m fun v o c lg=>K (wrap v) o c lg)
 (hl:look o m=some yo) (hS:S m=(b,true)::(S1++(S2++S3))) (hc:da c ρ F h X.base S2 (aI v) x.cells.toList) (ha:dz v=gg x) (iD:q.run h=some y) (K6:∀c ρ v,VR c ρ F h v x→VR c ρ F h (wrap v) y)
 (mI:gi ρ F o h ρ o h (.mC m) (.rd q h))
 (lS:∀c' ρ' v',ρ' m=ρ m→da c' ρ' F h X.base [] (aI v') x.cells.toList→dz v'=gg x→OR c' ρ' F h X.base m ((b,true)::(S1++S3)) (put v')):
 jM X c ρ F h o q K:=by
 unfold Ij at hw;split at hw
 ·rename_i oA;obtain⟨Ss,ls,b1,b2,b3⟩:=hc.opened c;have mP:ls.length=0:=by rw[b2.l2,oA];rfl
  have hV:=b3 c ρ (fun _ _ h=>h) om (fun i q hq=>by
   have:=(List.getElem?_eq_some_iff.1 hq).1;omega)
  rw[vA oA]at hV;exact jM.same H iD (K6 _ _ _ (VR.e7 hV ha)) hw mI
 ·rename_i q0 new oA;split at hw
  ·rename_i v' hv;have hA:∀ls:List Loc,∀t v,VR c ρ F h t v→VR (c+(new.length+1)) (pI ρ c ls) F h t v:=fun ls t v=>VR.mono om (fun n l hn h1=>by rwa [fR _ _ hn]at h1) (fun n b h1=>by rw[fR _ _ (H.names _ _ h1)];exact h1) (fun _ h=>h) (fun _ _ _ h=>h);obtain⟨Ss,ls,b1,b2,b3⟩:=hc.opened c;rw[oA]at b2;have vd:ls.length=new.length+1:=b2.l2;have hV:=b3 (c+(new.length+1)) (pI ρ c ls) (hA ls) om (fun i q hq=>by rw[ua];exact hq);obtain⟨e1,e2,e3⟩:=A9 hv hV ha;have FM:(S m).Perm (((b,true)::(S1++S3))++Ss.flatten):=by
    rw[hS,←b1];refine List.Perm.cons _ ?_;show List.Perm _ ((S1++S3)++S2);rw[List.append_assoc];exact List.perm_append_comm.append_left _
   obtain⟨M,hk⟩:=H.opens K0 (y1:=put v') hl b2 FM (fun _=>lS _ _ v' (fR _ _ (H.lt hl)) (by rw[e1];exact da.lN hV) (e2.trans ha));cases mI with
   |mC hr hh QZ pX Sg=>
    refine⟨_,_,_,_,_,_,iD,⟨M,hk,Nat.le_refl _,fun _ h=>h,fun _ _ _ h=>h⟩,K6 _ _ _ e3,hw,.mC (fun n' y' AI _=>⟨?_,fR _ _ (H.lt AI),fun b _=>⟨rfl,fun _ h=>h⟩⟩) rfl hl pX Sg⟩;rw[ku,vn b2,if_pos (H.lt AI)];simp only
    rw[eJ];by_cases em:n'=m
    ·rw[if_pos em,hl];exact⟨_,rfl⟩
    ·rw[if_neg em];exact⟨_,AI⟩
  ·exact hw.elim
theorem ID (L:cD T E) (H:Mem X ρ F o c h) {t:TypeId} {m k:TV} {ok:Bool} {mv kv:Value} (hw:Dg T t m k ok o c K) (hm:VR c ρ F h m mv) (hk:VR c ρ F h k kv):
 (mv= .map none∧jK c ρ F h o ((E.desc t).bind fun d=>(match(generalizing:=false) d,mv with
  | .map kt elem,.map none=>(E.desc kt).bind fun kd=>(E.zero elem).bind fun z=>bO (jb kd&&scalar kv&&fC z) (some (bif ok then .tuple #[z,.bool false]else z))
  |_,_=>none)) K)∨
 (∃r,mv= .map (some r)∧∃q,((E.desc t).bind fun d=>(match(generalizing:=false) d,mv with
  | .map kt elem,.map (some r)=>(E.desc kt).bind fun kd=>(E.zero elem).bind fun z=>bO (jb kd&&scalar kv&&fC z) (some (RQ.look r kd kv z ok))
  |_,_=>none))=some q∧jM X c ρ F h o q K):=by
 unfold Dg at hw;split at hw
 ·rename_i kt elem hd;split at hw
  ·rename_i kd z Ba j5 hz;obtain⟨kI,pq⟩:=L.zero _ _ hz;rw[hk.dA.1]
   have hq:∀b,kindOk kd Ba (yD kd)=true→((E.desc t).bind fun d=>(match(generalizing:=false) d,Value.map (some b)with
    | .map kt elem,.map (some r)=>(E.desc kt).bind fun kd=>(E.zero elem).bind fun z=>bO (jb kd&&scalar Ba&&fC z) (some (RQ.look r kd Ba z ok))
    |_,_=>none))=some (RQ.look b kd Ba z ok):=by
    intro b lk;obtain⟨iB,mJ⟩:=kb lk;rw[L.desc _ _ hd];simp only[Option.bind_some,L.desc _ _ j5,kI,iB,mJ,pq,Bool.and_self,bO]
   have Us:∀{n},kindOk kd Ba n=true→kindOk kd Ba (yD kd)=true:=fun {n} h=>by
    have h0:=h;unfold kindOk at h0 ⊢;simp only[Bool.and_eq_true,beq_iff]at h0 ⊢;obtain⟨⟨q1,q2⟩,q3⟩:=h0;subst q2;exact⟨⟨q1,trivial⟩,q3⟩
   split at hw
   ·rename_i n;right;split at hw
    ·rename_i kn es hl;split at hw
     ·rename_i lk;obtain⟨r,hr,hw⟩:=hw;obtain⟨Sm,hO⟩:=H.ct hl;cases hO with
      |map hb hg hlen hc bR=>
       rename_i b clock bU;have hE:vB c ρ F h kn es bU:=⟨hlen,hc⟩;cases hm with
       |mp bV=>
        rw[hb]at bV;cases bV;refine⟨b,rfl,_,hq b (Us lk),?_⟩;have DF:ff h b=some (bU,clock):=by unfold ff;rw[hg]
        have mI:gi ρ F o h ρ o h (.mC n) (.rd (RQ.look b kd Ba z ok) h):=.mC (.refl _) rfl hl (.inl hb) ⟨_,DF,hE.refl⟩;have hf:=ud lk 0 hE;rw[hr]at hf;cases r with
        |some v=>
         obtain⟨j,x,q1,q2,_⟩:=hf;simp only at hw;cases ok with
         |true=>exact jM.same H (by simp[RQ.run,DF,kD,q1]) (.jg (.cons q2 (.cons (.s rfl) .nil))) hw mI
         |false=>exact jM.same H (by simp[RQ.run,DF,kD,q1]) q2 hw mI
        |none=>
         simp only at hw hf;cases ok with
         |true=>exact jM.same H (by simp[RQ.run,DF,kD,hf]) (.jg (.cons (sI pq) (.cons (.s rfl) .nil))) hw mI
         |false=>exact jM.same H (by simp[RQ.run,DF,kD,hf]) (sI pq) hw mI
     ·exact hw.elim
    ·rename_i kn es op hl;split at hw
     ·rename_i lk;obtain⟨S,K0⟩:=H.ex;have hO:=K0.ct n _ hl;generalize hS:S n=Sm at hO;cases hO with
      |fW hb hg b6 hc bR=>
       rename_i Sq b clock ev;cases hm with
       |mp bV=>
        rw[hb]at bV;cases bV;refine⟨b,rfl,_,hq b (Us lk),?_⟩;have DF:ff h b=some (ev,clock):=by unfold ff;rw[hg]
        have Zs:∀{M:List (Value×TV)} {S0:Ft} {lg:VL},jh c ρ F h X.base kn S0 M ev→fN M Ba=none→gi ρ F o h ρ o h lg (.rd (RQ.look b kd Ba z ok) h)→K (Oh ok (cT z) false) o c lg→jM X c ρ F h o (RQ.look b kd Ba z ok) K:=by
         intro M S0 lg hE xn mI hw;have hf:=hE.find lk 0;rw[xn]at hf;simp only at hf;cases ok with
         |true=>exact jM.same H (by simp[RQ.run,DF,kD,hf]) (.jg (.cons (sI pq) (.cons (.s rfl) .nil))) hw mI
         |false=>exact jM.same H (by simp[RQ.run,DF,kD,hf]) (sI pq) hw mI
        have met:∀{M:List (Value×TV)} {S0:Ft} {lg:VL} {v:TV},jh c ρ F h X.base kn S0 M ev→fN M Ba=some v→(aI v).all eR=true→gi ρ F o h ρ o h lg (.rd (RQ.look b kd Ba z ok) h)→K (Oh ok v true) o c lg→jM X c ρ F h o (RQ.look b kd Ba z ok) K:=by
         intro M S0 lg v hE hv hp mI hw;have hf:=hE.find lk 0;rw[hv]at hf;obtain⟨j,x,S1,S2,S3,q1,q2,q3,q4,_⟩:=hf;obtain⟨hV,_⟩:=q3.Uv (fun t v hv hf=>hv.dC hf) hp;have hx:=VR.e7 hV q4;cases ok with
         |true=>exact jM.same H (by simp[RQ.run,DF,kD,q1]) (.jg (.cons hx (.cons (.s rfl) .nil))) hw mI
         |false=>exact jM.same H (by simp[RQ.run,DF,kD,q1]) hx hw mI
        split at hw
        ·obtain⟨r,hr,hw⟩:=hw;have hE:jh c ρ F h X.base kn Sq es ev:=hc;have mI:gi ρ F o h ρ o h (.mC n) (.rd (RQ.look b kd Ba z ok) h):=.mC (.refl _) rfl hl (.inl hb) ⟨_,DF,hE.refl fun e he t ht=>.inr (b6 e he t ht)⟩;cases r with
         |none=>simp only at hw;exact Zs hE hr mI hw
         |some v=>
          simp only at hw;have hf:=hE.find lk 0;rw[hr]at hf;obtain⟨j,x,S1,S2,S3,q1,q2,q3,q4,q5⟩:=hf;refine LI H K0 (x:=x) (y:=bif ok then .tuple #[x,.bool true]else x) (wrap:=fun v=>Oh ok v true) hw hl (by rw[hS,q2]) q3 q4 (by simp[RQ.run,DF,kD,q1]) (fun c ρ v hv=>?_) mI fun c' ρ' v' fQ pD yf=>?_
          ·cases ok with
           |true=>exact .jg (.cons hv (.cons (.s rfl) .nil))
           |false=>exact hv
          ·exact .fW (fQ.trans hb) hg b6 (q5 c' ρ' v' [] b6 pD yf) bR
        ·rename_i k' w;obtain⟨hw1,hw2⟩:=hw;have hE:jh c ρ F h X.base kn Sq (dL es k' w) ev:=hc;have mI:gi ρ F o h ρ o h (Oe (aI w) (.mC n)) (.rd (RQ.look b kd Ba z ok) h):=by
          unfold Oe;split
          ·rename_i he;refine .mC (.refl _) rfl hl (.inl hb) ⟨_,DF,hE.refl fun e vo t ht=>?_⟩;rcases yL vo with rfl |h1
           ·exact .inl (List.all_eq_true.1 he t ht)
           ·exact .inr (b6 e h1 t ht)
          ·exact .bad
         by_cases ek:Ba=k'
         ·subst ek;have hv:=yZ (v:=w) (es:=es) lk;have hf:=hE.find lk 0;rw[hv]at hf;obtain⟨j,x,S1,S2,S3,q1,q2,q3,q4,_⟩:=hf;exact met hE hv (hw1 rfl).1 mI (hw1 rfl).2
         ·obtain⟨r,hr,hw⟩:=hw2 ek;have bH:mR Ba k'=false:=by
           cases hq:mR Ba k' with
           |false=>rfl
           |true=>exact absurd (OD lk (hE.kinds _ FN) hq) ek
          have:=BN (v:=w) (es:=es) bH;cases r with
          |none=>simp only at hw;exact Zs hE (this.trans hr) mI hw
          |some v=>simp only at hw;exact met hE (this.trans hr) hw.1 mI hw.2
        ·exact hw.elim
     ·exact hw.elim
    ·exact hw.elim
   ·left;split at hw
    ·rename_i lk;obtain⟨iB,mJ⟩:=kb lk;have hmv:=hm.dA.1;subst hmv;refine⟨rfl,?_⟩
     have hq:∀y:Value,(bif ok then Value.tuple #[z,.bool false]else z)=y→((E.desc t).bind fun d=>(match d,Value.map none with
            | .map kt elem,.map none=>(E.desc kt).bind fun kd=>(E.zero elem).bind fun z=>bO (jb kd&&scalar Ba&&fC z) (some (bif ok then .tuple #[z,.bool false]else z))
            |_,_=>none))=some y:=by
      rintro y rfl;rw[L.desc _ _ hd];simp only[Option.bind_some,L.desc _ _ j5,kI,iB,mJ,pq,Bool.and_self,bO]
     cases ok with
     |true=>exact⟨_,_,hq _ rfl,.jg (.cons (sI pq) (.cons (.s rfl) .nil)),hw⟩
     |false=>exact⟨_,_,hq _ rfl,sI pq,hw⟩
    ·exact hw.elim
   ·exact hw.elim
  ·exact hw.elim
 ·exact hw.elim
end
section
variable {T E:Env} {X:Cx} {ρ:Gh} {F:Nat→Prop} {o:Ob} {c:Nat} {af:AF} {f:Fr} {h:ab} {p:Oper} {K:OK}
def esA:Option TO→Option (Nat×List (List TV))
 |some (.arr z _ es)=>some (z,es)
 |_=>none
theorem IE (o:Ob) (m n:Nat):esA (look (jI o m) n)=esA (look o n):=by
 cases hm:look o m with
 |none=>unfold jI;rw[hm]
 |some y=>
  cases y with
  |arr z w es=>
   unfold jI;rw[hm];simp only
   rw[eJ];by_cases e:n=m
   ·subst e;rw[if_pos rfl,hm];rfl
   ·rw[if_neg e]
  |_=>unfold jI;rw[hm]
theorem OG (o:Ob) (n:Nat):dn o (.tk n)=(esA (look o n)).map fun p=>.sl p.1 p.2 false:=by
 show(match look o n with|some (.arr z _ es)=>some (TV.sl z es false)|_=>none)=_;cases look o n with
 |none=>rfl
 |some y=>cases y<;>rfl
theorem IF (o:Ob) (m:Nat) (t:TV):dn (jI o m) t=dn o t:=by
 cases t with
 |tk n=>rw[OG,OG,IE]
 |oB t v=>cases v<;>try rfl
          rename_i w;cases w<;>rfl
 |dc g a k=>cases a<;>cases k<;>rfl
 |_=>rfl
theorem y5 (o:Ob) (v t:TV):dn (share1 o v) t=dn o t:=by
 cases v<;>try rfl
 exact IF _ _ _
theorem wH (o:Ob) (v:TV):∀l,p9 (share1 o v) l=p9 o l
 |[]=>rfl
 |t::l=>by simp only[p9,y5,wH o v l]
theorem OH {t t':TV} (hf:dn o t=some t'):fz t'=true:=by
 unfold dn at hf;split at hf
 ·split at hf
  ·rename_i hp;cases hf;exact hp
  ·cases hf
 ·cases hf;rfl
 ·split at hf
  ·cases hf;rfl
  ·cases hf
 ·cases hf;rfl
 ·cases hf;rfl
 ·cases hf
theorem xQ:∀{l l':List TV},p9 o l=some l'→(∀t∈l',fz t=true)∧l'.length=l.length
 |[],l',hf=>by simp[p9]at hf;subst hf;exact⟨by simp,rfl⟩
 |t::l,l',hf=>by
  unfold p9 at hf;split at hf
  ·rename_i v' hv;split at hf
   ·rename_i l2 hl;cases hf;obtain⟨h1,h2⟩:=xQ hl;refine⟨fun t ht=>?_,by simp[h2]⟩;rcases List.mem_cons.1 ht with rfl |ht
    ·exact OH hv
    ·exact h1 t ht
   ·cases hf
  ·cases hf
structure ql (X:Cx) (ρ:Gh) (c:Nat) (h:ab) (F:Nat→Prop) (o:Ob) (F':Nat→Prop) (o':Ob):Prop where
 mem:Mem X ρ F' o' c h
 bA:∀t x,VR c ρ F h t x→VR c ρ F' h t x
 FF:∀b,F b→F' b
 wk:∀n y,look o n=some y→∃y',look o' n=some y'∧jy y y'
theorem ql.refl (H:Mem X ρ F o c h):ql X ρ c h F o F o:=⟨H,fun _ _ h=>h,fun _ h=>h,fun _ y hl=>⟨y,hl,jy.refl y⟩⟩
theorem ql.trans {F1 F2:Nat→Prop} {o1 o2:Ob} (A:ql X ρ c h F o F1 o1) (B:ql X ρ c h F1 o1 F2 o2):ql X ρ c h F o F2 o2:=
 ⟨B.mem,fun t x hx=>B.bA t x (A.bA t x hx),fun b hb=>B.FF b (A.FF b hb),fun n y hl=>by
  obtain⟨y1,h1,h2⟩:=A.wk n y hl;obtain⟨y2,h3,h4⟩:=B.wk n y1 h1;exact⟨y2,h3,h2.trans h4⟩⟩
theorem LJ (H:Mem X ρ F o c h) (v:TV):∃F',ql X ρ c h F o F' (share1 o v)∧∀v' x,dn o v=some v'→VR c ρ F h v x→VR c ρ F' h v' x:=by
 cases v with
 |tk n=>
  obtain⟨F',h1,h2,h3,h4⟩:=H.share n;refine⟨F',⟨h1,h2,h3,qi o n⟩,fun v' x hf hx=>?_⟩;unfold dn at hf;simp only at hf;split at hf
  ·rename_i z w es hl;cases hf;exact h4 _ _ _ _ hl hx
  ·cases hf
 |sl z es fl=>
  refine⟨F,.refl H,fun v' x hf hx=>?_⟩;simp only[dn,Option.some.injEq]at hf;subst hf;cases hx with
  |nil he=>exact .nil he
  |sl h1 h2 h3 h4 h5 h6 h7 h8 h9 h10=>exact .sl h1 h2 h3 h4 h5 (fun h=>by cases h) h7 h8 h9 h10
 |s w=>
  refine⟨F,.refl H,fun v' x hf hx=>?_⟩;unfold dn at hf;simp only at hf;split at hf
  ·cases hf;exact hx
  ·cases hf
 |oB t w=>
  refine⟨F,.refl H,fun v' x hf hx=>?_⟩;unfold dn at hf;split at hf<;>simp_all
  all_goals(first|(obtain⟨rfl,rfl⟩:= ‹_∧_›;subst hf;exact hx)|skip)
 |dc g a k=>
  refine⟨F,.refl H,fun v' x hf hx=>?_⟩;unfold dn at hf;split at hf<;>simp_all
  all_goals(first|(obtain⟨rfl,rfl,rfl⟩:= ‹_∧_∧_›;subst hf;exact hx)|skip)
 |_=>exact⟨F,.refl H,fun v' x hf hx=>by simp[dn]at hf⟩
theorem rj:∀(l:List TV) {F:Nat→Prop} {o:Ob},Mem X ρ F o c h→∃F',ql X ρ c h F o F' (shares o l)∧∀l' m,p9 o l=some l'→dP c ρ F h l m→dP c ρ F' h l' m
 |[],F,o,H=>⟨F,.refl H,fun l' m hf hm=>by simp[p9]at hf;subst hf;exact hm⟩
 |v::l,F,o,H=>by
  obtain⟨F1,A,a⟩:=LJ H v;obtain⟨F2,B,b⟩:=rj l A.mem;refine⟨F2,A.trans B,fun l' m hf hm=>?_⟩;unfold p9 at hf;split at hf
  ·rename_i v' hv;split at hf
   ·rename_i l2 hl;cases hf;obtain⟨x,m',rfl,h1,h2⟩:=hm.aO;exact .cons (B.bA _ _ (a v' x hv h1)) (b l2 m' (by rw[wH];exact hl) (h2.rU A.bA))
   ·cases hf
  ·cases hf
theorem Si (H:Mem X ρ F o c h) (v:TV) (ho:okV v=true):∃F',ql X ρ c h F o F' (shares o (aI v))∧∀v' x,Od o v=some v'→VR c ρ F h v x→VR c ρ F' h v' x∧Fg v'=true:=by
 obtain⟨F',A,a⟩:=rj (aI v) H;refine⟨F',A,fun v' x hf hx=>?_⟩;have one:(∀cs,v≠ .agg cs)→VR c ρ F' h v' x∧Fg v'=true:=fun Hz=>by
  have pJ:aI v=[v]:=by cases v<;>first|rfl |exact absurd rfl (Hz _)
  have HX:Od o v=dn o v:=by cases v<;>first|rfl |exact absurd rfl (Hz _)
  rw[HX]at hf;have iz:=OH hf;rw[pJ]at a;have:=a [v'] [x] (by simp[p9,hf]) (.cons hx .nil);refine⟨this.head,?_⟩;cases v'<;>simp[fz]at iz<;>simp[Fg,fz,iz]
 cases v with
 |agg cs=>
  obtain⟨q,rfl,h1⟩:=hx.fF;simp only[Od]at hf;split at hf
  ·rename_i cs' hc;cases hf;refine⟨.gZ (a cs' q.toList hc h1),?_⟩;simp only[Fg];exact List.all_eq_true.2 (xQ hc).1
  ·cases hf
 |_=>exact one (by intro cs e;cases e)
theorem Mem.DG (H:Mem X ρ F o c h) {S:Nat→Ft} (K:MO X ρ F o c h S) {n b:Nat} {y:TO} (hl:look o n=some y) (hb:BJ ρ n b):b<h.size∧hd h b∈dS (S n):=by
 rcases(K.ct n y hl).block with⟨b',o',h1,h2,h3,h4⟩|⟨b',z,len,cs,f,t0,gX,c0,t1,AA,h1,h2,h3,h4⟩|⟨z,h1⟩
 ·rcases hb with hb|⟨z,l,hb⟩<;>rw[h1]at hb<;>cases hb
  exact⟨H.wf.lt h2,by rw[h3];exact h4⟩
 ·rcases hb with hb|⟨z,l,hb⟩<;>rw[h1]at hb<;>cases hb
  exact⟨H.wf.lt h2,by rw[cu h2];exact h4⟩
 ·rcases hb with hb|⟨z,l,hb⟩<;>rw[h1]at hb<;>cases hb
theorem Mem.y6 (H:Mem X ρ F o c h) {n b:Nat} {y:TO} (hl:look o n=some y) (hb:BJ ρ n b):b<h.size:=by
 obtain⟨S,K⟩:=H.ex;exact(H.DG K hl hb).1
theorem fv.alloc {F1:Nat→Prop} {o1:Ob} (H:Mem X ρ F o c h) (S:ql X ρ c h F o F1 o1) {md:Made} {hd:tw} {y:TO} {l:Loc} {v:TV} (hp:aZ E af p=none) (hq:b7 E af p=none) (ha:bw E af p=some (md,hd))
 (hM:Mem X (cH ρ c (some l)) F1 ((c,y)::o1) (c+1) (h.push (md.obj h.size))) (hk:∀t x,VR c ρ F1 h t x→VR (c+1) (cH ρ c (some l)) F1 (h.push (md.obj h.size)) t x)
 (hv:VR (c+1) (cH ρ c (some l)) F1 (h.push (md.obj h.size)) v (hd.val h.size)) (hK:K v ((c,y)::o1) (c+1) .alloc):fv E X ρ F o c af h p K:=by
 refine⟨0,⟨hd.val h.size,h.push (md.obj h.size),.alloc h (h.push (md.obj h.size))⟩,v,_,_,_,F1,.alloc,fun n _=>?_,hK,⟨hM,fun t x hx=>hk t x (S.bA t x hx),by rw[ab.size_push];omega,S.FF,fun b cs hb hr=>by rw[gh H.wf.le _ (H.Lq hb)];exact hr⟩,hv,
  .alloc fun n y' hl _=>⟨?_,?_,fun b hb=>?_⟩⟩
 ·unfold eF;rw[hp,hq,ha]
 ·have:=H.lt hl;rw[aS,if_neg om];obtain⟨y2,q1,_⟩:=S.wk n y' hl;exact⟨y2,q1⟩
 ·have:=H.lt hl;rw[bN _ _ om]
 ·have:=H.y6 hl hb;exact⟨by rw[ab.au,if_neg om],fun cs hr=>by rw[gh H.wf.le _ this];exact hr⟩
end
section
variable {T E:Env} {X:Cx} {ρ:Gh} {F:Nat→Prop} {o:Ob} {c:Nat} {af:AF} {f:Fr} {h:ab} {p:Oper} {K:OK}
theorem vD (H:Mem X ρ F o c h) {cs:List TV} {cv:List Value} (hc:dP c ρ F h cs cv) (hp:aZ E af p=none) (hq:b7 E af p=none) (ha:bw E af p=some (.cells cv,.ptr)) (hK:K (.ptr c 0) ((c,.cells cs)::o) (c+1) .alloc):fv E X ρ F o c af h p K:=by
 obtain⟨h1,h2⟩:=H.Om hc;exact fv.alloc H (.refl H) (md:=.cells cv) (hd:=.ptr) hp hq ha h1 h2 (.ptr (aP _ _ _)) hK
theorem Sj (H:Mem X ρ F o c h) (kd:Nat) (hp:aZ E af p=none) (hq:b7 E af p=none) (ha:bw E af p=some (.map,.map)) (hK:K (.mp c) ((c,.map kd [])::o) (c+1) .alloc):fv E X ρ F o c af h p K:=by
 obtain⟨h1,h2⟩:=H.VH kd;exact fv.alloc H (.refl H) (md:=.map) (hd:=.map) hp hq ha h1 h2 (.mp (aP _ _ _)) hK
theorem Kc {F1:Nat→Prop} {o1:Ob} (H:Mem X ρ F o c h) (S:ql X ρ c h F o F1 o1) {z cap:Nat} {es:List (List TV)} {cv:List Value} (hE:ER c ρ F1 h z es cv) (hz:0<z) (fK:es.length≤cap)
 (hp:aZ E af p=none) (hq:b7 E af p=none) (ha:bw E af p=some (.cells cv,.slice z es.length cap)) (hK:K (.tk c) ((c,.arr z true es)::o1) (c+1) .alloc):fv E X ρ F o c af h p K:=by
 obtain⟨h1,h2⟩:=S.mem.yK hE hz;refine fv.alloc H S (md:=.cells cv) (hd:=.slice z es.length cap) hp hq ha h1 h2 (.tk om rfl (fun b z' len hx=>?_) (fun z' hx=>?_)) hK
 ·rw[aP]at hx;cases hx;exact⟨cap,fK,rfl⟩
 ·rw[aP]at hx;cases hx
theorem ER.replicate {z:Nat} {zs:List TV} {zv:List Value} (hz:dP c ρ F h zs zv) (hl:zs.length=z) (hf:zs.all M.fz=true):∀k,ER c ρ F h z (List.replicate k zs) (a6 zv k)
 |0=>.nil z
 |k+1=>by
  have ih:=ER.replicate hz hl hf k;have h1:ER c ρ F h z [zs] zv:=by
   refine⟨by rw[←hz.1,hl];simp,fun e he=>by simp at he;subst he;exact hl,fun e he t ht=>by simp at he;subst he;exact List.all_eq_true.1 hf t ht,fun i j e t v q1 q2 q3=>?_⟩;cases i with
   |zero=>simp at q1;subst q1;exact hz.2 j t v q2 (by simpa using q3)
   |succ i=>simp at q1
  exact h1.append ih
theorem mU {α:Type}:∀{n:Nat} {l xs:List α},n+xs.length≤l.length→∃r,dJ l n xs=some r
 |0,l,[],_=>⟨l,by simp[dJ]⟩
 |0,[],x::xs,h=>by simp at h
 |0,y::l,x::xs,h=>by
  obtain⟨r,hr⟩:=mU (n:=0) (l:=l) (xs:=xs) (by simp at h ⊢;omega);exact⟨x::r,by simp[dJ,hr]⟩
 |n+1,[],xs,h=>by simp at h
 |n+1,y::l,xs,h=>by
  obtain⟨r,hr⟩:=mU (n:=n) (l:=l) (xs:=xs) (by simp at h ⊢;omega);exact⟨y::r,by simp[dJ,hr]⟩
theorem y7 {α:Type}:∀{l r:List α} {n:Nat} {x:α},setAt l n x=some r→n<l.length∧r.length=l.length∧∀i,r[i]? =if i=n then some x else l[i]?
 |[],r,n,x,h=>by simp[setAt]at h
 |y::l,r,0,x,h=>by
  simp[setAt]at h;subst h;refine⟨by simp,by simp,fun i=>?_⟩;cases i<;>simp
 |y::l,r,n+1,x,h=>by
  unfold setAt at h;split at h
  ·rename_i l' hl;cases h;obtain⟨h1,h2,h3⟩:=y7 hl;refine⟨by simp;omega,by simp[h2],fun i=>?_⟩;cases i with
   |zero=>simp
   |succ i=>simp[h3 i]
  ·cases h
theorem ER.setAt {z:Nat} {es bU:List (List TV)} {cs:List Value} {l:List TV} {i:Nat} (A:ER c ρ F h z es cs) (hs:∀j,bU[j]? =if j=i then some l else es[j]?) (hlen:bU.length=es.length) (hi:i<es.length) (hl:l.length=z) (hf:∀t∈l,M.fz t=true)
 {cs':List Value} (hc:cs'.length=cs.length) (NH:∀j t v,l[j]? =some t→cs'[i*z+j]? =some v→VR c ρ F h t v) (U9:∀k,(k<i*z∨(i+1)*z≤k)→cs'[k]? =cs[k]?):ER c ρ F h z bU cs':=by
 have key:∀j e,bU[j]? =some e→(j=i∧e=l)∨(j≠i∧es[j]? =some e):=fun j e he=>by
  rw[hs]at he;by_cases e1:j=i
  ·rw[if_pos e1]at he;cases he;exact .inl ⟨e1,rfl⟩
  ·rw[if_neg e1]at he;exact .inr ⟨e1,he⟩
 refine⟨by rw[hc,hlen,A.len],fun e he=>?_,fun e he=>?_,fun j k e t v q1 q2 q3=>?_⟩
 ·obtain⟨j,hj⟩:=List.getElem?_of_mem he;rcases key j e hj with⟨_,rfl⟩|⟨_,h1⟩
  ·exact hl
  ·exact A.each e (List.mem_of_getElem? h1)
 ·obtain⟨j,hj⟩:=List.getElem?_of_mem he;rcases key j e hj with⟨_,rfl⟩|⟨_,h1⟩
  ·exact hf
  ·exact A.fz e (List.mem_of_getElem? h1)
 ·rcases key j e q1 with⟨rfl,rfl⟩|⟨h1,h2⟩
  ·exact NH k t v q2 q3
  ·have hk:k<z:=by rw[←A.each e (List.mem_of_getElem? h2)];exact(List.getElem?_eq_some_iff.1 q2).1
   refine A.cell j k e t v h2 q2 ?_;rw[←q3];refine(U9 _ ?_).symm;rcases Nat.lt_or_gt_of_ne h1 with h3|h3
   ·left;have:(j+1)*z≤i*z:=Nat.mul_le_mul_right z h3;rw[Nat.add_mul]at this;omega
   ·right;have:(i+1)*z≤j*z:=Nat.mul_le_mul_right z h3;omega
theorem BO {n:Nat}:∀{ps:List (Nat×TV)} {o:Ob} {F:Nat→Prop} {es bU:List (List TV)} {cs:List Value} {pv:List (Nat×Value)},Mem X ρ F o c h→tS o n es ps=some bU→ER c ρ F h n es cs→R7 c ρ F h ps pv→
 ∃F' cv,ql X ρ c h F o F' (Dj o ps)∧kO (fun i=>some (i*n,n)) cs pv=some cv∧ER c ρ F' h n bU cv∧bU.length=es.length
 |[],o,F,es,bU,cs,[],H,hf,hE,_=>by simp[tS]at hf;subst hf;exact⟨F,cs,.refl H,rfl,hE,rfl⟩
 |[],o,F,es,bU,cs,_::_,H,hf,hE,hq=>hq.elim
 |a::l,o,F,es,bU,cs,[],H,hf,hE,hq=>hq.elim
 |a::l,o,F,es,bU,cs,b::m,H,hf,hE,hq=>by
  obtain⟨e,hv,hr⟩:=hq;unfold tS at hf;split at hf
  ·rename_i l1 hc iz;simp only[Bool.and_eq_true,beq_iff]at hc;split at hf
   ·rename_i Zt jG;obtain⟨s1,s2,s3⟩:=y7 jG;obtain⟨F1,A,a1⟩:=rj (aI a.2) H;obtain⟨f1,f2⟩:=xQ iz;have uc:=a1 l1 _ iz (jL hv hc.1);have vd:l1.length=n:=by omega
    have hE1:=hE.mono A.bA;have QX:b.2.cells.toList.length=n:=by rw[←uc.1];exact vd
    have hle:a.1*n+b.2.cells.toList.length≤cs.length:=by
     rw[QX,hE.len];have:(a.1+1)*n≤es.length*n:=Nat.mul_le_mul_right n s1;rw[Nat.add_mul]at this;omega
    obtain⟨uY,DH⟩:=mU hle;obtain⟨t1,t2,t3⟩:=dG DH;have Zu:ER c ρ F1 h n Zt uY:=by
     refine hE1.setAt s3 s2 s1 vd f1 t2 (fun j t v q1 q2=>?_) (fun k hk=>?_)
     ·have hj:j<l1.length:=(List.getElem?_eq_some_iff.1 q1).1;rw[t3,if_pos ⟨om,om⟩]at q2;exact uc.2 j t v q1 (by rw[←q2];congr 1;omega)
     ·rw[t3,if_neg];rw[Nat.add_mul]at hk;omega
    have acL:tS (shares o (aI a.2)) n Zt l=some bU:=by
     have key:∀(o1:Ob),(∀t,dn o1 t=dn o t)→∀(l:List (Nat×TV)) (es:List (List TV)),tS o1 n es l=tS o n es l:=by
      intro o1 h1 l;have h2:∀q,p9 o1 q=p9 o q:=by
       intro q
       induction q with
       |nil=>rfl
       |cons t q ih=>simp only[p9,h1,ih]
      induction l with
      |nil=>intro es;rfl
      |cons p l ih=>
       intro es;simp only[tS,h2,ih]
     rw[key _ (fun t=>?_)];·exact hf
     have:∀(q:List TV) (o1:Ob),dn (shares o1 q) t=dn o1 t:=by
      intro q
      induction q with
      |nil=>intro o1;rfl
      |cons v q ih=>intro o1;simp only[shares];rw[ih,y5]
     exact this _ _
    have qQ:R7 c ρ F1 h l m:=by
     have:∀(l:List (Nat×TV)) (m:List (Nat×Value)),R7 c ρ F h l m→R7 c ρ F1 h l m:=by
      intro l
      induction l with
      |nil=>intro m hm;cases m<;>exact hm
      |cons p l ih=>
       intro m hm;cases m with
       |nil=>exact hm
       |cons q m=>exact⟨hm.1,A.bA _ _ hm.2.1,ih m hm.2.2⟩
     exact this l m hr
    obtain⟨F2,cv,B,b1,b2,b3⟩:=BO A.mem acL Zu qQ;refine⟨F2,cv,A.trans B,?_,b2,by rw[b3,s2]⟩;obtain⟨i,x⟩:=b;simp only at e;subst e;simp only[kO,Option.bind_some];have:x.cells.size=n:=by simpa using QX
    rw[this];simp only at DH;simp[bO,DH,b1]
   ·cases hf
  ·cases hf
end
end Go.M
