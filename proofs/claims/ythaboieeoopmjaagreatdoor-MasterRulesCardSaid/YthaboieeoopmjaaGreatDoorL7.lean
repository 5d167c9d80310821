/-
  Part 7 of the library that the proof leans on.
-/
import Derived.Test.YthaboieeoopmjaaGreatDoorL6
namespace Go.M
open Go
def A0 (ρ:Gh) (n b:Nat):Prop:=ρ n=some (.di b)∨∃z l,ρ n=some (.arr b z l)
def lX (q:RQ) (h:ae):Prop:=match q with
 | .cells _ b o n=>∃l,al h b o n=some l∧kj l l=true
 | .look r _ _ _ _| .len r=>∃m,eQ h r=some m∧xg m.1 m.1=true
structure Nx (X:Cx) (ρ:Gh) (F:Nat→Prop) (o:Ob) (c:Nat) (h:ae) (ρ':Gh) (F':Nat→Prop) (o':Ob) (c':Nat) (h':ae):Prop where
 mem:Mem X ρ' F' o' c' h'
 bw:∀t x,VR c ρ F h t x→VR c' ρ' F' h' t x
 size:h.size≤h'.size
 FF:∀b,F b→F' b
 db:∀b cs,F b→h.rd b=some cs→h'.rd b=some cs
def Raw (ρ:Gh) (o:Ob) (h:ae) (ρ':Gh) (o':Ob) (h':ae) (ns:List Nat):Prop:=
 ∀n y,look o n=some y→n∉ns→(∃y',look o' n=some y')∧ρ' n=ρ n∧∀b,A0 ρ n b→h'.get b=h.get b∧∀cs,h.rd b=some cs→h'.rd b=some cs
def kV (ρ:Gh) (v:TV) (x:Value):Prop:=(∃k b,v= .mp k∧ρ k=some (.di b)∧x= .map (some b))∨∃k q b,v= .ptr k q∧ρ k=some (.di b)∧x= .pointer (some ⟨b,q,none⟩)
inductive fJ (ρ:Gh) (F:Nat→Prop) (o:Ob) (h:ae) (ρ':Gh) (o':Ob) (h':ae):VL→dU→Prop
 |pure (hr:Raw ρ o h ρ' o' h' []) (hh:h'=h):fJ ρ F o h ρ' o' h' .pure .pure
 |alloc (hr:Raw ρ o h ρ' o' h' []):fJ ρ F o h ρ' o' h' .alloc (.alloc h h')
 |JE {q:RQ} (hr:Raw ρ o h ρ' o' h' []) (hh:h'=h) (hF:F q.di) (hc:∃a b o n,q= .cells a b o n) (hn:lX q h):fJ ρ F o h ρ' o' h' .JE (.rd q h)
 |lM {q:RQ} {n:Nat} {y:TO} (hr:Raw ρ o h ρ' o' h' []) (hh:h'=h) (hl:look o n=some y) (hb:A0 ρ n q.di) (hn:lX q h):fJ ρ F o h ρ' o' h' (.lM n) (.rd q h)
 |Ag {n p b:Nat} {v:TV} {x:Value} {y:TO} (hr:Raw ρ o h ρ' o' h' []) (hh:h'=h) (hl:look o n=some y) (hb:ρ n=some (.di b)) (hx:kV ρ v x) (fN:al h b p 1=some [x]):fJ ρ F o h ρ' o' h' (.Ag n p v) (.rd (.cells false b p 1) h)
 |dr {ns:List Nat} (hr:Raw ρ o h ρ' o' h' ns):fJ ρ F o h ρ' o' h' (.dr ns) (.dr h h')
 |oJ {ns:List Nat} (hr:Raw ρ o h ρ' o' h' ns) (hh:h'=h):fJ ρ F o h ρ' o' h' (.oJ ns) (.dr h h')
 |oK (hr:Raw ρ o h ρ' o' h' []) (hG:∀b,b<h.size→h'.get b=h.get b):fJ ρ F o h ρ' o' h' .oK (.dr h h')
 |bad {l:dU}:fJ ρ F o h ρ' o' h' .bad l
def eZ (E:Env) (X:Cx) (ρ:Gh) (F:Nat→Prop) (o:Ob) (c:Nat) (af:AF) (h:ae) (p:Oper) (K:OK):Prop:=
 ∃n0 r v o' c' ρ' F' lg,(∀n,n0≤n→dW E X.base (g9 E X.base n) (gT X.base (aV E X.base n)) p af h=some r)∧K v o' c' lg∧
  Nx X ρ F o c h ρ' F' o' c' r.h∧VR c' ρ' F' r.h v r.v∧fJ ρ F o h ρ' o' r.h lg r.log
def Wi:TV→Value
 | .s v=>v
 |_=>undef
def x7 (E:Env) (g:FuncId):Prop:=∀base n args h v h',g9 E base n g args h=some (v,h')→h'=h
structure ct (T E:Env):Prop where
 desc:∀t d,T.desc t=some d→E.desc t=some d
 size:∀t n,T.size t=some n→E.size t=some n
 bytes:∀t n,T.bytes t=some n→E.bytes t=some n
 zero:∀t z,T.zero t=some z→E.zero t=some z∧e8 z=true
 eq:∀t (a b:Array Value) z xs ys r,T.sr t=true→T.zero t=some z→mA z.cells.toList xs ys=some r→a.toList=xs.map Wi→b.toList=ys.map Wi→E.sr t=true∧wg E 100 t (.agg a) (.agg b)=some r
 xc:∀g cs,T.xc g=some cs→E.xc g=some cs
 still:∀g,T.still g=true→x7 E g
theorem m3.sub {T E:Env} {F:Nat→Prop} {h:ae} (L:ct T E) (N:m3 E F h):m3 T F h:=fun g cs hg=>N g cs (L.xc g cs hg)
theorem JQ:∀(l:List Value),(Lb l).length=l.length
 |[]=>rfl
 |v::l=>by simp[Lb,JQ l]
theorem Ot:∀{l:List Value},l.all CD=true→∀t∈Lb l,fz t=true
 |[],_,t,ht=>by simp[Lb]at ht
 |v::l,hl,t,ht=>by
  simp only[List.all_cons,Bool.and_eq_true]at hl;simp only[Lb,List.mem_cons]at ht;rcases ht with rfl |ht
  ·have:=hl.1;simp only[CD,Bool.and_eq_true]at this;exact this.2
  ·exact Ot hl.2 t ht
section
variable {T E:Env} {X:Cx} {ρ:Gh} {F:Nat→Prop} {o:Ob} {c:Nat} {af:AF} {f:Fr} {h:ae} {p:Oper} {K:OK}
theorem Mem.b9 (H:Mem X ρ F o c h) {m:Nat} {y:TO} (hl:look o m=some y):∃S,OR c ρ F h X.base m S y:=let⟨S,K⟩:=H.ex;⟨S m,K.b9 m y hl⟩
theorem Nx.refl (H:Mem X ρ F o c h):Nx X ρ F o c h ρ F o c h:=⟨H,fun _ _ h=>h,Nat.le_refl _,fun _ h=>h,fun _ _ _ h=>h⟩
theorem Raw.refl (ns:List Nat):Raw ρ o h ρ o h ns:=fun _ y hl _=>⟨⟨y,hl⟩,rfl,fun _ _=>⟨rfl,fun _ h=>h⟩⟩
theorem eZ.pure (H:Mem X ρ F o c h) {x:Value} {v:TV} (hp:aX E af p=some x) (hv:VR c ρ F h v x) (hK:K v o c .pure):eZ E X ρ F o c af h p K:=by
 refine⟨0,⟨x,h,.pure⟩,v,o,c,ρ,F,.pure,fun n _=>?_,hK,.refl H,hv,.pure (.refl _) rfl⟩;unfold dW;rw[hp]
theorem eZ.ZV (_:Mem X ρ F o c h) {o':Ob} {F':Nat→Prop} (H':Mem X ρ F' o' c h) (hk:∀t x,VR c ρ F h t x→VR c ρ F' h t x) (qW:∀b,F b→F' b) (hw:∀n y,look o n=some y→∃y',look o' n=some y'∧iO y y')
 {x:Value} {v:TV} (hp:aX E af p=some x) (hv:VR c ρ F' h v x) (hK:K v o' c .pure):eZ E X ρ F o c af h p K:=by
 refine⟨0,⟨x,h,.pure⟩,v,o',c,ρ,F',.pure,fun n _=>?_,hK,⟨H',hk,Nat.le_refl _,qW,fun _ _ _ h=>h⟩,hv,.pure (fun n y hl _=>⟨let⟨y',h1,_⟩:=hw n y hl;⟨y',h1⟩,rfl,fun b _=>⟨rfl,fun _ h=>h⟩⟩) rfl⟩;unfold dW;rw[hp]
def dE (c:Nat) (ρ:Gh) (F:Nat→Prop) (h:ae) (f:Fr) (af:AF):Prop:=∀t,VR c ρ F h (rP f t) (af.get t)
theorem qh (L:ct T E) (N:m3 T F h) (S:dE c ρ F h f af) {x:Operand} (hx:rT T x=true):∃v,ev E af x=some v∧VR c ρ F h (mz T f x) v:=by
 cases x with
 |tmp t=>exact⟨_,rfl,S t⟩
 |const v=>exact⟨v,by simp only[ev,aj,and_true];exact hx,rU hx⟩
 |func g=>exact⟨_,rfl,.cW rfl (fun i t v q=>by simp at q) rfl (fun i t v q=>by simp at q)⟩
 |global g=>
  obtain⟨cs,n3,hx⟩:∃cs,cs.all CD=true∧T.xc g=some cs:=by
   simp only[rT]at hx;split at hx
   ·rename_i cs hg;exact⟨cs,hx,hg⟩
   ·cases hx
  obtain⟨n1,n2,_⟩:=N g cs hx;refine⟨.pointer (some ⟨g,0,none⟩),by simp only[ev,Env.de,L.xc g cs hx,Option.isSome_some,bI],?_⟩;show VR c ρ F h (match T.xc g with|some cs=>.ep (Lb cs) 0|none=>.j) _;rw[hx];have:=VR.ep (c:=c) (ρ:=ρ) (F:=F) (h:=h) (e:=Lb cs) (o:=0) (b:=g) (q:=0) (cs:=cs) n1 n2 (by rw[JQ];omega) (fun t ht=>Ot n3 t ht) (fun j t v q1 q2=>(sV (List.all_eq_true.2 fun v hv=>by have:=List.all_eq_true.1 n3 v hv;simp only[CD,Bool.and_eq_true]at this;exact this.1)).2 j t v q1 (by simpa using q2));simpa using this
theorem ph (L:ct T E) (N:m3 T F h) (S:dE c ρ F h f af):∀{l:List Operand},l.all (rT T)=true→∃vs,GX E af l=some vs∧dF c ρ F h (Lc T f l) vs
 |[],_=>⟨[],rfl,.nil⟩
 |x::l,hx=>by
  simp only[List.all_cons,Bool.and_eq_true]at hx;obtain⟨v,h1,h2⟩:=qh (E:=E) L N S hx.1;obtain⟨vs,h3,h4⟩:=ph L N S hx.2;exact⟨v::vs,by simp[GX,h1,h3],.cons h2 h4⟩
def SG (c:Nat) (ρ:Gh) (F:Nat→Prop) (h:ae):List (Nat×TV)→List (Nat×Value)→Prop
 |[],[]=>True
 |a::l,b::m=>a.1=b.1∧VR c ρ F h a.2 b.2∧SG c ρ F h l m
 |_,_=>False
theorem nV (L:ct T E) (N:m3 T F h) (S:dE c ρ F h f af):∀{l:List (Nat×Operand)},(l.map (·.2)).all (rT T)=true→∃vs,ir E af l=some vs∧SG c ρ F h (CJ T f l) vs
 |[],_=>⟨[],rfl,trivial⟩
 |(i,x)::l,hx=>by
  simp only[List.map_cons,List.all_cons,Bool.and_eq_true]at hx;obtain⟨v,h1,h2⟩:=qh (E:=E) L N S hx.1;obtain⟨vs,h3,h4⟩:=nV L N S hx.2;exact⟨(i,v)::vs,by simp[ir,h1,h3],rfl,h2,h4⟩
theorem eu {v:TV} {K:TV→Prop} (hf:force v K):K v∧v≠ .j:=by
 cases v<;>simp[force]at hf ⊢ <;>exact hf
theorem H5 {k k':IntKind} {v w:Value} (h:ka k k' v=some w):k=k'∧v=w:=by
 cases k<;>cases k'<;>simp[ka]at h<;>exact⟨rfl,h⟩
theorem H6 (v:Value):eP (pure v:Sem Value)=some v:=rfl
theorem uz {k:IntKind} {x:Int} {v:Value} (h:eP (pure (.int k x):Sem Value)=some v):az v=true:=by
 rw[H6]at h;cases h;rfl
theorem JR {op:BinOp} {k k':IntKind} {x y:Int} {v:Value} (h:Ld op k k' x y=some v) (t:TypeId):eP (binOp op t (.int k x) (.int k' y))=some v∧az v=true:=by
 cases op<;>simp only[Ld]at h
 case add|sub|mul|eql|neq|lss|leq|gtr|geq=>obtain⟨rfl,rfl⟩:=H5 h;exact⟨by simp[binOp,Op.intArith,Op.intCmp,eP,Pure.pure],rfl⟩
 case quo|rem=>
  refine⟨h,?_⟩;simp only[binOp]at h;split at h
  ·simp[stuck,eP]at h
  ·simp only[Op.intDiv]at h;split at h
   ·have e:eP (runtimePanic (.error "integer divide by zero"):Sem Value)=none:=rfl;rw[e]at h;cases h
   ·exact uz h
 case and|or|xor|andNot=>
  refine⟨h,?_⟩;simp only[binOp]at h;split at h
  ·simp[stuck,eP]at h
  ·exact uz h
 case shl|shr=>
  refine⟨h,?_⟩;simp only[binOp,Op.shift]at h;split at h
  ·have e:eP (runtimePanic (.error "negative shift amount"):Sem Value)=none:=rfl;rw[e]at h;cases h
  ·exact uz h
theorem ct.shape {T E:Env} (L:ct T E) {t:TypeId} {s:Bool×Nat} (h:eO T t=some s):eO E t=some s:=by
 unfold eO at h ⊢;simp only[Option.bind_eq_some_iff]at h ⊢;obtain⟨d,h1,h2⟩:=h;refine⟨d,L.desc t d h1,?_⟩;cases ha:isAgg d with
 |false=>rw[ha]at h2;exact h2
 |true=>
  rw[ha]at h2;simp only[cond_true,Option.bind_eq_some_iff]at h2 ⊢;obtain⟨n,h3,h4⟩:=h2;exact⟨n,L.size t n h3,h4⟩
theorem Ou:∀{zs:List Value} {xs ys:List TV} {r:Bool},mA zs xs ys=some r→(∀t∈xs,∃v,t= .s v)∧(∀t∈ys,∃v,t= .s v)
 |[],[],[],r,_=>⟨by simp,by simp⟩
 |[],[],_::_,r,h=>by simp[mA]at h
 |[],x::l,ys,r,h=>by simp[mA]at h
 |z::zs,[],ys,r,h=>by simp[mA]at h
 |z::zs,x::l,[],r,h=>by cases x<;>simp[mA]at h
 |z::zs,x::l,y::m,r,h=>by
  cases x<;>try(simp[mA]at h;done)
  rename_i v;cases y<;>try(simp[mA]at h;done)
  rename_i w;simp only[mA]at h;split at h
  ·split at h
   ·rename_i hq;obtain⟨k1,k2⟩:=Ou hq;refine⟨fun t ht=>?_,fun t ht=>?_⟩
    ·rcases List.mem_cons.1 ht with rfl |h2
     ·exact⟨_,rfl⟩
     ·exact k1 t h2
    ·rcases List.mem_cons.1 ht with rfl |h2
     ·exact⟨_,rfl⟩
     ·exact k2 t h2
   ·cases h
  ·cases h
theorem Ov:∀{xs:List TV} {a:List Value},dF c ρ F h xs a→(∀t∈xs,∃v,t= .s v)→a=xs.map Wi
 |[],a,H,_=>by rw[H.bC];rfl
 |x::l,a,H,hs=>by
  obtain⟨v,m,rfl,h1,h2⟩:=H.aL;obtain⟨w,rfl⟩:=hs x List.mem_cons_self;rw[h1.dn.1,Ov h2 fun t ht=>hs t (List.mem_cons_of_mem _ ht)];rfl
def wu:Nat→Bool→Value→Prop
 |0,true,x=>x= .pointer none
 |0,false,x=>∃a,x= .pointer (some a)
 |1,true,x=>x= .map none
 |1,false,x=>∃a,x= .map (some a)
 |2,true,x=>x= .nilFunc
 |2,false,x=>∃g a k,x= .func g a k
 |3,true,x=>x= .nilIface
 |3,false,x=>∃t v,x= .iface t v
 |4,true,x=>x= .slice none 0 0
 |4,false,x=>∃a l k,x= .slice (some a) l k
 |_,_,_=>False
theorem ET {v:TV} {x:Value} (hv:VR c ρ F h v x) {d:Nat} {b:Bool} (hb:wq v=some (d,b)):wu d b x:=by
 cases hv with
 |s hp=>
  unfold wq at hb;split at hb<;>simp_all<;>obtain⟨rfl,rfl⟩:=hb<;>simp[wu]
 |nil he=>subst he;unfold wq at hb;split at hb<;>simp_all<;>obtain⟨rfl,rfl⟩:=hb<;>simp[wu]
 |sl h1 h2 h3=>
  unfold wq at hb;split at hb<;>simp_all;obtain⟨rfl,rfl⟩:=hb;exact⟨_,_,_,rfl⟩
 |ptr=>simp[wq]at hb;obtain⟨rfl,rfl⟩:=hb;exact⟨_,rfl⟩
 |ep=>simp[wq]at hb;obtain⟨rfl,rfl⟩:=hb;exact⟨_,rfl⟩
 |mp=>simp[wq]at hb;obtain⟨rfl,rfl⟩:=hb;exact⟨_,rfl⟩
 |nz=>simp[wq]at hb;obtain⟨rfl,rfl⟩:=hb;exact⟨_,_,rfl⟩
 |cW=>simp[wq]at hb;obtain⟨rfl,rfl⟩:=hb;exact⟨_,_,_,rfl⟩
 |_=>simp[wq]at hb
theorem qi {E:Env} {t:TypeId} {ds:TypeDesc} {d:Nat} {p q:Bool} {a b:Value} (hd:E.desc t=some ds) (hk:Ez ds=some d) (ha:wu d p a) (hb:wu d q b) (UX:(p||q)=true):wg E 100 t a b=some (p&&q):=by
 cases ds<;>simp[Ez]at hk<;>subst hk<;>cases p<;>cases q<;>simp at UX<;>simp only[wu]at ha hb
 all_goals
  (try obtain⟨_,rfl⟩:=ha)
  (try obtain⟨_,rfl⟩:=hb)
  (try obtain⟨_,_,rfl⟩:=ha)
  (try obtain⟨_,_,rfl⟩:=hb)
  (try obtain⟨_,_,_,rfl⟩:=ha)
  (try obtain⟨_,_,_,rfl⟩:=hb)
  (try subst ha)
  (try subst hb)
  (show wg E (99+1) t _ _=_)
  unfold wg;rw[hd];rfl
end
def iY (c:Nat) (ρ:Gh) (F:Nat→Prop) (h:ae) (o:Ob) (canon:Option Value) (K:OK):Prop:=∃v x,canon=some x∧VR c ρ F h v x∧K v o c .pure
section
variable {T E:Env} {X:Cx} {ρ:Gh} {F:Nat→Prop} {o:Ob} {c:Nat} {af:AF} {f:Fr} {h:ae} {p:Oper} {K:OK}
theorem kW {op:BinOp} {t:TypeId} {x y:Operand} {a b:Value} {r:Bool} (hi:∀k n k' m,¬(a= .int k n∧b= .int k' m)) (hs:∀s r,¬(a= .string s∧b= .string r)) (he:nB E t x y a b=true) (hq:wg E 100 t a b=some r):
 (op= .eql→xe E op t x y a b=some (.bool r))∧(op= .neq→xe E op t x y a b=some (.bool !r)):=by
 constructor
 ·rintro rfl;unfold xe;split
  ·exact absurd ⟨rfl,rfl⟩ (hi _ _ _ _)
  ·exact absurd ⟨rfl,rfl⟩ (hs _ _)
  ·simp[bI,he,hq]
 ·rintro rfl;unfold xe;split
  ·exact absurd ⟨rfl,rfl⟩ (hi _ _ _ _)
  ·exact absurd ⟨rfl,rfl⟩ (hs _ _)
  ·simp[bI,he,hq]
theorem s6 {v:Option Value} (hp:AM v o c K) {canon:Option Value} (hc:∀x,v=some x→canon=some x):iY c ρ F h o canon K:=by
 unfold AM at hp;split at hp
 ·rename_i x;split at hp
  ·rename_i h2;exact⟨_,_,hc x rfl,.s h2,hp⟩
  ·exact hp.elim
 ·exact hp.elim
theorem wu.EU {d:Nat} {b:Bool} {n:Nat} (hv:wu d b (.chan (some n))):False:=by
 unfold wu at hv;split at hv<;>simp at hv
theorem wu.JS {d:Nat} {b:Bool} {x:Value} (hv:wu d b x):(∀k n,x≠ .int k n)∧(∀s,x≠ .string s)∧(∀a,x≠ .agg a)∧(x= .nilIface→d=3∧b=true):=by
 unfold wu at hv;split at hv
 all_goals
  (try obtain⟨_,rfl⟩:=hv)
  (try obtain⟨_,_,rfl⟩:=hv)
  (try obtain⟨_,_,_,rfl⟩:=hv)
  (try subst hv)
  (try(exact hv.elim))
  (try simp)
theorem Lr {k k':IntKind} {v w x:Value} (h:ka k k' v=some x):ka k k' w=some w:=by
 unfold ka at h ⊢;split at h<;>first|rfl |cases h
theorem uA {p:Prop} (hw:ask p o c K) {canon:Option Value} (b:Bool) (hb:b=true↔p) (hc:canon=some (.bool b)):iY c ρ F h o canon K:=by
 cases b with
 |true=>exact⟨_,_,hc,.s rfl,hw.1 (hb.1 rfl)⟩
 |false=>exact⟨_,_,hc,.s rfl,hw.2 fun hp=>by have:=hb.2 hp;cases this⟩
theorem qj {p:Prop} {k k':IntKind} {op:BinOp} {t:TypeId} {n m:Int} (hw:EB k k' p o c K) (b:Bool) (hb:b=true↔p) (hv:Ld op k k' n m=ka k k' (.bool b)):iY c ρ F h o (eP (binOp op t (.int k n) (.int k' m))) K:=by
 unfold EB at hw;split at hw
 ·rename_i hs;exact uA hw b hb ((JR (hv.trans (Lr hs)) t).1)
 ·exact hw.elim
theorem SH (L:ct T E) (H:Mem X ρ F o c h) {op:BinOp} {t:TypeId} {x y:Operand} {a b:TV} {xa xb:Value} (hw:V2 T op t x y a b o c K) (ha:VR c ρ F h a xa) (hb:VR c ρ F h b xb):iY c ρ F h o (xe E op t x y xa xb) K:=by
 unfold V2 at hw;split at hw
 ·rename_i k n k' m;rw[ha.dn.1,hb.dn.1];show iY c ρ F h o (eP (binOp op t (.int k n) (.int k' m))) K;split at hw
  ·exact qj hw (n==m) (by simp) rfl
  ·exact qj hw (n != m) (by simp) rfl
  ·exact qj hw (decide (n<m)) (by simp) rfl
  ·exact qj hw (decide (n≤m)) (by simp) rfl
  ·exact qj hw (decide (n>m)) (by simp) rfl
  ·exact qj hw (decide (n≥m)) (by simp) rfl
  ·exact s6 hw fun v hv=>(JR hv t).1
 ·rename_i s r;rw[ha.dn.1,hb.dn.1];split at hw
  ·exact uA hw (s.data.toList==r.data.toList) (by simp) rfl
  ·exact uA hw (!(s.data.toList==r.data.toList)) (by simp) rfl
  ·exact uA hw (Op.bytesLess s.data.toList r.data.toList) (by simp) rfl
  ·exact⟨_,_,(by simp only[xe];rw[aj];exact⟨decide_eq_true om,rfl⟩),.s rfl,hw.2⟩
  ·refine s6 hw fun v hv=>?_;simp only[xe]at hv;cases hv
 ·rename_i p q;rw[ha.dn.1,hb.dn.1];split at hw
  ·rename_i hd;have hq:wg E 100 t (.bool p) (.bool q)=some (p==q):=by
    show wg E (99+1) t _ _=_;unfold wg;rw[L.desc _ _ hd];rfl
   obtain⟨k1,k2⟩:=kW (op:=op) (E:=E) (x:=x) (y:=y) (t:=t) (a:=.bool p) (b:=.bool q) (by rintro _ _ _ _ ⟨e,_⟩;cases e) (by rintro _ _ ⟨e,_⟩;cases e) rfl hq;split at hw
   ·exact⟨_,_,k1 rfl,.s rfl,hw⟩
   ·exact⟨_,_,k2 rfl,.s rfl,hw⟩
   ·exact hw.elim
  ·exact hw.elim
 ·rename_i xs ys;obtain⟨a',rfl,h1⟩:=ha.ff;obtain⟨b',rfl,h2⟩:=hb.ff;split at hw
  ·rename_i z he hz;split at hw
   case h_2=>exact hw.elim
   rename_i r hr;obtain⟨s1,s2⟩:=Ou hr;obtain⟨e1,e2⟩:=L.eq t a' b' z xs ys r he hz hr (Ov h1 s1) (Ov h2 s2);obtain⟨k1,k2⟩:=kW (op:=op) (E:=E) (x:=x) (y:=y) (t:=t) (a:=.agg a') (b:=.agg b') (by rintro _ _ _ _ ⟨e,_⟩;cases e) (by rintro _ _ ⟨e,_⟩;cases e) e1 e2;split at hw
   ·exact uA hw r Iff.rfl (k1 rfl)
   ·exact uA hw (!r) (by simp) (k2 rfl)
   ·exact hw.elim
  ·exact hw.elim
 ·split at hw
  ·rename_i es hq;obtain⟨Le,rfl,sD⟩:∃Le,b= .sl 0 [] Le∧((∃z fl,a= .sl (z+1) es fl)∨∃n z w,a= .tk n∧look o n=some (.arr z w es)):=by
    unfold ZE at hq;split at hq
    ·cases hq;exact⟨_,rfl,.inl ⟨_,_,rfl⟩⟩
    ·split at hq
     ·rename_i hl;cases hq;exact⟨_,rfl,.inr ⟨_,_,_,rfl,hl⟩⟩
     ·cases hq
    ·cases hq
   have cp:xb= .slice none 0 0:=by
    cases hb with
    |nil=>rfl
    |sl _ _ hz=>omega
   subst cp;have main:∀{ds:TypeDesc},E.desc t=some ds→Ez ds=some 4→∃r:Bool,(r=true→es=[])∧wg E 100 t xa (.slice none 0 0)=some r∧∃a l k,xa= .slice a l k:=by
    intro ds h1 h2;rcases sD with⟨z,fl,rfl⟩|⟨n,z,w,rfl,hl⟩
    ·cases ha with
     |nil he=>exact⟨true,fun _=>he,qi (p:=true) (q:=true) h1 h2 rfl rfl rfl,_,_,_,rfl⟩
     |sl=>exact⟨false,(by simp),qi (p:=false) (q:=true) h1 h2 ⟨_,_,_,rfl⟩ rfl rfl,_,_,_,rfl⟩
    ·obtain⟨_,hob⟩:=H.b9 hl;cases ha with
     |tk hn KY haa h0=>
      cases hob with
      |nil vh hz=>
       rcases h0 _ vh with rfl |⟨_,_,_,_,_,_,_,rfl⟩
       ·exact⟨true,fun _=>rfl,qi (p:=true) (q:=true) h1 h2 rfl rfl rfl,_,_,_,rfl⟩
       ·exact⟨false,(by simp),qi (p:=false) (q:=true) h1 h2 ⟨_,_,_,rfl⟩ rfl rfl,_,_,_,rfl⟩
      |arr vh=>
       obtain⟨cap,_,rfl⟩:=haa _ _ _ vh;exact⟨false,(by simp),qi (p:=false) (q:=true) h1 h2 ⟨_,_,_,rfl⟩ rfl rfl,_,_,_,rfl⟩
   split at hw
   ·rename_i hd;simp only[Option.bind_eq_some_iff]at hd;obtain⟨ds,G1,VW⟩:=hd;obtain⟨r,m1,m2,a0,l0,k0,rfl⟩:=main (L.desc _ _ G1) VW;obtain⟨k1,k2⟩:=kW (op:=.eql) (E:=E) (x:=x) (y:=y) (t:=t) (a:=.slice a0 l0 k0) (b:=.slice none 0 0) (by rintro _ _ _ _ ⟨e,_⟩;cases e) (by rintro _ _ ⟨e,_⟩;cases e) rfl m2;cases r with
    |true=>exact⟨_,_,k1 rfl,.s rfl,hw.1 (m1 rfl)⟩
    |false=>exact⟨_,_,k1 rfl,.s rfl,hw.2⟩
   ·rename_i hd;simp only[Option.bind_eq_some_iff]at hd;obtain⟨ds,G1,VW⟩:=hd;obtain⟨r,m1,m2,a0,l0,k0,rfl⟩:=main (L.desc _ _ G1) VW;obtain⟨k1,k2⟩:=kW (op:=.neq) (E:=E) (x:=x) (y:=y) (t:=t) (a:=.slice a0 l0 k0) (b:=.slice none 0 0) (by rintro _ _ _ _ ⟨e,_⟩;cases e) (by rintro _ _ ⟨e,_⟩;cases e) rfl m2;cases r with
    |true=>exact⟨_,_,k2 rfl,.s rfl,hw.1 (m1 rfl)⟩
    |false=>exact⟨_,_,k2 rfl,.s rfl,hw.2⟩
   ·exact hw.elim
  split at hw
  ·rename_i d d1 p d2 q hd hp hq;split at hw
   ·rename_i hc;simp only[Bool.and_eq_true,beq_iff,Bool.or_eq_true,Bool.not_eq_true']at hc;obtain⟨⟨⟨rfl,rfl⟩,UX⟩,gg⟩:=hc;simp only[Option.bind_eq_some_iff]at hd;obtain⟨ds,G1,VW⟩:=hd;have va:=ET ha hp;have vb:=ET hb hq;have SI:=qi (L.desc _ _ G1) VW va vb (by simpa using UX);obtain⟨a1,a2,a3,a4⟩:=va.JS;obtain⟨b1,b2,b3,b4⟩:=vb.JS;have he:nB E t x y xa xb=true:=by
     unfold nB;split
     ·obtain⟨rfl,rfl⟩:=a4 rfl;obtain⟨_,rfl⟩:=b4 rfl;rcases gg with (gg|gg)|gg
      ·simp at gg
      ·rw[gg];rfl
      ·rw[gg];simp
     ·exact absurd rfl (a3 _)
     ·exact va.EU.elim
     ·exact vb.EU.elim
     ·rfl
    obtain⟨k1,k2⟩:=kW (op:=op) (E:=E) (x:=x) (y:=y) (t:=t) (a:=xa) (b:=xb) (by rintro k n _ _ ⟨e,_⟩;exact a1 k n e) (by rintro s _ ⟨e,_⟩;exact a2 s e) he SI;split at hw
    ·exact⟨_,_,k1 rfl,.s rfl,hw⟩
    ·exact⟨_,_,k2 rfl,.s rfl,hw⟩
    ·exact hw.elim
   ·exact hw.elim
  ·exact hw.elim
theorem uB (H:Mem X ρ F o c h) {m i q:Nat} {y:TO} (hl:look o m=some y) (hy:Ai y=true) {x:Value} (hx:VR c ρ F h (.wp m i q) x):
 ∃b z l,ρ m=some (.arr b z l)∧x= .pointer (some ⟨b,i*z+q,none⟩):=by
 cases hx with
 |wp hn kD ha h0=>
  obtain⟨S,hO⟩:=H.b9 hl;cases hO with
  |nil hb hz=>exact absurd hb (h0 _)
  |gF hb hz=>exact absurd hb (h0 _)
  |arr hb=>exact⟨_,_,_,hb,ha _ _ _ hb⟩
  |b6 hb=>exact⟨_,_,_,hb,ha _ _ _ hb⟩
  |_=>simp[Ai]at hy
def EV:TO→Nat
 | .arr _ _ es=>es.length
 | .b6 _ es _=>es.length
 |_=>0
theorem OR.tk {base m:Nat} {S:Ft} {y:TO} (hO:OR c ρ F h base m S y) (hy:Ai y=true) {x:Value} (hx:VR c ρ F h (.tk m) x):
 (EV y=0∧ρ m=some (.nil (Lp y))∧(x= .slice none 0 0∨∃b o cs,F b∧h.rd b=some cs∧0<Lp y∧o≤cs.length∧x= .slice (some ⟨b,o,some (Lp y)⟩) 0 0))∨
 ∃b cap,ρ m=some (.arr b (Lp y) (EV y))∧EV y≤cap∧x= .slice (some ⟨b,0,some (Lp y)⟩) (EV y) cap:=by
 cases hx with
 |tk hn kD ha h0=>
  cases hO with
  |nil hb hz=>exact .inl ⟨rfl,hb,h0 _ hb⟩
  |gF hb hz=>exact .inl ⟨rfl,hb,h0 _ hb⟩
  |arr hb=>obtain⟨cap,h1,h2⟩:=ha _ _ _ hb;exact .inr ⟨_,cap,hb,h1,h2⟩
  |b6 hb=>obtain⟨cap,h1,h2⟩:=ha _ _ _ hb;exact .inr ⟨_,cap,hb,h1,h2⟩
  |_=>simp[Ai]at hy
theorem Aj (L:ct T E) (H:Mem X ρ F o c h) {s:TypeId} {x:TV} {fd:Nat} {xv:Value} (hw:rQ T s x fd o c K) (hx:VR c ρ F h x xv):
 iY c ρ F h o ((E.desc s).bind fun d=>(iS xv).bind fun p=>(match d with
 | .struct fields=>(fields[fd]?).bind fun fl=>(E.size fl.type).bind fun n=>bI (Nat.blt 0 n) (some (.pointer (some ⟨p.1,p.2+fl.offset,none⟩)))
 |_=>none)) K:=by
 unfold rQ at hw;split at hw
 ·rename_i fields hd;split at hw
  ·rename_i fl hf;split at hw
   ·rename_i n hn;split at hw
    ·rename_i h0
     have fin:∀b q,xv=Value.pointer (some ⟨b,q,none⟩)→(((E.desc s).bind fun d=>(iS xv).bind fun p=>(match d with
      | .struct fields=>(fields[fd]?).bind fun fl=>(E.size fl.type).bind fun n=>bI (Nat.blt 0 n) (some (Value.pointer (some ⟨p.1,p.2+fl.offset,none⟩)))
      |_=>none))=some (Value.pointer (some ⟨b,q+fl.offset,none⟩))):=by
      rintro b q rfl;rw[L.desc _ _ hd];simp only[Option.bind_some,iS,hf,L.size _ _ hn,h0,bI]
     split at hw
     ·cases hx with
      |ptr hb=>exact⟨_,_,fin _ _ rfl,.ptr hb,hw⟩
     ·cases hx with
      |ep h1 h2 h3 h4 h5=>exact⟨_,_,fin _ _ rfl,by rw[Nat.add_assoc];exact .ep h1 h2 h3 h4 h5,hw⟩
     ·have go:∀{m i p:Nat} {y:TO},look o m=some y→Ai y=true→VR c ρ F h (.wp m i p) xv→K (.wp m i (p+fl.offset)) o c .pure→iY c ρ F h o ((E.desc s).bind fun d=>(iS xv).bind fun p=>(match d with
       | .struct fields=>(fields[fd]?).bind fun fl=>(E.size fl.type).bind fun n=>bI (Nat.blt 0 n) (some (.pointer (some ⟨p.1,p.2+fl.offset,none⟩)))
       |_=>none)) K:=by
       intro m i p y hl hy hx hw;obtain⟨b,z,l,hb,rfl⟩:=uB H hl hy hx;cases hx with
       |wp hn kD ha h0=>
        refine⟨_,_,fin _ _ rfl,.wp hn rfl (fun b' z' l' kL=>?_) h0,hw⟩;rw[hb]at kL;cases kL;rw[Nat.add_assoc]
      split at hw
      ·rename_i hl;exact go hl rfl hx hw
      ·rename_i hl;exact go hl rfl hx hw
      ·exact hw.elim
     ·exact hw.elim
    ·exact hw.elim
   ·exact hw.elim
  ·exact hw.elim
 ·exact hw.elim
theorem fV {agg:Bool} {l:List TV} {v:TV} (ho:eN agg l=some v) {m:List Value} (H:dF c ρ F h l m):∃x,cS agg m=some x∧VR c ρ F h v x:=by
 unfold eN at ho;split at ho
 ·cases ho;exact⟨_,rfl,.gC (by simpa using H)⟩
 ·cases ho;obtain⟨x,m',rfl,h1,h2⟩:=H.aL;rw[h2.bC];exact⟨x,rfl,h1⟩
 ·cases ho
theorem A3 {n:Nat} {l r:List TV} (ht:takeN n l=some r) {m:List Value} (H:dF c ρ F h l m):∃q,takeN n m=some q∧dF c ρ F h r q:=by
 rw[bm]at ht;obtain⟨h1,rfl⟩:=ht;exact⟨m.take n,by rw[bm];exact⟨by rw[←H.1];exact h1,rfl⟩,H.take n⟩
theorem Ls (L:ct T E) {t:TypeId} {x:TV} {fd:Nat} {xv:Value} (hw:HJ T t x fd o c K) (hx:VR c ρ F h x xv):
 iY c ρ F h o ((E.desc t).bind fun d=>(YW xv).bind fun cs=>(match d with
 | .struct fields=>(fields[fd]?).bind fun fl=>oU E fl.type cs fl.offset
 |_=>none)) K:=by
 unfold HJ at hw;split at hw
 ·rename_i fields hd;split at hw
  ·rename_i fl cs hf;split at hw
   ·rename_i agg n hs;split at hw
    ·rename_i l hl;split at hw
     ·rename_i v hv;obtain⟨hK,_⟩:=eu hw;obtain⟨a,rfl,h1⟩:=hx.ff;obtain⟨q,h2,h3⟩:=A3 hl (h1.drop fl.offset);obtain⟨x,h4,h5⟩:=fV hv h3;refine⟨v,x,?_,h5,hK⟩;rw[L.desc _ _ hd];simp only[Option.bind_some,YW,hf,oU,L.shape hs,h2,h4]
     ·exact hw.elim
    ·exact hw.elim
   ·exact hw.elim
  ·exact hw.elim
 ·exact hw.elim
theorem m6 {i:TV} {x:Value} {n:Int} (hi:EA i=some n) (hx:VR c ρ F h i x):R3 x=some n:=by
 unfold EA at hi;split at hi
 ·cases hi;rw[hx.dn.1];rfl
 ·cases hi
theorem Ak (L:ct T E) (H:Mem X ρ F o c h) {t:TypeId} {x i:TV} {xv iv:Value} (hw:rR T t x i o c K) (hx:VR c ρ F h x xv) (hi:VR c ρ F h i iv):iY c ρ F h o (fa E t xv iv) K:=by
 unfold rR at hw;split at hw
 ·rename_i elem i' hd AA;have hI:=m6 AA hi;split at hw
  ·rename_i n hn;have fin:∀b q z len cap,xv=Value.slice (some ⟨b,q,some z⟩) len cap→0≤i'→i'<len→fa E t xv iv=some (.pointer (some ⟨b,q+i'.toNat*n,none⟩)):=by
    rintro b q z len cap rfl h1 h2;unfold fa;rw[L.desc _ _ hd,hI];simp only[Option.bind_some,L.size _ _ hn,bI,h1,h2,decide_true,Bool.and_self]
   split at hw
   ·rename_i z es fl;split at hw
    ·rename_i hz;rw[beq_iff]at hz;obtain⟨e,⟨h0,he⟩,hK⟩:=hw;cases hx with
     |nil pj=>subst pj;simp at he
     |sl q1 q2 q3 q4 q5 q6 q7 q8 q9 UY=>
      have aU:=(List.getElem?_eq_some_iff.1 he).1;refine⟨_,_,fin _ _ _ _ _ rfl h0 om,?_,hK⟩;have UZ:=q8 e (List.mem_of_getElem? he);rw[←Nat.add_zero (_+_*n)];refine .ep q1 q2 ?_ (q9 e (List.mem_of_getElem? he)) fun j t v r1 r2=>UY _ j e t v he r1 (by rw[hz];exact r2);rw[UZ,←hz];have:(i'.toNat+1)*z≤es.length*z:=Nat.mul_le_mul_right z aU;rw[Nat.add_mul]at this;subst q4;omega
    ·exact hw.elim
   ·rename_i m;have go:∀{y:TO},look o m=some y→Ai y=true→Lp y=n→0≤i'→i'<EV y→K (.wp m i'.toNat 0) o c .pure→iY c ρ F h o (fa E t xv iv) K:=by
     intro y hl hy hz h0 h1 hK;obtain⟨S,hO⟩:=H.b9 hl;rcases hO.tk hy hx with⟨e,_⟩|⟨b,cap,hb,_,rfl⟩
     ·rw[e]at h1;omega
     ·refine⟨_,_,fin _ _ _ _ _ rfl h0 h1,?_,hK⟩;cases hx with
      |tk KT kD ha h0'=>
       refine .wp KT rfl (fun b' z2 l2 kL=>?_) (fun z2 kL=>by rw[hb]at kL;cases kL);rw[hb]at kL;cases kL;rw[Nat.zero_add,Nat.add_zero,hz]
    split at hw
    ·rename_i z w es hl;split at hw
     ·rename_i hz;obtain⟨⟨h0,h1⟩,hK⟩:=hw;exact go hl rfl (beq_iff.1 hz) h0 h1 hK
     ·exact hw.elim
    ·rename_i z es op hl;split at hw
     ·rename_i hz;obtain⟨⟨h0,h1⟩,hK⟩:=hw;exact go hl rfl (beq_iff.1 hz) h0 h1 hK
     ·exact hw.elim
    ·exact hw.elim
   ·exact hw.elim
  ·exact hw.elim
 ·rename_i len elem i' hd AA;have hI:=m6 AA hi;split at hw
  ·rename_i n hn;obtain⟨⟨h1,h2⟩,hw⟩:=hw;have fin:∀b q,xv=Value.pointer (some ⟨b,q,none⟩)→fa E t xv iv=some (.pointer (some ⟨b,q+i'.toNat*n,none⟩)):=by
    rintro b q rfl;unfold fa;rw[L.desc _ _ hd,hI];simp only[Option.bind_some,L.size _ _ hn,bI,h1,h2,decide_true,Bool.and_self]
   split at hw
   ·cases hx with
    |ptr hb=>exact⟨_,_,fin _ _ rfl,.ptr hb,hw⟩
   ·cases hx with
    |ep q1 q2 q3 q4 q5=>exact⟨_,_,fin _ _ rfl,by rw[Nat.add_assoc];exact .ep q1 q2 q3 q4 q5,hw⟩
   ·exact hw.elim
  ·exact hw.elim
 ·exact hw.elim
theorem Lt (L:ct T E) {t:TypeId} {x i:TV} {xv iv:Value} (hw:HK T t x i o c K) (hx:VR c ρ F h x xv) (hi:VR c ρ F h i iv):iY c ρ F h o (ub E t xv iv) K:=by
 unfold HK at hw;split at hw
 ·rename_i i' hd AA;have hI:=m6 AA hi;split at hw
  ·obtain⟨b,⟨h1,h2⟩,hK⟩:=hw;rw[hx.dn.1];refine⟨_,_,?_,.s rfl,hK⟩;unfold ub;rw[L.desc _ _ hd,hI];simp only[Option.bind_some,bI,h1,decide_true,h2]
  ·exact hw.elim
 ·rename_i len elem i' hd AA;have hI:=m6 AA hi;split at hw
  ·rename_i z agg n cs hz hs;obtain⟨⟨h1,h2⟩,hw⟩:=hw;split at hw
   ·rename_i l hl;split at hw
    ·rename_i v hv;obtain⟨hK,_⟩:=eu hw;obtain⟨a,rfl,k1⟩:=hx.ff;obtain⟨q,h3,h4⟩:=A3 hl (k1.drop (i'.toNat*z));obtain⟨x,h5,h6⟩:=fV hv h4;refine⟨v,x,?_,h6,hK⟩;unfold ub;rw[L.desc _ _ hd,hI];simp only[Option.bind_some,L.size _ _ hz,bI,h1,h2,decide_true,Bool.and_self,oU,L.shape hs,h3,h5]
    ·exact hw.elim
   ·exact hw.elim
  ·exact hw.elim
 ·exact hw.elim
end
section
variable {T E:Env} {X:Cx} {ρ:Gh} {F:Nat→Prop} {o:Ob} {c:Nat} {af:AF} {f:Fr} {h:ae} {p:Oper} {K:OK}
def EW (X:Cx) (c:Nat) (ρ:Gh) (F:Nat→Prop) (h:ae) (o:Ob) (canon:Option Value) (K:OK):Prop:=
 ∃v x o' F',canon=some x∧Mem X ρ F' o' c h∧(∀t x,VR c ρ F h t x→VR c ρ F' h t x)∧(∀b,F b→F' b)∧(∀n y,look o n=some y→∃y',look o' n=some y'∧iO y y')∧VR c ρ F' h v x∧K v o' c .pure
theorem iY.toS (H:Mem X ρ F o c h) {canon:Option Value} (R:iY c ρ F h o canon K):EW X c ρ F h o canon K:=by
 obtain⟨v,x,h1,h2,h3⟩:=R;exact⟨v,x,o,F,h1,H,fun _ _ h=>h,fun _ h=>h,fun n y hl=>⟨y,hl,iO.refl y⟩,h2,h3⟩
theorem EW.G5 {canon:Option Value} (H:Mem X ρ F o c h) (R:EW X c ρ F h o canon K) (hp:aX E af p=canon):eZ E X ρ F o c af h p K:=by
 obtain⟨v,x,o',F',h1,h2,h3,h4,h5,h6,h7⟩:=R;exact eZ.ZV H h2 h3 h4 h5 (hp.trans h1) h6 h7
theorem pk (o:Ob) (m:Nat):∀n y,look o n=some y→∃y',look (iW o m) n=some y'∧iO y y':=by
 intro n y hl;unfold iW;split
 ·rename_i z w es hm;rw[eo];by_cases e:n=m
  ·subst e;rw[if_pos rfl,hm];rw[hm]at hl;cases hl;exact⟨_,rfl,rfl,rfl,fun h=>by cases h⟩
  ·rw[if_neg e];exact⟨y,hl,iO.refl y⟩
 ·exact⟨y,hl,iO.refl y⟩
theorem pn {d y:Nat} {i:Int} (hi:0≤i) (hy:i≤y) (k:IntKind):cI d y (some (.int k i))=some i.toNat:=by
 simp[cI,bI,hi,hy]
theorem jy {d:Nat} {lo:Option TV} {x8:Option Value} {l:Int} (hb:Ru d lo=some l) (hl:(lo=none∧x8=none)∨∃y v,lo=some y∧x8=some v∧VR c ρ F h y v):
 (x8=none∧l=d)∨∃k,x8=some (.int k l):=by
 rcases hl with⟨rfl,rfl⟩|⟨y,v,rfl,rfl,hv⟩
 ·simp[Ru]at hb;exact .inl ⟨rfl,hb.symm⟩
 ·unfold Ru at hb;split at hb
  ·rename_i he;cases he
  ·rename_i k i he;cases he;cases hb;rw[hv.dn.1];exact .inr ⟨k,rfl⟩
  ·cases hb
theorem eH {d y:Nat} {l:Int} {x8:Option Value} (h1:(x8=none∧l=d)∨∃k,x8=some (.int k l)) (h0:0≤l) (hy:l≤y):cI d y x8=some l.toNat:=by
 rcases h1 with⟨rfl,rfl⟩|⟨k,rfl⟩
 ·simp[cI]
 ·exact pn h0 hy k
theorem iD {t elem:TypeId} {n z b o' len cap:Nat} {lo hi mx:Option Value} {l hh m:Nat} (hd:E.desc t=some (.slice elem)) (hn:E.size elem=some n) (hz:n=z) (hm:cI cap len mx=some m)
 (Ow:cI len (bif mx.isSome then m else len) hi=some hh) (hc:hi.isSome||mx.isNone) (Ci:cI 0 hh lo=some l):
 iw E t (.slice (some ⟨b,o',some z⟩) len cap) lo hi mx=some (.slice (some (bif Nat.beq m l then⟨b,o',some z⟩else⟨b,o'+l*z,some z⟩)) (hh - l) (m - l)):=by
 unfold iw;subst hz;rw[hd];simp only[Option.bind_some,hn,hm,Ow,Ci,bI,hc];simp
theorem H7 {z b oo len cap:Nat} {es:List (List TV)} {fl:Bool} (hv:VR c ρ F h (.sl z es fl) (.slice (some ⟨b,oo,some z⟩) len cap)) {l hh m:Nat} (hl:l≤hh) (hhl:hh≤es.length) (hm:hh≤m) (Le:Bool) (xn:Le=true→m=hh):
 VR c ρ F h (.sl z ((es.take hh).drop l) Le) (.slice (some (bif Nat.beq m l then⟨b,oo,some z⟩else⟨b,oo+l*z,some z⟩)) (hh - l) (m - l)):=by
 cases hv with
 |sl q1 q2 q3 q4 q5 q6 q7 q8 q9 UY=>
  have hlen:((es.take hh).drop l).length=hh - l:=by simp;omega
  by_cases e:m=l
  ·have e2:hh=l:=by omega
   subst e2;subst e;rw[show(bif Nat.beq m m then(⟨b,oo,some z⟩:Addr)else⟨b,oo+m*z,some z⟩)=⟨b,oo,some z⟩ by simp];refine .sl q1 q2 q3 hlen om (fun _=>rfl) (by simp;omega) (fun e he=>?_) (fun e he=>?_) fun i j e t v r1=>?_
   ·exact q8 e (List.mem_of_mem_take (List.mem_of_mem_drop he))
   ·exact q9 e (List.mem_of_mem_take (List.mem_of_mem_drop he))
   ·have:=(List.getElem?_eq_some_iff.1 r1).1;omega
  ·rw[show(bif Nat.beq m l then(⟨b,oo,some z⟩:Addr)else⟨b,oo+l*z,some z⟩)=⟨b,oo+l*z,some z⟩ by
    rw[EE];simp[e]]
   refine .sl q1 q2 q3 hlen om (fun h=>by rw[xn h]) ?_ (fun e he=>?_) (fun e he=>?_) fun i j e t v r1 r2 r3=>?_
   ·have:(l+(hh - l))*z≤es.length*z:=Nat.mul_le_mul_right z om;rw[Nat.add_mul]at this;subst q4;omega
   ·exact q8 e (List.mem_of_mem_take (List.mem_of_mem_drop he))
   ·exact q9 e (List.mem_of_mem_take (List.mem_of_mem_drop he))
   ·rw[List.getElem?_drop,List.getElem?_take]at r1;split at r1
    ·refine UY (l+i) j e t v r1 r2 ?_;rw[←r3,Nat.add_mul]
     congr 1;omega
    ·cases r1
theorem lY {t elem n:Nat} {lo hi mx:Option Value} {l hh m:Nat} (hd:E.desc t=some (.slice elem)) (hn:E.size elem=some n) (hm:cI 0 0 mx=some m)
 (Ow:cI 0 (bif mx.isSome then m else 0) hi=some hh) (hc:hi.isSome||mx.isNone) (Ci:cI 0 hh lo=some l):
 iw E t (.slice none 0 0) lo hi mx=some (.slice none 0 0):=by
 unfold iw;rw[hd];simp only[Option.bind_some,hn,hm,Ow,Ci,bI,hc]
def SJ (c:Nat) (ρ:Gh) (F:Nat→Prop) (h:ae) (y:Option TV) (v:Option Value):Prop:=(y=none∧v=none)∨∃y' v',y=some y'∧v=some v'∧VR c ρ F h y' v'
theorem vC (L:ct T E) {t:TypeId} {z n l hh m:Nat} {elem:TypeId} {es:List (List TV)} {fl:Bool} {xv:Value} {x8 hiv Rz:Option Value} (hd:T.desc t=some (.slice elem)) (hn:T.size elem=some n) (hz:z=n∨z=0)
 (hx:VR c ρ F h (.sl z es fl) xv) (hl:l≤hh) (hhl:hh≤es.length) (_:hh≤m) (Le:Bool) (_:Le=true→m=hh)
 (b1:∀len cap,len=es.length→len≤cap→∃m',cI cap len Rz=some m'∧cI len (bif Rz.isSome then m' else len) hiv=some hh∧hh≤m'∧(Le=true→m'=hh)) (b2:(hiv.isSome||Rz.isNone)=true) (b3:cI 0 hh x8=some l):
 ∃x,iw E t xv x8 hiv Rz=some x∧VR c ρ F h (.sl z ((es.take hh).drop l) Le) x:=by
 cases hx with
 |nil he=>
  subst he;obtain⟨m',k1,k2,_,_⟩:=b1 0 0 rfl (Nat.le_refl _);refine⟨_,lY (L.desc _ _ hd) (L.size _ _ hn) k1 k2 b2 b3,.nil (by simp)⟩
 |sl q1 q2 q3 q4 q5 q6 q7 q8 q9 UY=>
  have SK:n=z:=by omega
  obtain⟨m',k1,k2,k3,k4⟩:=b1 _ _ q4.symm q5;refine⟨_,iD (L.desc _ _ hd) (L.size _ _ hn) SK k1 k2 b2 b3,H7 (.sl q1 q2 q3 q4 q5 q6 q7 q8 q9 UY) hl hhl k3 Le k4⟩
theorem Ox (H:Mem X ρ F o c h) {x:TV} {z:Nat} {es:List (List TV)} (he:Od o x=some (z,es)):∃F',Mem X ρ F' (share1 o x) c h∧(∀t v,VR c ρ F h t v→VR c ρ F' h t v)∧(∀b,F b→F' b)∧(∀n y,look o n=some y→∃y',look (share1 o x) n=some y'∧iO y y')∧
 ∀xv,VR c ρ F h x xv→∃fl,VR c ρ F' h (.sl z es fl) xv:=by
 unfold Od at he;split at he
 ·cases he;exact⟨F,H,fun _ _ h=>h,fun _ h=>h,fun n y hl=>⟨y,hl,iO.refl y⟩,fun xv hx=>⟨_,hx⟩⟩
 ·rename_i m;split at he
  ·rename_i w bM hl;cases he;obtain⟨F',h1,h2,h3,h4⟩:=H.share m;exact⟨F',h1,h2,h3,pk o m,fun xv hx=>⟨false,h4 _ _ _ _ hl hx⟩⟩
  ·cases he
 ·cases he
theorem Lu (L:ct T E) (H:Mem X ρ F o c h) {t:TypeId} {x:TV} {xv:Value} {lo hi mx:Option TV} {x8 hiv Rz:Option Value} (hw:HL T t x lo hi mx o c K) (hx:VR c ρ F h x xv) (Ci:SJ c ρ F h lo x8) (Ow:SJ c ρ F h hi hiv) (M7:SJ c ρ F h mx Rz):
 EW X c ρ F h o (iw E t xv x8 hiv Rz) K:=by
 unfold HL at hw;split at hw
 ·rename_i hd;split at hw
  ·rename_i s;split at hw
   ·rename_i hh l e1 e2;obtain⟨⟨h1,h2,h3⟩,hK⟩:=hw;rcases M7 with⟨_,rfl⟩|⟨_,_,e,_⟩
    ·refine iY.toS H ⟨_,_,?_,.s rfl,hK⟩;rw[hx.dn.1];have a1:cI s.size s.size hiv=some hh.toNat:=eH (jy e1 Ow) om h3;have a2:cI 0 hh.toNat x8=some l.toNat:=eH (jy e2 Ci) h1 om;unfold iw;rw[L.desc _ _ hd];simp only[Option.bind_some,bI,a1,a2];rfl
    ·cases e
   ·exact hw.elim
  ·exact hw.elim
 ·rename_i elem hd;split at hw
  ·rename_i n z es hn he;obtain⟨F',k1,k2,k3,k4,k5⟩:=Ox H he;obtain⟨fl,M9⟩:=k5 xv hx;split at hw
   ·rename_i hz;simp only[Bool.or_eq_true,beq_iff]at hz;split at hw
    ·rcases M7 with⟨_,rfl⟩|⟨_,_,e,_⟩
     ·split at hw
      ·rename_i hh l e1 e2;have plain:(0≤l∧l≤hh∧hh≤es.length)→K (.sl z ((es.take hh.toNat).drop l.toNat) false) (share1 o x) c .pure→EW X c ρ F h o (iw E t xv x8 hiv none) K:=by
        rintro⟨h1,h2,h3⟩ hK
        obtain⟨x',q1,q2⟩:=vC L (l:=l.toNat) (hh:=hh.toNat) (m:=hh.toNat) hd hn hz M9 om om (Nat.le_refl _) false (x8:=x8) (hiv:=hiv) (Rz:=none) (fun h=>by cases h)
         (fun len cap e3 e4=>⟨cap,rfl,by subst e3;exact eH (jy e1 Ow) om h3,by subst e3;omega,fun h=>by cases h⟩) (by simp) (eH (jy e2 Ci) h1 om)
        exact⟨_,x',_,F',q1,k1,k2,k3,k4,q2,hK⟩
       split at hw
       ·split at hw
        ·obtain⟨hc,hK⟩:=hw;split at hK
         ·rename_i hz9;have hz9:=beq_iff.1 hz9;subst hz9;obtain⟨h1,h2,h3⟩:=hc;have hz8:=M9;cases hz8 with
          |nil he9=>
           subst he9;simp only[List.length_nil]at h3;have e0:hh.toNat=0:=by simp at h3;omega
           have e9:l.toNat=0:=by omega
           have b1:=eH (y:=0) (jy e1 Ow) om (by simpa using h3);have b2:=eH (y:=0) (jy e2 Ci) h1 (by simp at h3;omega);rw[e0]at b1;rw[e9]at b2;exact⟨.sl 0 [] true,.slice none 0 0,_,F',lY (L.desc _ _ hd) (L.size _ _ hn) (m:=0) (hh:=0) (l:=0) rfl b1 (by simp) b2,k1,k2,k3,k4,.nil rfl,hK⟩
          |sl q1 q2 q3=>omega
         ·exact plain hc hK
        ·rename_i n' UX;obtain⟨hc,hK⟩:=hw;rcases hK with hK|hK
         ·exact plain hc hK
         obtain⟨h1,h2,h3⟩:=hc;obtain⟨rfl,rfl,y,rfl⟩:x= .tk n'∧lo=none∧∃y,hi=some y:=by
          unfold pvQ at UX;split at UX
          ·cases UX;exact⟨rfl,rfl,_,rfl⟩
          ·cases UX
         have adb:x8=none:=by
          rcases Ci with⟨_,e⟩|⟨_,_,e,_⟩
          ·exact e
          ·cases e
         subst adb;have ue:l=0:=by simpa[Ru]using e2.symm
         subst ue;obtain⟨w,hl⟩:∃w,look o n'=some (.arr z w es):=by
          unfold Od at he;simp only at he;split at he
          ·rename_i w _ hl;cases he;exact⟨_,hl⟩
          ·cases he
         have a1:∀y:Nat,y=es.length→cI y y hiv=some hh.toNat:=fun y hy=>by subst hy;exact eH (jy e1 Ow) om h3
         obtain⟨Sm,hO⟩:=H.b9 hl;have G3:n'<c:=by cases hx with|tk hn=>exact hn
         rcases hO.tk rfl hx with⟨h0,hb,rfl |⟨b,o',cs,q1,q2,D2,q4,rfl⟩⟩|⟨b,cap,hb,fp,rfl⟩
         ·have h0:es.length=0:=h0;have Y9:hh.toNat=0:=by omega
          refine⟨.pv n' hh.toNat,.slice none 0 0,o,F,lY (L.desc _ _ hd) (L.size _ _ hn) (m:=0) (hh:=0) (l:=0) rfl (by have:=a1 0 om;rwa [Y9]at this) (by simp) rfl,H,fun _ _ h=>h,fun _ h=>h,fun n y hl=>⟨y,hl,iO.refl y⟩,
           .pv G3 rfl (fun b z len e=>by rw[hb]at e;cases e) (fun _ _=>.inl rfl),hK⟩
         ·have h0:es.length=0:=h0;have Y9:hh.toNat=0:=by omega
          have D2:0<z:=D2
          refine⟨.pv n' hh.toNat,_,o,F,iD (L.desc _ _ hd) (L.size _ _ hn) (z:=z) (m:=0) (hh:=0) (l:=0) om rfl (by have:=a1 0 om;rwa [Y9]at this) (by simp) rfl,H,fun _ _ h=>h,fun _ h=>h,fun n y hl=>⟨y,hl,iO.refl y⟩,
           .pv G3 rfl (fun b z len e=>by rw[hb]at e;cases e) (fun z' jY=>?_),hK⟩
          have SL:z'=z:=by rw[hb]at jY;cases jY;rfl
          subst SL;exact .inr ⟨_,_,_,q1,q2,D2,q4,rfl⟩
         ·have D2:0<z:=by
           cases hO with
           |nil cp=>rw[hb]at cp;cases cp
           |arr _ _ _ _ _ hz=>exact hz
          have hb:ρ n'=some (.arr b z es.length):=hb;have fp:es.length≤cap:=fp
          refine⟨.pv n' hh.toNat,_,o,F,iD (L.desc _ _ hd) (L.size _ _ hn) (z:=z) (m:=cap) (hh:=hh.toNat) (l:=0) om rfl (eH (jy e1 Ow) om h3) (by simp) rfl,H,fun _ _ h=>h,fun _ h=>h,fun n y hl=>⟨y,hl,iO.refl y⟩,
           .pv G3 rfl (fun b1 z1 Sc e=>?_) (fun _ e=>by rw[hb]at e;cases e),hK⟩
          rw[hb]at e;cases e;exact⟨cap,om,by simp⟩
       ·rename_i n' hsq;obtain⟨hc,hK⟩:=hw;rcases hK with hK|hK
        ·exact plain hc hK
        obtain⟨h1,h2,h3⟩:=hc;obtain⟨rfl,rfl⟩:x= .tk n'∧hi=none:=by
         unfold svQ at hsq;split at hsq
         ·cases hsq;exact⟨rfl,rfl⟩
         ·cases hsq
        have ade:hiv=none:=by
         rcases Ow with⟨_,e⟩|⟨_,_,e,_⟩
         ·exact e
         ·cases e
        subst ade;have hhe:hh=es.length:=by simpa[Ru]using e1.symm
        subst hhe;obtain⟨w,hl⟩:∃w,look o n'=some (.arr z w es):=by
         unfold Od at he;simp only at he;split at he
         ·rename_i w _ hl;cases he;exact⟨_,hl⟩
         ·cases he
        have b3:∀y:Nat,l≤y→cI 0 y x8=some l.toNat:=fun y hy=>eH (jy e2 Ci) h1 hy;obtain⟨Sm,hO⟩:=H.b9 hl;have G3:n'<c:=by cases hx with|tk hn=>exact hn
        rcases hO.tk rfl hx with⟨h0,hb,rfl |⟨b,o',cs,_,_,D2,_,rfl⟩⟩|⟨b,cap,hb,fp,rfl⟩
        ·have h0:es.length=0:=h0;have ue:l.toNat=0:=by omega
         refine⟨.sv n' l.toNat,.slice none 0 0,o,F,lY (L.desc _ _ hd) (L.size _ _ hn) (m:=0) (hh:=0) (l:=0) rfl rfl rfl (by have:=b3 0 om;rwa [ue]at this),H,fun _ _ h=>h,fun _ h=>h,fun n y hl=>⟨y,hl,iO.refl y⟩,
          .sv G3 rfl (fun b z len e=>by rw[hb]at e;cases e) (fun _ _=>.inl rfl),hK⟩
        ·have h0:es.length=0:=h0;have ue:l.toNat=0:=by omega
         have D2:0<z:=D2
         refine⟨.sv n' l.toNat,_,o,F,iD (L.desc _ _ hd) (L.size _ _ hn) (z:=z) (m:=0) (hh:=0) (l:=0) om rfl rfl rfl (by have:=b3 0 om;rwa [ue]at this),H,fun _ _ h=>h,fun _ h=>h,fun n y hl=>⟨y,hl,iO.refl y⟩,
          .sv G3 rfl (fun b z len e=>by rw[hb]at e;cases e) (fun _ _=>.inr ⟨_,_,_,_,rfl⟩),hK⟩
        ·have D2:0<z:=by
          cases hO with
          |nil cp=>rw[hb]at cp;cases cp
          |arr _ _ _ _ _ hz=>exact hz
         have hb:ρ n'=some (.arr b z es.length):=hb;have fp:es.length≤cap:=fp
         refine⟨.sv n' l.toNat,_,o,F,iD (L.desc _ _ hd) (L.size _ _ hn) (z:=z) (m:=cap) (hh:=es.length) (l:=l.toNat) om rfl rfl rfl (b3 _ om),H,fun _ _ h=>h,fun _ h=>h,fun n y hl=>⟨y,hl,iO.refl y⟩,
          .sv G3 rfl (fun b1 z1 Sc e=>?_) (fun _ e=>by rw[hb]at e;cases e),hK⟩
         rw[hb]at e;cases e;cases hbq:Nat.beq cap l.toNat with
         |true=>
          have:=beq_iff.1 hbq;exact⟨_,_,rfl,fun aU=>by omega⟩
         |false=>exact⟨_,_,rfl,fun _=>Nat.zero_add _⟩
      ·exact hw.elim
     ·cases e
    ·rename_i m _;split at hw
     ·rename_i kk hh l m' e2 e3;obtain⟨⟨h1,h2,rfl,h3⟩,hK⟩:=hw;rcases M7 with⟨e,_⟩|⟨y1,v1,e,rfl,qJ⟩
      ·cases e
      ·cases e;rcases Ow with⟨e,_⟩|⟨y2,v2,e,rfl,NR⟩
       ·cases e
       ·cases e;have SC:∃k,v1= .int k hh:=by
         unfold EA at e3;split at e3
         ·cases e3;rw[qJ.dn.1];exact⟨_,rfl⟩
         ·cases e3
        obtain⟨k',rfl⟩:=SC;rw[NR.dn.1]
        obtain⟨x',q1,q2⟩:=vC L (l:=l.toNat) (hh:=hh.toNat) (m:=hh.toNat) hd hn hz M9 om om (Nat.le_refl _) true (x8:=x8) (hiv:=some (.int kk hh)) (Rz:=some (.int k' hh)) (fun _=>rfl)
         (fun len cap e3 e4=>⟨hh.toNat,pn om (by subst e3;omega) k',pn om (by simp;omega) kk,Nat.le_refl _,fun _=>rfl⟩) rfl (eH (jy e2 Ci) h1 om)
        exact⟨_,x',_,F',q1,k1,k2,k3,k4,q2,hK⟩
     ·exact hw.elim
   ·exact hw.elim
  ·exact hw.elim
 ·exact hw.elim
end
section
variable {T E:Env} {X:Cx} {ρ:Gh} {F:Nat→Prop} {o:Ob} {c:Nat} {af:AF} {f:Fr} {h:ae} {p:Oper} {K:OK}
theorem Lv {x:Value} (h:∀a,x≠ .agg a):x.cells= #[x]:=by
 cases x<;>first|rfl |exact absurd rfl (h _)
theorem C3 {x:Value} (h:az x=true):∀a,x≠ .agg a:=by rintro a rfl;simp[az]at h
theorem iZ {v:TV} {x:Value} (hv:VR c ρ F h v x) (ho:okV v=true):dF c ρ F h (aE v) x.cells.toList:=by
 have one:(∀a,x≠ .agg a)→aE v=[v]→dF c ρ F h (aE v) x.cells.toList:=fun h1 h2=>by
  rw[h2,Lv h1];exact .cons hv .nil
 cases hv with
 |j=>simp[okV,zR]at ho
 |s hp=>exact one (C3 hp) rfl
 |nil=>exact one (by rintro a e;cases e) rfl
 |sl=>exact one (by rintro a e;cases e) rfl
 |tk hn kD ha h0=>exact one (by rintro a rfl;simp[Lh]at kD) rfl
 |ptr=>exact one (by rintro a e;cases e) rfl
 |ep=>exact one (by rintro a e;cases e) rfl
 |wp hn kD ha h0=>exact one (by rintro a rfl;simp[YH]at kD) rfl
 |mp=>exact one (by rintro a e;cases e) rfl
 |bg=>exact one (by rintro a e;cases e) rfl
 |sv=>simp[okV,zR]at ho
 |pv=>simp[okV,zR]at ho
 |agg hs ha=>exact⟨by simpa[aE,Value.cells]using hs,fun i t v h1 h2=>ha i t v h1 (by simpa[Value.cells]using h2)⟩
 |c4=>simp[okV,zR]at ho
 |nz=>exact one (by rintro a e;cases e) rfl
 |cW=>exact one (by rintro a e;cases e) rfl
theorem x9:∀{n:Nat} {l xs r:List TV} {l' NB:List Value},dz l n xs=some r→dF c ρ F h l l'→dF c ρ F h xs NB→∃r',dz l' n NB=some r'∧dF c ρ F h r r'
 |0,l,[],r,l',NB,hs,hl,hx=>by
  simp[dz]at hs;subst hs;rw[hx.bC];exact⟨l',by simp[dz],hl⟩
 |0,[],x::xs,r,l',NB,hs,hl,hx=>by simp[dz]at hs
 |0,y::l,x::xs,r,l',NB,hs,hl,hx=>by
  simp only[dz,Option.bind_eq_some_iff,Option.some.injEq]at hs;obtain⟨q,hq,rfl⟩:=hs;obtain⟨y',m,rfl,_,h2⟩:=hl.aL;obtain⟨x',k,rfl,h3,h4⟩:=hx.aL;obtain⟨r',h5,h6⟩:=x9 hq h2 h4;exact⟨x'::r',by simp[dz,h5],.cons h3 h6⟩
 |n+1,[],xs,r,l',NB,hs,hl,hx=>by simp[dz]at hs
 |n+1,y::l,xs,r,l',NB,hs,hl,hx=>by
  simp only[dz,Option.bind_eq_some_iff,Option.some.injEq]at hs;obtain⟨q,hq,rfl⟩:=hs;obtain⟨y',m,rfl,h1,h2⟩:=hl.aL;obtain⟨r',h5,h6⟩:=x9 hq h2 hx;exact⟨y'::r',by simp[dz,h5],.cons h1 h6⟩
theorem uC {pT pE:Nat→Option (Nat×Nat)} (hp:∀i x,pT i=some x→pE i=some x):∀{ps:List (Nat×TV)} {zs cs:List TV} {zv:List Value} {pv:List (Nat×Value)},AO pT zs ps=some cs→dF c ρ F h zs zv→SG c ρ F h ps pv→
 ∃cv,j7 pE zv pv=some cv∧dF c ρ F h cs cv
 |[],zs,cs,zv,[],hf,hz,_=>by simp[AO]at hf;subst hf;exact⟨zv,rfl,hz⟩
 |[],zs,cs,zv,_::_,hf,hz,hq=>hq.elim
 |a::l,zs,cs,zv,[],hf,hz,hq=>hq.elim
 |a::l,zs,cs,zv,b::m,hf,hz,hq=>by
  obtain⟨e,hv,hr⟩:=hq;unfold AO at hf;split at hf
  ·rename_i q n oA;split at hf
   ·rename_i hc;simp only[Bool.and_eq_true,beq_iff]at hc;have s7:=iZ hv hc.1;split at hf
    ·rename_i uc gX;obtain⟨r',h1,h2⟩:=x9 gX hz s7;obtain⟨cv,h3,h4⟩:=uC hp hf h2 hr;refine⟨cv,?_,h4⟩;obtain⟨i,x⟩:=b;simp only[j7];simp only at e;subst e;rw[hp _ _ oA];simp only[Option.bind_some];have:x.cells.size=n:=by have:=s7.1;simp only[Array.length_toList]at this;omega
     rw[this];simp[bI,h1,h3]
    ·cases hf
   ·cases hf
  ·cases hf
theorem Lx (L:ct T E) {t:TypeId} {ps:List (Nat×TV)} {pv:List (Nat×Value)} (hw:HP T t ps o c K) (hp:SG c ρ F h ps pv):iY c ρ F h o (ua E t pv) K:=by
 unfold HP at hw;split at hw
 ·rename_i fields z hd hz;obtain⟨jY,oA⟩:=L.zero _ _ hz;split at hw
  ·rename_i zs gJ jr;rw[Array.all_toList]at gJ;split at hw
   ·rename_i cs hf;have hpm:∀i x,rq T fields i=some x→rq E fields i=some x:=fun i x hx=>by
     unfold rq at hx ⊢;simp only[Option.bind_eq_some_iff]at hx ⊢;obtain⟨fd,h1,n,h2,h3⟩:=hx;exact⟨fd,h1,n,L.size _ _ h2,h3⟩
    obtain⟨cv,h1,h2⟩:=uC hpm hf (fT oA jr) hp;refine⟨_,_,?_,.gC (a:=cv.toArray) (by simpa using h2),hw⟩;unfold ua;rw[L.desc _ _ hd,jY];simp only[Option.bind_some];have ZW:(fields.all fun fd=>(E.size fd.type).isSome)=true:=by
     rw[Array.all_eq_true]at gJ ⊢;intro i hi;have:=gJ i hi;obtain⟨n,hn⟩:=Option.isSome_iff_exists.1 this;rw[L.size _ _ hn];rfl
    rw[ZW];simp[bI,h1]
   ·exact hw.elim
  ·exact hw.elim
 ·rename_i len elem z hd hz;obtain⟨jY,oA⟩:=L.zero _ _ hz;split at hw
  ·rename_i n zs hn jr;split at hw
   ·rename_i cs hf;obtain⟨cv,h1,h2⟩:=uC (pE:=fun i=>some (i*n,n)) (fun i x hx=>hx) hf (fT oA jr) hp;refine⟨_,_,?_,.gC (a:=cv.toArray) (by simpa using h2),hw⟩;unfold ua;rw[L.desc _ _ hd,jY];simp only[Option.bind_some,L.size _ _ hn,h1]
   ·exact hw.elim
  ·exact hw.elim
 ·exact hw.elim
theorem H8 (L:ct T E) {s d:TypeId} {x v:Value} (hx:qO T s d x=some v):qO E s d x=some v:=by
 unfold qO at hx ⊢;simp only[Option.bind_eq_some_iff]at hx ⊢;obtain⟨q,h1,dd,h2,h3⟩:=hx;exact⟨q,L.desc _ _ h1,dd,L.desc _ _ h2,h3⟩
end
section
variable {T E:Env} {X:Cx} {ρ:Gh} {F:Nat→Prop} {o:Ob} {c:Nat} {af:AF} {f:Fr} {h:ae} {p:Oper} {K:OK}
theorem H9 {v:Value} (hp:az v=true) (hc:∀r,v≠ .chan r):kh v v=true:=by
 cases v<;>simp[az]at hp<;>first
  |(simp[kh];done)
  |(exact absurd rfl (hc _))
  |(rename_i a;cases a<;>simp at hp<;>simp[kh])
theorem gO {t:TV} {x:Value} (hv:VR c ρ F h t x) (he:HH t=true):kh x x=true:=by
 cases hv with
 |j=>simp[HH]at he
 |s hp=>exact H9 hp (by rintro r rfl;simp[HH]at he)
 |nil=>simp[kh]
 |sl=>simp[kh]
 |tk hn kD ha h0=>cases x<;>simp[Lh]at kD;simp[kh]
 |ptr=>simp[kh]
 |ep=>simp[kh]
 |wp hn kD ha h0=>cases x<;>simp[YH]at kD;simp[kh]
 |mp=>simp[kh]
 |bg=>simp[HH]at he
 |sv=>simp[HH]at he
 |pv=>simp[HH]at he
 |agg=>simp[HH]at he
 |c4=>simp[HH]at he
 |nz qJ=>
  rename_i t v v';cases v<;>simp[HH]at he;rename_i w;cases w<;>simp at he;rw[qJ.dn.1];simp[kh]
 |cW hs ha ht hk=>
  rename_i g x y a k;cases x<;>simp[HH]at he;cases y<;>simp at he;simp at hs ht;simp[kh,←hs,←ht]
theorem uD:∀{l:List TV} {m:List Value},dF c ρ F h l m→l.all HH=true→kj m m=true
 |[],m,H,_=>by rw[H.bC];rfl
 |t::l,m,H,he=>by
  simp only[List.all_cons,Bool.and_eq_true]at he;obtain⟨v,m',rfl,h1,h2⟩:=H.aL;simp only[kj,Bool.and_eq_true];exact⟨gO h1 he.1,uD h2 he.2⟩
theorem C4 {c1:Nat} {im:Gh} {l:List TV} {m:List Value} {v:VL} {q:RQ} {ρ':Gh} {o':Ob} {h':ae} (H:dF c1 im F h l m) (gl:kj m m=true→fJ ρ F o h ρ' o' h' v (.rd q h)):fJ ρ F o h ρ' o' h' (Oa l v) (.rd q h):=by
 unfold Oa;split
 ·rename_i he;exact gl (uD H he)
 ·exact .bad
def ja (X:Cx) (c:Nat) (ρ:Gh) (F:Nat→Prop) (h:ae) (o:Ob) (q:RQ) (K:OK):Prop:=∃v x lg ρ' o' c',q.run h=some x∧Nx X ρ F o c h ρ' F o' c' h∧VR c' ρ' F h v x∧K v o' c' lg∧fJ ρ F o h ρ' o' h lg (.rd q h)
theorem ja.G5 {q:RQ} (R:ja X c ρ F h o q K) (hp:aX E af p=none) (hq:bW E af p=some q):eZ E X ρ F o c af h p K:=by
 obtain⟨v,x,lg,ρ',o',c',h1,h2,h3,h4,h5⟩:=R;refine⟨0,⟨x,h,.rd q h⟩,v,o',c',ρ',F,lg,fun n _=>?_,h4,h2,h3,h5⟩;unfold dW;rw[hp,hq];simp[h1]
theorem ja.same {q:RQ} (H:Mem X ρ F o c h) {v:TV} {x:Value} {lg:VL} (h1:q.run h=some x) (h2:VR c ρ F h v x) (h3:K v o c lg) (h4:fJ ρ F o h ρ o h lg (.rd q h)):ja X c ρ F h o q K:=⟨v,x,lg,ρ,o,c,h1,.refl H,h2,h3,h4⟩
theorem uE:∀{l:List TV} {k:Nat},(dY l k).2=[]→(dY l k).1=l
 |[],_,_=>rfl
 |t::l,k,hn=>by
  cases t<;>first|(simp only[dY]at hn ⊢;rw[uE hn])|(simp[dY]at hn)
theorem ku {α:Type}:∀{l xs r:List α} {p:Nat},dz l p xs=some r→r=l.take p++(xs++(l.drop p).drop xs.length)
 |l,[],r,0,h=>by simp[dz]at h;subst h;simp
 |[],x::xs,r,0,h=>by simp[dz]at h
 |y::l,x::xs,r,0,h=>by
  simp only[dz,Option.bind_eq_some_iff,Option.some.injEq]at h;obtain⟨q,hq,rfl⟩:=h;have:=ku hq;simp only[List.take_zero,List.nil_append,List.drop_zero]at this;rw[this];simp
 |[],xs,r,p+1,h=>by simp[dz]at h
 |y::l,xs,r,p+1,h=>by
  simp only[dz,Option.bind_eq_some_iff,Option.some.injEq]at h;obtain⟨q,hq,rfl⟩:=h;rw[ku hq];simp
theorem A4:∀(l:List TV) (k:Nat),(dY l k).1.length=l.length
 |[],_=>rfl
 |t::l,k=>by cases t<;>simp[dY,A4 l]
theorem EX (H:Mem X ρ F o c h) {S:Nat→Ft} (K0:MO X ρ F o c h S) {agg:Bool} {n p q m b:Nat} {e:List TV} {y:TO} {put:List TV→TO} {Se:Ft} {vs:List Value} {lg:VL} (hw:AN agg n p e o c lg put m K) (hl:look o m=some y) (hb:A0 ρ m b) (vy:lg= .lM m∨lg= .Ag m p .j∧p=q∧ρ m=some (.di b))
 (hc:cU c ρ F h X.base Se e vs) (hr:n≤(e.drop p).length→M.al h b q n=some ((vs.drop p).take n))
 (m7:∀c' ρ' e' S',(∀t v,VR c ρ F h t v→VR c' ρ' F h t v)→ρ' m=ρ m→e'.length=e.length→cU c' ρ' F h X.base S' e' vs→∃S0,OR c' ρ' F h X.base m S0 (put e')∧∀R,Se.Perm (S'++R)→(S m).Perm (S0++R)):
 ja X c ρ F h o (.cells agg b q n) K:=by
 unfold AN at hw;split at hw
 ·exact hw.elim
 ·rename_i l ht;rw[bm]at ht;obtain⟨t1,rfl⟩:=ht;have JT:=hr t1;obtain⟨S1,S2,S3,hS,a1,a2,a3⟩:=hc.part p n;have fzm:∀t v,VR 0 wN F h t v→fz t=true→VR c ρ F h t v:=fun t v hv hf=>hv.dp hf;split at hw
  ·rename_i qQ;split at hw
   ·rename_i v hv;obtain⟨hK,_⟩:=eu hw;obtain⟨Ss,ls,b1,b2,b3⟩:=a2.opened c;have ue:ls.length=0:=by rw[b2.l2,qQ];rfl
    have hV:=b3 c ρ (fun _ _ h=>h) om (fun i q hq=>by
     have:=(List.getElem?_eq_some_iff.1 hq).1;omega)
    rw[uE qQ]at hV;obtain⟨x,h6,h7⟩:=fV hv hV;have main:kj ((vs.drop p).take n) ((vs.drop p).take n)=true→fJ ρ F o h ρ o h (nmL v lg) (.rd (.cells agg b q n) h):=by
     intro he;have pl:fJ ρ F o h ρ o h (.lM m) (.rd (.cells agg b q n) h):=.lM (.refl _) rfl hl hb ⟨_,JT,he⟩;rcases vy with rfl |⟨rfl,rfl,G0⟩
     ·exact pl
     have one:∀w,v=w→dm w=false→eG w=true→(∀cs,w≠ .agg cs)→(∀y,VR c ρ F h w y→kV ρ w y)→fJ ρ F o h ρ o h (.Ag m p w) (.rd (.cells agg b p n) h):=by
      rintro w rfl _ _ AH Oh;unfold eN at hv;split at hv
      ·cases hv;exact absurd rfl (AH _)
      ·rename_i l' w' heq;cases hv;rw[heq]at hV;obtain⟨y1,m1,e1,hy,Ha⟩:=hV.aL;obtain rfl:=Ha.bC;have UG:n=1:=by
        have:=congrArg List.length heq;rw[List.length_take]at this;simp only[List.length_cons,List.length_nil]at this;omega
       subst UG;rw[e1]at JT;exact .Ag (.refl _) rfl hl G0 (Oh _ hy) JT
      ·cases hv
     unfold nmL;split
     ·rename_i m' p' v' heq;cases heq;split
      ·exact one _ rfl rfl rfl (by rintro cs e;cases e) fun y hy=>by cases hy with|mp hb=>exact .inl ⟨_,_,rfl,hb,rfl⟩
      ·exact one _ rfl rfl rfl (by rintro cs e;cases e) fun y hy=>by cases hy with|ptr hb=>exact .inr ⟨_,_,_,rfl,hb,rfl⟩
      ·exact pl
     ·rename_i bD;exact absurd rfl (bD _ _ _)
    exact ja.same H (by simp[RQ.run,JT,h6]) h7 hK (C4 hV main)
   ·exact hw.elim
  ·rename_i q0 new qQ;split at hw
   ·rename_i e' v gX hv;obtain⟨hK,_⟩:=eu hw;have hA:∀ls:List Loc,∀t v,VR c ρ F h t v→VR (c+(new.length+1)) (oL ρ c ls) F h t v:=fun ls t v=>VR.mono om (fun n l hn h1=>by rwa [fx _ _ hn]at h1) (fun n b h1=>by rw[fx _ _ (H.names _ _ h1)];exact h1) (fun _ h=>h) (fun _ _ _ h=>h);obtain⟨Ss,ls,b1,b2,b3⟩:=a2.opened c;rw[qQ]at b2;have uk:ls.length=new.length+1:=b2.l2;have hV:=b3 (c+(new.length+1)) (oL ρ c ls) (hA ls) om (fun i q hq=>by rw[sZ];exact hq);obtain⟨x,h6,h7⟩:=fV hv hV;have hlen:(dY ((e.drop p).take n) c).1.length=n:=by rw[A4,List.length_take];omega
    have xT:=ku gX;rw[hlen]at xT;have Hg:=H.lt hl;have ZX:cU (c+(new.length+1)) (oL ρ c ls) F h X.base (S1++S3) e' vs:=by
     have k1:=a1.bw (c':=c+(new.length+1)) (ρ':=oL ρ c ls) (F':=F) (h':=h) (T:=fun _=>False) H.wf (fun _ _ _=>rfl) (fun _ h=>h) (fun _ _ _ h=>h) (hA ls) (fun _ _ hf=>hf.elim);have k3:=a3.bw (c':=c+(new.length+1)) (ρ':=oL ρ c ls) (F':=F) (h':=h) (T:=fun _=>False) H.wf (fun _ _ _=>rfl) (fun _ h=>h) (fun _ _ _ h=>h) (hA ls) (fun _ _ hf=>hf.elim);have:=k1.join ((cU.kS (base:=X.base) hV).join k3);rw[List.take_append_drop,List.take_append_drop,←xT]at this;exact this
    obtain⟨S0,hO,hP⟩:=m7 _ _ e' (S1++S3) (hA ls) (fx _ _ Hg) (dv gX).2.1 ZX;have EY:(S m).Perm (S0++Ss.flatten):=hP _ (by
     rw[hS,←b1,List.append_assoc];exact List.perm_append_comm.append_left _)
    obtain⟨M,hk⟩:=H.opens K0 (y1:=put e') hl b2 EY (fun _=>hO);refine⟨v,x,_,_,_,_,by simp[RQ.run,JT,h6],⟨M,hk,Nat.le_refl _,fun _ h=>h,fun _ _ _ h=>h⟩,h7,hK,C4 hV fun he=>(show ZF lg= .lM m by rcases vy with rfl |⟨rfl,_⟩<;>rfl)▸ .lM (fun n' y' zT _=>⟨?_,fx _ _ (H.lt zT),fun b _=>⟨rfl,fun _ h=>h⟩⟩) rfl hl hb ⟨_,JT,he⟩⟩;rw[jN,uw b2,if_pos (H.lt zT)];simp only
    rw[eo];by_cases em:n'=m
    ·rw[if_pos em,hl];exact⟨_,rfl⟩
    ·rw[if_neg em];exact⟨_,zT⟩
   ·exact hw.elim
theorem Wj {z i p n b:Nat} {v1 v2 v3:List Value} (hr:h.rd b=some (v1++(v2++v3))) (h1:v1.length=i*z) (h2:n≤(v2.drop p).length):M.al h b (i*z+p) n=some ((v2.drop p).take n):=by
 unfold M.al;rw[hr];simp only[Option.bind_some,bm];rcases Nat.eq_zero_or_pos n with h0|h0
 ·subst h0;simp
 ·simp only[List.length_drop]at h2;have e:(v1++(v2++v3)).drop (i*z+p)=v2.drop p++v3:=by
   rw[←h1,List.drop_append,List.drop_eq_nil_of_le om,Nat.add_sub_cancel_left,List.nil_append,List.drop_append_of_le_length om]
  rw[e];refine⟨by rw[List.length_append,List.length_drop];omega,?_⟩;rw[List.take_append_of_le_length (by rw[List.length_drop];omega)]
theorem Oy (L:ct T E) (H:Mem X ρ F o c h) {t:TypeId} {a:TV} {av:Value} (hw:Oc T t a o c K) (ha:VR c ρ F h a av):
 ∃q,((iS av).bind fun p=>(eO E t).bind fun s=>some (.cells s.1 p.1 p.2 s.2))=some q∧ja X c ρ F h o q K:=by
 unfold Oc at hw;split at hw
 ·exact hw.elim
 ·rename_i agg n hs;have jL:=L.shape hs;obtain⟨S,K0⟩:=H.ex;split at hw
  ·rename_i m q;split at hw
   ·rename_i cs hl;have hO:=K0.b9 m _ hl;generalize hS:S m=Sm at hO;cases hO with
    |cells hb hg zU hc=>
     rename_i Sq b ba cs';cases ha with
     |ptr cp=>
      rw[hb]at cp;cases cp;refine⟨.cells agg b q n,by simp[iS,jL],EX H K0 hw hl (.inl hb) (.inr ⟨rfl,rfl,hb⟩) hc (fun hn=>?_) fun c' ρ' e' S' hm fw hlen ZX=>⟨_,.cells (fw.trans hb) hg zU ZX,fun R hR=>by rw[hS];exact hR.cons _⟩⟩;unfold M.al;rw[eK (cB hg hg) zU (aR hg)];simp only[Option.bind_some,bm,and_true];have:=hc.len;simp only[List.length_drop]at hn ⊢;omega
   ·exact hw.elim
  ·rename_i e q;split at hw
   ·rename_i l ht;split at hw
    ·rename_i v hv;obtain⟨hK,_⟩:=eu hw;cases ha with
     |ep h1 h2 h3 h4 h5=>
      rename_i b q0 cs;rw[bm]at ht;obtain⟨t1,rfl⟩:=ht;simp only[List.length_drop]at t1;have hlen:n≤(cs.drop (q0+q)).length∨n=0:=by
       simp only[List.length_drop];omega
      have hR:dF c ρ F h ((e.drop q).take n) ((cs.drop (q0+q)).take n):=by
       refine⟨by simp;omega,fun i t v r1 r2=>?_⟩;rw[List.getElem?_take]at r1 r2;split at r1
       ·rename_i aU;rw[if_pos aU]at r2;rw[List.getElem?_drop]at r1 r2;exact h5 (q+i) t v r1 (by rw[←r2];congr 1;omega)
       ·cases r1
      obtain⟨x,h6,h7⟩:=fV hv hR;have JT:M.al h b (q0+q) n=some ((cs.drop (q0+q)).take n):=by
       unfold M.al;rw[h2];simp only[Option.bind_some,bm,and_true];rcases hlen with h8|h8
       ·exact h8
       ·omega
      exact⟨.cells agg b (q0+q) n,by simp[iS,jL],ja.same H (by simp[RQ.run,JT,h6]) h7 hK (C4 hR fun he=>.JE (.refl _) rfl h1 ⟨_,_,_,_,rfl⟩ ⟨_,JT,he⟩)⟩
    ·exact hw.elim
   ·exact hw.elim
  ·rename_i m i q;split at hw
   ·rename_i z w es hl;obtain⟨e,he,hw⟩:=hw;split at hw
    ·rename_i l ht;split at hw
     ·rename_i v hv;obtain⟨hK,_⟩:=eu hw;obtain⟨b,z',l',hb,rfl⟩:=uB H hl rfl ha;obtain⟨Sm,hO⟩:=H.b9 hl;cases hO with
      |nil cp hz=>rw[hb]at cp;cases cp
      |arr cp hg hf zU dX hz hlen oM gV hc hF=>
       rename_i f t0 gA ba cs;rw[hb]at cp;cases cp;have fN:=eK hf zU (aR hg);rw[bm]at ht;obtain⟨t1,rfl⟩:=ht;simp only[List.length_drop]at t1;have Nk:=oM e (List.mem_of_getElem? he);have hi:i<es.length:=(List.getElem?_eq_some_iff.1 he).1;have hle:(i+1)*z≤es.length*z:=Nat.mul_le_mul_right z hi;rw[Nat.add_mul]at hle;have hR:dF c ρ F h ((e.drop q).take n) ((cs.drop (i*z+q)).take n):=by
        refine⟨by simp;omega,fun j t v r1 r2=>?_⟩;rw[List.getElem?_take]at r1 r2;split at r1
        ·rename_i aU;rw[if_pos aU]at r2;rw[List.getElem?_drop]at r1 r2;exact hc i (q+j) e t v he r1 (by rw[←r2];congr 1;omega)
        ·cases r1
       obtain⟨x,h6,h7⟩:=fV hv hR;have JT:M.al h b (i*z+q) n=some ((cs.drop (i*z+q)).take n):=by
        unfold M.al;rw[fN];simp only[Option.bind_some,bm,and_true,List.length_drop];omega
       exact⟨.cells agg b (i*z+q) n,by simp[iS,jL],ja.same H (by simp[RQ.run,JT,h6]) h7 hK (C4 hR fun xT=>.lM (.refl _) rfl hl (.inr ⟨_,_,hb⟩) ⟨_,JT,xT⟩)⟩
     ·exact hw.elim
    ·exact hw.elim
   ·rename_i z es op hl;obtain⟨b,z',l',hb,rfl⟩:=uB H hl rfl ha;have hO:=K0.b9 m _ hl;generalize hS:S m=Sm at hO;cases hO with
    |gF cp hz=>rw[hb]at cp;cases cp
    |b6 cp hg hf zU dX hz hlen oM bV ju hc=>
     rename_i Sq f t0 gA ba cs;rw[hb]at cp;cases cp;have fN:=eK hf zU (aR hg);have fc:=xV bV;refine⟨.cells agg b (i*z+q) n,by simp[iS,jL],?_⟩
     -- a row that is there as it is
     have row:∀(Lf:List TV→List (Nat×List TV)) e,(cP es op)[i]? =some e→(∀e',e'.length=z→(∀p∈Lf e',p.1<es.length∧p.2.length=z)∧cP es (Lf e')=(cP es op).set i e')→AN agg n q e o c (.lM m) (fun e'=>.b6 z es (Lf e')) m K→ja X c ρ F h o (.cells agg b (i*z+q) n) K:=by
      intro Lf e Nf uq hw;obtain⟨eF,jr⟩:=sX oM ju;have hi:i<(cP es op).length:=(List.getElem?_eq_some_iff.1 Nf).1;have he:=jr e (List.mem_of_getElem? Nf);have kJ:(cP es op).set i e=cP es op:=by
       refine List.ext_getElem? fun k=>?_;rw[List.getElem?_set];by_cases ek:i=k
       ·subst ek;rw[if_pos rfl,if_pos hi,Nf]
       ·rw[if_neg ek]
      rw[←kJ]at hc;generalize cP es op=rows at*
      obtain⟨S1,S2,S3,v1,v2,v3,rfl,rfl,a1,a2,a3⟩:=kU jr hi hc;have e1:v1.length=i*z:=by
       have h1:=a1.len;have:=(e7 jr Nf).2;rw[Nat.add_mul]at this;rw[←h1,List.length_take];omega
      have e2:v2.length=z:=by rw[←a2.len];exact he
      refine EX H K0 hw hl (.inr ⟨_,_,hb⟩) (.inl rfl) a2 (fun hn=>Wj fN e1 (by simp only[List.length_drop]at hn ⊢;omega)) fun c' ρ' e' S' hm fw cO ZX=>?_;have jY:=uq e' (by rw[cO];exact he);have:=qf jr hi (a1.bw (T:=fun _=>False) H.wf (fun _ _ _=>rfl) (fun _ h=>h) (fun _ _ _ h=>h) hm (by simp)) ZX (a3.bw (T:=fun _=>False) H.wf (fun _ _ _=>rfl) (fun _ h=>h) (fun _ _ _ h=>h) hm (by simp));rw[←jY.2]at this;refine⟨_,.b6 (fw.trans hb) hg hf zU dX hz hlen oM bV jY.1 this,fun R hR=>?_⟩;rw[hS];refine List.Perm.cons _ ?_;show List.Perm _ ((S1++(S'++S3))++R);rw[List.append_assoc,List.append_assoc]
      refine List.Perm.append_left S1 ((hR.append_right S3).trans ?_);rw[List.append_assoc];exact List.perm_append_comm.append_left _
     have eF:=(sX oM ju).1;have ZY:∀{e':List TV},i<es.length→e'.length=z→∀p∈(i,e')::op,p.1<es.length∧p.2.length=z:=fun h1 h2 p hp=>by
      rcases List.mem_cons.1 hp with rfl |hp
      ·exact⟨h1,h2⟩
      ·exact ju p hp
     have ZZ:∀{e':List TV},i<es.length→e'.length=z→∀p∈[(i,e')],p.1<es.length∧p.2.length=z:=fun h1 h2 p hp=>by
      simp only[List.mem_singleton]at hp;subst hp;exact⟨h1,h2⟩
     unfold JF at hw;split at hw
     ·obtain⟨e,he,hw⟩:=hw;exact row (fun e'=>[(i,e')]) e he (fun e' zT=>⟨ZZ (List.getElem?_eq_some_iff.1 he).1 zT,rfl⟩) hw
     ·rename_i j ej;obtain⟨o1,o2⟩:=ju (j,ej) (by simp);by_cases YI:i=j
      ·subst YI;exact row (fun e'=>[(i,e')]) ej (by show(es.set i ej)[i]? =_;rw[List.getElem?_set_self o1]) (fun e' zT=>⟨ZZ o1 zT,by show es.set i e'=(es.set i ej).set i e';rw[List.set_set]⟩) (hw.1 rfl)
      ·obtain⟨e,he,hw⟩:=hw.2 YI;have Nf:(es.set j ej)[i]? =some e:=by rw[List.getElem?_set,if_neg (fun h=>YI h.symm)];exact he
       exact row (fun e'=>(i,e')::[(j,ej)]) e Nf (fun e' zT=>⟨ZY (List.getElem?_eq_some_iff.1 he).1 zT,rfl⟩) hw
     ·obtain⟨e,he,hw⟩:=hw;exact row (fun e'=>(i,e')::op) e he (fun e' zT=>⟨ZY (by rw[←eF];exact(List.getElem?_eq_some_iff.1 he).1) zT,rfl⟩) hw
   ·exact hw.elim
  ·exact hw.elim
theorem ql {kd:TypeDesc} {k:Value} {n:Nat} (hk:kindOk kd k n=true):(∃b,kd= .bool∧k= .bool b∧n=1)∨(∃s,kd= .string∧k= .string s∧n=2)∨(∃i x,kd= .int i∧k= .int i x∧n=dV i):=by
 unfold kindOk at hk;simp only[Bool.and_eq_true,beq_iff,a7]at hk;obtain⟨⟨h0,h1⟩,h2⟩:=hk;cases kd<;>simp[xL]at h1<;>try omega
 ·cases k<;>simp[bh]at h2<;>try omega
  ·exact .inl ⟨_,rfl,rfl,h1.symm⟩
  ·rename_i i x;subst h1;cases i<;>simp[dV]at h2
 ·rename_i i;cases k<;>simp[bh]at h2<;>try omega
  ·subst h1;cases i<;>simp[dV]at h2
  ·rename_i j x;have:i=j:=by subst h1;cases i<;>cases j<;>simp[dV]at h2<;>rfl
   subst this;exact .inr (.inr ⟨_,_,rfl,rfl,h1.symm⟩)
  ·subst h1;cases i<;>simp[dV]at h2
 ·cases k<;>simp[bh]at h2<;>try omega
  ·rename_i i x;subst h1;cases i<;>simp[dV]at h2
  ·exact .inr (.inl ⟨_,rfl,rfl,h1.symm⟩)
theorem jz {kd:TypeDesc} {k:Value} {n:Nat} (hk:kindOk kd k n=true):iu kd=true∧scalar k=true:=by
 rcases ql hk with⟨_,rfl,rfl,_⟩|⟨_,rfl,rfl,_⟩|⟨_,_,rfl,rfl,_⟩<;>exact⟨rfl,rfl⟩
theorem jP {kd:TypeDesc} {k k':Value} {n:Nat} (hk:kindOk kd k n=true) (o8:bh k'=n):Instr.sameNow kd k k'=some (lV k k'):=by
 rcases ql hk with⟨b,rfl,rfl,rfl⟩|⟨s,rfl,rfl,rfl⟩|⟨i,x,rfl,rfl,rfl⟩
 ·cases k'<;>simp[bh]at o8
  ·rfl
  ·rename_i j y;cases j<;>simp[dV]at o8
 ·cases k'<;>simp[bh]at o8
  ·rename_i j y;cases j<;>simp[dV]at o8
  ·rfl
 ·cases k'<;>simp[bh]at o8<;>try(cases i<;>simp[dV]at o8;done)
  rename_i j y;have:i=j:=by cases i<;>cases j<;>simp[dV]at o8<;>rfl
  subst this;simp[Instr.sameNow,lV]
def uF (c:Nat) (ρ:Gh) (F:Nat→Prop) (h:ae) (kd:Nat) (es:List (Value×TV)) (bM:List MapEntry):Prop:=
 es.length=bM.length∧∀(i:Nat) e e',es[i]? =some e→bM[i]? =some e'→e'.key=e.1∧(0<kd∧bh e.1=kd)∧Eu e.2=true∧VR c ρ F h e.2 e'.val
theorem uF.aL {kd:Nat} {e:Value×TV} {es:List (Value×TV)} {bM:List MapEntry} (H:uF c ρ F h kd (e::es) bM):∃e' m,bM=e'::m∧e'.key=e.1∧(0<kd∧bh e.1=kd)∧Eu e.2=true∧VR c ρ F h e.2 e'.val∧uF c ρ F h kd es m:=by
 match bM,H with
 |[],H=>have:=H.1;simp at this
 |e'::m,H=>
  obtain⟨h1,h2,h3,h4⟩:=H.2 0 e e' rfl rfl;exact⟨e',m,rfl,h1,h2,h3,h4,by simpa using H.1,fun i x x' q1 q2=>H.2 (i+1) x x' (by simpa using q1) (by simpa using q2)⟩
theorem uF.bC {kd:Nat} {bM:List MapEntry} (H:uF c ρ F h kd [] bM):bM=[]:=by have:=H.1;cases bM<;>simp_all
theorem s8 {kd:TypeDesc} {k:Value} {n:Nat} (hk:kindOk kd k n=true):∀{es:List (Value×TV)} {bM:List MapEntry} (i:Nat),uF c ρ F h n es bM→
 (match ft es k with
 |some v=>∃j x,Instr.findNow kd k bM i=some (some (i+j,x))∧VR c ρ F h v x∧Eu v=true∧∃e,bM[j]? =some e∧e.val=x
 |none=>Instr.findNow kd k bM i=some none)
 |[],bM,i,H=>by rw[H.bC];rfl
 |e::es,bM,i,H=>by
  obtain⟨e',m,rfl,h1,h2,h3,h4,h5⟩:=H.aL;unfold ft Instr.findNow;rw[h1,jP hk h2.2];cases hq:lV k e.1 with
  |true=>exact⟨0,e'.val,rfl,h4,h3,e',rfl,rfl⟩
  |false=>
   have ih:=s8 hk (i+1) h5;simp only
   split
   ·rename_i v hv;rw[hv]at ih;obtain⟨j,x,q1,q2,q3,e2,q4,q5⟩:=ih;exact⟨j+1,x,by rw[q1];congr 3;omega,q2,q3,e2,by simpa using q4,q5⟩
   ·rename_i hv;rw[hv]at ih;exact ih
theorem C5 {t:TV} (hf:fz t=true):HH t=true:=by
 unfold fz at hf;split at hf
 ·rename_i v;cases v<;>first|rfl |simp[xK]at hf
 ·rfl
 ·rfl
 ·rfl
 ·cases hf
theorem Oz {t:TV} {x:Value} (hv:VR c ρ F h t x) (hf:Eu t=true):DV x x=true:=by
 have one:kh x x=true→DV x x=true:=fun h=>by
  unfold DV;split
  ·simp[kh]at h
  ·exact h
 unfold Eu at hf;split at hf
 ·obtain⟨a,rfl,h1⟩:=hv.ff;exact uD h1 (List.all_eq_true.2 fun t ht=>C5 (List.all_eq_true.1 hf t ht))
 ·exact one (gO hv (C5 hf))
theorem uF.refl {kd:Nat}:∀{es:List (Value×TV)} {bM:List MapEntry},uF c ρ F h kd es bM→xg bM bM=true
 |[],bM,H=>by rw[H.bC];rfl
 |e::es,bM,H=>by
  obtain⟨e',m,rfl,h1,h2,h3,h4,h5⟩:=H.aL;simp only[xg,Bool.and_eq_true];refine⟨⟨⟨?_,Oz h4 h3⟩,by simp⟩,h5.refl⟩;rw[h1];have:=h2.2;cases he:e.1<;>rw[he]at this<;>simp[bh]at this<;>try omega
  all_goals simp[DV,kh]
theorem ya {a b:ByteArray}:(a==b)=true↔a=b:=by
 cases a;cases b;show(Array.instBEq.beq _ _)=true↔_;simp
theorem OA {kd:TypeDesc} {k k':Value} {n:Nat} (hk:kindOk kd k n=true) (o8:bh k'=n) (h:lV k k'=true):k=k':=by
 rcases ql hk with⟨b,rfl,rfl,rfl⟩|⟨s,rfl,rfl,rfl⟩|⟨i,x,rfl,rfl,rfl⟩
 ·cases k'<;>simp[bh]at o8
  ·simpa[lV]using h
  ·rename_i j y;cases j<;>simp[dV]at o8
 ·cases k'<;>simp[bh]at o8
  ·rename_i j y;cases j<;>simp[dV]at o8
  ·simp only[lV]at h;rw[ya.1 h]
 ·cases k'<;>simp[bh]at o8<;>try(cases i<;>simp[dV]at o8;done)
  rename_i j y;have:i=j:=by cases i<;>cases j<;>simp[dV]at o8<;>rfl
  subst this;simpa[lV]using h
theorem s9 {kd:TypeDesc} {k:Value} {n:Nat} (hk:kindOk kd k n=true):lV k k=true:=by
 rcases ql hk with⟨b,rfl,rfl,rfl⟩|⟨s,rfl,rfl,rfl⟩|⟨i,x,rfl,rfl,rfl⟩<;>simp[lV,ya]
theorem OB {a b c:Value} (h:lV a b=true):lV c b=lV c a:=by
 unfold lV at h;split at h
 ·have:=eq_of_beq h;subst this;cases c<;>rfl
 ·have:=eq_of_beq h;subst this;cases c<;>rfl
 ·have:=ya.1 h;subst this;cases c<;>rfl
 ·cases h
theorem iC.find {base:Nat} {kd:TypeDesc} {k:Value} {n:Nat} (hk:kindOk kd k n=true):∀{M:List (Value×TV)} {ev:List MapEntry} {S:Ft} (i:Nat),iC c ρ F h base n S M ev→
 (match ft M k with
 |some v=>∃j x S1 S2 S3,Instr.findNow kd k ev i=some (some (i+j,x))∧S=S1++(S2++S3)∧cU c ρ F h base S2 (aE v) x.cells.toList∧dm v=fH x∧
  ∀c' ρ' v' SM,(∀e∈M,∀t∈aE e.2,mX t=true)→cU c' ρ' F h base SM (aE v') x.cells.toList→dm v'=fH x→iC c' ρ' F h base n (S1++(SM++S3)) (dC M k v') ev
 |none=>Instr.findNow kd k ev i=some none)
 |[],ev,S,i,H=>by cases H;rfl
 |e::es,ev,S,i,H=>by
  cases H with
  |cons uG jq ha hv hl=>
   rename_i Sa Sb e' m;unfold ft Instr.findNow;rw[uG,jP hk jq.2];cases hq:lV k e.1 with
   |true=>
    refine⟨0,e'.val,[],Sa,Sb,rfl,rfl,hv,ha,fun c' ρ' v' SM bV oH xm=>?_⟩;unfold dC;rw[hq];have:=OA hk jq.2 hq;subst this;have:=iC.cons (e:=(e.1,v')) uG jq xm oH (hl.conv (c':=c') (ρ':=ρ') fun e he=>bV e (List.mem_cons_of_mem _ he));exact this
   |false=>
    have ih:=iC.find hk (i+1) hl;simp only
    split
    ·rename_i v NR;rw[NR]at ih;obtain⟨j,x,S1,S2,S3,q1,q2,q3,q4,q5⟩:=ih;refine⟨j+1,x,Sa++S1,S2,S3,by rw[q1];congr 3;omega,by rw[q2,List.append_assoc],q3,q4,fun c' ρ' v' SM bV oH xm=>?_⟩;unfold dC;rw[hq,List.append_assoc];exact .cons uG jq ha (hv.conv (bV e List.mem_cons_self)) (q5 c' ρ' v' SM (fun e he=>bV e (List.mem_cons_of_mem _ he)) oH xm)
    ·rename_i NR;rw[NR]at ih;exact ih
theorem VR.eN {v:TV} {x:Value} (H:dF c ρ F h (aE v) x.cells.toList) (ha:dm v=fH x):VR c ρ F h v x:=by
 cases v with
 |agg cs=>
  cases x<;>simp[dm,fH]at ha;exact .gC H
 |_=>
  have hx:x.cells= #[x]:=by cases x<;>first|rfl |simp[dm,fH]at ha
  rw[hx]at H;exact H.head
theorem Am {b:Bool} {l:List TV} {v:TV} {x:Value} (ho:eN b l=some v) (H:dF c ρ F h l x.cells.toList) (ha:b=fH x):aE v=l∧dm v=b∧VR c ρ F h v x:=by
 unfold eN at ho;split at ho
 ·cases ho;refine⟨rfl,rfl,?_⟩;cases x<;>simp[fH]at ha;exact .gC H
 ·cases ho;have hx:x.cells= #[x]:=by cases x<;>first|rfl |simp[fH]at ha
  rw[hx]at H;have hv:=H.head;have hn:∀cs,v≠ .agg cs:=by
   rintro cs rfl;obtain⟨a,rfl,_⟩:=hv.ff;simp[fH]at ha
  refine⟨?_,?_,hv⟩
  ·cases v<;>first|rfl |exact absurd rfl (hn _)
  ·cases v<;>first|rfl |exact absurd rfl (hn _)
 ·cases ho
theorem OC {base:Nat} {S:Ft} {t:TV} {x:Value} (H:CR F h base S (.c t x)):kh x x=true:=by
 cases H with
 |fz hf hv=>exact gO hv (C5 hf)
 |own hl hv=>
  rename_i y l;cases y with
  |cells cs=>exact gO hv rfl
  |map kd es=>exact gO hv rfl
  |fC kd es op=>exact gO hv rfl
  |arr z w es=>exact gO hv rfl
  |b6 z es op=>exact gO hv rfl
  |eE ks=>cases hv;simp[kh]
theorem cU.kj {base:Nat} {S:Ft} {l:List TV} {m:List Value} (H:cU c ρ F h base S l m):(∀t∈l,HH t=true∨mX t=true)→kj m m=true:=by
 induction H with
 |nil=>intro _;rfl
 |vr hv _ ih=>
  rename_i t v l m _;intro hc;simp only[M.kj,Bool.and_eq_true];refine⟨?_,ih fun t ht=>hc t (List.mem_cons_of_mem _ ht)⟩;rcases hc t List.mem_cons_self with h1|h1
  ·exact gO hv h1
  ·unfold mX at h1;split at h1
   ·cases hv
   ·exact gO hv (C5 h1)
 |cl hv _ ih=>
  intro hc;simp only[M.kj,Bool.and_eq_true];exact⟨OC hv,ih fun t ht=>hc t (List.mem_cons_of_mem _ ht)⟩
theorem Ly {x:Value} (h:kj x.cells.toList x.cells.toList=true):DV x x=true:=by
 cases x with
 |agg a=>exact h
 |_=>simpa[DV,kj,Value.cells]using h
theorem iC.refl {base kd:Nat} {S:Ft} {l:List (Value×TV)} {m:List MapEntry} (H:iC c ρ F h base kd S l m):(∀e∈l,∀t∈aE e.2,HH t=true∨mX t=true)→xg m m=true:=by
 induction H with
 |nil=>intro _;rfl
 |cons hk jq ha hv _ ih=>
  rename_i e e' l m _;intro hc;simp only[xg,Bool.and_eq_true];refine⟨⟨⟨?_,Ly (hv.kj (hc _ List.mem_cons_self))⟩,by simp⟩,ih fun e he=>hc e (List.mem_cons_of_mem _ he)⟩;rw[hk];have:=jq.2;cases he:e.1<;>rw[he]at this<;>simp[bh]at this<;>try omega
  all_goals simp[DV,kh]
theorem A5 {k k':Value} {v:TV} (bD:lV k k'=false):∀{es:List (Value×TV)},ft (dC es k' v) k=ft es k
 |[]=>by simp[dC,ft,bD]
 |e::es=>by
  unfold dC;cases hq:lV k' e.1 with
  |true=>
   have h2:lV k e.1=false:=(OB hq).trans bD;simp[ft,bD,h2]
  |false=>
   simp only[ft];rw[A5 bD]
theorem iC.kinds {base kd:Nat} {S:Ft} {l:List (Value×TV)} {m:List MapEntry} (H:iC c ρ F h base kd S l m):∀e∈l,bh e.1=kd:=by
 induction H with
 |nil=>simp
 |cons hk jq ha hv _ ih=>
  intro e he;rcases List.mem_cons.1 he with rfl |he
  ·exact jq.2
  ·exact ih e he
theorem EZ {k:Value} {v:TV}:∀{es:List (Value×TV)},(k,v)∈dC es k v
 |[]=>by simp[dC]
 |e::es=>by
  unfold dC;cases lV k e.1 with
  |true=>simp
  |false=>exact List.mem_cons_of_mem _ EZ
theorem yb {kd:TypeDesc} {k:Value} {n:Nat} {v:TV} (hk:kindOk kd k n=true):∀{es:List (Value×TV)},ft (dC es k v) k=some v
 |[]=>by simp[dC,ft,s9 hk]
 |e::es=>by
  unfold dC;cases hq:lV k e.1 with
  |true=>simp[ft,s9 hk]
  |false=>simp[ft,hq,yb hk]
theorem LA (H:Mem X ρ F o c h) {S:Nat→Ft} (K0:MO X ρ F o c h S) {v:TV} {x y:Value} {m b:Nat} {yo:TO} {S1 S2 S3:Ft} {put:TV→TO} {q:RQ} {wrap:TV→TV} (hw:HM v o c (.lM m) put m fun v o c lg=>K (wrap v) o c lg)
 (hl:look o m=some yo) (hS:S m=(b,true)::(S1++(S2++S3))) (hc:cU c ρ F h X.base S2 (aE v) x.cells.toList) (ha:dm v=fH x) (gY:q.run h=some y) (tV:∀c ρ v,VR c ρ F h v x→VR c ρ F h (wrap v) y)
 (lP:fJ ρ F o h ρ o h (.lM m) (.rd q h))
 (m7:∀c' ρ' v',ρ' m=ρ m→cU c' ρ' F h X.base [] (aE v') x.cells.toList→dm v'=fH x→OR c' ρ' F h X.base m ((b,true)::(S1++S3)) (put v')):
 ja X c ρ F h o q K:=by
 unfold HM at hw;split at hw
 ·rename_i qQ;obtain⟨Ss,ls,b1,b2,b3⟩:=hc.opened c;have ue:ls.length=0:=by rw[b2.l2,qQ];rfl
  have hV:=b3 c ρ (fun _ _ h=>h) om (fun i q hq=>by
   have:=(List.getElem?_eq_some_iff.1 hq).1;omega)
  rw[uE qQ]at hV;exact ja.same H gY (tV _ _ _ (VR.eN hV ha)) hw lP
 ·rename_i q0 new qQ;split at hw
  ·rename_i v' hv;have hA:∀ls:List Loc,∀t v,VR c ρ F h t v→VR (c+(new.length+1)) (oL ρ c ls) F h t v:=fun ls t v=>VR.mono om (fun n l hn h1=>by rwa [fx _ _ hn]at h1) (fun n b h1=>by rw[fx _ _ (H.names _ _ h1)];exact h1) (fun _ h=>h) (fun _ _ _ h=>h);obtain⟨Ss,ls,b1,b2,b3⟩:=hc.opened c;rw[qQ]at b2;have uk:ls.length=new.length+1:=b2.l2;have hV:=b3 (c+(new.length+1)) (oL ρ c ls) (hA ls) om (fun i q hq=>by rw[sZ];exact hq);obtain⟨e1,e2,e3⟩:=Am hv hV ha;have EY:(S m).Perm (((b,true)::(S1++S3))++Ss.flatten):=by
    rw[hS,←b1];refine List.Perm.cons _ ?_;show List.Perm _ ((S1++S3)++S2);rw[List.append_assoc];exact List.perm_append_comm.append_left _
   obtain⟨M,hk⟩:=H.opens K0 (y1:=put v') hl b2 EY (fun _=>m7 _ _ v' (fx _ _ (H.lt hl)) (by rw[e1];exact cU.kS hV) (e2.trans ha));cases lP with
   |lM hr hh Rr oY E2=>
    refine⟨_,_,_,_,_,_,gY,⟨M,hk,Nat.le_refl _,fun _ h=>h,fun _ _ _ h=>h⟩,tV _ _ _ e3,hw,.lM (fun n' y' zT _=>⟨?_,fx _ _ (H.lt zT),fun b _=>⟨rfl,fun _ h=>h⟩⟩) rfl hl oY E2⟩;rw[jN,uw b2,if_pos (H.lt zT)];simp only
    rw[eo];by_cases em:n'=m
    ·rw[if_pos em,hl];exact⟨_,rfl⟩
    ·rw[if_neg em];exact⟨_,zT⟩
  ·exact hw.elim
theorem Ia (L:ct T E) (H:Mem X ρ F o c h) {t:TypeId} {m k:TV} {ok:Bool} {mv kv:Value} (hw:CH T t m k ok o c K) (hm:VR c ρ F h m mv) (hk:VR c ρ F h k kv):
 (mv= .map none∧iY c ρ F h o ((E.desc t).bind fun d=>(match(generalizing:=false) d,mv with
  | .map kt elem,.map none=>(E.desc kt).bind fun kd=>(E.zero elem).bind fun z=>bI (iu kd&&scalar kv&&e8 z) (some (bif ok then .tuple #[z,.bool false]else z))
  |_,_=>none)) K)∨
 (∃r,mv= .map (some r)∧∃q,((E.desc t).bind fun d=>(match(generalizing:=false) d,mv with
  | .map kt elem,.map (some r)=>(E.desc kt).bind fun kd=>(E.zero elem).bind fun z=>bI (iu kd&&scalar kv&&e8 z) (some (RQ.look r kd kv z ok))
  |_,_=>none))=some q∧ja X c ρ F h o q K):=by
 unfold CH at hw;split at hw
 ·rename_i kt elem hd;split at hw
  ·rename_i kd z An jq hz;obtain⟨jY,oA⟩:=L.zero _ _ hz;rw[hk.dn.1]
   have hq:∀b,kindOk kd An (xL kd)=true→((E.desc t).bind fun d=>(match(generalizing:=false) d,Value.map (some b)with
    | .map kt elem,.map (some r)=>(E.desc kt).bind fun kd=>(E.zero elem).bind fun z=>bI (iu kd&&scalar An&&e8 z) (some (RQ.look r kd An z ok))
    |_,_=>none))=some (RQ.look b kd An z ok):=by
    intro b kx;obtain⟨qa,kE⟩:=jz kx;rw[L.desc _ _ hd];simp only[Option.bind_some,L.desc _ _ jq,jY,qa,kE,oA,Bool.and_self,bI]
   have UP:∀{n},kindOk kd An n=true→kindOk kd An (xL kd)=true:=fun {n} h=>by
    have h0:=h;unfold kindOk at h0 ⊢;simp only[Bool.and_eq_true,beq_iff]at h0 ⊢;obtain⟨⟨q1,q2⟩,q3⟩:=h0;subst q2;exact⟨⟨q1,trivial⟩,q3⟩
   split at hw
   ·rename_i n;right;split at hw
    ·rename_i kn es hl;split at hw
     ·rename_i kx;obtain⟨r,hr,hw⟩:=hw;obtain⟨Sm,hO⟩:=H.b9 hl;cases hO with
      |map hb hg hlen hc bN=>
       rename_i b clock bM;have hE:uF c ρ F h kn es bM:=⟨hlen,hc⟩;cases hm with
       |mp cp=>
        rw[hb]at cp;cases cp;refine⟨b,rfl,_,hq b (UP kx),?_⟩;have C6:eQ h b=some (bM,clock):=by unfold eQ;rw[hg]
        have lP:fJ ρ F o h ρ o h (.lM n) (.rd (RQ.look b kd An z ok) h):=.lM (.refl _) rfl hl (.inl hb) ⟨_,C6,hE.refl⟩;have hf:=s8 kx 0 hE;rw[hr]at hf;cases r with
        |some v=>
         obtain⟨j,x,q1,q2,_⟩:=hf;simp only at hw;cases ok with
         |true=>exact ja.same H (by simp[RQ.run,C6,jU,q1]) (.iB (.cons q2 (.cons (.s rfl) .nil))) hw lP
         |false=>exact ja.same H (by simp[RQ.run,C6,jU,q1]) q2 hw lP
        |none=>
         simp only at hw hf;cases ok with
         |true=>exact ja.same H (by simp[RQ.run,C6,jU,hf]) (.iB (.cons (rU oA) (.cons (.s rfl) .nil))) hw lP
         |false=>exact ja.same H (by simp[RQ.run,C6,jU,hf]) (rU oA) hw lP
     ·exact hw.elim
    ·rename_i kn es op hl;split at hw
     ·rename_i kx;obtain⟨S,K0⟩:=H.ex;have hO:=K0.b9 n _ hl;generalize hS:S n=Sm at hO;cases hO with
      |fC hb hg bV hc bN=>
       rename_i Sq b clock ev;cases hm with
       |mp cp=>
        rw[hb]at cp;cases cp;refine⟨b,rfl,_,hq b (UP kx),?_⟩;have C6:eQ h b=some (ev,clock):=by unfold eQ;rw[hg]
        have Z0:∀{M:List (Value×TV)} {S0:Ft} {lg:VL},iC c ρ F h X.base kn S0 M ev→ft M An=none→fJ ρ F o h ρ o h lg (.rd (RQ.look b kd An z ok) h)→K (Oe ok (cT z) false) o c lg→ja X c ρ F h o (RQ.look b kd An z ok) K:=by
         intro M S0 lg hE vx lP hw;have hf:=hE.find kx 0;rw[vx]at hf;simp only at hf;cases ok with
         |true=>exact ja.same H (by simp[RQ.run,C6,jU,hf]) (.iB (.cons (rU oA) (.cons (.s rfl) .nil))) hw lP
         |false=>exact ja.same H (by simp[RQ.run,C6,jU,hf]) (rU oA) hw lP
        have met:∀{M:List (Value×TV)} {S0:Ft} {lg:VL} {v:TV},iC c ρ F h X.base kn S0 M ev→ft M An=some v→(aE v).all eG=true→fJ ρ F o h ρ o h lg (.rd (RQ.look b kd An z ok) h)→K (Oe ok v true) o c lg→ja X c ρ F h o (RQ.look b kd An z ok) K:=by
         intro M S0 lg v hE hv hp lP hw;have hf:=hE.find kx 0;rw[hv]at hf;obtain⟨j,x,S1,S2,S3,q1,q2,q3,q4,_⟩:=hf;obtain⟨hV,_⟩:=q3.US (fun t v hv hf=>hv.dp hf) hp;have hx:=VR.eN hV q4;cases ok with
         |true=>exact ja.same H (by simp[RQ.run,C6,jU,q1]) (.iB (.cons hx (.cons (.s rfl) .nil))) hw lP
         |false=>exact ja.same H (by simp[RQ.run,C6,jU,q1]) hx hw lP
        split at hw
        ·obtain⟨r,hr,hw⟩:=hw;have hE:iC c ρ F h X.base kn Sq es ev:=hc;have lP:fJ ρ F o h ρ o h (.lM n) (.rd (RQ.look b kd An z ok) h):=.lM (.refl _) rfl hl (.inl hb) ⟨_,C6,hE.refl fun e he t ht=>.inr (bV e he t ht)⟩;cases r with
         |none=>simp only at hw;exact Z0 hE hr lP hw
         |some v=>
          simp only at hw;have hf:=hE.find kx 0;rw[hr]at hf;obtain⟨j,x,S1,S2,S3,q1,q2,q3,q4,q5⟩:=hf;refine LA H K0 (x:=x) (y:=bif ok then .tuple #[x,.bool true]else x) (wrap:=fun v=>Oe ok v true) hw hl (by rw[hS,q2]) q3 q4 (by simp[RQ.run,C6,jU,q1]) (fun c ρ v hv=>?_) lP fun c' ρ' v' fw oH xm=>?_
          ·cases ok with
           |true=>exact .iB (.cons hv (.cons (.s rfl) .nil))
           |false=>exact hv
          ·exact .fC (fw.trans hb) hg bV (q5 c' ρ' v' [] bV oH xm) bN
        ·rename_i k' w;obtain⟨RA,Wk⟩:=hw;have hE:iC c ρ F h X.base kn Sq (dC es k' w) ev:=hc;have lP:fJ ρ F o h ρ o h (Oa (aE w) (.lM n)) (.rd (RQ.look b kd An z ok) h):=by
          unfold Oa;split
          ·rename_i he;refine .lM (.refl _) rfl hl (.inl hb) ⟨_,C6,hE.refl fun e xT t ht=>?_⟩;rcases xU xT with rfl |h1
           ·exact .inl (List.all_eq_true.1 he t ht)
           ·exact .inr (bV e h1 t ht)
          ·exact .bad
         by_cases ek:An=k'
         ·subst ek;have hv:=yb (v:=w) (es:=es) kx;have hf:=hE.find kx 0;rw[hv]at hf;obtain⟨j,x,S1,S2,S3,q1,q2,q3,q4,_⟩:=hf;exact met hE hv (RA rfl).1 lP (RA rfl).2
         ·obtain⟨r,hr,hw⟩:=Wk ek;have bD:lV An k'=false:=by
           cases hq:lV An k' with
           |false=>rfl
           |true=>exact absurd (OA kx (hE.kinds _ EZ) hq) ek
          have:=A5 (v:=w) (es:=es) bD;cases r with
          |none=>simp only at hw;exact Z0 hE (this.trans hr) lP hw
          |some v=>simp only at hw;exact met hE (this.trans hr) hw.1 lP hw.2
        ·exact hw.elim
     ·exact hw.elim
    ·exact hw.elim
   ·left;split at hw
    ·rename_i kx;obtain⟨qa,kE⟩:=jz kx;have hmv:=hm.dn.1;subst hmv;refine⟨rfl,?_⟩
     have hq:∀y:Value,(bif ok then Value.tuple #[z,.bool false]else z)=y→((E.desc t).bind fun d=>(match d,Value.map none with
            | .map kt elem,.map none=>(E.desc kt).bind fun kd=>(E.zero elem).bind fun z=>bI (iu kd&&scalar An&&e8 z) (some (bif ok then .tuple #[z,.bool false]else z))
            |_,_=>none))=some y:=by
      rintro y rfl;rw[L.desc _ _ hd];simp only[Option.bind_some,L.desc _ _ jq,jY,qa,kE,oA,Bool.and_self,bI]
     cases ok with
     |true=>exact⟨_,_,hq _ rfl,.iB (.cons (rU oA) (.cons (.s rfl) .nil)),hw⟩
     |false=>exact⟨_,_,hq _ rfl,rU oA,hw⟩
    ·exact hw.elim
   ·exact hw.elim
  ·exact hw.elim
 ·exact hw.elim
end
section
variable {T E:Env} {X:Cx} {ρ:Gh} {F:Nat→Prop} {o:Ob} {c:Nat} {af:AF} {f:Fr} {h:ae} {p:Oper} {K:OK}
def esA:Option TO→Option (Nat×List (List TV))
 |some (.arr z _ es)=>some (z,es)
 |_=>none
theorem Ib (o:Ob) (m n:Nat):esA (look (iW o m) n)=esA (look o n):=by
 cases hm:look o m with
 |none=>unfold iW;rw[hm]
 |some y=>
  cases y with
  |arr z w es=>
   unfold iW;rw[hm];simp only
   rw[eo];by_cases e:n=m
   ·subst e;rw[if_pos rfl,hm];rfl
   ·rw[if_neg e]
  |_=>unfold iW;rw[hm]
theorem OD (o:Ob) (n:Nat):db o (.tk n)=(esA (look o n)).map fun p=>.sl p.1 p.2 false:=by
 show(match look o n with|some (.arr z _ es)=>some (TV.sl z es false)|_=>none)=_;cases look o n with
 |none=>rfl
 |some y=>cases y<;>rfl
theorem Ic (o:Ob) (m:Nat) (t:TV):db (iW o m) t=db o t:=by
 cases t with
 |tk n=>rw[OD,OD,Ib]
 |nz t v=>cases v<;>try rfl
          rename_i w;cases w<;>rfl
 |cW g a k=>cases a<;>cases k<;>rfl
 |_=>rfl
theorem yc (o:Ob) (v t:TV):db (share1 o v) t=db o t:=by
 cases v<;>try rfl
 exact Ic _ _ _
theorem vD (o:Ob) (v:TV):∀l,pb (share1 o v) l=pb o l
 |[]=>rfl
 |t::l=>by simp only[pb,yc,vD o v l]
theorem OE {t t':TV} (hf:db o t=some t'):fz t'=true:=by
 unfold db at hf;split at hf
 ·split at hf
  ·rename_i hp;cases hf;exact hp
  ·cases hf
 ·cases hf;rfl
 ·split at hf
  ·cases hf;rfl
  ·cases hf
 ·cases hf;rfl
 ·cases hf;rfl
 ·cases hf
theorem wR:∀{l l':List TV},pb o l=some l'→(∀t∈l',fz t=true)∧l'.length=l.length
 |[],l',hf=>by simp[pb]at hf;subst hf;exact⟨by simp,rfl⟩
 |t::l,l',hf=>by
  unfold pb at hf;split at hf
  ·rename_i v' hv;split at hf
   ·rename_i l2 hl;cases hf;obtain⟨h1,h2⟩:=wR hl;refine⟨fun t ht=>?_,by simp[h2]⟩;rcases List.mem_cons.1 ht with rfl |ht
    ·exact OE hv
    ·exact h1 t ht
   ·cases hf
  ·cases hf
structure po (X:Cx) (ρ:Gh) (c:Nat) (h:ae) (F:Nat→Prop) (o:Ob) (F':Nat→Prop) (o':Ob):Prop where
 mem:Mem X ρ F' o' c h
 bw:∀t x,VR c ρ F h t x→VR c ρ F' h t x
 FF:∀b,F b→F' b
 wk:∀n y,look o n=some y→∃y',look o' n=some y'∧iO y y'
theorem po.refl (H:Mem X ρ F o c h):po X ρ c h F o F o:=⟨H,fun _ _ h=>h,fun _ h=>h,fun _ y hl=>⟨y,hl,iO.refl y⟩⟩
theorem po.trans {F1 F2:Nat→Prop} {o1 o2:Ob} (A:po X ρ c h F o F1 o1) (B:po X ρ c h F1 o1 F2 o2):po X ρ c h F o F2 o2:=
 ⟨B.mem,fun t x hx=>B.bw t x (A.bw t x hx),fun b hb=>B.FF b (A.FF b hb),fun n y hl=>by
  obtain⟨y1,h1,h2⟩:=A.wk n y hl;obtain⟨y2,h3,h4⟩:=B.wk n y1 h1;exact⟨y2,h3,h2.trans h4⟩⟩
theorem LB (H:Mem X ρ F o c h) (v:TV):∃F',po X ρ c h F o F' (share1 o v)∧∀v' x,db o v=some v'→VR c ρ F h v x→VR c ρ F' h v' x:=by
 cases v with
 |tk n=>
  obtain⟨F',h1,h2,h3,h4⟩:=H.share n;refine⟨F',⟨h1,h2,h3,pk o n⟩,fun v' x hf hx=>?_⟩;unfold db at hf;simp only at hf;split at hf
  ·rename_i z w es hl;cases hf;exact h4 _ _ _ _ hl hx
  ·cases hf
 |sl z es fl=>
  refine⟨F,.refl H,fun v' x hf hx=>?_⟩;simp only[db,Option.some.injEq]at hf;subst hf;cases hx with
  |nil he=>exact .nil he
  |sl h1 h2 h3 h4 h5 h6 h7 h8 h9 h10=>exact .sl h1 h2 h3 h4 h5 (fun h=>by cases h) h7 h8 h9 h10
 |s w=>
  refine⟨F,.refl H,fun v' x hf hx=>?_⟩;unfold db at hf;simp only at hf;split at hf
  ·cases hf;exact hx
  ·cases hf
 |nz t w=>
  refine⟨F,.refl H,fun v' x hf hx=>?_⟩;unfold db at hf;split at hf<;>simp_all
  all_goals(first|(obtain⟨rfl,rfl⟩:= ‹_∧_›;subst hf;exact hx)|skip)
 |cW g a k=>
  refine⟨F,.refl H,fun v' x hf hx=>?_⟩;unfold db at hf;split at hf<;>simp_all
  all_goals(first|(obtain⟨rfl,rfl,rfl⟩:= ‹_∧_∧_›;subst hf;exact hx)|skip)
 |_=>exact⟨F,.refl H,fun v' x hf hx=>by simp[db]at hf⟩
theorem qm:∀(l:List TV) {F:Nat→Prop} {o:Ob},Mem X ρ F o c h→∃F',po X ρ c h F o F' (shares o l)∧∀l' m,pb o l=some l'→dF c ρ F h l m→dF c ρ F' h l' m
 |[],F,o,H=>⟨F,.refl H,fun l' m hf hm=>by simp[pb]at hf;subst hf;exact hm⟩
 |v::l,F,o,H=>by
  obtain⟨F1,A,a⟩:=LB H v;obtain⟨F2,B,b⟩:=qm l A.mem;refine⟨F2,A.trans B,fun l' m hf hm=>?_⟩;unfold pb at hf;split at hf
  ·rename_i v' hv;split at hf
   ·rename_i l2 hl;cases hf;obtain⟨x,m',rfl,h1,h2⟩:=hm.aL;exact .cons (B.bw _ _ (a v' x hv h1)) (b l2 m' (by rw[vD];exact hl) (h2.qV A.bw))
   ·cases hf
  ·cases hf
theorem SN (H:Mem X ρ F o c h) (v:TV) (ho:okV v=true):∃F',po X ρ c h F o F' (shares o (aE v))∧∀v' x,N9 o v=some v'→VR c ρ F h v x→VR c ρ F' h v' x∧Eu v'=true:=by
 obtain⟨F',A,a⟩:=qm (aE v) H;refine⟨F',A,fun v' x hf hx=>?_⟩;have one:(∀cs,v≠ .agg cs)→VR c ρ F' h v' x∧Eu v'=true:=fun AH=>by
  have qJ:aE v=[v]:=by cases v<;>first|rfl |exact absurd rfl (AH _)
  have NR:N9 o v=db o v:=by cases v<;>first|rfl |exact absurd rfl (AH _)
  rw[NR]at hf;have gV:=OE hf;rw[qJ]at a;have:=a [v'] [x] (by simp[pb,hf]) (.cons hx .nil);refine⟨this.head,?_⟩;cases v'<;>simp[fz]at gV<;>simp[Eu,fz,gV]
 cases v with
 |agg cs=>
  obtain⟨q,rfl,h1⟩:=hx.ff;simp only[N9]at hf;split at hf
  ·rename_i cs' hc;cases hf;refine⟨.gC (a cs' q.toList hc h1),?_⟩;simp only[Eu];exact List.all_eq_true.2 (wR hc).1
  ·cases hf
 |_=>exact one (by intro cs e;cases e)
theorem Mem.C7 (H:Mem X ρ F o c h) {S:Nat→Ft} (K:MO X ρ F o c h S) {n b:Nat} {y:TO} (hl:look o n=some y) (hb:A0 ρ n b):b<h.size∧hd h b∈dI (S n):=by
 rcases(K.b9 n y hl).block with⟨b',o',h1,h2,h3,h4⟩|⟨b',z,len,cs,f,t0,gA,c0,t1,zN,h1,h2,h3,h4⟩|⟨z,h1⟩
 ·rcases hb with hb|⟨z,l,hb⟩<;>rw[h1]at hb<;>cases hb
  exact⟨H.wf.lt h2,by rw[h3];exact h4⟩
 ·rcases hb with hb|⟨z,l,hb⟩<;>rw[h1]at hb<;>cases hb
  exact⟨H.wf.lt h2,by rw[cb h2];exact h4⟩
 ·rcases hb with hb|⟨z,l,hb⟩<;>rw[h1]at hb<;>cases hb
theorem Mem.yd (H:Mem X ρ F o c h) {n b:Nat} {y:TO} (hl:look o n=some y) (hb:A0 ρ n b):b<h.size:=by
 obtain⟨S,K⟩:=H.ex;exact(H.C7 K hl hb).1
theorem eZ.alloc {F1:Nat→Prop} {o1:Ob} (H:Mem X ρ F o c h) (S:po X ρ c h F o F1 o1) {md:Made} {hd:su} {y:TO} {l:Loc} {v:TV} (hp:aX E af p=none) (hq:bW E af p=none) (ha:br E af p=some (md,hd))
 (hM:Mem X (cC ρ c (some l)) F1 ((c,y)::o1) (c+1) (h.push (md.obj h.size))) (hk:∀t x,VR c ρ F1 h t x→VR (c+1) (cC ρ c (some l)) F1 (h.push (md.obj h.size)) t x)
 (hv:VR (c+1) (cC ρ c (some l)) F1 (h.push (md.obj h.size)) v (hd.val h.size)) (hK:K v ((c,y)::o1) (c+1) .alloc):eZ E X ρ F o c af h p K:=by
 refine⟨0,⟨hd.val h.size,h.push (md.obj h.size),.alloc h (h.push (md.obj h.size))⟩,v,_,_,_,F1,.alloc,fun n _=>?_,hK,⟨hM,fun t x hx=>hk t x (S.bw t x hx),by rw[ae.size_push];omega,S.FF,fun b cs hb hr=>by rw[fI H.wf.le _ (H.Ll hb)];exact hr⟩,hv,
  .alloc fun n y' hl _=>⟨?_,?_,fun b hb=>?_⟩⟩
 ·unfold dW;rw[hp,hq,ha]
 ·have:=H.lt hl;rw[aQ,if_neg om];obtain⟨y2,q1,_⟩:=S.wk n y' hl;exact⟨y2,q1⟩
 ·have:=H.lt hl;rw[bG _ _ om]
 ·have:=H.yd hl hb;exact⟨by rw[ae.au,if_neg om],fun cs hr=>by rw[fI H.wf.le _ this];exact hr⟩
end
section
variable {T E:Env} {X:Cx} {ρ:Gh} {F:Nat→Prop} {o:Ob} {c:Nat} {af:AF} {f:Fr} {h:ae} {p:Oper} {K:OK}
theorem uH (H:Mem X ρ F o c h) {cs:List TV} {cv:List Value} (hc:dF c ρ F h cs cv) (hp:aX E af p=none) (hq:bW E af p=none) (ha:br E af p=some (.cells cv,.ptr)) (hK:K (.ptr c 0) ((c,.cells cs)::o) (c+1) .alloc):eZ E X ρ F o c af h p K:=by
 obtain⟨h1,h2⟩:=H.Oi hc;exact eZ.alloc H (.refl H) (md:=.cells cv) (hd:=.ptr) hp hq ha h1 h2 (.ptr (aM _ _ _)) hK
theorem SO (H:Mem X ρ F o c h) (kd:Nat) (hp:aX E af p=none) (hq:bW E af p=none) (ha:br E af p=some (.map,.map)) (hK:K (.mp c) ((c,.map kd [])::o) (c+1) .alloc):eZ E X ρ F o c af h p K:=by
 obtain⟨h1,h2⟩:=H.V8 kd;exact eZ.alloc H (.refl H) (md:=.map) (hd:=.map) hp hq ha h1 h2 (.mp (aM _ _ _)) hK
theorem JU {F1:Nat→Prop} {o1:Ob} (H:Mem X ρ F o c h) (S:po X ρ c h F o F1 o1) {z cap:Nat} {es:List (List TV)} {cv:List Value} (hE:ER c ρ F1 h z es cv) (hz:0<z) (fp:es.length≤cap)
 (hp:aX E af p=none) (hq:bW E af p=none) (ha:br E af p=some (.cells cv,.slice z es.length cap)) (hK:K (.tk c) ((c,.arr z true es)::o1) (c+1) .alloc):eZ E X ρ F o c af h p K:=by
 obtain⟨h1,h2⟩:=S.mem.xS hE hz;refine eZ.alloc H S (md:=.cells cv) (hd:=.slice z es.length cap) hp hq ha h1 h2 (.tk om rfl (fun b z' len hx=>?_) (fun z' hx=>?_)) hK
 ·rw[aM]at hx;cases hx;exact⟨cap,fp,rfl⟩
 ·rw[aM]at hx;cases hx
theorem ER.replicate {z:Nat} {zs:List TV} {zv:List Value} (hz:dF c ρ F h zs zv) (hl:zs.length=z) (hf:zs.all M.fz=true):∀k,ER c ρ F h z (List.replicate k zs) (aZ zv k)
 |0=>.nil z
 |k+1=>by
  have ih:=ER.replicate hz hl hf k;have h1:ER c ρ F h z [zs] zv:=by
   refine⟨by rw[←hz.1,hl];simp,fun e he=>by simp at he;subst he;exact hl,fun e he t ht=>by simp at he;subst he;exact List.all_eq_true.1 hf t ht,fun i j e t v q1 q2 q3=>?_⟩;cases i with
   |zero=>simp at q1;subst q1;exact hz.2 j t v q2 (by simpa using q3)
   |succ i=>simp at q1
  exact h1.append ih
theorem lZ {α:Type}:∀{n:Nat} {l xs:List α},n+xs.length≤l.length→∃r,dz l n xs=some r
 |0,l,[],_=>⟨l,by simp[dz]⟩
 |0,[],x::xs,h=>by simp at h
 |0,y::l,x::xs,h=>by
  obtain⟨r,hr⟩:=lZ (n:=0) (l:=l) (xs:=xs) (by simp at h ⊢;omega);exact⟨x::r,by simp[dz,hr]⟩
 |n+1,[],xs,h=>by simp at h
 |n+1,y::l,xs,h=>by
  obtain⟨r,hr⟩:=lZ (n:=n) (l:=l) (xs:=xs) (by simp at h ⊢;omega);exact⟨y::r,by simp[dz,hr]⟩
theorem ye {α:Type}:∀{l r:List α} {n:Nat} {x:α},setAt l n x=some r→n<l.length∧r.length=l.length∧∀i,r[i]? =if i=n then some x else l[i]?
 |[],r,n,x,h=>by simp[setAt]at h
 |y::l,r,0,x,h=>by
  simp[setAt]at h;subst h;refine⟨by simp,by simp,fun i=>?_⟩;cases i<;>simp
 |y::l,r,n+1,x,h=>by
  unfold setAt at h;split at h
  ·rename_i l' hl;cases h;obtain⟨h1,h2,h3⟩:=ye hl;refine⟨by simp;omega,by simp[h2],fun i=>?_⟩;cases i with
   |zero=>simp
   |succ i=>simp[h3 i]
  ·cases h
theorem ER.setAt {z:Nat} {es bM:List (List TV)} {cs:List Value} {l:List TV} {i:Nat} (A:ER c ρ F h z es cs) (hs:∀j,bM[j]? =if j=i then some l else es[j]?) (hlen:bM.length=es.length) (hi:i<es.length) (hl:l.length=z) (hf:∀t∈l,M.fz t=true)
 {cs':List Value} (hc:cs'.length=cs.length) (ND:∀j t v,l[j]? =some t→cs'[i*z+j]? =some v→VR c ρ F h t v) (Vw:∀k,(k<i*z∨(i+1)*z≤k)→cs'[k]? =cs[k]?):ER c ρ F h z bM cs':=by
 have key:∀j e,bM[j]? =some e→(j=i∧e=l)∨(j≠i∧es[j]? =some e):=fun j e he=>by
  rw[hs]at he;by_cases e1:j=i
  ·rw[if_pos e1]at he;cases he;exact .inl ⟨e1,rfl⟩
  ·rw[if_neg e1]at he;exact .inr ⟨e1,he⟩
 refine⟨by rw[hc,hlen,A.len],fun e he=>?_,fun e he=>?_,fun j k e t v q1 q2 q3=>?_⟩
 ·obtain⟨j,hj⟩:=List.getElem?_of_mem he;rcases key j e hj with⟨_,rfl⟩|⟨_,h1⟩
  ·exact hl
  ·exact A.each e (List.mem_of_getElem? h1)
 ·obtain⟨j,hj⟩:=List.getElem?_of_mem he;rcases key j e hj with⟨_,rfl⟩|⟨_,h1⟩
  ·exact hf
  ·exact A.fz e (List.mem_of_getElem? h1)
 ·rcases key j e q1 with⟨rfl,rfl⟩|⟨h1,h2⟩
  ·exact ND k t v q2 q3
  ·have hk:k<z:=by rw[←A.each e (List.mem_of_getElem? h2)];exact(List.getElem?_eq_some_iff.1 q2).1
   refine A.cell j k e t v h2 q2 ?_;rw[←q3];refine(Vw _ ?_).symm;rcases Nat.lt_or_gt_of_ne h1 with h3|h3
   ·left;have:(j+1)*z≤i*z:=Nat.mul_le_mul_right z h3;rw[Nat.add_mul]at this;omega
   ·right;have:(i+1)*z≤j*z:=Nat.mul_le_mul_right z h3;omega
theorem A6 {n:Nat}:∀{ps:List (Nat×TV)} {o:Ob} {F:Nat→Prop} {es bM:List (List TV)} {cs:List Value} {pv:List (Nat×Value)},Mem X ρ F o c h→sQ o n es ps=some bM→ER c ρ F h n es cs→SG c ρ F h ps pv→
 ∃F' cv,po X ρ c h F o F' (CL o ps)∧j7 (fun i=>some (i*n,n)) cs pv=some cv∧ER c ρ F' h n bM cv∧bM.length=es.length
 |[],o,F,es,bM,cs,[],H,hf,hE,_=>by simp[sQ]at hf;subst hf;exact⟨F,cs,.refl H,rfl,hE,rfl⟩
 |[],o,F,es,bM,cs,_::_,H,hf,hE,hq=>hq.elim
 |a::l,o,F,es,bM,cs,[],H,hf,hE,hq=>hq.elim
 |a::l,o,F,es,bM,cs,b::m,H,hf,hE,hq=>by
  obtain⟨e,hv,hr⟩:=hq;unfold sQ at hf;split at hf
  ·rename_i l1 hc gV;simp only[Bool.and_eq_true,beq_iff]at hc;split at hf
   ·rename_i Z1 gX;obtain⟨s1,s2,s3⟩:=ye gX;obtain⟨F1,A,a1⟩:=qm (aE a.2) H;obtain⟨f1,f2⟩:=wR gV;have s7:=a1 l1 _ gV (iZ hv hc.1);have uk:l1.length=n:=by omega
    have hE1:=hE.mono A.bw;have Rp:b.2.cells.toList.length=n:=by rw[←s7.1];exact uk
    have hle:a.1*n+b.2.cells.toList.length≤cs.length:=by
     rw[Rp,hE.len];have:(a.1+1)*n≤es.length*n:=Nat.mul_le_mul_right n s1;rw[Nat.add_mul]at this;omega
    obtain⟨uc,C8⟩:=lZ hle;obtain⟨t1,t2,t3⟩:=dv C8;have Z2:ER c ρ F1 h n Z1 uc:=by
     refine hE1.setAt s3 s2 s1 uk f1 t2 (fun j t v q1 q2=>?_) (fun k hk=>?_)
     ·have hj:j<l1.length:=(List.getElem?_eq_some_iff.1 q1).1;rw[t3,if_pos ⟨om,om⟩]at q2;exact s7.2 j t v q1 (by rw[←q2];congr 1;omega)
     ·rw[t3,if_neg];rw[Nat.add_mul]at hk;omega
    have adi:sQ (shares o (aE a.2)) n Z1 l=some bM:=by
     have key:∀(o1:Ob),(∀t,db o1 t=db o t)→∀(l:List (Nat×TV)) (es:List (List TV)),sQ o1 n es l=sQ o n es l:=by
      intro o1 h1 l;have h2:∀q,pb o1 q=pb o q:=by
       intro q
       induction q with
       |nil=>rfl
       |cons t q ih=>simp only[pb,h1,ih]
      induction l with
      |nil=>intro es;rfl
      |cons p l ih=>
       intro es;simp only[sQ,h2,ih]
     rw[key _ (fun t=>?_)];·exact hf
     have:∀(q:List TV) (o1:Ob),db (shares o1 q) t=db o1 t:=by
      intro q
      induction q with
      |nil=>intro o1;rfl
      |cons v q ih=>intro o1;simp only[shares];rw[ih,yc]
     exact this _ _
    have qH:SG c ρ F1 h l m:=by
     have:∀(l:List (Nat×TV)) (m:List (Nat×Value)),SG c ρ F h l m→SG c ρ F1 h l m:=by
      intro l
      induction l with
      |nil=>intro m hm;cases m<;>exact hm
      |cons p l ih=>
       intro m hm;cases m with
       |nil=>exact hm
       |cons q m=>exact⟨hm.1,A.bw _ _ hm.2.1,ih m hm.2.2⟩
     exact this l m hr
    obtain⟨F2,cv,B,b1,b2,b3⟩:=A6 A.mem adi Z2 qH;refine⟨F2,cv,A.trans B,?_,b2,by rw[b3,s2]⟩;obtain⟨i,x⟩:=b;simp only at e;subst e;simp only[j7,Option.bind_some];have:x.cells.size=n:=by simpa using Rp
    rw[this];simp only at C8;simp[bI,C8,b1]
   ·cases hf
  ·cases hf
end
end Go.M
