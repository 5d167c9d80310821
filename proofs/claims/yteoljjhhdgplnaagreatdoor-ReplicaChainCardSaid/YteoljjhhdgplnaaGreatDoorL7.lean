/-
  Part 7 of the library that the proof leans on.
-/
import Derived.Test.YteoljjhhdgplnaaGreatDoorL6
namespace Go.M
open Go
def zD (ρ:Gh) (n b:Nat):Prop:=ρ n=some (.dw b)∨∃z l,ρ n=some (.arr b z l)
def lr (q:RQ) (h:ab):Prop:=match q with
 | .cells _ b o n=>∃l,ae h b o n=some l∧fZ l l=true
 | .look r _ _ _ _| .len r=>∃m,eO h r=some m∧vP m.1 m.1=true
structure Nx (X:Cx) (ρ:Gh) (F:Nat→Prop) (o:Ob) (c:Nat) (h:ab) (ρ':Gh) (F':Nat→Prop) (o':Ob) (c':Nat) (h':ab):Prop where
 mem:Mem X ρ' F' o' c' h'
 bk:∀t x,VR c ρ F h t x→VR c' ρ' F' h' t x
 size:h.size≤h'.size
 FF:∀b,F b→F' b
 cX:∀b cs,F b→h.rd b=some cs→h'.rd b=some cs
def Raw (ρ:Gh) (o:Ob) (h:ab) (ρ':Gh) (o':Ob) (h':ab) (ns:List Nat):Prop:=
 ∀n y,look o n=some y→n∉ns→(∃y',look o' n=some y')∧ρ' n=ρ n∧∀b,zD ρ n b→h'.get b=h.get b∧∀cs,h.rd b=some cs→h'.rd b=some cs
def kF (ρ:Gh) (v:TV) (x:Value):Prop:=(∃k b,v= .mp k∧ρ k=some (.dw b)∧x= .map (some b))∨∃k q b,v= .ptr k q∧ρ k=some (.dw b)∧x= .pointer (some ⟨b,q,none⟩)
inductive fF (ρ:Gh) (F:Nat→Prop) (o:Ob) (h:ab) (ρ':Gh) (o':Ob) (h':ab):VL→ee→Prop
 |pure (hr:Raw ρ o h ρ' o' h' []) (hh:h'=h):fF ρ F o h ρ' o' h' .pure .pure
 |alloc (hr:Raw ρ o h ρ' o' h' []):fF ρ F o h ρ' o' h' .alloc (.alloc h h')
 |Hj {q:RQ} (hr:Raw ρ o h ρ' o' h' []) (hh:h'=h) (hF:F q.dw) (hc:∃a b o n,q= .cells a b o n) (hn:lr q h):fF ρ F o h ρ' o' h' .Hj (.rd q h)
 |kS {q:RQ} {n:Nat} {y:TO} (hr:Raw ρ o h ρ' o' h' []) (hh:h'=h) (hl:look o n=some y) (hb:zD ρ n q.dw) (hn:lr q h):fF ρ F o h ρ' o' h' (.kS n) (.rd q h)
 |yR {n p b:Nat} {v:TV} {x:Value} {y:TO} (hr:Raw ρ o h ρ' o' h' []) (hh:h'=h) (hl:look o n=some y) (hb:ρ n=some (.dw b)) (hx:kF ρ v x) (fW:ae h b p 1=some [x]):fF ρ F o h ρ' o' h' (.yR n p v) (.rd (.cells false b p 1) h)
 |dp {ns:List Nat} (hr:Raw ρ o h ρ' o' h' ns):fF ρ F o h ρ' o' h' (.dp ns) (.dp h h')
 |n9 {ns:List Nat} (hr:Raw ρ o h ρ' o' h' ns) (hh:h'=h):fF ρ F o h ρ' o' h' (.n9 ns) (.dp h h')
 |oc (hr:Raw ρ o h ρ' o' h' []) (hG:∀b,b<h.size→h'.get b=h.get b):fF ρ F o h ρ' o' h' .oc (.dp h h')
 |bad {l:ee}:fF ρ F o h ρ' o' h' .bad l
def eV (E:Env) (X:Cx) (ρ:Gh) (F:Nat→Prop) (o:Ob) (c:Nat) (af:AF) (h:ab) (p:Oper) (K:OK):Prop:=
 ∃n0 r v o' c' ρ' F' lg,(∀n,n0≤n→eL E X.base (fJ E X.base n) (gP X.base (a7 E X.base n)) p af h=some r)∧K v o' c' lg∧
  Nx X ρ F o c h ρ' F' o' c' r.h∧VR c' ρ' F' r.h v r.v∧fF ρ F o h ρ' o' r.h lg r.log
def TQ:TV→Value
 | .s v=>v
 |_=>undef
def FD (E:Env) (g:FuncId):Prop:=∀base n args h v h',fJ E base n g args h=some (v,h')→h'=h
structure ck (T E:Env):Prop where
 desc:∀t d,T.desc t=some d→E.desc t=some d
 size:∀t n,T.size t=some n→E.size t=some n
 bytes:∀t n,T.bytes t=some n→E.bytes t=some n
 zero:∀t z,T.zero t=some z→E.zero t=some z∧ff z=true
 eq:∀t (a b:Array Value) z xs ys r,T.rF t=true→T.zero t=some z→lO z.cells.toList xs ys=some r→a.toList=xs.map TQ→b.toList=ys.map TQ→E.rF t=true∧u3 E 100 t (.agg a) (.agg b)=some r
 vl:∀g cs,T.vl g=some cs→E.vl g=some cs
 still:∀g,T.still g=true→FD E g
theorem kE.sub {T E:Env} {F:Nat→Prop} {h:ab} (L:ck T E) (N:kE E F h):kE T F h:=fun g cs hg=>N g cs (L.vl g cs hg)
theorem HG:∀(l:List Value),(I2 l).length=l.length
 |[]=>rfl
 |v::l=>by simp[I2,HG l]
theorem L1:∀{l:List Value},l.all Bd=true→∀t∈I2 l,fz t=true
 |[],_,t,ht=>by simp[I2]at ht
 |v::l,hl,t,ht=>by
  simp only[List.all_cons,Bool.and_eq_true]at hl;simp only[I2,List.mem_cons]at ht;rcases ht with rfl |ht
  ·have:=hl.1;simp only[Bd,Bool.and_eq_true]at this;exact this.2
  ·exact L1 hl.2 t ht
section
variable {T E:Env} {X:Cx} {ρ:Gh} {F:Nat→Prop} {o:Ob} {c:Nat} {af:AF} {f:Fr} {h:ab} {p:Oper} {K:OK}
theorem Mem.b8 (H:Mem X ρ F o c h) {m:Nat} {y:TO} (hl:look o m=some y):∃S,OR c ρ F h X.base m S y:=let⟨S,K⟩:=H.ex;⟨S m,K.b8 m y hl⟩
theorem Nx.refl (H:Mem X ρ F o c h):Nx X ρ F o c h ρ F o c h:=⟨H,fun _ _ h=>h,Nat.le_refl _,fun _ h=>h,fun _ _ _ h=>h⟩
theorem Raw.refl (ns:List Nat):Raw ρ o h ρ o h ns:=fun _ y hl _=>⟨⟨y,hl⟩,rfl,fun _ _=>⟨rfl,fun _ h=>h⟩⟩
theorem eV.pure (H:Mem X ρ F o c h) {x:Value} {v:TV} (hp:aI E af p=some x) (hv:VR c ρ F h v x) (hK:K v o c .pure):eV E X ρ F o c af h p K:=by
 refine⟨0,⟨x,h,.pure⟩,v,o,c,ρ,F,.pure,fun n _=>?_,hK,.refl H,hv,.pure (.refl _) rfl⟩;unfold eL;rw[hp]
theorem eV.Xt (_:Mem X ρ F o c h) {o':Ob} {F':Nat→Prop} (H':Mem X ρ F' o' c h) (hk:∀t x,VR c ρ F h t x→VR c ρ F' h t x) (qi:∀b,F b→F' b) (hw:∀n y,look o n=some y→∃y',look o' n=some y'∧ef y y')
 {x:Value} {v:TV} (hp:aI E af p=some x) (hv:VR c ρ F' h v x) (hK:K v o' c .pure):eV E X ρ F o c af h p K:=by
 refine⟨0,⟨x,h,.pure⟩,v,o',c,ρ,F',.pure,fun n _=>?_,hK,⟨H',hk,Nat.le_refl _,qi,fun _ _ _ h=>h⟩,hv,.pure (fun n y hl _=>⟨let⟨y',h1,_⟩:=hw n y hl;⟨y',h1⟩,rfl,fun b _=>⟨rfl,fun _ h=>h⟩⟩) rfl⟩;unfold eL;rw[hp]
def dz (c:Nat) (ρ:Gh) (F:Nat→Prop) (h:ab) (f:Fr) (af:AF):Prop:=∀t,VR c ρ F h (nk f t) (af.get t)
theorem pI (L:ck T E) (N:kE T F h) (S:dz c ρ F h f af) {x:Operand} (hx:qO T x=true):∃v,ev E af x=some v∧VR c ρ F h (lN T f x) v:=by
 cases x with
 |tmp t=>exact⟨_,rfl,S t⟩
 |const v=>exact⟨v,by simp only[ev,aj,and_true];exact hx,qP hx⟩
 |func g=>exact⟨_,rfl,.dc rfl (fun i t v q=>by simp at q) rfl (fun i t v q=>by simp at q)⟩
 |global g=>
  obtain⟨cs,n3,hx⟩:∃cs,cs.all Bd=true∧T.vl g=some cs:=by
   simp only[qO]at hx;split at hx
   ·rename_i cs hg;exact⟨cs,hx,hg⟩
   ·cases hx
  obtain⟨n1,n2,_⟩:=N g cs hx;refine⟨.pointer (some ⟨g,0,none⟩),by simp only[ev,Env.dv,L.vl g cs hx,Option.isSome_some,bC],?_⟩;show VR c ρ F h (match T.vl g with|some cs=>.ep (I2 cs) 0|none=>.j) _;rw[hx];have:=VR.ep (c:=c) (ρ:=ρ) (F:=F) (h:=h) (e:=I2 cs) (o:=0) (b:=g) (q:=0) (cs:=cs) n1 n2 (by rw[HG];omega) (fun t ht=>L1 n3 t ht) (fun j t v q1 q2=>(sa (List.all_eq_true.2 fun v hv=>by have:=List.all_eq_true.1 n3 v hv;simp only[Bd,Bool.and_eq_true]at this;exact this.1)).2 j t v q1 (by simpa using q2));simpa using this
theorem oT (L:ck T E) (N:kE T F h) (S:dz c ρ F h f af):∀{l:List Operand},l.all (qO T)=true→∃vs,EO E af l=some vs∧dH c ρ F h (I3 T f l) vs
 |[],_=>⟨[],rfl,.nil⟩
 |x::l,hx=>by
  simp only[List.all_cons,Bool.and_eq_true]at hx;obtain⟨v,h1,h2⟩:=pI (E:=E) L N S hx.1;obtain⟨vs,h3,h4⟩:=oT L N S hx.2;exact⟨v::vs,by simp[EO,h1,h3],.cons h2 h4⟩
def PG (c:Nat) (ρ:Gh) (F:Nat→Prop) (h:ab):List (Nat×TV)→List (Nat×Value)→Prop
 |[],[]=>True
 |a::l,b::m=>a.1=b.1∧VR c ρ F h a.2 b.2∧PG c ρ F h l m
 |_,_=>False
theorem nu (L:ck T E) (N:kE T F h) (S:dz c ρ F h f af):∀{l:List (Nat×Operand)},(l.map (·.2)).all (qO T)=true→∃vs,ig E af l=some vs∧PG c ρ F h (Bi T f l) vs
 |[],_=>⟨[],rfl,trivial⟩
 |(i,x)::l,hx=>by
  simp only[List.map_cons,List.all_cons,Bool.and_eq_true]at hx;obtain⟨v,h1,h2⟩:=pI (E:=E) L N S hx.1;obtain⟨vs,h3,h4⟩:=nu L N S hx.2;exact⟨(i,v)::vs,by simp[ig,h1,h3],rfl,h2,h4⟩
theorem ey {v:TV} {K:TV→Prop} (hf:force v K):K v∧v≠ .j:=by
 cases v<;>simp[force]at hf ⊢ <;>exact hf
theorem FE {k k':IntKind} {v w:Value} (h:jW k k' v=some w):k=k'∧v=w:=by
 cases k<;>cases k'<;>simp[jW]at h<;>exact⟨rfl,h⟩
theorem FG (v:Value):eA (pure v:Sem Value)=some v:=rfl
theorem tG {k:IntKind} {x:Int} {v:Value} (h:eA (pure (.int k x):Sem Value)=some v):ay v=true:=by
 rw[FG]at h;cases h;rfl
theorem HH {op:BinOp} {k k':IntKind} {x y:Int} {v:Value} (h:I4 op k k' x y=some v) (t:TypeId):eA (binOp op t (.int k x) (.int k' y))=some v∧ay v=true:=by
 cases op<;>simp only[I4]at h
 case add|sub|mul|eql|neq|lss|leq|gtr|geq=>obtain⟨rfl,rfl⟩:=FE h;exact⟨by simp[binOp,Op.intArith,Op.intCmp,eA,Pure.pure],rfl⟩
 case quo|rem=>
  refine⟨h,?_⟩;simp only[binOp]at h;split at h
  ·simp[stuck,eA]at h
  ·simp only[Op.intDiv]at h;split at h
   ·have e:eA (runtimePanic (.error "integer divide by zero"):Sem Value)=none:=rfl;rw[e]at h;cases h
   ·exact tG h
 case and|or|xor|andNot=>
  refine⟨h,?_⟩;simp only[binOp]at h;split at h
  ·simp[stuck,eA]at h
  ·exact tG h
 case shl|shr=>
  refine⟨h,?_⟩;simp only[binOp,Op.shift]at h;split at h
  ·have e:eA (runtimePanic (.error "negative shift amount"):Sem Value)=none:=rfl;rw[e]at h;cases h
  ·exact tG h
theorem ck.shape {T E:Env} (L:ck T E) {t:TypeId} {s:Bool×Nat} (h:eN T t=some s):eN E t=some s:=by
 unfold eN at h ⊢;simp only[Option.bind_eq_some_iff]at h ⊢;obtain⟨d,h1,h2⟩:=h;refine⟨d,L.desc t d h1,?_⟩;cases ha:isAgg d with
 |false=>rw[ha]at h2;exact h2
 |true=>
  rw[ha]at h2;simp only[cond_true,Option.bind_eq_some_iff]at h2 ⊢;obtain⟨n,h3,h4⟩:=h2;exact⟨n,L.size t n h3,h4⟩
theorem L2:∀{zs:List Value} {xs ys:List TV} {r:Bool},lO zs xs ys=some r→(∀t∈xs,∃v,t= .s v)∧(∀t∈ys,∃v,t= .s v)
 |[],[],[],r,_=>⟨by simp,by simp⟩
 |[],[],_::_,r,h=>by simp[lO]at h
 |[],x::l,ys,r,h=>by simp[lO]at h
 |z::zs,[],ys,r,h=>by simp[lO]at h
 |z::zs,x::l,[],r,h=>by cases x<;>simp[lO]at h
 |z::zs,x::l,y::m,r,h=>by
  cases x<;>try(simp[lO]at h;done)
  rename_i v;cases y<;>try(simp[lO]at h;done)
  rename_i w;simp only[lO]at h;split at h
  ·split at h
   ·rename_i hq;obtain⟨k1,k2⟩:=L2 hq;refine⟨fun t ht=>?_,fun t ht=>?_⟩
    ·rcases List.mem_cons.1 ht with rfl |h2
     ·exact⟨_,rfl⟩
     ·exact k1 t h2
    ·rcases List.mem_cons.1 ht with rfl |h2
     ·exact⟨_,rfl⟩
     ·exact k2 t h2
   ·cases h
  ·cases h
theorem L3:∀{xs:List TV} {a:List Value},dH c ρ F h xs a→(∀t∈xs,∃v,t= .s v)→a=xs.map TQ
 |[],a,H,_=>by rw[H.bK];rfl
 |x::l,a,H,hs=>by
  obtain⟨v,m,rfl,h1,h2⟩:=H.aQ;obtain⟨w,rfl⟩:=hs x List.mem_cons_self;rw[h1.dF.1,L3 h2 fun t ht=>hs t (List.mem_cons_of_mem _ ht)];rfl
def ve:Nat→Bool→Value→Prop
 |0,true,x=>x= .pointer none
 |0,false,x=>∃a,x= .pointer (some a)
 |1,true,x=>x= .map none
 |1,false,x=>∃a,x= .map (some a)
 |2,true,x=>x= .nilFunc
 |2,false,x=>∃g a k,x= .func g a k
 |3,true,x=>x= .nilIface
 |3,false,x=>∃t v,x= .iface t v
 |4,true,x=>x= .slice none 0 0
 |4,false,x=>∃a l k,x= .slice (some a) l k
 |_,_,_=>False
theorem Di {v:TV} {x:Value} (hv:VR c ρ F h v x) {d:Nat} {b:Bool} (hb:u9 v=some (d,b)):ve d b x:=by
 cases hv with
 |s hp=>
  unfold u9 at hb;split at hb<;>simp_all<;>obtain⟨rfl,rfl⟩:=hb<;>simp[ve]
 |nil he=>subst he;unfold u9 at hb;split at hb<;>simp_all<;>obtain⟨rfl,rfl⟩:=hb<;>simp[ve]
 |sl h1 h2 h3=>
  unfold u9 at hb;split at hb<;>simp_all;obtain⟨rfl,rfl⟩:=hb;exact⟨_,_,_,rfl⟩
 |ptr=>simp[u9]at hb;obtain⟨rfl,rfl⟩:=hb;exact⟨_,rfl⟩
 |ep=>simp[u9]at hb;obtain⟨rfl,rfl⟩:=hb;exact⟨_,rfl⟩
 |mp=>simp[u9]at hb;obtain⟨rfl,rfl⟩:=hb;exact⟨_,rfl⟩
 |mT=>simp[u9]at hb;obtain⟨rfl,rfl⟩:=hb;exact⟨_,_,rfl⟩
 |dc=>simp[u9]at hb;obtain⟨rfl,rfl⟩:=hb;exact⟨_,_,_,rfl⟩
 |_=>simp[u9]at hb
theorem pJ {E:Env} {t:TypeId} {ds:TypeDesc} {d:Nat} {p q:Bool} {a b:Value} (hd:E.desc t=some ds) (hk:CY ds=some d) (ha:ve d p a) (hb:ve d q b) (RN:(p||q)=true):u3 E 100 t a b=some (p&&q):=by
 cases ds<;>simp[CY]at hk<;>subst hk<;>cases p<;>cases q<;>simp at RN<;>simp only[ve]at ha hb
 all_goals
  (try obtain⟨_,rfl⟩:=ha)
  (try obtain⟨_,rfl⟩:=hb)
  (try obtain⟨_,_,rfl⟩:=ha)
  (try obtain⟨_,_,rfl⟩:=hb)
  (try obtain⟨_,_,_,rfl⟩:=ha)
  (try obtain⟨_,_,_,rfl⟩:=hb)
  (try subst ha)
  (try subst hb)
  (show u3 E (99+1) t _ _=_)
  unfold u3;rw[hd];rfl
end
def iY (c:Nat) (ρ:Gh) (F:Nat→Prop) (h:ab) (o:Ob) (canon:Option Value) (K:OK):Prop:=∃v x,canon=some x∧VR c ρ F h v x∧K v o c .pure
section
variable {T E:Env} {X:Cx} {ρ:Gh} {F:Nat→Prop} {o:Ob} {c:Nat} {af:AF} {f:Fr} {h:ab} {p:Oper} {K:OK}
theorem kG {op:BinOp} {t:TypeId} {x y:Operand} {a b:Value} {r:Bool} (hi:∀k n k' m,¬(a= .int k n∧b= .int k' m)) (hs:∀s r,¬(a= .string s∧b= .string r)) (he:mU E t x y a b=true) (hq:u3 E 100 t a b=some r):
 (op= .eql→vO E op t x y a b=some (.bool r))∧(op= .neq→vO E op t x y a b=some (.bool !r)):=by
 constructor
 ·rintro rfl;unfold vO;split
  ·exact absurd ⟨rfl,rfl⟩ (hi _ _ _ _)
  ·exact absurd ⟨rfl,rfl⟩ (hs _ _)
  ·simp[bC,he,hq]
 ·rintro rfl;unfold vO;split
  ·exact absurd ⟨rfl,rfl⟩ (hi _ _ _ _)
  ·exact absurd ⟨rfl,rfl⟩ (hs _ _)
  ·simp[bC,he,hq]
theorem si {v:Option Value} (hp:zq v o c K) {canon:Option Value} (hc:∀x,v=some x→canon=some x):iY c ρ F h o canon K:=by
 unfold zq at hp;split at hp
 ·rename_i x;split at hp
  ·rename_i h2;exact⟨_,_,hc x rfl,.s h2,hp⟩
  ·exact hp.elim
 ·exact hp.elim
theorem ve.Dj {d:Nat} {b:Bool} {n:Nat} (hv:ve d b (.chan (some n))):False:=by
 unfold ve at hv;split at hv<;>simp at hv
theorem ve.HI {d:Nat} {b:Bool} {x:Value} (hv:ve d b x):(∀k n,x≠ .int k n)∧(∀s,x≠ .string s)∧(∀a,x≠ .agg a)∧(x= .nilIface→d=3∧b=true):=by
 unfold ve at hv;split at hv
 all_goals
  (try obtain⟨_,rfl⟩:=hv)
  (try obtain⟨_,_,rfl⟩:=hv)
  (try obtain⟨_,_,_,rfl⟩:=hv)
  (try subst hv)
  (try(exact hv.elim))
  (try simp)
theorem Ji {k k':IntKind} {v w x:Value} (h:jW k k' v=some x):jW k k' w=some w:=by
 unfold jW at h ⊢;split at h<;>first|rfl |cases h
theorem tH {p:Prop} (hw:ask p o c K) {canon:Option Value} (b:Bool) (hb:b=true↔p) (hc:canon=some (.bool b)):iY c ρ F h o canon K:=by
 cases b with
 |true=>exact⟨_,_,hc,.s rfl,hw.1 (hb.1 rfl)⟩
 |false=>exact⟨_,_,hc,.s rfl,hw.2 fun hp=>by have:=hb.2 hp;cases this⟩
theorem pK {p:Prop} {k k':IntKind} {op:BinOp} {t:TypeId} {n m:Int} (hw:C0 k k' p o c K) (b:Bool) (hb:b=true↔p) (hv:I4 op k k' n m=jW k k' (.bool b)):iY c ρ F h o (eA (binOp op t (.int k n) (.int k' m))) K:=by
 unfold C0 at hw;split at hw
 ·rename_i hs;exact tH hw b hb ((HH (hv.trans (Ji hs)) t).1)
 ·exact hw.elim
theorem PH (L:ck T E) (H:Mem X ρ F o c h) {op:BinOp} {t:TypeId} {x y:Operand} {a b:TV} {xa xb:Value} (hw:Tz T op t x y a b o c K) (ha:VR c ρ F h a xa) (hb:VR c ρ F h b xb):iY c ρ F h o (vO E op t x y xa xb) K:=by
 unfold Tz at hw;split at hw
 ·rename_i k n k' m;rw[ha.dF.1,hb.dF.1];show iY c ρ F h o (eA (binOp op t (.int k n) (.int k' m))) K;split at hw
  ·exact pK hw (n==m) (by simp) rfl
  ·exact pK hw (n != m) (by simp) rfl
  ·exact pK hw (decide (n<m)) (by simp) rfl
  ·exact pK hw (decide (n≤m)) (by simp) rfl
  ·exact pK hw (decide (n>m)) (by simp) rfl
  ·exact pK hw (decide (n≥m)) (by simp) rfl
  ·exact si hw fun v hv=>(HH hv t).1
 ·rename_i s r;rw[ha.dF.1,hb.dF.1];split at hw
  ·exact tH hw (s.data.toList==r.data.toList) (by simp) rfl
  ·exact tH hw (!(s.data.toList==r.data.toList)) (by simp) rfl
  ·exact tH hw (Op.bytesLess s.data.toList r.data.toList) (by simp) rfl
  ·exact⟨_,_,(by simp only[vO];rw[aj];exact⟨decide_eq_true om,rfl⟩),.s rfl,hw.2⟩
  ·refine si hw fun v hv=>?_;simp only[vO]at hv;cases hv
 ·rename_i p q;rw[ha.dF.1,hb.dF.1];split at hw
  ·rename_i hd;have hq:u3 E 100 t (.bool p) (.bool q)=some (p==q):=by
    show u3 E (99+1) t _ _=_;unfold u3;rw[L.desc _ _ hd];rfl
   obtain⟨k1,k2⟩:=kG (op:=op) (E:=E) (x:=x) (y:=y) (t:=t) (a:=.bool p) (b:=.bool q) (by rintro _ _ _ _ ⟨e,_⟩;cases e) (by rintro _ _ ⟨e,_⟩;cases e) rfl hq;split at hw
   ·exact⟨_,_,k1 rfl,.s rfl,hw⟩
   ·exact⟨_,_,k2 rfl,.s rfl,hw⟩
   ·exact hw.elim
  ·exact hw.elim
 ·rename_i xs ys;obtain⟨a',rfl,h1⟩:=ha.fi;obtain⟨b',rfl,h2⟩:=hb.fi;split at hw
  ·rename_i z he hz;split at hw
   case h_2=>exact hw.elim
   rename_i r hr;obtain⟨s1,s2⟩:=L2 hr;obtain⟨e1,e2⟩:=L.eq t a' b' z xs ys r he hz hr (L3 h1 s1) (L3 h2 s2);obtain⟨k1,k2⟩:=kG (op:=op) (E:=E) (x:=x) (y:=y) (t:=t) (a:=.agg a') (b:=.agg b') (by rintro _ _ _ _ ⟨e,_⟩;cases e) (by rintro _ _ ⟨e,_⟩;cases e) e1 e2;split at hw
   ·exact tH hw r Iff.rfl (k1 rfl)
   ·exact tH hw (!r) (by simp) (k2 rfl)
   ·exact hw.elim
  ·exact hw.elim
 ·split at hw
  ·rename_i es hq;obtain⟨I7,rfl,rM⟩:∃I7,b= .sl 0 [] I7∧((∃z fl,a= .sl (z+1) es fl)∨∃n z w,a= .tk n∧look o n=some (.arr z w es)):=by
    unfold W6 at hq;split at hq
    ·cases hq;exact⟨_,rfl,.inl ⟨_,_,rfl⟩⟩
    ·split at hq
     ·rename_i hl;cases hq;exact⟨_,rfl,.inr ⟨_,_,_,rfl,hl⟩⟩
     ·cases hq
    ·cases hq
   have bL:xb= .slice none 0 0:=by
    cases hb with
    |nil=>rfl
    |sl _ _ hz=>omega
   subst bL;have main:∀{ds:TypeDesc},E.desc t=some ds→CY ds=some 4→∃r:Bool,(r=true→es=[])∧u3 E 100 t xa (.slice none 0 0)=some r∧∃a l k,xa= .slice a l k:=by
    intro ds h1 h2;rcases rM with⟨z,fl,rfl⟩|⟨n,z,w,rfl,hl⟩
    ·cases ha with
     |nil he=>exact⟨true,fun _=>he,pJ (p:=true) (q:=true) h1 h2 rfl rfl rfl,_,_,_,rfl⟩
     |sl=>exact⟨false,(by simp),pJ (p:=false) (q:=true) h1 h2 ⟨_,_,_,rfl⟩ rfl rfl,_,_,_,rfl⟩
    ·obtain⟨_,RO⟩:=H.b8 hl;cases ha with
     |tk hn yN haa h0=>
      cases RO with
      |nil zh hz=>
       rcases h0 _ zh with rfl |⟨_,_,_,_,_,_,_,rfl⟩
       ·exact⟨true,fun _=>rfl,pJ (p:=true) (q:=true) h1 h2 rfl rfl rfl,_,_,_,rfl⟩
       ·exact⟨false,(by simp),pJ (p:=false) (q:=true) h1 h2 ⟨_,_,_,rfl⟩ rfl rfl,_,_,_,rfl⟩
      |arr zh=>
       obtain⟨cap,_,rfl⟩:=haa _ _ _ zh;exact⟨false,(by simp),pJ (p:=false) (q:=true) h1 h2 ⟨_,_,_,rfl⟩ rfl rfl,_,_,_,rfl⟩
   split at hw
   ·rename_i hd;simp only[Option.bind_eq_some_iff]at hd;obtain⟨ds,Cj,Tq⟩:=hd;obtain⟨r,m1,m2,a0,l0,k0,rfl⟩:=main (L.desc _ _ Cj) Tq;obtain⟨k1,k2⟩:=kG (op:=.eql) (E:=E) (x:=x) (y:=y) (t:=t) (a:=.slice a0 l0 k0) (b:=.slice none 0 0) (by rintro _ _ _ _ ⟨e,_⟩;cases e) (by rintro _ _ ⟨e,_⟩;cases e) rfl m2;cases r with
    |true=>exact⟨_,_,k1 rfl,.s rfl,hw.1 (m1 rfl)⟩
    |false=>exact⟨_,_,k1 rfl,.s rfl,hw.2⟩
   ·rename_i hd;simp only[Option.bind_eq_some_iff]at hd;obtain⟨ds,Cj,Tq⟩:=hd;obtain⟨r,m1,m2,a0,l0,k0,rfl⟩:=main (L.desc _ _ Cj) Tq;obtain⟨k1,k2⟩:=kG (op:=.neq) (E:=E) (x:=x) (y:=y) (t:=t) (a:=.slice a0 l0 k0) (b:=.slice none 0 0) (by rintro _ _ _ _ ⟨e,_⟩;cases e) (by rintro _ _ ⟨e,_⟩;cases e) rfl m2;cases r with
    |true=>exact⟨_,_,k2 rfl,.s rfl,hw.1 (m1 rfl)⟩
    |false=>exact⟨_,_,k2 rfl,.s rfl,hw.2⟩
   ·exact hw.elim
  split at hw
  ·rename_i d d1 p d2 q hd hp hq;split at hw
   ·rename_i hc;simp only[Bool.and_eq_true,beq_iff,Bool.or_eq_true,Bool.not_eq_true']at hc;obtain⟨⟨⟨rfl,rfl⟩,RN⟩,nS⟩:=hc;simp only[Option.bind_eq_some_iff]at hd;obtain⟨ds,Cj,Tq⟩:=hd;have va:=Di ha hp;have vb:=Di hb hq;have TR:=pJ (L.desc _ _ Cj) Tq va vb (by simpa using RN);obtain⟨a1,a2,a3,a4⟩:=va.HI;obtain⟨b1,b2,b3,b4⟩:=vb.HI;have he:mU E t x y xa xb=true:=by
     unfold mU;split
     ·obtain⟨rfl,rfl⟩:=a4 rfl;obtain⟨_,rfl⟩:=b4 rfl;rcases nS with (nS|nS)|nS
      ·simp at nS
      ·rw[nS];rfl
      ·rw[nS];simp
     ·exact absurd rfl (a3 _)
     ·exact va.Dj.elim
     ·exact vb.Dj.elim
     ·rfl
    obtain⟨k1,k2⟩:=kG (op:=op) (E:=E) (x:=x) (y:=y) (t:=t) (a:=xa) (b:=xb) (by rintro k n _ _ ⟨e,_⟩;exact a1 k n e) (by rintro s _ ⟨e,_⟩;exact a2 s e) he TR;split at hw
    ·exact⟨_,_,k1 rfl,.s rfl,hw⟩
    ·exact⟨_,_,k2 rfl,.s rfl,hw⟩
    ·exact hw.elim
   ·exact hw.elim
  ·exact hw.elim
theorem tI (H:Mem X ρ F o c h) {m i q:Nat} {y:TO} (hl:look o m=some y) (hy:yT y=true) {x:Value} (hx:VR c ρ F h (.wp m i q) x):
 ∃b z l,ρ m=some (.arr b z l)∧x= .pointer (some ⟨b,i*z+q,none⟩):=by
 cases hx with
 |wp hn pF ha h0=>
  obtain⟨S,hO⟩:=H.b8 hl;cases hO with
  |nil hb hz=>exact absurd hb (h0 _)
  |gq hb hz=>exact absurd hb (h0 _)
  |arr hb=>exact⟨_,_,_,hb,ha _ _ _ hb⟩
  |bV hb=>exact⟨_,_,_,hb,ha _ _ _ hb⟩
  |_=>simp[yT]at hy
def Dk:TO→Nat
 | .arr _ _ es=>es.length
 | .bV _ es _=>es.length
 |_=>0
theorem OR.tk {base m:Nat} {S:Ft} {y:TO} (hO:OR c ρ F h base m S y) (hy:yT y=true) {x:Value} (hx:VR c ρ F h (.tk m) x):
 (Dk y=0∧ρ m=some (.nil (Jg y))∧(x= .slice none 0 0∨∃b o cs,F b∧h.rd b=some cs∧0<Jg y∧o≤cs.length∧x= .slice (some ⟨b,o,some (Jg y)⟩) 0 0))∨
 ∃b cap,ρ m=some (.arr b (Jg y) (Dk y))∧Dk y≤cap∧x= .slice (some ⟨b,0,some (Jg y)⟩) (Dk y) cap:=by
 cases hx with
 |tk hn pF ha h0=>
  cases hO with
  |nil hb hz=>exact .inl ⟨rfl,hb,h0 _ hb⟩
  |gq hb hz=>exact .inl ⟨rfl,hb,h0 _ hb⟩
  |arr hb=>obtain⟨cap,h1,h2⟩:=ha _ _ _ hb;exact .inr ⟨_,cap,hb,h1,h2⟩
  |bV hb=>obtain⟨cap,h1,h2⟩:=ha _ _ _ hb;exact .inr ⟨_,cap,hb,h1,h2⟩
  |_=>simp[yT]at hy
theorem yV (L:ck T E) (H:Mem X ρ F o c h) {s:TypeId} {x:TV} {fd:Nat} {xv:Value} (hw:qK T s x fd o c K) (hx:VR c ρ F h x xv):
 iY c ρ F h o ((E.desc s).bind fun d=>(iR xv).bind fun p=>(match d with
 | .struct fields=>(fields[fd]?).bind fun fl=>(E.size fl.type).bind fun n=>bC (Nat.blt 0 n) (some (.pointer (some ⟨p.1,p.2+fl.offset,none⟩)))
 |_=>none)) K:=by
 unfold qK at hw;split at hw
 ·rename_i fields hd;split at hw
  ·rename_i fl hf;split at hw
   ·rename_i n hn;split at hw
    ·rename_i h0
     have fin:∀b q,xv=Value.pointer (some ⟨b,q,none⟩)→(((E.desc s).bind fun d=>(iR xv).bind fun p=>(match d with
      | .struct fields=>(fields[fd]?).bind fun fl=>(E.size fl.type).bind fun n=>bC (Nat.blt 0 n) (some (Value.pointer (some ⟨p.1,p.2+fl.offset,none⟩)))
      |_=>none))=some (Value.pointer (some ⟨b,q+fl.offset,none⟩))):=by
      rintro b q rfl;rw[L.desc _ _ hd];simp only[Option.bind_some,iR,hf,L.size _ _ hn,h0,bC]
     split at hw
     ·cases hx with
      |ptr hb=>exact⟨_,_,fin _ _ rfl,.ptr hb,hw⟩
     ·cases hx with
      |ep h1 h2 h3 h4 h5=>exact⟨_,_,fin _ _ rfl,by rw[Nat.add_assoc];exact .ep h1 h2 h3 h4 h5,hw⟩
     ·have go:∀{m i p:Nat} {y:TO},look o m=some y→yT y=true→VR c ρ F h (.wp m i p) xv→K (.wp m i (p+fl.offset)) o c .pure→iY c ρ F h o ((E.desc s).bind fun d=>(iR xv).bind fun p=>(match d with
       | .struct fields=>(fields[fd]?).bind fun fl=>(E.size fl.type).bind fun n=>bC (Nat.blt 0 n) (some (.pointer (some ⟨p.1,p.2+fl.offset,none⟩)))
       |_=>none)) K:=by
       intro m i p y hl hy hx hw;obtain⟨b,z,l,hb,rfl⟩:=tI H hl hy hx;cases hx with
       |wp hn pF ha h0=>
        refine⟨_,_,fin _ _ rfl,.wp hn rfl (fun b' z' l' kp=>?_) h0,hw⟩;rw[hb]at kp;cases kp;rw[Nat.add_assoc]
      split at hw
      ·rename_i hl;exact go hl rfl hx hw
      ·rename_i hl;exact go hl rfl hx hw
      ·exact hw.elim
     ·exact hw.elim
    ·exact hw.elim
   ·exact hw.elim
  ·exact hw.elim
 ·exact hw.elim
theorem fR {agg:Bool} {l:List TV} {v:TV} (ho:eM agg l=some v) {m:List Value} (H:dH c ρ F h l m):∃x,cH agg m=some x∧VR c ρ F h v x:=by
 unfold eM at ho;split at ho
 ·cases ho;exact⟨_,rfl,.gd (by simpa using H)⟩
 ·cases ho;obtain⟨x,m',rfl,h1,h2⟩:=H.aQ;rw[h2.bK];exact⟨x,rfl,h1⟩
 ·cases ho
theorem zE {n:Nat} {l r:List TV} (ht:takeN n l=some r) {m:List Value} (H:dH c ρ F h l m):∃q,takeN n m=some q∧dH c ρ F h r q:=by
 rw[aU]at ht;obtain⟨h1,rfl⟩:=ht;exact⟨m.take n,by rw[aU];exact⟨by rw[←H.1];exact h1,rfl⟩,H.take n⟩
theorem Jj (L:ck T E) {t:TypeId} {x:TV} {fd:Nat} {xv:Value} (hw:Fo T t x fd o c K) (hx:VR c ρ F h x xv):
 iY c ρ F h o ((E.desc t).bind fun d=>(Wj xv).bind fun cs=>(match d with
 | .struct fields=>(fields[fd]?).bind fun fl=>ow E fl.type cs fl.offset
 |_=>none)) K:=by
 unfold Fo at hw;split at hw
 ·rename_i fields hd;split at hw
  ·rename_i fl cs hf;split at hw
   ·rename_i agg n hs;split at hw
    ·rename_i l hl;split at hw
     ·rename_i v hv;obtain⟨hK,_⟩:=ey hw;obtain⟨a,rfl,h1⟩:=hx.fi;obtain⟨q,h2,h3⟩:=zE hl (h1.drop fl.offset);obtain⟨x,h4,h5⟩:=fR hv h3;refine⟨v,x,?_,h5,hK⟩;rw[L.desc _ _ hd];simp only[Option.bind_some,Wj,hf,ow,L.shape hs,h2,h4]
     ·exact hw.elim
    ·exact hw.elim
   ·exact hw.elim
  ·exact hw.elim
 ·exact hw.elim
theorem my {i:TV} {x:Value} {n:Int} (hi:CZ i=some n) (hx:VR c ρ F h i x):Pf x=some n:=by
 unfold CZ at hi;split at hi
 ·cases hi;rw[hx.dF.1];rfl
 ·cases hi
theorem yW (L:ck T E) (H:Mem X ρ F o c h) {t:TypeId} {x i:TV} {xv iv:Value} (hw:qL T t x i o c K) (hx:VR c ρ F h x xv) (hi:VR c ρ F h i iv):iY c ρ F h o (fg E t xv iv) K:=by
 unfold qL at hw;split at hw
 ·rename_i elem i' hd yI;have hI:=my yI hi;split at hw
  ·rename_i n hn;have fin:∀b q z len cap,xv=Value.slice (some ⟨b,q,some z⟩) len cap→0≤i'→i'<len→fg E t xv iv=some (.pointer (some ⟨b,q+i'.toNat*n,none⟩)):=by
    rintro b q z len cap rfl h1 h2;unfold fg;rw[L.desc _ _ hd,hI];simp only[Option.bind_some,L.size _ _ hn,bC,h1,h2,decide_true,Bool.and_self]
   split at hw
   ·rename_i z es fl;split at hw
    ·rename_i hz;rw[beq_iff]at hz;obtain⟨e,⟨h0,he⟩,hK⟩:=hw;cases hx with
     |nil EL=>subst EL;simp at he
     |sl q1 q2 q3 q4 q5 q6 q7 q8 q9 RP=>
      have bF:=(List.getElem?_eq_some_iff.1 he).1;refine⟨_,_,fin _ _ _ _ _ rfl h0 om,?_,hK⟩;have HE:=q8 e (List.mem_of_getElem? he);rw[←Nat.add_zero (_+_*n)];refine .ep q1 q2 ?_ (q9 e (List.mem_of_getElem? he)) fun j t v r1 r2=>RP _ j e t v he r1 (by rw[hz];exact r2);rw[HE,←hz];have:(i'.toNat+1)*z≤es.length*z:=Nat.mul_le_mul_right z bF;rw[Nat.add_mul]at this;subst q4;omega
    ·exact hw.elim
   ·rename_i m;have go:∀{y:TO},look o m=some y→yT y=true→Jg y=n→0≤i'→i'<Dk y→K (.wp m i'.toNat 0) o c .pure→iY c ρ F h o (fg E t xv iv) K:=by
     intro y hl hy hz h0 h1 hK;obtain⟨S,hO⟩:=H.b8 hl;rcases hO.tk hy hx with⟨e,_⟩|⟨b,cap,hb,_,rfl⟩
     ·rw[e]at h1;omega
     ·refine⟨_,_,fin _ _ _ _ _ rfl h0 h1,?_,hK⟩;cases hx with
      |tk Ph pF ha h0'=>
       refine .wp Ph rfl (fun b' z2 l2 kp=>?_) (fun z2 kp=>by rw[hb]at kp;cases kp);rw[hb]at kp;cases kp;rw[Nat.zero_add,Nat.add_zero,hz]
    split at hw
    ·rename_i z w es hl;split at hw
     ·rename_i hz;obtain⟨⟨h0,h1⟩,hK⟩:=hw;exact go hl rfl (beq_iff.1 hz) h0 h1 hK
     ·exact hw.elim
    ·rename_i z es op hl;split at hw
     ·rename_i hz;obtain⟨⟨h0,h1⟩,hK⟩:=hw;exact go hl rfl (beq_iff.1 hz) h0 h1 hK
     ·exact hw.elim
    ·exact hw.elim
   ·exact hw.elim
  ·exact hw.elim
 ·rename_i len elem i' hd yI;have hI:=my yI hi;split at hw
  ·rename_i n hn;obtain⟨⟨h1,h2⟩,hw⟩:=hw;have fin:∀b q,xv=Value.pointer (some ⟨b,q,none⟩)→fg E t xv iv=some (.pointer (some ⟨b,q+i'.toNat*n,none⟩)):=by
    rintro b q rfl;unfold fg;rw[L.desc _ _ hd,hI];simp only[Option.bind_some,L.size _ _ hn,bC,h1,h2,decide_true,Bool.and_self]
   split at hw
   ·cases hx with
    |ptr hb=>exact⟨_,_,fin _ _ rfl,.ptr hb,hw⟩
   ·cases hx with
    |ep q1 q2 q3 q4 q5=>exact⟨_,_,fin _ _ rfl,by rw[Nat.add_assoc];exact .ep q1 q2 q3 q4 q5,hw⟩
   ·exact hw.elim
  ·exact hw.elim
 ·exact hw.elim
theorem Jk (L:ck T E) {t:TypeId} {x i:TV} {xv iv:Value} (hw:Fp T t x i o c K) (hx:VR c ρ F h x xv) (hi:VR c ρ F h i iv):iY c ρ F h o (s8 E t xv iv) K:=by
 unfold Fp at hw;split at hw
 ·rename_i i' hd yI;have hI:=my yI hi;split at hw
  ·obtain⟨b,⟨h1,h2⟩,hK⟩:=hw;rw[hx.dF.1];refine⟨_,_,?_,.s rfl,hK⟩;unfold s8;rw[L.desc _ _ hd,hI];simp only[Option.bind_some,bC,h1,decide_true,h2]
  ·exact hw.elim
 ·rename_i len elem i' hd yI;have hI:=my yI hi;split at hw
  ·rename_i z agg n cs hz hs;obtain⟨⟨h1,h2⟩,hw⟩:=hw;split at hw
   ·rename_i l hl;split at hw
    ·rename_i v hv;obtain⟨hK,_⟩:=ey hw;obtain⟨a,rfl,k1⟩:=hx.fi;obtain⟨q,h3,h4⟩:=zE hl (k1.drop (i'.toNat*z));obtain⟨x,h5,h6⟩:=fR hv h4;refine⟨v,x,?_,h6,hK⟩;unfold s8;rw[L.desc _ _ hd,hI];simp only[Option.bind_some,L.size _ _ hz,bC,h1,h2,decide_true,Bool.and_self,ow,L.shape hs,h3,h5]
    ·exact hw.elim
   ·exact hw.elim
  ·exact hw.elim
 ·exact hw.elim
end
section
variable {T E:Env} {X:Cx} {ρ:Gh} {F:Nat→Prop} {o:Ob} {c:Nat} {af:AF} {f:Fr} {h:ab} {p:Oper} {K:OK}
def Dl (X:Cx) (c:Nat) (ρ:Gh) (F:Nat→Prop) (h:ab) (o:Ob) (canon:Option Value) (K:OK):Prop:=
 ∃v x o' F',canon=some x∧Mem X ρ F' o' c h∧(∀t x,VR c ρ F h t x→VR c ρ F' h t x)∧(∀b,F b→F' b)∧(∀n y,look o n=some y→∃y',look o' n=some y'∧ef y y')∧VR c ρ F' h v x∧K v o' c .pure
theorem iY.toS (H:Mem X ρ F o c h) {canon:Option Value} (R:iY c ρ F h o canon K):Dl X c ρ F h o canon K:=by
 obtain⟨v,x,h1,h2,h3⟩:=R;exact⟨v,x,o,F,h1,H,fun _ _ h=>h,fun _ h=>h,fun n y hl=>⟨y,hl,ef.refl y⟩,h2,h3⟩
theorem Dl.EM {canon:Option Value} (H:Mem X ρ F o c h) (R:Dl X c ρ F h o canon K) (hp:aI E af p=canon):eV E X ρ F o c af h p K:=by
 obtain⟨v,x,o',F',h1,h2,h3,h4,h5,h6,h7⟩:=R;exact eV.Xt H h2 h3 h4 h5 (hp.trans h1) h6 h7
theorem oU (o:Ob) (m:Nat):∀n y,look o n=some y→∃y',look (iV o m) n=some y'∧ef y y':=by
 intro n y hl;unfold iV;split
 ·rename_i z w es hm;rw[ew];by_cases e:n=m
  ·subst e;rw[if_pos rfl,hm];rw[hm]at hl;cases hl;exact⟨_,rfl,rfl,rfl,fun h=>by cases h⟩
  ·rw[if_neg e];exact⟨y,hl,ef.refl y⟩
 ·exact⟨y,hl,ef.refl y⟩
theorem oV {d y:Nat} {i:Int} (hi:0≤i) (hy:i≤y) (k:IntKind):cq d y (some (.int k i))=some i.toNat:=by
 simp[cq,bC,hi,hy]
theorem jm {d:Nat} {lo:Option TV} {wU:Option Value} {l:Int} (hb:O4 d lo=some l) (hl:(lo=none∧wU=none)∨∃y v,lo=some y∧wU=some v∧VR c ρ F h y v):
 (wU=none∧l=d)∨∃k,wU=some (.int k l):=by
 rcases hl with⟨rfl,rfl⟩|⟨y,v,rfl,rfl,hv⟩
 ·simp[O4]at hb;exact .inl ⟨rfl,hb.symm⟩
 ·unfold O4 at hb;split at hb
  ·rename_i he;cases he
  ·rename_i k i he;cases he;cases hb;rw[hv.dF.1];exact .inr ⟨k,rfl⟩
  ·cases hb
theorem eK {d y:Nat} {l:Int} {wU:Option Value} (h1:(wU=none∧l=d)∨∃k,wU=some (.int k l)) (h0:0≤l) (hy:l≤y):cq d y wU=some l.toNat:=by
 rcases h1 with⟨rfl,rfl⟩|⟨k,rfl⟩
 ·simp[cq]
 ·exact oV h0 hy k
theorem iz {t elem:TypeId} {n z b o' len cap:Nat} {lo hi mx:Option Value} {l hh m:Nat} (hd:E.desc t=some (.slice elem)) (hn:E.size elem=some n) (hz:n=z) (hm:cq cap len mx=some m)
 (L4:cq len (bif mx.isSome then m else len) hi=some hh) (hc:hi.isSome||mx.isNone) (uv:cq 0 hh lo=some l):
 il E t (.slice (some ⟨b,o',some z⟩) len cap) lo hi mx=some (.slice (some (bif Nat.beq m l then⟨b,o',some z⟩else⟨b,o'+l*z,some z⟩)) (hh - l) (m - l)):=by
 unfold il;subst hz;rw[hd];simp only[Option.bind_some,hn,hm,L4,uv,bC,hc];simp
theorem FH {z b oo len cap:Nat} {es:List (List TV)} {fl:Bool} (hv:VR c ρ F h (.sl z es fl) (.slice (some ⟨b,oo,some z⟩) len cap)) {l hh m:Nat} (hl:l≤hh) (hhl:hh≤es.length) (hm:hh≤m) (I7:Bool) (qA:I7=true→m=hh):
 VR c ρ F h (.sl z ((es.take hh).drop l) I7) (.slice (some (bif Nat.beq m l then⟨b,oo,some z⟩else⟨b,oo+l*z,some z⟩)) (hh - l) (m - l)):=by
 cases hv with
 |sl q1 q2 q3 q4 q5 q6 q7 q8 q9 RP=>
  have hlen:((es.take hh).drop l).length=hh - l:=by simp;omega
  by_cases e:m=l
  ·have e2:hh=l:=by omega
   subst e2;subst e;rw[show(bif Nat.beq m m then(⟨b,oo,some z⟩:Addr)else⟨b,oo+m*z,some z⟩)=⟨b,oo,some z⟩ by simp];refine .sl q1 q2 q3 hlen om (fun _=>rfl) (by simp;omega) (fun e he=>?_) (fun e he=>?_) fun i j e t v r1=>?_
   ·exact q8 e (List.mem_of_mem_take (List.mem_of_mem_drop he))
   ·exact q9 e (List.mem_of_mem_take (List.mem_of_mem_drop he))
   ·have:=(List.getElem?_eq_some_iff.1 r1).1;omega
  ·rw[show(bif Nat.beq m l then(⟨b,oo,some z⟩:Addr)else⟨b,oo+l*z,some z⟩)=⟨b,oo+l*z,some z⟩ by
    rw[C3];simp[e]]
   refine .sl q1 q2 q3 hlen om (fun h=>by rw[qA h]) ?_ (fun e he=>?_) (fun e he=>?_) fun i j e t v r1 r2 r3=>?_
   ·have:(l+(hh - l))*z≤es.length*z:=Nat.mul_le_mul_right z om;rw[Nat.add_mul]at this;subst q4;omega
   ·exact q8 e (List.mem_of_mem_take (List.mem_of_mem_drop he))
   ·exact q9 e (List.mem_of_mem_take (List.mem_of_mem_drop he))
   ·rw[List.getElem?_drop,List.getElem?_take]at r1;split at r1
    ·refine RP (l+i) j e t v r1 r2 ?_;rw[←r3,Nat.add_mul]
     congr 1;omega
    ·cases r1
theorem lu {t elem n:Nat} {lo hi mx:Option Value} {l hh m:Nat} (hd:E.desc t=some (.slice elem)) (hn:E.size elem=some n) (hm:cq 0 0 mx=some m)
 (L4:cq 0 (bif mx.isSome then m else 0) hi=some hh) (hc:hi.isSome||mx.isNone) (uv:cq 0 hh lo=some l):
 il E t (.slice none 0 0) lo hi mx=some (.slice none 0 0):=by
 unfold il;rw[hd];simp only[Option.bind_some,hn,hm,L4,uv,bC,hc]
def PI (c:Nat) (ρ:Gh) (F:Nat→Prop) (h:ab) (y:Option TV) (v:Option Value):Prop:=(y=none∧v=none)∨∃y' v',y=some y'∧v=some v'∧VR c ρ F h y' v'
theorem uK (L:ck T E) {t:TypeId} {z n l hh m:Nat} {elem:TypeId} {es:List (List TV)} {fl:Bool} {xv:Value} {wU hiv Pb:Option Value} (hd:T.desc t=some (.slice elem)) (hn:T.size elem=some n) (hz:z=n∨z=0)
 (hx:VR c ρ F h (.sl z es fl) xv) (hl:l≤hh) (hhl:hh≤es.length) (_:hh≤m) (I7:Bool) (_:I7=true→m=hh)
 (b1:∀len cap,len=es.length→len≤cap→∃m',cq cap len Pb=some m'∧cq len (bif Pb.isSome then m' else len) hiv=some hh∧hh≤m'∧(I7=true→m'=hh)) (b2:(hiv.isSome||Pb.isNone)=true) (b3:cq 0 hh wU=some l):
 ∃x,il E t xv wU hiv Pb=some x∧VR c ρ F h (.sl z ((es.take hh).drop l) I7) x:=by
 cases hx with
 |nil he=>
  subst he;obtain⟨m',k1,k2,_,_⟩:=b1 0 0 rfl (Nat.le_refl _);refine⟨_,lu (L.desc _ _ hd) (L.size _ _ hn) k1 k2 b2 b3,.nil (by simp)⟩
 |sl q1 q2 q3 q4 q5 q6 q7 q8 q9 RP=>
  have PJ:n=z:=by omega
  obtain⟨m',k1,k2,k3,k4⟩:=b1 _ _ q4.symm q5;refine⟨_,iz (L.desc _ _ hd) (L.size _ _ hn) PJ k1 k2 b2 b3,FH (.sl q1 q2 q3 q4 q5 q6 q7 q8 q9 RP) hl hhl k3 I7 k4⟩
theorem L5 (H:Mem X ρ F o c h) {x:TV} {z:Nat} {es:List (List TV)} (he:LN o x=some (z,es)):∃F',Mem X ρ F' (share1 o x) c h∧(∀t v,VR c ρ F h t v→VR c ρ F' h t v)∧(∀b,F b→F' b)∧(∀n y,look o n=some y→∃y',look (share1 o x) n=some y'∧ef y y')∧
 ∀xv,VR c ρ F h x xv→∃fl,VR c ρ F' h (.sl z es fl) xv:=by
 unfold LN at he;split at he
 ·cases he;exact⟨F,H,fun _ _ h=>h,fun _ h=>h,fun n y hl=>⟨y,hl,ef.refl y⟩,fun xv hx=>⟨_,hx⟩⟩
 ·rename_i m;split at he
  ·rename_i w bT hl;cases he;obtain⟨F',h1,h2,h3,h4⟩:=H.share m;exact⟨F',h1,h2,h3,oU o m,fun xv hx=>⟨false,h4 _ _ _ _ hl hx⟩⟩
  ·cases he
 ·cases he
theorem Jl (L:ck T E) (H:Mem X ρ F o c h) {t:TypeId} {x:TV} {xv:Value} {lo hi mx:Option TV} {wU hiv Pb:Option Value} (hw:Fq T t x lo hi mx o c K) (hx:VR c ρ F h x xv) (uv:PI c ρ F h lo wU) (L4:PI c ρ F h hi hiv) (EG:PI c ρ F h mx Pb):
 Dl X c ρ F h o (il E t xv wU hiv Pb) K:=by
 unfold Fq at hw;split at hw
 ·rename_i hd;split at hw
  ·rename_i s;split at hw
   ·rename_i hh l e1 e2;obtain⟨⟨h1,h2,h3⟩,hK⟩:=hw;rcases EG with⟨_,rfl⟩|⟨_,_,e,_⟩
    ·refine iY.toS H ⟨_,_,?_,.s rfl,hK⟩;rw[hx.dF.1];have a1:cq s.size s.size hiv=some hh.toNat:=eK (jm e1 L4) om h3;have a2:cq 0 hh.toNat wU=some l.toNat:=eK (jm e2 uv) h1 om;unfold il;rw[L.desc _ _ hd];simp only[Option.bind_some,bC,a1,a2];rfl
    ·cases e
   ·exact hw.elim
  ·exact hw.elim
 ·rename_i elem hd;split at hw
  ·rename_i n z es hn he;obtain⟨F',k1,k2,k3,k4,k5⟩:=L5 H he;obtain⟨fl,KL⟩:=k5 xv hx;split at hw
   ·rename_i hz;simp only[Bool.or_eq_true,beq_iff]at hz;split at hw
    ·rcases EG with⟨_,rfl⟩|⟨_,_,e,_⟩
     ·split at hw
      ·rename_i hh l e1 e2;have plain:(0≤l∧l≤hh∧hh≤es.length)→K (.sl z ((es.take hh.toNat).drop l.toNat) false) (share1 o x) c .pure→Dl X c ρ F h o (il E t xv wU hiv none) K:=by
        rintro⟨h1,h2,h3⟩ hK
        obtain⟨x',q1,q2⟩:=uK L (l:=l.toNat) (hh:=hh.toNat) (m:=hh.toNat) hd hn hz KL om om (Nat.le_refl _) false (wU:=wU) (hiv:=hiv) (Pb:=none) (fun h=>by cases h)
         (fun len cap e3 e4=>⟨cap,rfl,by subst e3;exact eK (jm e1 L4) om h3,by subst e3;omega,fun h=>by cases h⟩) (by simp) (eK (jm e2 uv) h1 om)
        exact⟨_,x',_,F',q1,k1,k2,k3,k4,q2,hK⟩
       split at hw
       ·split at hw
        ·obtain⟨hc,hK⟩:=hw;split at hK
         ·rename_i hz9;have hz9:=beq_iff.1 hz9;subst hz9;obtain⟨h1,h2,h3⟩:=hc;have hz8:=KL;cases hz8 with
          |nil he9=>
           subst he9;simp only[List.length_nil]at h3;have e0:hh.toNat=0:=by simp at h3;omega
           have e9:l.toNat=0:=by omega
           have b1:=eK (y:=0) (jm e1 L4) om (by simpa using h3);have b2:=eK (y:=0) (jm e2 uv) h1 (by simp at h3;omega);rw[e0]at b1;rw[e9]at b2;exact⟨.sl 0 [] true,.slice none 0 0,_,F',lu (L.desc _ _ hd) (L.size _ _ hn) (m:=0) (hh:=0) (l:=0) rfl b1 (by simp) b2,k1,k2,k3,k4,.nil rfl,hK⟩
          |sl q1 q2 q3=>omega
         ·exact plain hc hK
        ·rename_i n' RN;obtain⟨hc,hK⟩:=hw;rcases hK with hK|hK
         ·exact plain hc hK
         obtain⟨h1,h2,h3⟩:=hc;obtain⟨rfl,rfl,y,rfl⟩:x= .tk n'∧lo=none∧∃y,hi=some y:=by
          unfold pvQ at RN;split at RN
          ·cases RN;exact⟨rfl,rfl,_,rfl⟩
          ·cases RN
         have aaz:wU=none:=by
          rcases uv with⟨_,e⟩|⟨_,_,e,_⟩
          ·exact e
          ·cases e
         subst aaz;have vo:l=0:=by simpa[O4]using e2.symm
         subst vo;obtain⟨w,hl⟩:∃w,look o n'=some (.arr z w es):=by
          unfold LN at he;simp only at he;split at he
          ·rename_i w _ hl;cases he;exact⟨_,hl⟩
          ·cases he
         have a1:∀y:Nat,y=es.length→cq y y hiv=some hh.toNat:=fun y hy=>by subst hy;exact eK (jm e1 L4) om h3
         obtain⟨Sm,hO⟩:=H.b8 hl;have yx:n'<c:=by cases hx with|tk hn=>exact hn
         rcases hO.tk rfl hx with⟨h0,hb,rfl |⟨b,o',cs,q1,q2,Cp,q4,rfl⟩⟩|⟨b,cap,hb,gD,rfl⟩
         ·have h0:es.length=0:=h0;have Wx:hh.toNat=0:=by omega
          refine⟨.pv n' hh.toNat,.slice none 0 0,o,F,lu (L.desc _ _ hd) (L.size _ _ hn) (m:=0) (hh:=0) (l:=0) rfl (by have:=a1 0 om;rwa [Wx]at this) (by simp) rfl,H,fun _ _ h=>h,fun _ h=>h,fun n y hl=>⟨y,hl,ef.refl y⟩,
           .pv yx rfl (fun b z len e=>by rw[hb]at e;cases e) (fun _ _=>.inl rfl),hK⟩
         ·have h0:es.length=0:=h0;have Wx:hh.toNat=0:=by omega
          have Cp:0<z:=Cp
          refine⟨.pv n' hh.toNat,_,o,F,iz (L.desc _ _ hd) (L.size _ _ hn) (z:=z) (m:=0) (hh:=0) (l:=0) om rfl (by have:=a1 0 om;rwa [Wx]at this) (by simp) rfl,H,fun _ _ h=>h,fun _ h=>h,fun n y hl=>⟨y,hl,ef.refl y⟩,
           .pv yx rfl (fun b z len e=>by rw[hb]at e;cases e) (fun z' jL=>?_),hK⟩
          have PK:z'=z:=by rw[hb]at jL;cases jL;rfl
          subst PK;exact .inr ⟨_,_,_,q1,q2,Cp,q4,rfl⟩
         ·have Cp:0<z:=by
           cases hO with
           |nil bL=>rw[hb]at bL;cases bL
           |arr _ _ _ _ _ hz=>exact hz
          have hb:ρ n'=some (.arr b z es.length):=hb;have gD:es.length≤cap:=gD
          refine⟨.pv n' hh.toNat,_,o,F,iz (L.desc _ _ hd) (L.size _ _ hn) (z:=z) (m:=cap) (hh:=hh.toNat) (l:=0) om rfl (eK (jm e1 L4) om h3) (by simp) rfl,H,fun _ _ h=>h,fun _ h=>h,fun n y hl=>⟨y,hl,ef.refl y⟩,
           .pv yx rfl (fun b1 z1 Po e=>?_) (fun _ e=>by rw[hb]at e;cases e),hK⟩
          rw[hb]at e;cases e;exact⟨cap,om,by simp⟩
       ·rename_i n' TT;obtain⟨hc,hK⟩:=hw;rcases hK with hK|hK
        ·exact plain hc hK
        obtain⟨h1,h2,h3⟩:=hc;obtain⟨rfl,rfl⟩:x= .tk n'∧hi=none:=by
         unfold svQ at TT;split at TT
         ·cases TT;exact⟨rfl,rfl⟩
         ·cases TT
        have aaA:hiv=none:=by
         rcases L4 with⟨_,e⟩|⟨_,_,e,_⟩
         ·exact e
         ·cases e
        subst aaA;have hhe:hh=es.length:=by simpa[O4]using e1.symm
        subst hhe;obtain⟨w,hl⟩:∃w,look o n'=some (.arr z w es):=by
         unfold LN at he;simp only at he;split at he
         ·rename_i w _ hl;cases he;exact⟨_,hl⟩
         ·cases he
        have b3:∀y:Nat,l≤y→cq 0 y wU=some l.toNat:=fun y hy=>eK (jm e2 uv) h1 hy;obtain⟨Sm,hO⟩:=H.b8 hl;have yx:n'<c:=by cases hx with|tk hn=>exact hn
        rcases hO.tk rfl hx with⟨h0,hb,rfl |⟨b,o',cs,_,_,Cp,_,rfl⟩⟩|⟨b,cap,hb,gD,rfl⟩
        ·have h0:es.length=0:=h0;have vo:l.toNat=0:=by omega
         refine⟨.sv n' l.toNat,.slice none 0 0,o,F,lu (L.desc _ _ hd) (L.size _ _ hn) (m:=0) (hh:=0) (l:=0) rfl rfl rfl (by have:=b3 0 om;rwa [vo]at this),H,fun _ _ h=>h,fun _ h=>h,fun n y hl=>⟨y,hl,ef.refl y⟩,
          .sv yx rfl (fun b z len e=>by rw[hb]at e;cases e) (fun _ _=>.inl rfl),hK⟩
        ·have h0:es.length=0:=h0;have vo:l.toNat=0:=by omega
         have Cp:0<z:=Cp
         refine⟨.sv n' l.toNat,_,o,F,iz (L.desc _ _ hd) (L.size _ _ hn) (z:=z) (m:=0) (hh:=0) (l:=0) om rfl rfl rfl (by have:=b3 0 om;rwa [vo]at this),H,fun _ _ h=>h,fun _ h=>h,fun n y hl=>⟨y,hl,ef.refl y⟩,
          .sv yx rfl (fun b z len e=>by rw[hb]at e;cases e) (fun _ _=>.inr ⟨_,_,_,_,rfl⟩),hK⟩
        ·have Cp:0<z:=by
          cases hO with
          |nil bL=>rw[hb]at bL;cases bL
          |arr _ _ _ _ _ hz=>exact hz
         have hb:ρ n'=some (.arr b z es.length):=hb;have gD:es.length≤cap:=gD
         refine⟨.sv n' l.toNat,_,o,F,iz (L.desc _ _ hd) (L.size _ _ hn) (z:=z) (m:=cap) (hh:=es.length) (l:=l.toNat) om rfl rfl rfl (b3 _ om),H,fun _ _ h=>h,fun _ h=>h,fun n y hl=>⟨y,hl,ef.refl y⟩,
          .sv yx rfl (fun b1 z1 Po e=>?_) (fun _ e=>by rw[hb]at e;cases e),hK⟩
         rw[hb]at e;cases e;cases hbq:Nat.beq cap l.toNat with
         |true=>
          have:=beq_iff.1 hbq;exact⟨_,_,rfl,fun bF=>by omega⟩
         |false=>exact⟨_,_,rfl,fun _=>Nat.zero_add _⟩
      ·exact hw.elim
     ·cases e
    ·rename_i m _;split at hw
     ·rename_i kk hh l m' e2 e3;obtain⟨⟨h1,h2,rfl,h3⟩,hK⟩:=hw;rcases EG with⟨e,_⟩|⟨y1,v1,e,rfl,sZ⟩
      ·cases e
      ·cases e;rcases L4 with⟨e,_⟩|⟨y2,v2,e,rfl,Hc⟩
       ·cases e
       ·cases e;have TL:∃k,v1= .int k hh:=by
         unfold CZ at e3;split at e3
         ·cases e3;rw[sZ.dF.1];exact⟨_,rfl⟩
         ·cases e3
        obtain⟨k',rfl⟩:=TL;rw[Hc.dF.1]
        obtain⟨x',q1,q2⟩:=uK L (l:=l.toNat) (hh:=hh.toNat) (m:=hh.toNat) hd hn hz KL om om (Nat.le_refl _) true (wU:=wU) (hiv:=some (.int kk hh)) (Pb:=some (.int k' hh)) (fun _=>rfl)
         (fun len cap e3 e4=>⟨hh.toNat,oV om (by subst e3;omega) k',oV om (by simp;omega) kk,Nat.le_refl _,fun _=>rfl⟩) rfl (eK (jm e2 uv) h1 om)
        exact⟨_,x',_,F',q1,k1,k2,k3,k4,q2,hK⟩
     ·exact hw.elim
   ·exact hw.elim
  ·exact hw.elim
 ·exact hw.elim
end
section
variable {T E:Env} {X:Cx} {ρ:Gh} {F:Nat→Prop} {o:Ob} {c:Nat} {af:AF} {f:Fr} {h:ab} {p:Oper} {K:OK}
theorem Jm {x:Value} (h:∀a,x≠ .agg a):x.cells= #[x]:=by
 cases x<;>first|rfl |exact absurd rfl (h _)
theorem Bz {x:Value} (h:ay x=true):∀a,x≠ .agg a:=by rintro a rfl;simp[ay]at h
theorem iZ {v:TV} {x:Value} (hv:VR c ρ F h v x) (ho:okV v=true):dH c ρ F h (aA v) x.cells.toList:=by
 have one:(∀a,x≠ .agg a)→aA v=[v]→dH c ρ F h (aA v) x.cells.toList:=fun h1 h2=>by
  rw[h2,Jm h1];exact .cons hv .nil
 cases hv with
 |j=>simp[okV,yD]at ho
 |s hp=>exact one (Bz hp) rfl
 |nil=>exact one (by rintro a e;cases e) rfl
 |sl=>exact one (by rintro a e;cases e) rfl
 |tk hn pF ha h0=>exact one (by rintro a rfl;simp[Ja]at pF) rfl
 |ptr=>exact one (by rintro a e;cases e) rfl
 |ep=>exact one (by rintro a e;cases e) rfl
 |wp hn pF ha h0=>exact one (by rintro a rfl;simp[VW]at pF) rfl
 |mp=>exact one (by rintro a e;cases e) rfl
 |bg=>exact one (by rintro a e;cases e) rfl
 |sv=>simp[okV,yD]at ho
 |pv=>simp[okV,yD]at ho
 |agg hs ha=>exact⟨by simpa[aA,Value.cells]using hs,fun i t v h1 h2=>ha i t v h1 (by simpa[Value.cells]using h2)⟩
 |cY=>simp[okV,yD]at ho
 |mT=>exact one (by rintro a e;cases e) rfl
 |dc=>exact one (by rintro a e;cases e) rfl
theorem wV:∀{n:Nat} {l xs r:List TV} {l' La:List Value},cZ l n xs=some r→dH c ρ F h l l'→dH c ρ F h xs La→∃r',cZ l' n La=some r'∧dH c ρ F h r r'
 |0,l,[],r,l',La,hs,hl,hx=>by
  simp[cZ]at hs;subst hs;rw[hx.bK];exact⟨l',by simp[cZ],hl⟩
 |0,[],x::xs,r,l',La,hs,hl,hx=>by simp[cZ]at hs
 |0,y::l,x::xs,r,l',La,hs,hl,hx=>by
  simp only[cZ,Option.bind_eq_some_iff,Option.some.injEq]at hs;obtain⟨q,hq,rfl⟩:=hs;obtain⟨y',m,rfl,_,h2⟩:=hl.aQ;obtain⟨x',k,rfl,h3,h4⟩:=hx.aQ;obtain⟨r',h5,h6⟩:=wV hq h2 h4;exact⟨x'::r',by simp[cZ,h5],.cons h3 h6⟩
 |n+1,[],xs,r,l',La,hs,hl,hx=>by simp[cZ]at hs
 |n+1,y::l,xs,r,l',La,hs,hl,hx=>by
  simp only[cZ,Option.bind_eq_some_iff,Option.some.injEq]at hs;obtain⟨q,hq,rfl⟩:=hs;obtain⟨y',m,rfl,h1,h2⟩:=hl.aQ;obtain⟨r',h5,h6⟩:=wV hq h2 hx;exact⟨y'::r',by simp[cZ,h5],.cons h1 h6⟩
theorem tJ {pT pE:Nat→Option (Nat×Nat)} (hp:∀i x,pT i=some x→pE i=some x):∀{ps:List (Nat×TV)} {zs cs:List TV} {zv:List Value} {pv:List (Nat×Value)},zt pT zs ps=some cs→dH c ρ F h zs zv→PG c ρ F h ps pv→
 ∃cv,jS pE zv pv=some cv∧dH c ρ F h cs cv
 |[],zs,cs,zv,[],hf,hz,_=>by simp[zt]at hf;subst hf;exact⟨zv,rfl,hz⟩
 |[],zs,cs,zv,_::_,hf,hz,hq=>hq.elim
 |a::l,zs,cs,zv,[],hf,hz,hq=>hq.elim
 |a::l,zs,cs,zv,b::m,hf,hz,hq=>by
  obtain⟨e,hv,hr⟩:=hq;unfold zt at hf;split at hf
  ·rename_i q n nq;split at hf
   ·rename_i hc;simp only[Bool.and_eq_true,beq_iff]at hc;have sj:=iZ hv hc.1;split at hf
    ·rename_i ta fH;obtain⟨r',h1,h2⟩:=wV fH hz sj;obtain⟨cv,h3,h4⟩:=tJ hp hf h2 hr;refine⟨cv,?_,h4⟩;obtain⟨i,x⟩:=b;simp only[jS];simp only at e;subst e;rw[hp _ _ nq];simp only[Option.bind_some];have:x.cells.size=n:=by have:=sj.1;simp only[Array.length_toList]at this;omega
     rw[this];simp[bC,h1,h3]
    ·cases hf
   ·cases hf
  ·cases hf
theorem Jn (L:ck T E) {t:TypeId} {ps:List (Nat×TV)} {pv:List (Nat×Value)} (hw:Fu T t ps o c K) (hp:PG c ρ F h ps pv):iY c ρ F h o (s7 E t pv) K:=by
 unfold Fu at hw;split at hw
 ·rename_i fields z hd hz;obtain⟨jL,nq⟩:=L.zero _ _ hz;split at hw
  ·rename_i zs kr jj;rw[Array.all_toList]at kr;split at hw
   ·rename_i cs hf;have Zh:∀i x,qp T fields i=some x→qp E fields i=some x:=fun i x hx=>by
     unfold qp at hx ⊢;simp only[Option.bind_eq_some_iff]at hx ⊢;obtain⟨fd,h1,n,h2,h3⟩:=hx;exact⟨fd,h1,n,L.size _ _ h2,h3⟩
    obtain⟨cv,h1,h2⟩:=tJ Zh hf (fP nq jj) hp;refine⟨_,_,?_,.gd (a:=cv.toArray) (by simpa using h2),hw⟩;unfold s7;rw[L.desc _ _ hd,jL];simp only[Option.bind_some];have Xu:(fields.all fun fd=>(E.size fd.type).isSome)=true:=by
     rw[Array.all_eq_true]at kr ⊢;intro i hi;have:=kr i hi;obtain⟨n,hn⟩:=Option.isSome_iff_exists.1 this;rw[L.size _ _ hn];rfl
    rw[Xu];simp[bC,h1]
   ·exact hw.elim
  ·exact hw.elim
 ·rename_i len elem z hd hz;obtain⟨jL,nq⟩:=L.zero _ _ hz;split at hw
  ·rename_i n zs hn jj;split at hw
   ·rename_i cs hf;obtain⟨cv,h1,h2⟩:=tJ (pE:=fun i=>some (i*n,n)) (fun i x hx=>hx) hf (fP nq jj) hp;refine⟨_,_,?_,.gd (a:=cv.toArray) (by simpa using h2),hw⟩;unfold s7;rw[L.desc _ _ hd,jL];simp only[Option.bind_some,L.size _ _ hn,h1]
   ·exact hw.elim
  ·exact hw.elim
 ·exact hw.elim
theorem FI (L:ck T E) {s d:TypeId} {x v:Value} (hx:p9 T s d x=some v):p9 E s d x=some v:=by
 unfold p9 at hx ⊢;simp only[Option.bind_eq_some_iff]at hx ⊢;obtain⟨q,h1,dd,h2,h3⟩:=hx;exact⟨q,L.desc _ _ h1,dd,L.desc _ _ h2,h3⟩
end
section
variable {T E:Env} {X:Cx} {ρ:Gh} {F:Nat→Prop} {o:Ob} {c:Nat} {af:AF} {f:Fr} {h:ab} {p:Oper} {K:OK}
theorem FJ {v:Value} (hp:ay v=true) (hc:∀r,v≠ .chan r):js v v=true:=by
 cases v<;>simp[ay]at hp<;>first
  |(simp[js];done)
  |(exact absurd rfl (hc _))
  |(rename_i a;cases a<;>simp at hp<;>simp[js])
theorem gJ {t:TV} {x:Value} (hv:VR c ρ F h t x) (he:Fl t=true):js x x=true:=by
 cases hv with
 |j=>simp[Fl]at he
 |s hp=>exact FJ hp (by rintro r rfl;simp[Fl]at he)
 |nil=>simp[js]
 |sl=>simp[js]
 |tk hn pF ha h0=>cases x<;>simp[Ja]at pF;simp[js]
 |ptr=>simp[js]
 |ep=>simp[js]
 |wp hn pF ha h0=>cases x<;>simp[VW]at pF;simp[js]
 |mp=>simp[js]
 |bg=>simp[Fl]at he
 |sv=>simp[Fl]at he
 |pv=>simp[Fl]at he
 |agg=>simp[Fl]at he
 |cY=>simp[Fl]at he
 |mT sZ=>
  rename_i t v v';cases v<;>simp[Fl]at he;rename_i w;cases w<;>simp at he;rw[sZ.dF.1];simp[js]
 |dc hs ha ht hk=>
  rename_i g x y a k;cases x<;>simp[Fl]at he;cases y<;>simp at he;simp at hs ht;simp[js,←hs,←ht]
theorem tK:∀{l:List TV} {m:List Value},dH c ρ F h l m→l.all Fl=true→fZ m m=true
 |[],m,H,_=>by rw[H.bK];rfl
 |t::l,m,H,he=>by
  simp only[List.all_cons,Bool.and_eq_true]at he;obtain⟨v,m',rfl,h1,h2⟩:=H.aQ;simp only[fZ,Bool.and_eq_true];exact⟨gJ h1 he.1,tK h2 he.2⟩
theorem BA {c1:Nat} {hZ:Gh} {l:List TV} {m:List Value} {v:VL} {q:RQ} {ρ':Gh} {o':Ob} {h':ab} (H:dH c1 hZ F h l m) (LH:fZ m m=true→fF ρ F o h ρ' o' h' v (.rd q h)):fF ρ F o h ρ' o' h' (LL l v) (.rd q h):=by
 unfold LL;split
 ·rename_i he;exact LH (tK H he)
 ·exact .bad
def ja (X:Cx) (c:Nat) (ρ:Gh) (F:Nat→Prop) (h:ab) (o:Ob) (q:RQ) (K:OK):Prop:=∃v x lg ρ' o' c',q.run h=some x∧Nx X ρ F o c h ρ' F o' c' h∧VR c' ρ' F h v x∧K v o' c' lg∧fF ρ F o h ρ' o' h lg (.rd q h)
theorem ja.EM {q:RQ} (R:ja X c ρ F h o q K) (hp:aI E af p=none) (hq:bG E af p=some q):eV E X ρ F o c af h p K:=by
 obtain⟨v,x,lg,ρ',o',c',h1,h2,h3,h4,h5⟩:=R;refine⟨0,⟨x,h,.rd q h⟩,v,o',c',ρ',F,lg,fun n _=>?_,h4,h2,h3,h5⟩;unfold eL;rw[hp,hq];simp[h1]
theorem ja.same {q:RQ} (H:Mem X ρ F o c h) {v:TV} {x:Value} {lg:VL} (h1:q.run h=some x) (h2:VR c ρ F h v x) (h3:K v o c lg) (h4:fF ρ F o h ρ o h lg (.rd q h)):ja X c ρ F h o q K:=⟨v,x,lg,ρ,o,c,h1,.refl H,h2,h3,h4⟩
theorem tL:∀{l:List TV} {k:Nat},(dY l k).2=[]→(dY l k).1=l
 |[],_,_=>rfl
 |t::l,k,hn=>by
  cases t<;>first|(simp only[dY]at hn ⊢;rw[tL hn])|(simp[dY]at hn)
theorem j8 {α:Type}:∀{l xs r:List α} {p:Nat},cZ l p xs=some r→r=l.take p++(xs++(l.drop p).drop xs.length)
 |l,[],r,0,h=>by simp[cZ]at h;subst h;simp
 |[],x::xs,r,0,h=>by simp[cZ]at h
 |y::l,x::xs,r,0,h=>by
  simp only[cZ,Option.bind_eq_some_iff,Option.some.injEq]at h;obtain⟨q,hq,rfl⟩:=h;have:=j8 hq;simp only[List.take_zero,List.nil_append,List.drop_zero]at this;rw[this];simp
 |[],xs,r,p+1,h=>by simp[cZ]at h
 |y::l,xs,r,p+1,h=>by
  simp only[cZ,Option.bind_eq_some_iff,Option.some.injEq]at h;obtain⟨q,hq,rfl⟩:=h;rw[j8 hq];simp
theorem zF:∀(l:List TV) (k:Nat),(dY l k).1.length=l.length
 |[],_=>rfl
 |t::l,k=>by cases t<;>simp[dY,zF l]
theorem Dm (H:Mem X ρ F o c h) {S:Nat→Ft} (K0:MO X ρ F o c h S) {agg:Bool} {n p q m b:Nat} {e:List TV} {y:TO} {put:List TV→TO} {Se:Ft} {vs:List Value} {lg:VL} (hw:zr agg n p e o c lg put m K) (hl:look o m=some y) (hb:zD ρ m b) (uD:lg= .kS m∨lg= .yR m p .j∧p=q∧ρ m=some (.dw b))
 (hc:cI c ρ F h X.base Se e vs) (hr:n≤(e.drop p).length→M.ae h b q n=some ((vs.drop p).take n))
 (TU:∀c' ρ' e' S',(∀t v,VR c ρ F h t v→VR c' ρ' F h t v)→ρ' m=ρ m→e'.length=e.length→cI c' ρ' F h X.base S' e' vs→∃S0,OR c' ρ' F h X.base m S0 (put e')∧∀R,Se.Perm (S'++R)→(S m).Perm (S0++R)):
 ja X c ρ F h o (.cells agg b q n) K:=by
 unfold zr at hw;split at hw
 ·exact hw.elim
 ·rename_i l ht;rw[aU]at ht;obtain⟨t1,rfl⟩:=ht;have Dn:=hr t1;obtain⟨S1,S2,S3,hS,a1,a2,a3⟩:=hc.part p n;have fzm:∀t v,VR 0 tB F h t v→fz t=true→VR c ρ F h t v:=fun t v hv hf=>hv.dL hf;split at hw
  ·rename_i mg;split at hw
   ·rename_i v hv;obtain⟨hK,_⟩:=ey hw;obtain⟨Ss,ls,b1,b2,b3⟩:=a2.opened c;have vo:ls.length=0:=by rw[b2.l2,mg];rfl
    have hV:=b3 c ρ (fun _ _ h=>h) om (fun i q hq=>by
     have:=(List.getElem?_eq_some_iff.1 hq).1;omega)
    rw[tL mg]at hV;obtain⟨x,h6,h7⟩:=fR hv hV;have main:fZ ((vs.drop p).take n) ((vs.drop p).take n)=true→fF ρ F o h ρ o h (nmL v lg) (.rd (.cells agg b q n) h):=by
     intro he;have pl:fF ρ F o h ρ o h (.kS m) (.rd (.cells agg b q n) h):=.kS (.refl _) rfl hl hb ⟨_,Dn,he⟩;rcases uD with rfl |⟨rfl,rfl,K9⟩
     ·exact pl
     have one:∀w,v=w→dj w=false→eI w=true→(∀cs,w≠ .agg cs)→(∀y,VR c ρ F h w y→kF ρ w y)→fF ρ F o h ρ o h (.yR m p w) (.rd (.cells agg b p n) h):=by
      rintro w rfl _ _ EJ VY;unfold eM at hv;split at hv
      ·cases hv;exact absurd rfl (EJ _)
      ·rename_i l' w' heq;cases hv;rw[heq]at hV;obtain⟨y1,m1,e1,hy,EU⟩:=hV.aQ;obtain rfl:=EU.bK;have Pm:n=1:=by
        have:=congrArg List.length heq;rw[List.length_take]at this;simp only[List.length_cons,List.length_nil]at this;omega
       subst Pm;rw[e1]at Dn;exact .yR (.refl _) rfl hl K9 (VY _ hy) Dn
      ·cases hv
     unfold nmL;split
     ·rename_i m' p' v' heq;cases heq;split
      ·exact one _ rfl rfl rfl (by rintro cs e;cases e) fun y hy=>by cases hy with|mp hb=>exact .inl ⟨_,_,rfl,hb,rfl⟩
      ·exact one _ rfl rfl rfl (by rintro cs e;cases e) fun y hy=>by cases hy with|ptr hb=>exact .inr ⟨_,_,_,rfl,hb,rfl⟩
      ·exact pl
     ·rename_i bj;exact absurd rfl (bj _ _ _)
    exact ja.same H (by simp[RQ.run,Dn,h6]) h7 hK (BA hV main)
   ·exact hw.elim
  ·rename_i q0 new mg;split at hw
   ·rename_i e' v fH hv;obtain⟨hK,_⟩:=ey hw;have hA:∀ls:List Loc,∀t v,VR c ρ F h t v→VR (c+(new.length+1)) (oe ρ c ls) F h t v:=fun ls t v=>VR.mono om (fun n l hn h1=>by rwa [fw _ _ hn]at h1) (fun n b h1=>by rw[fw _ _ (H.names _ _ h1)];exact h1) (fun _ h=>h) (fun _ _ _ h=>h);obtain⟨Ss,ls,b1,b2,b3⟩:=a2.opened c;rw[mg]at b2;have CH:ls.length=new.length+1:=b2.l2;have hV:=b3 (c+(new.length+1)) (oe ρ c ls) (hA ls) om (fun i q hq=>by rw[se];exact hq);obtain⟨x,h6,h7⟩:=fR hv hV;have hlen:(dY ((e.drop p).take n) c).1.length=n:=by rw[zF,List.length_take];omega
    have Co:=j8 fH;rw[hlen]at Co;have EW:=H.lt hl;have Xv:cI (c+(new.length+1)) (oe ρ c ls) F h X.base (S1++S3) e' vs:=by
     have k1:=a1.bk (c':=c+(new.length+1)) (ρ':=oe ρ c ls) (F':=F) (h':=h) (T:=fun _=>False) H.wf (fun _ _ _=>rfl) (fun _ h=>h) (fun _ _ _ h=>h) (hA ls) (fun _ _ hf=>hf.elim);have k3:=a3.bk (c':=c+(new.length+1)) (ρ':=oe ρ c ls) (F':=F) (h':=h) (T:=fun _=>False) H.wf (fun _ _ _=>rfl) (fun _ h=>h) (fun _ _ _ h=>h) (hA ls) (fun _ _ hf=>hf.elim);have:=k1.join ((cI.kC (base:=X.base) hV).join k3);rw[List.take_append_drop,List.take_append_drop,←Co]at this;exact this
    obtain⟨S0,hO,hP⟩:=TU _ _ e' (S1++S3) (hA ls) (fw _ _ EW) (dq fH).2.1 Xv;have zG:(S m).Perm (S0++Ss.flatten):=hP _ (by
     rw[hS,←b1,List.append_assoc];exact List.perm_append_comm.append_left _)
    obtain⟨M,hk⟩:=H.opens K0 (y1:=put e') hl b2 zG (fun _=>hO);refine⟨v,x,_,_,_,_,by simp[RQ.run,Dn,h6],⟨M,hk,Nat.le_refl _,fun _ h=>h,fun _ _ _ h=>h⟩,h7,hK,BA hV fun he=>(show W7 lg= .kS m by rcases uD with rfl |⟨rfl,_⟩<;>rfl)▸ .kS (fun n' y' sf _=>⟨?_,fw _ _ (H.lt sf),fun b _=>⟨rfl,fun _ h=>h⟩⟩) rfl hl hb ⟨_,Dn,he⟩⟩;rw[jA,tC b2,if_pos (H.lt sf)];simp only
    rw[ew];by_cases em:n'=m
    ·rw[if_pos em,hl];exact⟨_,rfl⟩
    ·rw[if_neg em];exact⟨_,sf⟩
   ·exact hw.elim
theorem TW {z i p n b:Nat} {v1 v2 v3:List Value} (hr:h.rd b=some (v1++(v2++v3))) (h1:v1.length=i*z) (h2:n≤(v2.drop p).length):M.ae h b (i*z+p) n=some ((v2.drop p).take n):=by
 unfold M.ae;rw[hr];simp only[Option.bind_some,aU];rcases Nat.eq_zero_or_pos n with h0|h0
 ·subst h0;simp
 ·simp only[List.length_drop]at h2;have e:(v1++(v2++v3)).drop (i*z+p)=v2.drop p++v3:=by
   rw[←h1,List.drop_append,List.drop_eq_nil_of_le om,Nat.add_sub_cancel_left,List.nil_append,List.drop_append_of_le_length om]
  rw[e];refine⟨by rw[List.length_append,List.length_drop];omega,?_⟩;rw[List.take_append_of_le_length (by rw[List.length_drop];omega)]
theorem L6 (L:ck T E) (H:Mem X ρ F o c h) {t:TypeId} {a:TV} {av:Value} (hw:LM T t a o c K) (ha:VR c ρ F h a av):
 ∃q,((iR av).bind fun p=>(eN E t).bind fun s=>some (.cells s.1 p.1 p.2 s.2))=some q∧ja X c ρ F h o q K:=by
 unfold LM at hw;split at hw
 ·exact hw.elim
 ·rename_i agg n hs;have WY:=L.shape hs;obtain⟨S,K0⟩:=H.ex;split at hw
  ·rename_i m q;split at hw
   ·rename_i cs hl;have hO:=K0.b8 m _ hl;generalize hS:S m=Sm at hO;cases hO with
    |cells hb hg nW hc=>
     rename_i Sq b aO cs';cases ha with
     |ptr bL=>
      rw[hb]at bL;cases bL;refine⟨.cells agg b q n,by simp[iR,WY],Dm H K0 hw hl (.inl hb) (.inr ⟨rfl,rfl,hb⟩) hc (fun hn=>?_) fun c' ρ' e' S' hm fj hlen Xv=>⟨_,.cells (fj.trans hb) hg nW Xv,fun R hR=>by rw[hS];exact hR.cons _⟩⟩;unfold M.ae;rw[dO (bH hg hg) nW (az hg)];simp only[Option.bind_some,aU,and_true];have:=hc.len;simp only[List.length_drop]at hn ⊢;omega
   ·exact hw.elim
  ·rename_i e q;split at hw
   ·rename_i l ht;split at hw
    ·rename_i v hv;obtain⟨hK,_⟩:=ey hw;cases ha with
     |ep h1 h2 h3 h4 h5=>
      rename_i b q0 cs;rw[aU]at ht;obtain⟨t1,rfl⟩:=ht;simp only[List.length_drop]at t1;have hlen:n≤(cs.drop (q0+q)).length∨n=0:=by
       simp only[List.length_drop];omega
      have hR:dH c ρ F h ((e.drop q).take n) ((cs.drop (q0+q)).take n):=by
       refine⟨by simp;omega,fun i t v r1 r2=>?_⟩;rw[List.getElem?_take]at r1 r2;split at r1
       ·rename_i bF;rw[if_pos bF]at r2;rw[List.getElem?_drop]at r1 r2;exact h5 (q+i) t v r1 (by rw[←r2];congr 1;omega)
       ·cases r1
      obtain⟨x,h6,h7⟩:=fR hv hR;have Dn:M.ae h b (q0+q) n=some ((cs.drop (q0+q)).take n):=by
       unfold M.ae;rw[h2];simp only[Option.bind_some,aU,and_true];rcases hlen with h8|h8
       ·exact h8
       ·omega
      exact⟨.cells agg b (q0+q) n,by simp[iR,WY],ja.same H (by simp[RQ.run,Dn,h6]) h7 hK (BA hR fun he=>.Hj (.refl _) rfl h1 ⟨_,_,_,_,rfl⟩ ⟨_,Dn,he⟩)⟩
    ·exact hw.elim
   ·exact hw.elim
  ·rename_i m i q;split at hw
   ·rename_i z w es hl;obtain⟨e,he,hw⟩:=hw;split at hw
    ·rename_i l ht;split at hw
     ·rename_i v hv;obtain⟨hK,_⟩:=ey hw;obtain⟨b,z',l',hb,rfl⟩:=tI H hl rfl ha;obtain⟨Sm,hO⟩:=H.b8 hl;cases hO with
      |nil bL hz=>rw[hb]at bL;cases bL
      |arr bL hg hf nW dS hz hlen lS gU hc hF=>
       rename_i f t0 eX aO cs;rw[hb]at bL;cases bL;have fW:=dO hf nW (az hg);rw[aU]at ht;obtain⟨t1,rfl⟩:=ht;simp only[List.length_drop]at t1;have KS:=lS e (List.mem_of_getElem? he);have hi:i<es.length:=(List.getElem?_eq_some_iff.1 he).1;have hle:(i+1)*z≤es.length*z:=Nat.mul_le_mul_right z hi;rw[Nat.add_mul]at hle;have hR:dH c ρ F h ((e.drop q).take n) ((cs.drop (i*z+q)).take n):=by
        refine⟨by simp;omega,fun j t v r1 r2=>?_⟩;rw[List.getElem?_take]at r1 r2;split at r1
        ·rename_i bF;rw[if_pos bF]at r2;rw[List.getElem?_drop]at r1 r2;exact hc i (q+j) e t v he r1 (by rw[←r2];congr 1;omega)
        ·cases r1
       obtain⟨x,h6,h7⟩:=fR hv hR;have Dn:M.ae h b (i*z+q) n=some ((cs.drop (i*z+q)).take n):=by
        unfold M.ae;rw[fW];simp only[Option.bind_some,aU,and_true,List.length_drop];omega
       exact⟨.cells agg b (i*z+q) n,by simp[iR,WY],ja.same H (by simp[RQ.run,Dn,h6]) h7 hK (BA hR fun Co=>.kS (.refl _) rfl hl (.inr ⟨_,_,hb⟩) ⟨_,Dn,Co⟩)⟩
     ·exact hw.elim
    ·exact hw.elim
   ·rename_i z es op hl;obtain⟨b,z',l',hb,rfl⟩:=tI H hl rfl ha;have hO:=K0.b8 m _ hl;generalize hS:S m=Sm at hO;cases hO with
    |gq bL hz=>rw[hb]at bL;cases bL
    |bV bL hg hf nW dS hz hlen lS bU jK hc=>
     rename_i Sq f t0 eX aO cs;rw[hb]at bL;cases bL;have fW:=dO hf nW (az hg);have fc:=qS bU;refine⟨.cells agg b (i*z+q) n,by simp[iR,WY],?_⟩
     -- a row that is there as it is
     have row:∀(I9:List TV→List (Nat×List TV)) e,(cF es op)[i]? =some e→(∀e',e'.length=z→(∀p∈I9 e',p.1<es.length∧p.2.length=z)∧cF es (I9 e')=(cF es op).set i e')→zr agg n q e o c (.kS m) (fun e'=>.bV z es (I9 e')) m K→ja X c ρ F h o (.cells agg b (i*z+q) n) K:=by
      intro I9 e RE wq hw;obtain⟨eC,jj⟩:=sb lS jK;have hi:i<(cF es op).length:=(List.getElem?_eq_some_iff.1 RE).1;have he:=jj e (List.mem_of_getElem? RE);have ko:(cF es op).set i e=cF es op:=by
       refine List.ext_getElem? fun k=>?_;rw[List.getElem?_set];by_cases ek:i=k
       ·subst ek;rw[if_pos rfl,if_pos hi,RE]
       ·rw[if_neg ek]
      rw[←ko]at hc;generalize cF es op=rows at*
      obtain⟨S1,S2,S3,v1,v2,v3,rfl,rfl,a1,a2,a3⟩:=gW jj hi hc;have e1:v1.length=i*z:=by
       have h1:=a1.len;have:=(eZ jj RE).2;rw[Nat.add_mul]at this;rw[←h1,List.length_take];omega
      have e2:v2.length=z:=by rw[←a2.len];exact he
      refine Dm H K0 hw hl (.inr ⟨_,_,hb⟩) (.inl rfl) a2 (fun hn=>TW fW e1 (by simp only[List.length_drop]at hn ⊢;omega)) fun c' ρ' e' S' hm fj cE Xv=>?_;have jL:=wq e' (by rw[cE];exact he);have:=kf jj hi (a1.bk (T:=fun _=>False) H.wf (fun _ _ _=>rfl) (fun _ h=>h) (fun _ _ _ h=>h) hm (by simp)) Xv (a3.bk (T:=fun _=>False) H.wf (fun _ _ _=>rfl) (fun _ h=>h) (fun _ _ _ h=>h) hm (by simp));rw[←jL.2]at this;refine⟨_,.bV (fj.trans hb) hg hf nW dS hz hlen lS bU jL.1 this,fun R hR=>?_⟩;rw[hS];refine List.Perm.cons _ ?_;show List.Perm _ ((S1++(S'++S3))++R);rw[List.append_assoc,List.append_assoc]
      refine List.Perm.append_left S1 ((hR.append_right S3).trans ?_);rw[List.append_assoc];exact List.perm_append_comm.append_left _
     have eC:=(sb lS jK).1;have Xw:∀{e':List TV},i<es.length→e'.length=z→∀p∈(i,e')::op,p.1<es.length∧p.2.length=z:=fun h1 h2 p hp=>by
      rcases List.mem_cons.1 hp with rfl |hp
      ·exact⟨h1,h2⟩
      ·exact jK p hp
     have Xx:∀{e':List TV},i<es.length→e'.length=z→∀p∈[(i,e')],p.1<es.length∧p.2.length=z:=fun h1 h2 p hp=>by
      simp only[List.mem_singleton]at hp;subst hp;exact⟨h1,h2⟩
     unfold Hk at hw;split at hw
     ·obtain⟨e,he,hw⟩:=hw;exact row (fun e'=>[(i,e')]) e he (fun e' sf=>⟨Xx (List.getElem?_eq_some_iff.1 he).1 sf,rfl⟩) hw
     ·rename_i j ej;obtain⟨o1,o2⟩:=jK (j,ej) (by simp);by_cases V1:i=j
      ·subst V1;exact row (fun e'=>[(i,e')]) ej (by show(es.set i ej)[i]? =_;rw[List.getElem?_set_self o1]) (fun e' sf=>⟨Xx o1 sf,by show es.set i e'=(es.set i ej).set i e';rw[List.set_set]⟩) (hw.1 rfl)
      ·obtain⟨e,he,hw⟩:=hw.2 V1;have RE:(es.set j ej)[i]? =some e:=by rw[List.getElem?_set,if_neg (fun h=>V1 h.symm)];exact he
       exact row (fun e'=>(i,e')::[(j,ej)]) e RE (fun e' sf=>⟨Xw (List.getElem?_eq_some_iff.1 he).1 sf,rfl⟩) hw
     ·obtain⟨e,he,hw⟩:=hw;exact row (fun e'=>(i,e')::op) e he (fun e' sf=>⟨Xw (by rw[←eC];exact(List.getElem?_eq_some_iff.1 he).1) sf,rfl⟩) hw
   ·exact hw.elim
  ·exact hw.elim
theorem pL {kd:TypeDesc} {k:Value} {n:Nat} (hk:kindOk kd k n=true):(∃b,kd= .bool∧k= .bool b∧n=1)∨(∃s,kd= .string∧k= .string s∧n=2)∨(∃i x,kd= .int i∧k= .int i x∧n=iN i):=by
 unfold kindOk at hk;simp only[Bool.and_eq_true,beq_iff,aR]at hk;obtain⟨⟨h0,h1⟩,h2⟩:=hk;cases kd<;>simp[wz]at h1<;>try omega
 ·cases k<;>simp[aY]at h2<;>try omega
  ·exact .inl ⟨_,rfl,rfl,h1.symm⟩
  ·rename_i i x;subst h1;cases i<;>simp[iN]at h2
 ·rename_i i;cases k<;>simp[aY]at h2<;>try omega
  ·subst h1;cases i<;>simp[iN]at h2
  ·rename_i j x;have:i=j:=by subst h1;cases i<;>cases j<;>simp[iN]at h2<;>rfl
   subst this;exact .inr (.inr ⟨_,_,rfl,rfl,h1.symm⟩)
  ·subst h1;cases i<;>simp[iN]at h2
 ·cases k<;>simp[aY]at h2<;>try omega
  ·rename_i i x;subst h1;cases i<;>simp[iN]at h2
  ·exact .inr (.inl ⟨_,rfl,rfl,h1.symm⟩)
theorem jn {kd:TypeDesc} {k:Value} {n:Nat} (hk:kindOk kd k n=true):ik kd=true∧scalar k=true:=by
 rcases pL hk with⟨_,rfl,rfl,_⟩|⟨_,rfl,rfl,_⟩|⟨_,_,rfl,rfl,_⟩<;>exact⟨rfl,rfl⟩
theorem jD {kd:TypeDesc} {k k':Value} {n:Nat} (hk:kindOk kd k n=true) (oK:aY k'=n):Instr.sameNow kd k k'=some (qg k k'):=by
 rcases pL hk with⟨b,rfl,rfl,rfl⟩|⟨s,rfl,rfl,rfl⟩|⟨i,x,rfl,rfl,rfl⟩
 ·cases k'<;>simp[aY]at oK
  ·rfl
  ·rename_i j y;cases j<;>simp[iN]at oK
 ·cases k'<;>simp[aY]at oK
  ·rename_i j y;cases j<;>simp[iN]at oK
  ·rfl
 ·cases k'<;>simp[aY]at oK<;>try(cases i<;>simp[iN]at oK;done)
  rename_i j y;have:i=j:=by cases i<;>cases j<;>simp[iN]at oK<;>rfl
  subst this;simp[Instr.sameNow,qg]
def tM (c:Nat) (ρ:Gh) (F:Nat→Prop) (h:ab) (kd:Nat) (es:List (Value×TV)) (bT:List MapEntry):Prop:=
 es.length=bT.length∧∀(i:Nat) e e',es[i]? =some e→bT[i]? =some e'→e'.key=e.1∧(0<kd∧aY e.1=kd)∧CV e.2=true∧VR c ρ F h e.2 e'.val
theorem tM.aQ {kd:Nat} {e:Value×TV} {es:List (Value×TV)} {bT:List MapEntry} (H:tM c ρ F h kd (e::es) bT):∃e' m,bT=e'::m∧e'.key=e.1∧(0<kd∧aY e.1=kd)∧CV e.2=true∧VR c ρ F h e.2 e'.val∧tM c ρ F h kd es m:=by
 match bT,H with
 |[],H=>have:=H.1;simp at this
 |e'::m,H=>
  obtain⟨h1,h2,h3,h4⟩:=H.2 0 e e' rfl rfl;exact⟨e',m,rfl,h1,h2,h3,h4,by simpa using H.1,fun i x x' q1 q2=>H.2 (i+1) x x' (by simpa using q1) (by simpa using q2)⟩
theorem tM.bK {kd:Nat} {bT:List MapEntry} (H:tM c ρ F h kd [] bT):bT=[]:=by have:=H.1;cases bT<;>simp_all
theorem sk {kd:TypeDesc} {k:Value} {n:Nat} (hk:kindOk kd k n=true):∀{es:List (Value×TV)} {bT:List MapEntry} (i:Nat),tM c ρ F h n es bT→
 (match gH es k with
 |some v=>∃j x,Instr.findNow kd k bT i=some (some (i+j,x))∧VR c ρ F h v x∧CV v=true∧∃e,bT[j]? =some e∧e.val=x
 |none=>Instr.findNow kd k bT i=some none)
 |[],bT,i,H=>by rw[H.bK];rfl
 |e::es,bT,i,H=>by
  obtain⟨e',m,rfl,h1,h2,h3,h4,h5⟩:=H.aQ;unfold gH Instr.findNow;rw[h1,jD hk h2.2];cases hq:qg k e.1 with
  |true=>exact⟨0,e'.val,rfl,h4,h3,e',rfl,rfl⟩
  |false=>
   have ih:=sk hk (i+1) h5;simp only
   split
   ·rename_i v hv;rw[hv]at ih;obtain⟨j,x,q1,q2,q3,e2,q4,q5⟩:=ih;exact⟨j+1,x,by rw[q1];congr 3;omega,q2,q3,e2,by simpa using q4,q5⟩
   ·rename_i hv;rw[hv]at ih;exact ih
theorem BB {t:TV} (hf:fz t=true):Fl t=true:=by
 unfold fz at hf;split at hf
 ·rename_i v;cases v<;>first|rfl |simp[wy]at hf
 ·rfl
 ·rfl
 ·rfl
 ·cases hf
theorem L7 {t:TV} {x:Value} (hv:VR c ρ F h t x) (hf:CV t=true):Ch x x=true:=by
 have one:js x x=true→Ch x x=true:=fun h=>by
  unfold Ch;split
  ·simp[js]at h
  ·exact h
 unfold CV at hf;split at hf
 ·obtain⟨a,rfl,h1⟩:=hv.fi;exact tK h1 (List.all_eq_true.2 fun t ht=>BB (List.all_eq_true.1 hf t ht))
 ·exact one (gJ hv (BB hf))
theorem tM.refl {kd:Nat}:∀{es:List (Value×TV)} {bT:List MapEntry},tM c ρ F h kd es bT→vP bT bT=true
 |[],bT,H=>by rw[H.bK];rfl
 |e::es,bT,H=>by
  obtain⟨e',m,rfl,h1,h2,h3,h4,h5⟩:=H.aQ;simp only[vP,Bool.and_eq_true];refine⟨⟨⟨?_,L7 h4 h3⟩,by simp⟩,h5.refl⟩;rw[h1];have:=h2.2;cases he:e.1<;>rw[he]at this<;>simp[aY]at this<;>try omega
  all_goals simp[Ch,js]
theorem wW {a b:ByteArray}:(a==b)=true↔a=b:=by
 cases a;cases b;show(Array.instBEq.beq _ _)=true↔_;simp
theorem L8 {kd:TypeDesc} {k k':Value} {n:Nat} (hk:kindOk kd k n=true) (oK:aY k'=n) (h:qg k k'=true):k=k':=by
 rcases pL hk with⟨b,rfl,rfl,rfl⟩|⟨s,rfl,rfl,rfl⟩|⟨i,x,rfl,rfl,rfl⟩
 ·cases k'<;>simp[aY]at oK
  ·simpa[qg]using h
  ·rename_i j y;cases j<;>simp[iN]at oK
 ·cases k'<;>simp[aY]at oK
  ·rename_i j y;cases j<;>simp[iN]at oK
  ·simp only[qg]at h;rw[wW.1 h]
 ·cases k'<;>simp[aY]at oK<;>try(cases i<;>simp[iN]at oK;done)
  rename_i j y;have:i=j:=by cases i<;>cases j<;>simp[iN]at oK<;>rfl
  subst this;simpa[qg]using h
theorem sm {kd:TypeDesc} {k:Value} {n:Nat} (hk:kindOk kd k n=true):qg k k=true:=by
 rcases pL hk with⟨b,rfl,rfl,rfl⟩|⟨s,rfl,rfl,rfl⟩|⟨i,x,rfl,rfl,rfl⟩<;>simp[qg,wW]
theorem L9 {a b c:Value} (h:qg a b=true):qg c b=qg c a:=by
 unfold qg at h;split at h
 ·have:=eq_of_beq h;subst this;cases c<;>rfl
 ·have:=eq_of_beq h;subst this;cases c<;>rfl
 ·have:=wW.1 h;subst this;cases c<;>rfl
 ·cases h
theorem iy.find {base:Nat} {kd:TypeDesc} {k:Value} {n:Nat} (hk:kindOk kd k n=true):∀{M:List (Value×TV)} {ev:List MapEntry} {S:Ft} (i:Nat),iy c ρ F h base n S M ev→
 (match gH M k with
 |some v=>∃j x S1 S2 S3,Instr.findNow kd k ev i=some (some (i+j,x))∧S=S1++(S2++S3)∧cI c ρ F h base S2 (aA v) x.cells.toList∧dj v=fA x∧
  ∀c' ρ' v' PL,(∀e∈M,∀t∈aA e.2,lZ t=true)→cI c' ρ' F h base PL (aA v') x.cells.toList→dj v'=fA x→iy c' ρ' F h base n (S1++(PL++S3)) (dE M k v') ev
 |none=>Instr.findNow kd k ev i=some none)
 |[],ev,S,i,H=>by cases H;rfl
 |e::es,ev,S,i,H=>by
  cases H with
  |cons lT ir ha hv hl=>
   rename_i Sa Sb e' m;unfold gH Instr.findNow;rw[lT,jD hk ir.2];cases hq:qg k e.1 with
   |true=>
    refine⟨0,e'.val,[],Sa,Sb,rfl,rfl,hv,ha,fun c' ρ' v' PL bU ze vV=>?_⟩;unfold dE;rw[hq];have:=L8 hk ir.2 hq;subst this;have:=iy.cons (e:=(e.1,v')) lT ir vV ze (hl.conv (c':=c') (ρ':=ρ') fun e he=>bU e (List.mem_cons_of_mem _ he));exact this
   |false=>
    have ih:=iy.find hk (i+1) hl;simp only
    split
    ·rename_i v Hc;rw[Hc]at ih;obtain⟨j,x,S1,S2,S3,q1,q2,q3,q4,q5⟩:=ih;refine⟨j+1,x,Sa++S1,S2,S3,by rw[q1];congr 3;omega,by rw[q2,List.append_assoc],q3,q4,fun c' ρ' v' PL bU ze vV=>?_⟩;unfold dE;rw[hq,List.append_assoc];exact .cons lT ir ha (hv.conv (bU e List.mem_cons_self)) (q5 c' ρ' v' PL (fun e he=>bU e (List.mem_cons_of_mem _ he)) ze vV)
    ·rename_i Hc;rw[Hc]at ih;exact ih
theorem VR.eM {v:TV} {x:Value} (H:dH c ρ F h (aA v) x.cells.toList) (ha:dj v=fA x):VR c ρ F h v x:=by
 cases v with
 |agg cs=>
  cases x<;>simp[dj,fA]at ha;exact .gd H
 |_=>
  have hx:x.cells= #[x]:=by cases x<;>first|rfl |simp[dj,fA]at ha
  rw[hx]at H;exact H.head
theorem yX {b:Bool} {l:List TV} {v:TV} {x:Value} (ho:eM b l=some v) (H:dH c ρ F h l x.cells.toList) (ha:b=fA x):aA v=l∧dj v=b∧VR c ρ F h v x:=by
 unfold eM at ho;split at ho
 ·cases ho;refine⟨rfl,rfl,?_⟩;cases x<;>simp[fA]at ha;exact .gd H
 ·cases ho;have hx:x.cells= #[x]:=by cases x<;>first|rfl |simp[fA]at ha
  rw[hx]at H;have hv:=H.head;have hn:∀cs,v≠ .agg cs:=by
   rintro cs rfl;obtain⟨a,rfl,_⟩:=hv.fi;simp[fA]at ha
  refine⟨?_,?_,hv⟩
  ·cases v<;>first|rfl |exact absurd rfl (hn _)
  ·cases v<;>first|rfl |exact absurd rfl (hn _)
 ·cases ho
theorem Ma {base:Nat} {S:Ft} {t:TV} {x:Value} (H:CR F h base S (.c t x)):js x x=true:=by
 cases H with
 |fz hf hv=>exact gJ hv (BB hf)
 |own hl hv=>
  rename_i y l;cases y with
  |cells cs=>exact gJ hv rfl
  |map kd es=>exact gJ hv rfl
  |eT kd es op=>exact gJ hv rfl
  |arr z w es=>exact gJ hv rfl
  |bV z es op=>exact gJ hv rfl
  |gO ks=>cases hv;simp[js]
theorem cI.fZ {base:Nat} {S:Ft} {l:List TV} {m:List Value} (H:cI c ρ F h base S l m):(∀t∈l,Fl t=true∨lZ t=true)→fZ m m=true:=by
 induction H with
 |nil=>intro _;rfl
 |vr hv _ ih=>
  rename_i t v l m _;intro hc;simp only[M.fZ,Bool.and_eq_true];refine⟨?_,ih fun t ht=>hc t (List.mem_cons_of_mem _ ht)⟩;rcases hc t List.mem_cons_self with h1|h1
  ·exact gJ hv h1
  ·unfold lZ at h1;split at h1
   ·cases hv
   ·exact gJ hv (BB h1)
 |cl hv _ ih=>
  intro hc;simp only[M.fZ,Bool.and_eq_true];exact⟨Ma hv,ih fun t ht=>hc t (List.mem_cons_of_mem _ ht)⟩
theorem Jo {x:Value} (h:fZ x.cells.toList x.cells.toList=true):Ch x x=true:=by
 cases x with
 |agg a=>exact h
 |_=>simpa[Ch,fZ,Value.cells]using h
theorem iy.refl {base kd:Nat} {S:Ft} {l:List (Value×TV)} {m:List MapEntry} (H:iy c ρ F h base kd S l m):(∀e∈l,∀t∈aA e.2,Fl t=true∨lZ t=true)→vP m m=true:=by
 induction H with
 |nil=>intro _;rfl
 |cons hk ir ha hv _ ih=>
  rename_i e e' l m _;intro hc;simp only[vP,Bool.and_eq_true];refine⟨⟨⟨?_,Jo (hv.fZ (hc _ List.mem_cons_self))⟩,by simp⟩,ih fun e he=>hc e (List.mem_cons_of_mem _ he)⟩;rw[hk];have:=ir.2;cases he:e.1<;>rw[he]at this<;>simp[aY]at this<;>try omega
  all_goals simp[Ch,js]
theorem zH {k k':Value} {v:TV} (bj:qg k k'=false):∀{es:List (Value×TV)},gH (dE es k' v) k=gH es k
 |[]=>by simp[dE,gH,bj]
 |e::es=>by
  unfold dE;cases hq:qg k' e.1 with
  |true=>
   have h2:qg k e.1=false:=(L9 hq).trans bj;simp[gH,bj,h2]
  |false=>
   simp only[gH];rw[zH bj]
theorem iy.kinds {base kd:Nat} {S:Ft} {l:List (Value×TV)} {m:List MapEntry} (H:iy c ρ F h base kd S l m):∀e∈l,aY e.1=kd:=by
 induction H with
 |nil=>simp
 |cons hk ir ha hv _ ih=>
  intro e he;rcases List.mem_cons.1 he with rfl |he
  ·exact ir.2
  ·exact ih e he
theorem Dp {k:Value} {v:TV}:∀{es:List (Value×TV)},(k,v)∈dE es k v
 |[]=>by simp[dE]
 |e::es=>by
  unfold dE;cases qg k e.1 with
  |true=>simp
  |false=>exact List.mem_cons_of_mem _ Dp
theorem wX {kd:TypeDesc} {k:Value} {n:Nat} {v:TV} (hk:kindOk kd k n=true):∀{es:List (Value×TV)},gH (dE es k v) k=some v
 |[]=>by simp[dE,gH,sm hk]
 |e::es=>by
  unfold dE;cases hq:qg k e.1 with
  |true=>simp[gH,sm hk]
  |false=>simp[gH,hq,wX hk]
theorem Jp (H:Mem X ρ F o c h) {S:Nat→Ft} (K0:MO X ρ F o c h S) {v:TV} {x y:Value} {m b:Nat} {yo:TO} {S1 S2 S3:Ft} {put:TV→TO} {q:RQ} {wrap:TV→TV} (hw:Fs v o c (.kS m) put m fun v o c lg=>K (wrap v) o c lg)
 (hl:look o m=some yo) (hS:S m=(b,true)::(S1++(S2++S3))) (hc:cI c ρ F h X.base S2 (aA v) x.cells.toList) (ha:dj v=fA x) (gl:q.run h=some y) (fI:∀c ρ v,VR c ρ F h v x→VR c ρ F h (wrap v) y)
 (kU:fF ρ F o h ρ o h (.kS m) (.rd q h))
 (TU:∀c' ρ' v',ρ' m=ρ m→cI c' ρ' F h X.base [] (aA v') x.cells.toList→dj v'=fA x→OR c' ρ' F h X.base m ((b,true)::(S1++S3)) (put v')):
 ja X c ρ F h o q K:=by
 unfold Fs at hw;split at hw
 ·rename_i mg;obtain⟨Ss,ls,b1,b2,b3⟩:=hc.opened c;have vo:ls.length=0:=by rw[b2.l2,mg];rfl
  have hV:=b3 c ρ (fun _ _ h=>h) om (fun i q hq=>by
   have:=(List.getElem?_eq_some_iff.1 hq).1;omega)
  rw[tL mg]at hV;exact ja.same H gl (fI _ _ _ (VR.eM hV ha)) hw kU
 ·rename_i q0 new mg;split at hw
  ·rename_i v' hv;have hA:∀ls:List Loc,∀t v,VR c ρ F h t v→VR (c+(new.length+1)) (oe ρ c ls) F h t v:=fun ls t v=>VR.mono om (fun n l hn h1=>by rwa [fw _ _ hn]at h1) (fun n b h1=>by rw[fw _ _ (H.names _ _ h1)];exact h1) (fun _ h=>h) (fun _ _ _ h=>h);obtain⟨Ss,ls,b1,b2,b3⟩:=hc.opened c;rw[mg]at b2;have CH:ls.length=new.length+1:=b2.l2;have hV:=b3 (c+(new.length+1)) (oe ρ c ls) (hA ls) om (fun i q hq=>by rw[se];exact hq);obtain⟨e1,e2,e3⟩:=yX hv hV ha;have zG:(S m).Perm (((b,true)::(S1++S3))++Ss.flatten):=by
    rw[hS,←b1];refine List.Perm.cons _ ?_;show List.Perm _ ((S1++S3)++S2);rw[List.append_assoc];exact List.perm_append_comm.append_left _
   obtain⟨M,hk⟩:=H.opens K0 (y1:=put v') hl b2 zG (fun _=>TU _ _ v' (fw _ _ (H.lt hl)) (by rw[e1];exact cI.kC hV) (e2.trans ha));cases kU with
   |kS hr hh sY rA PM=>
    refine⟨_,_,_,_,_,_,gl,⟨M,hk,Nat.le_refl _,fun _ h=>h,fun _ _ _ h=>h⟩,fI _ _ _ e3,hw,.kS (fun n' y' sf _=>⟨?_,fw _ _ (H.lt sf),fun b _=>⟨rfl,fun _ h=>h⟩⟩) rfl hl rA PM⟩;rw[jA,tC b2,if_pos (H.lt sf)];simp only
    rw[ew];by_cases em:n'=m
    ·rw[if_pos em,hl];exact⟨_,rfl⟩
    ·rw[if_neg em];exact⟨_,sf⟩
  ·exact hw.elim
theorem FK (L:ck T E) (H:Mem X ρ F o c h) {t:TypeId} {m k:TV} {ok:Bool} {mv kv:Value} (hw:Bg T t m k ok o c K) (hm:VR c ρ F h m mv) (hk:VR c ρ F h k kv):
 (mv= .map none∧iY c ρ F h o ((E.desc t).bind fun d=>(match(generalizing:=false) d,mv with
  | .map kt elem,.map none=>(E.desc kt).bind fun kd=>(E.zero elem).bind fun z=>bC (ik kd&&scalar kv&&ff z) (some (bif ok then .tuple #[z,.bool false]else z))
  |_,_=>none)) K)∨
 (∃r,mv= .map (some r)∧∃q,((E.desc t).bind fun d=>(match(generalizing:=false) d,mv with
  | .map kt elem,.map (some r)=>(E.desc kt).bind fun kd=>(E.zero elem).bind fun z=>bC (ik kd&&scalar kv&&ff z) (some (RQ.look r kd kv z ok))
  |_,_=>none))=some q∧ja X c ρ F h o q K):=by
 unfold Bg at hw;split at hw
 ·rename_i kt elem hd;split at hw
  ·rename_i kd z yY ir hz;obtain⟨jL,nq⟩:=L.zero _ _ hz;rw[hk.dF.1]
   have hq:∀b,kindOk kd yY (wz kd)=true→((E.desc t).bind fun d=>(match(generalizing:=false) d,Value.map (some b)with
    | .map kt elem,.map (some r)=>(E.desc kt).bind fun kd=>(E.zero elem).bind fun z=>bC (ik kd&&scalar yY&&ff z) (some (RQ.look r kd yY z ok))
    |_,_=>none))=some (RQ.look b kd yY z ok):=by
    intro b j9;obtain⟨uE,Jq⟩:=jn j9;rw[L.desc _ _ hd];simp only[Option.bind_some,L.desc _ _ ir,jL,uE,Jq,nq,Bool.and_self,bC]
   have O3:∀{n},kindOk kd yY n=true→kindOk kd yY (wz kd)=true:=fun {n} h=>by
    have h0:=h;unfold kindOk at h0 ⊢;simp only[Bool.and_eq_true,beq_iff]at h0 ⊢;obtain⟨⟨q1,q2⟩,q3⟩:=h0;subst q2;exact⟨⟨q1,trivial⟩,q3⟩
   split at hw
   ·rename_i n;right;split at hw
    ·rename_i kn es hl;split at hw
     ·rename_i j9;obtain⟨r,hr,hw⟩:=hw;obtain⟨Sm,hO⟩:=H.b8 hl;cases hO with
      |map hb hg hlen hc ct=>
       rename_i b clock bT;have hE:tM c ρ F h kn es bT:=⟨hlen,hc⟩;cases hm with
       |mp bL=>
        rw[hb]at bL;cases bL;refine⟨b,rfl,_,hq b (O3 j9),?_⟩;have yZ:eO h b=some (bT,clock):=by unfold eO;rw[hg]
        have kU:fF ρ F o h ρ o h (.kS n) (.rd (RQ.look b kd yY z ok) h):=.kS (.refl _) rfl hl (.inl hb) ⟨_,yZ,hE.refl⟩;have hf:=sk j9 0 hE;rw[hr]at hf;cases r with
        |some v=>
         obtain⟨j,x,q1,q2,_⟩:=hf;simp only at hw;cases ok with
         |true=>exact ja.same H (by simp[RQ.run,yZ,jN,q1]) (.iw (.cons q2 (.cons (.s rfl) .nil))) hw kU
         |false=>exact ja.same H (by simp[RQ.run,yZ,jN,q1]) q2 hw kU
        |none=>
         simp only at hw hf;cases ok with
         |true=>exact ja.same H (by simp[RQ.run,yZ,jN,hf]) (.iw (.cons (qP nq) (.cons (.s rfl) .nil))) hw kU
         |false=>exact ja.same H (by simp[RQ.run,yZ,jN,hf]) (qP nq) hw kU
     ·exact hw.elim
    ·rename_i kn es op hl;split at hw
     ·rename_i j9;obtain⟨S,K0⟩:=H.ex;have hO:=K0.b8 n _ hl;generalize hS:S n=Sm at hO;cases hO with
      |eT hb hg bU hc ct=>
       rename_i Sq b clock ev;cases hm with
       |mp bL=>
        rw[hb]at bL;cases bL;refine⟨b,rfl,_,hq b (O3 j9),?_⟩;have yZ:eO h b=some (ev,clock):=by unfold eO;rw[hg]
        have Xy:∀{M:List (Value×TV)} {S0:Ft} {lg:VL},iy c ρ F h X.base kn S0 M ev→gH M yY=none→fF ρ F o h ρ o h lg (.rd (RQ.look b kd yY z ok) h)→K (LO ok (cT z) false) o c lg→ja X c ρ F h o (RQ.look b kd yY z ok) K:=by
         intro M S0 lg hE Cl kU hw;have hf:=hE.find j9 0;rw[Cl]at hf;simp only at hf;cases ok with
         |true=>exact ja.same H (by simp[RQ.run,yZ,jN,hf]) (.iw (.cons (qP nq) (.cons (.s rfl) .nil))) hw kU
         |false=>exact ja.same H (by simp[RQ.run,yZ,jN,hf]) (qP nq) hw kU
        have met:∀{M:List (Value×TV)} {S0:Ft} {lg:VL} {v:TV},iy c ρ F h X.base kn S0 M ev→gH M yY=some v→(aA v).all eI=true→fF ρ F o h ρ o h lg (.rd (RQ.look b kd yY z ok) h)→K (LO ok v true) o c lg→ja X c ρ F h o (RQ.look b kd yY z ok) K:=by
         intro M S0 lg v hE hv hp kU hw;have hf:=hE.find j9 0;rw[hv]at hf;obtain⟨j,x,S1,S2,S3,q1,q2,q3,q4,_⟩:=hf;obtain⟨hV,_⟩:=q3.VX (fun t v hv hf=>hv.dL hf) hp;have hx:=VR.eM hV q4;cases ok with
         |true=>exact ja.same H (by simp[RQ.run,yZ,jN,q1]) (.iw (.cons hx (.cons (.s rfl) .nil))) hw kU
         |false=>exact ja.same H (by simp[RQ.run,yZ,jN,q1]) hx hw kU
        split at hw
        ·obtain⟨r,hr,hw⟩:=hw;have hE:iy c ρ F h X.base kn Sq es ev:=hc;have kU:fF ρ F o h ρ o h (.kS n) (.rd (RQ.look b kd yY z ok) h):=.kS (.refl _) rfl hl (.inl hb) ⟨_,yZ,hE.refl fun e he t ht=>.inr (bU e he t ht)⟩;cases r with
         |none=>simp only at hw;exact Xy hE hr kU hw
         |some v=>
          simp only at hw;have hf:=hE.find j9 0;rw[hr]at hf;obtain⟨j,x,S1,S2,S3,q1,q2,q3,q4,q5⟩:=hf;refine Jp H K0 (x:=x) (y:=bif ok then .tuple #[x,.bool true]else x) (wrap:=fun v=>LO ok v true) hw hl (by rw[hS,q2]) q3 q4 (by simp[RQ.run,yZ,jN,q1]) (fun c ρ v hv=>?_) kU fun c' ρ' v' fj ze vV=>?_
          ·cases ok with
           |true=>exact .iw (.cons hv (.cons (.s rfl) .nil))
           |false=>exact hv
          ·exact .eT (fj.trans hb) hg bU (q5 c' ρ' v' [] bU ze vV) ct
        ·rename_i k' w;obtain⟨KT,Mb⟩:=hw;have hE:iy c ρ F h X.base kn Sq (dE es k' w) ev:=hc;have kU:fF ρ F o h ρ o h (LL (aA w) (.kS n)) (.rd (RQ.look b kd yY z ok) h):=by
          unfold LL;split
          ·rename_i he;refine .kS (.refl _) rfl hl (.inl hb) ⟨_,yZ,hE.refl fun e Co t ht=>?_⟩;rcases wJ Co with rfl |h1
           ·exact .inl (List.all_eq_true.1 he t ht)
           ·exact .inr (bU e h1 t ht)
          ·exact .bad
         by_cases ek:yY=k'
         ·subst ek;have hv:=wX (v:=w) (es:=es) j9;have hf:=hE.find j9 0;rw[hv]at hf;obtain⟨j,x,S1,S2,S3,q1,q2,q3,q4,_⟩:=hf;exact met hE hv (KT rfl).1 kU (KT rfl).2
         ·obtain⟨r,hr,hw⟩:=Mb ek;have bj:qg yY k'=false:=by
           cases hq:qg yY k' with
           |false=>rfl
           |true=>exact absurd (L8 j9 (hE.kinds _ Dp) hq) ek
          have:=zH (v:=w) (es:=es) bj;cases r with
          |none=>simp only at hw;exact Xy hE (this.trans hr) kU hw
          |some v=>simp only at hw;exact met hE (this.trans hr) hw.1 kU hw.2
        ·exact hw.elim
     ·exact hw.elim
    ·exact hw.elim
   ·left;split at hw
    ·rename_i j9;obtain⟨uE,Jq⟩:=jn j9;have Zk:=hm.dF.1;subst Zk;refine⟨rfl,?_⟩
     have hq:∀y:Value,(bif ok then Value.tuple #[z,.bool false]else z)=y→((E.desc t).bind fun d=>(match d,Value.map none with
            | .map kt elem,.map none=>(E.desc kt).bind fun kd=>(E.zero elem).bind fun z=>bC (ik kd&&scalar yY&&ff z) (some (bif ok then .tuple #[z,.bool false]else z))
            |_,_=>none))=some y:=by
      rintro y rfl;rw[L.desc _ _ hd];simp only[Option.bind_some,L.desc _ _ ir,jL,uE,Jq,nq,Bool.and_self,bC]
     cases ok with
     |true=>exact⟨_,_,hq _ rfl,.iw (.cons (qP nq) (.cons (.s rfl) .nil)),hw⟩
     |false=>exact⟨_,_,hq _ rfl,qP nq,hw⟩
    ·exact hw.elim
   ·exact hw.elim
  ·exact hw.elim
 ·exact hw.elim
end
section
variable {T E:Env} {X:Cx} {ρ:Gh} {F:Nat→Prop} {o:Ob} {c:Nat} {af:AF} {f:Fr} {h:ab} {p:Oper} {K:OK}
def esA:Option TO→Option (Nat×List (List TV))
 |some (.arr z _ es)=>some (z,es)
 |_=>none
theorem FL (o:Ob) (m n:Nat):esA (look (iV o m) n)=esA (look o n):=by
 cases hm:look o m with
 |none=>unfold iV;rw[hm]
 |some y=>
  cases y with
  |arr z w es=>
   unfold iV;rw[hm];simp only
   rw[ew];by_cases e:n=m
   ·subst e;rw[if_pos rfl,hm];rfl
   ·rw[if_neg e]
  |_=>unfold iV;rw[hm]
theorem Mc (o:Ob) (n:Nat):cX o (.tk n)=(esA (look o n)).map fun p=>.sl p.1 p.2 false:=by
 show(match look o n with|some (.arr z _ es)=>some (TV.sl z es false)|_=>none)=_;cases look o n with
 |none=>rfl
 |some y=>cases y<;>rfl
theorem FM (o:Ob) (m:Nat) (t:TV):cX (iV o m) t=cX o t:=by
 cases t with
 |tk n=>rw[Mc,Mc,FL]
 |mT t v=>cases v<;>try rfl
          rename_i w;cases w<;>rfl
 |dc g a k=>cases a<;>cases k<;>rfl
 |_=>rfl
theorem wY (o:Ob) (v t:TV):cX (share1 o v) t=cX o t:=by
 cases v<;>try rfl
 exact FM _ _ _
theorem uL (o:Ob) (v:TV):∀l,oO (share1 o v) l=oO o l
 |[]=>rfl
 |t::l=>by simp only[oO,wY,uL o v l]
theorem Md {t t':TV} (hf:cX o t=some t'):fz t'=true:=by
 unfold cX at hf;split at hf
 ·split at hf
  ·rename_i hp;cases hf;exact hp
  ·cases hf
 ·cases hf;rfl
 ·split at hf
  ·cases hf;rfl
  ·cases hf
 ·cases hf;rfl
 ·cases hf;rfl
 ·cases hf
theorem vy:∀{l l':List TV},oO o l=some l'→(∀t∈l',fz t=true)∧l'.length=l.length
 |[],l',hf=>by simp[oO]at hf;subst hf;exact⟨by simp,rfl⟩
 |t::l,l',hf=>by
  unfold oO at hf;split at hf
  ·rename_i v' hv;split at hf
   ·rename_i l2 hl;cases hf;obtain⟨h1,h2⟩:=vy hl;refine⟨fun t ht=>?_,by simp[h2]⟩;rcases List.mem_cons.1 ht with rfl |ht
    ·exact Md hv
    ·exact h1 t ht
   ·cases hf
  ·cases hf
structure oW (X:Cx) (ρ:Gh) (c:Nat) (h:ab) (F:Nat→Prop) (o:Ob) (F':Nat→Prop) (o':Ob):Prop where
 mem:Mem X ρ F' o' c h
 bk:∀t x,VR c ρ F h t x→VR c ρ F' h t x
 FF:∀b,F b→F' b
 wk:∀n y,look o n=some y→∃y',look o' n=some y'∧ef y y'
theorem oW.refl (H:Mem X ρ F o c h):oW X ρ c h F o F o:=⟨H,fun _ _ h=>h,fun _ h=>h,fun _ y hl=>⟨y,hl,ef.refl y⟩⟩
theorem oW.trans {F1 F2:Nat→Prop} {o1 o2:Ob} (A:oW X ρ c h F o F1 o1) (B:oW X ρ c h F1 o1 F2 o2):oW X ρ c h F o F2 o2:=
 ⟨B.mem,fun t x hx=>B.bk t x (A.bk t x hx),fun b hb=>B.FF b (A.FF b hb),fun n y hl=>by
  obtain⟨y1,h1,h2⟩:=A.wk n y hl;obtain⟨y2,h3,h4⟩:=B.wk n y1 h1;exact⟨y2,h3,h2.trans h4⟩⟩
theorem Jr (H:Mem X ρ F o c h) (v:TV):∃F',oW X ρ c h F o F' (share1 o v)∧∀v' x,cX o v=some v'→VR c ρ F h v x→VR c ρ F' h v' x:=by
 cases v with
 |tk n=>
  obtain⟨F',h1,h2,h3,h4⟩:=H.share n;refine⟨F',⟨h1,h2,h3,oU o n⟩,fun v' x hf hx=>?_⟩;unfold cX at hf;simp only at hf;split at hf
  ·rename_i z w es hl;cases hf;exact h4 _ _ _ _ hl hx
  ·cases hf
 |sl z es fl=>
  refine⟨F,.refl H,fun v' x hf hx=>?_⟩;simp only[cX,Option.some.injEq]at hf;subst hf;cases hx with
  |nil he=>exact .nil he
  |sl h1 h2 h3 h4 h5 h6 h7 h8 h9 h10=>exact .sl h1 h2 h3 h4 h5 (fun h=>by cases h) h7 h8 h9 h10
 |s w=>
  refine⟨F,.refl H,fun v' x hf hx=>?_⟩;unfold cX at hf;simp only at hf;split at hf
  ·cases hf;exact hx
  ·cases hf
 |mT t w=>
  refine⟨F,.refl H,fun v' x hf hx=>?_⟩;unfold cX at hf;split at hf<;>simp_all
  all_goals(first|(obtain⟨rfl,rfl⟩:= ‹_∧_›;subst hf;exact hx)|skip)
 |dc g a k=>
  refine⟨F,.refl H,fun v' x hf hx=>?_⟩;unfold cX at hf;split at hf<;>simp_all
  all_goals(first|(obtain⟨rfl,rfl,rfl⟩:= ‹_∧_∧_›;subst hf;exact hx)|skip)
 |_=>exact⟨F,.refl H,fun v' x hf hx=>by simp[cX]at hf⟩
theorem pM:∀(l:List TV) {F:Nat→Prop} {o:Ob},Mem X ρ F o c h→∃F',oW X ρ c h F o F' (shares o l)∧∀l' m,oO o l=some l'→dH c ρ F h l m→dH c ρ F' h l' m
 |[],F,o,H=>⟨F,.refl H,fun l' m hf hm=>by simp[oO]at hf;subst hf;exact hm⟩
 |v::l,F,o,H=>by
  obtain⟨F1,A,a⟩:=Jr H v;obtain⟨F2,B,b⟩:=pM l A.mem;refine⟨F2,A.trans B,fun l' m hf hm=>?_⟩;unfold oO at hf;split at hf
  ·rename_i v' hv;split at hf
   ·rename_i l2 hl;cases hf;obtain⟨x,m',rfl,h1,h2⟩:=hm.aQ;exact .cons (B.bk _ _ (a v' x hv h1)) (b l2 m' (by rw[uL];exact hl) (h2.qh A.bk))
   ·cases hf
  ·cases hf
theorem PN (H:Mem X ρ F o c h) (v:TV) (ho:okV v=true):∃F',oW X ρ c h F o F' (shares o (aA v))∧∀v' x,LJ o v=some v'→VR c ρ F h v x→VR c ρ F' h v' x∧CV v'=true:=by
 obtain⟨F',A,a⟩:=pM (aA v) H;refine⟨F',A,fun v' x hf hx=>?_⟩;have one:(∀cs,v≠ .agg cs)→VR c ρ F' h v' x∧CV v'=true:=fun EJ=>by
  have sZ:aA v=[v]:=by cases v<;>first|rfl |exact absurd rfl (EJ _)
  have Hc:LJ o v=cX o v:=by cases v<;>first|rfl |exact absurd rfl (EJ _)
  rw[Hc]at hf;have gU:=Md hf;rw[sZ]at a;have:=a [v'] [x] (by simp[oO,hf]) (.cons hx .nil);refine⟨this.head,?_⟩;cases v'<;>simp[fz]at gU<;>simp[CV,fz,gU]
 cases v with
 |agg cs=>
  obtain⟨q,rfl,h1⟩:=hx.fi;simp only[LJ]at hf;split at hf
  ·rename_i cs' hc;cases hf;refine⟨.gd (a cs' q.toList hc h1),?_⟩;simp only[CV];exact List.all_eq_true.2 (vy hc).1
  ·cases hf
 |_=>exact one (by intro cs e;cases e)
theorem Mem.BC (H:Mem X ρ F o c h) {S:Nat→Ft} (K:MO X ρ F o c h S) {n b:Nat} {y:TO} (hl:look o n=some y) (hb:zD ρ n b):b<h.size∧hd h b∈dk (S n):=by
 rcases(K.b8 n y hl).block with⟨b',o',h1,h2,h3,h4⟩|⟨b',z,len,cs,f,t0,eX,c0,t1,vS,h1,h2,h3,h4⟩|⟨z,h1⟩
 ·rcases hb with hb|⟨z,l,hb⟩<;>rw[h1]at hb<;>cases hb
  exact⟨H.wf.lt h2,by rw[h3];exact h4⟩
 ·rcases hb with hb|⟨z,l,hb⟩<;>rw[h1]at hb<;>cases hb
  exact⟨H.wf.lt h2,by rw[b5 h2];exact h4⟩
 ·rcases hb with hb|⟨z,l,hb⟩<;>rw[h1]at hb<;>cases hb
theorem Mem.wZ (H:Mem X ρ F o c h) {n b:Nat} {y:TO} (hl:look o n=some y) (hb:zD ρ n b):b<h.size:=by
 obtain⟨S,K⟩:=H.ex;exact(H.BC K hl hb).1
theorem eV.alloc {F1:Nat→Prop} {o1:Ob} (H:Mem X ρ F o c h) (S:oW X ρ c h F o F1 o1) {md:Made} {hd:qq} {y:TO} {l:Loc} {v:TV} (hp:aI E af p=none) (hq:bG E af p=none) (ha:bc E af p=some (md,hd))
 (hM:Mem X (cu ρ c (some l)) F1 ((c,y)::o1) (c+1) (h.push (md.obj h.size))) (hk:∀t x,VR c ρ F1 h t x→VR (c+1) (cu ρ c (some l)) F1 (h.push (md.obj h.size)) t x)
 (hv:VR (c+1) (cu ρ c (some l)) F1 (h.push (md.obj h.size)) v (hd.val h.size)) (hK:K v ((c,y)::o1) (c+1) .alloc):eV E X ρ F o c af h p K:=by
 refine⟨0,⟨hd.val h.size,h.push (md.obj h.size),.alloc h (h.push (md.obj h.size))⟩,v,_,_,_,F1,.alloc,fun n _=>?_,hK,⟨hM,fun t x hx=>hk t x (S.bk t x hx),by rw[ab.size_push];omega,S.FF,fun b cs hb hr=>by rw[eB H.wf.le _ (H.Hy hb)];exact hr⟩,hv,
  .alloc fun n y' hl _=>⟨?_,?_,fun b hb=>?_⟩⟩
 ·unfold eL;rw[hp,hq,ha]
 ·have:=H.lt hl;rw[aJ,if_neg om];obtain⟨y2,q1,_⟩:=S.wk n y' hl;exact⟨y2,q1⟩
 ·have:=H.lt hl;rw[bd _ _ om]
 ·have:=H.wZ hl hb;exact⟨by rw[ab.ao,if_neg om],fun cs hr=>by rw[eB H.wf.le _ this];exact hr⟩
end
section
variable {T E:Env} {X:Cx} {ρ:Gh} {F:Nat→Prop} {o:Ob} {c:Nat} {af:AF} {f:Fr} {h:ab} {p:Oper} {K:OK}
theorem tN (H:Mem X ρ F o c h) {cs:List TV} {cv:List Value} (hc:dH c ρ F h cs cv) (hp:aI E af p=none) (hq:bG E af p=none) (ha:bc E af p=some (.cells cv,.ptr)) (hK:K (.ptr c 0) ((c,.cells cs)::o) (c+1) .alloc):eV E X ρ F o c af h p K:=by
 obtain⟨h1,h2⟩:=H.LR hc;exact eV.alloc H (.refl H) (md:=.cells cv) (hd:=.ptr) hp hq ha h1 h2 (.ptr (aK _ _ _)) hK
theorem PO (H:Mem X ρ F o c h) (kd:Nat) (hp:aI E af p=none) (hq:bG E af p=none) (ha:bc E af p=some (.map,.map)) (hK:K (.mp c) ((c,.map kd [])::o) (c+1) .alloc):eV E X ρ F o c af h p K:=by
 obtain⟨h1,h2⟩:=H.TG kd;exact eV.alloc H (.refl H) (md:=.map) (hd:=.map) hp hq ha h1 h2 (.mp (aK _ _ _)) hK
theorem HJ {F1:Nat→Prop} {o1:Ob} (H:Mem X ρ F o c h) (S:oW X ρ c h F o F1 o1) {z cap:Nat} {es:List (List TV)} {cv:List Value} (hE:ER c ρ F1 h z es cv) (hz:0<z) (gD:es.length≤cap)
 (hp:aI E af p=none) (hq:bG E af p=none) (ha:bc E af p=some (.cells cv,.slice z es.length cap)) (hK:K (.tk c) ((c,.arr z true es)::o1) (c+1) .alloc):eV E X ρ F o c af h p K:=by
 obtain⟨h1,h2⟩:=S.mem.Bs hE hz;refine eV.alloc H S (md:=.cells cv) (hd:=.slice z es.length cap) hp hq ha h1 h2 (.tk om rfl (fun b z' len hx=>?_) (fun z' hx=>?_)) hK
 ·rw[aK]at hx;cases hx;exact⟨cap,gD,rfl⟩
 ·rw[aK]at hx;cases hx
theorem ER.replicate {z:Nat} {zs:List TV} {zv:List Value} (hz:dH c ρ F h zs zv) (hl:zs.length=z) (hf:zs.all M.fz=true):∀k,ER c ρ F h z (List.replicate k zs) (aP zv k)
 |0=>.nil z
 |k+1=>by
  have ih:=ER.replicate hz hl hf k;have h1:ER c ρ F h z [zs] zv:=by
   refine⟨by rw[←hz.1,hl];simp,fun e he=>by simp at he;subst he;exact hl,fun e he t ht=>by simp at he;subst he;exact List.all_eq_true.1 hf t ht,fun i j e t v q1 q2 q3=>?_⟩;cases i with
   |zero=>simp at q1;subst q1;exact hz.2 j t v q2 (by simpa using q3)
   |succ i=>simp at q1
  exact h1.append ih
theorem lx {α:Type}:∀{n:Nat} {l xs:List α},n+xs.length≤l.length→∃r,cZ l n xs=some r
 |0,l,[],_=>⟨l,by simp[cZ]⟩
 |0,[],x::xs,h=>by simp at h
 |0,y::l,x::xs,h=>by
  obtain⟨r,hr⟩:=lx (n:=0) (l:=l) (xs:=xs) (by simp at h ⊢;omega);exact⟨x::r,by simp[cZ,hr]⟩
 |n+1,[],xs,h=>by simp at h
 |n+1,y::l,xs,h=>by
  obtain⟨r,hr⟩:=lx (n:=n) (l:=l) (xs:=xs) (by simp at h ⊢;omega);exact⟨y::r,by simp[cZ,hr]⟩
theorem w6 {α:Type}:∀{l r:List α} {n:Nat} {x:α},setAt l n x=some r→n<l.length∧r.length=l.length∧∀i,r[i]? =if i=n then some x else l[i]?
 |[],r,n,x,h=>by simp[setAt]at h
 |y::l,r,0,x,h=>by
  simp[setAt]at h;subst h;refine⟨by simp,by simp,fun i=>?_⟩;cases i<;>simp
 |y::l,r,n+1,x,h=>by
  unfold setAt at h;split at h
  ·rename_i l' hl;cases h;obtain⟨h1,h2,h3⟩:=w6 hl;refine⟨by simp;omega,by simp[h2],fun i=>?_⟩;cases i with
   |zero=>simp
   |succ i=>simp[h3 i]
  ·cases h
theorem ER.setAt {z:Nat} {es bT:List (List TV)} {cs:List Value} {l:List TV} {i:Nat} (A:ER c ρ F h z es cs) (hs:∀j,bT[j]? =if j=i then some l else es[j]?) (hlen:bT.length=es.length) (hi:i<es.length) (hl:l.length=z) (hf:∀t∈l,M.fz t=true)
 {cs':List Value} (hc:cs'.length=cs.length) (nZ:∀j t v,l[j]? =some t→cs'[i*z+j]? =some v→VR c ρ F h t v) (EY:∀k,(k<i*z∨(i+1)*z≤k)→cs'[k]? =cs[k]?):ER c ρ F h z bT cs':=by
 have key:∀j e,bT[j]? =some e→(j=i∧e=l)∨(j≠i∧es[j]? =some e):=fun j e he=>by
  rw[hs]at he;by_cases e1:j=i
  ·rw[if_pos e1]at he;cases he;exact .inl ⟨e1,rfl⟩
  ·rw[if_neg e1]at he;exact .inr ⟨e1,he⟩
 refine⟨by rw[hc,hlen,A.len],fun e he=>?_,fun e he=>?_,fun j k e t v q1 q2 q3=>?_⟩
 ·obtain⟨j,hj⟩:=List.getElem?_of_mem he;rcases key j e hj with⟨_,rfl⟩|⟨_,h1⟩
  ·exact hl
  ·exact A.each e (List.mem_of_getElem? h1)
 ·obtain⟨j,hj⟩:=List.getElem?_of_mem he;rcases key j e hj with⟨_,rfl⟩|⟨_,h1⟩
  ·exact hf
  ·exact A.fz e (List.mem_of_getElem? h1)
 ·rcases key j e q1 with⟨rfl,rfl⟩|⟨h1,h2⟩
  ·exact nZ k t v q2 q3
  ·have hk:k<z:=by rw[←A.each e (List.mem_of_getElem? h2)];exact(List.getElem?_eq_some_iff.1 q2).1
   refine A.cell j k e t v h2 q2 ?_;rw[←q3];refine(EY _ ?_).symm;rcases Nat.lt_or_gt_of_ne h1 with h3|h3
   ·left;have:(j+1)*z≤i*z:=Nat.mul_le_mul_right z h3;rw[Nat.add_mul]at this;omega
   ·right;have:(i+1)*z≤j*z:=Nat.mul_le_mul_right z h3;omega
theorem zI {n:Nat}:∀{ps:List (Nat×TV)} {o:Ob} {F:Nat→Prop} {es bT:List (List TV)} {cs:List Value} {pv:List (Nat×Value)},Mem X ρ F o c h→rW o n es ps=some bT→ER c ρ F h n es cs→PG c ρ F h ps pv→
 ∃F' cv,oW X ρ c h F o F' (Bj o ps)∧jS (fun i=>some (i*n,n)) cs pv=some cv∧ER c ρ F' h n bT cv∧bT.length=es.length
 |[],o,F,es,bT,cs,[],H,hf,hE,_=>by simp[rW]at hf;subst hf;exact⟨F,cs,.refl H,rfl,hE,rfl⟩
 |[],o,F,es,bT,cs,_::_,H,hf,hE,hq=>hq.elim
 |a::l,o,F,es,bT,cs,[],H,hf,hE,hq=>hq.elim
 |a::l,o,F,es,bT,cs,b::m,H,hf,hE,hq=>by
  obtain⟨e,hv,hr⟩:=hq;unfold rW at hf;split at hf
  ·rename_i l1 hc gU;simp only[Bool.and_eq_true,beq_iff]at hc;split at hf
   ·rename_i Xz fH;obtain⟨s1,s2,s3⟩:=w6 fH;obtain⟨F1,A,a1⟩:=pM (aA a.2) H;obtain⟨f1,f2⟩:=vy gU;have sj:=a1 l1 _ gU (iZ hv hc.1);have CH:l1.length=n:=by omega
    have hE1:=hE.mono A.bk;have Ry:b.2.cells.toList.length=n:=by rw[←sj.1];exact CH
    have hle:a.1*n+b.2.cells.toList.length≤cs.length:=by
     rw[Ry,hE.len];have:(a.1+1)*n≤es.length*n:=Nat.mul_le_mul_right n s1;rw[Nat.add_mul]at this;omega
    obtain⟨ta,BD⟩:=lx hle;obtain⟨t1,t2,t3⟩:=dq BD;have XA:ER c ρ F1 h n Xz ta:=by
     refine hE1.setAt s3 s2 s1 CH f1 t2 (fun j t v q1 q2=>?_) (fun k hk=>?_)
     ·have hj:j<l1.length:=(List.getElem?_eq_some_iff.1 q1).1;rw[t3,if_pos ⟨om,om⟩]at q2;exact sj.2 j t v q1 (by rw[←q2];congr 1;omega)
     ·rw[t3,if_neg];rw[Nat.add_mul]at hk;omega
    have aaE:rW (shares o (aA a.2)) n Xz l=some bT:=by
     have key:∀(o1:Ob),(∀t,cX o1 t=cX o t)→∀(l:List (Nat×TV)) (es:List (List TV)),rW o1 n es l=rW o n es l:=by
      intro o1 h1 l;have h2:∀q,oO o1 q=oO o q:=by
       intro q
       induction q with
       |nil=>rfl
       |cons t q ih=>simp only[oO,h1,ih]
      induction l with
      |nil=>intro es;rfl
      |cons p l ih=>
       intro es;simp only[rW,h2,ih]
     rw[key _ (fun t=>?_)];·exact hf
     have:∀(q:List TV) (o1:Ob),cX (shares o1 q) t=cX o1 t:=by
      intro q
      induction q with
      |nil=>intro o1;rfl
      |cons v q ih=>intro o1;simp only[shares];rw[ih,wY]
     exact this _ _
    have jJ:PG c ρ F1 h l m:=by
     have:∀(l:List (Nat×TV)) (m:List (Nat×Value)),PG c ρ F h l m→PG c ρ F1 h l m:=by
      intro l
      induction l with
      |nil=>intro m hm;cases m<;>exact hm
      |cons p l ih=>
       intro m hm;cases m with
       |nil=>exact hm
       |cons q m=>exact⟨hm.1,A.bk _ _ hm.2.1,ih m hm.2.2⟩
     exact this l m hr
    obtain⟨F2,cv,B,b1,b2,b3⟩:=zI A.mem aaE XA jJ;refine⟨F2,cv,A.trans B,?_,b2,by rw[b3,s2]⟩;obtain⟨i,x⟩:=b;simp only at e;subst e;simp only[jS,Option.bind_some];have:x.cells.size=n:=by simpa using Ry
    rw[this];simp only at BD;simp[bC,BD,b1]
   ·cases hf
  ·cases hf
end
end Go.M
