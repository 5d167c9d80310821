/-
  Part 7 of the library that the proof leans on.
-/
import Derived.Test.YtjeejiegdkojdaaGreatDoorL6
namespace Go.M
open Go
def At (ρ:Gh) (n b:Nat):Prop:=ρ n=some (.dw b)∨∃z l,ρ n=some (.arr b z l)
def lJ (q:RQ) (h:ab):Prop:=match q with
 | .cells _ b o n=>∃l,ae h b o n=some l∧gu l l=true
 | .look r _ _ _ _| .len r=>∃m,eR h r=some m∧wR m.1 m.1=true
structure Nx (X:Cx) (ρ:Gh) (F:Nat→Prop) (o:Ob) (c:Nat) (h:ab) (ρ':Gh) (F':Nat→Prop) (o':Ob) (c':Nat) (h':ab):Prop where
 mem:Mem X ρ' F' o' c' h'
 bl:∀t x,VR c ρ F h t x→VR c' ρ' F' h' t x
 size:h.size≤h'.size
 FF:∀b,F b→F' b
 cZ:∀b cs,F b→h.rd b=some cs→h'.rd b=some cs
def Raw (ρ:Gh) (o:Ob) (h:ab) (ρ':Gh) (o':Ob) (h':ab) (ns:List Nat):Prop:=
 ∀n y,look o n=some y→n∉ns→(∃y',look o' n=some y')∧ρ' n=ρ n∧∀b,At ρ n b→h'.get b=h.get b∧∀cs,h.rd b=some cs→h'.rd b=some cs
def kX (ρ:Gh) (v:TV) (x:Value):Prop:=(∃k b,v= .mp k∧ρ k=some (.dw b)∧x= .map (some b))∨∃k q b,v= .ptr k q∧ρ k=some (.dw b)∧x= .pointer (some ⟨b,q,none⟩)
inductive fM (ρ:Gh) (F:Nat→Prop) (o:Ob) (h:ab) (ρ':Gh) (o':Ob) (h':ab):VL→dZ→Prop
 |pure (hr:Raw ρ o h ρ' o' h' []) (hh:h'=h):fM ρ F o h ρ' o' h' .pure .pure
 |alloc (hr:Raw ρ o h ρ' o' h' []):fM ρ F o h ρ' o' h' .alloc (.alloc h h')
 |IY {q:RQ} (hr:Raw ρ o h ρ' o' h' []) (hh:h'=h) (hF:F q.dw) (hc:∃a b o n,q= .cells a b o n) (hn:lJ q h):fM ρ F o h ρ' o' h' .IY (.rd q h)
 |lu {q:RQ} {n:Nat} {y:TO} (hr:Raw ρ o h ρ' o' h' []) (hh:h'=h) (hl:look o n=some y) (hb:At ρ n q.dw) (hn:lJ q h):fM ρ F o h ρ' o' h' (.lu n) (.rd q h)
 |zI {n p b:Nat} {v:TV} {x:Value} {y:TO} (hr:Raw ρ o h ρ' o' h' []) (hh:h'=h) (hl:look o n=some y) (hb:ρ n=some (.dw b)) (hx:kX ρ v x) (fP:ae h b p 1=some [x]):fM ρ F o h ρ' o' h' (.zI n p v) (.rd (.cells false b p 1) h)
 |du {ns:List Nat} (hr:Raw ρ o h ρ' o' h' ns):fM ρ F o h ρ' o' h' (.du ns) (.du h h')
 |oD {ns:List Nat} (hr:Raw ρ o h ρ' o' h' ns) (hh:h'=h):fM ρ F o h ρ' o' h' (.oD ns) (.du h h')
 |oE (hr:Raw ρ o h ρ' o' h' []) (hG:∀b,b<h.size→h'.get b=h.get b):fM ρ F o h ρ' o' h' .oE (.du h h')
 |bad {l:dZ}:fM ρ F o h ρ' o' h' .bad l
def eZ (E:Env) (X:Cx) (ρ:Gh) (F:Nat→Prop) (o:Ob) (c:Nat) (af:AF) (h:ab) (p:Oper) (K:OK):Prop:=
 ∃n0 r v o' c' ρ' F' lg,(∀n,n0≤n→eH E X.base (fK E X.base n) (g6 X.base (a8 E X.base n)) p af h=some r)∧K v o' c' lg∧
  Nx X ρ F o c h ρ' F' o' c' r.h∧VR c' ρ' F' r.h v r.v∧fM ρ F o h ρ' o' r.h lg r.log
def Wm:TV→Value
 | .s v=>v
 |_=>undef
def Hc (E:Env) (g:FuncId):Prop:=∀base n args h v h',fK E base n g args h=some (v,h')→h'=h
structure cm (T E:Env):Prop where
 desc:∀t d,T.desc t=some d→E.desc t=some d
 size:∀t n,T.size t=some n→E.size t=some n
 bytes:∀t n,T.bytes t=some n→E.bytes t=some n
 zero:∀t z,T.zero t=some z→E.zero t=some z∧fj z=true
 eq:∀t (a b:Array Value) z xs ys r,T.qR t=true→T.zero t=some z→ma z.cells.toList xs ys=some r→a.toList=xs.map Wm→b.toList=ys.map Wm→E.qR t=true∧vO E 100 t (.agg a) (.agg b)=some r
 wg:∀g cs,T.wg g=some cs→E.wg g=some cs
 still:∀g,T.still g=true→Hc E g
theorem kW.sub {T E:Env} {F:Nat→Prop} {h:ab} (L:cm T E) (N:kW E F h):kW T F h:=fun g cs hg=>N g cs (L.wg g cs hg)
theorem Je:∀(l:List Value),(Kt l).length=l.length
 |[]=>rfl
 |v::l=>by simp[Kt,Je l]
theorem Od:∀{l:List Value},l.all B8=true→∀t∈Kt l,fz t=true
 |[],_,t,ht=>by simp[Kt]at ht
 |v::l,hl,t,ht=>by
  simp only[List.all_cons,Bool.and_eq_true]at hl;simp only[Kt,List.mem_cons]at ht;rcases ht with rfl |ht
  ·have:=hl.1;simp only[B8,Bool.and_eq_true]at this;exact this.2
  ·exact Od hl.2 t ht
section
variable {T E:Env} {X:Cx} {ρ:Gh} {F:Nat→Prop} {o:Ob} {c:Nat} {af:AF} {f:Fr} {h:ab} {p:Oper} {K:OK}
theorem Mem.b7 (H:Mem X ρ F o c h) {m:Nat} {y:TO} (hl:look o m=some y):∃S,OR c ρ F h X.base m S y:=let⟨S,K⟩:=H.ex;⟨S m,K.b7 m y hl⟩
theorem Nx.refl (H:Mem X ρ F o c h):Nx X ρ F o c h ρ F o c h:=⟨H,fun _ _ h=>h,Nat.le_refl _,fun _ h=>h,fun _ _ _ h=>h⟩
theorem Raw.refl (ns:List Nat):Raw ρ o h ρ o h ns:=fun _ y hl _=>⟨⟨y,hl⟩,rfl,fun _ _=>⟨rfl,fun _ h=>h⟩⟩
theorem eZ.pure (H:Mem X ρ F o c h) {x:Value} {v:TV} (hp:aM E af p=some x) (hv:VR c ρ F h v x) (hK:K v o c .pure):eZ E X ρ F o c af h p K:=by
 refine⟨0,⟨x,h,.pure⟩,v,o,c,ρ,F,.pure,fun n _=>?_,hK,.refl H,hv,.pure (.refl _) rfl⟩;unfold eH;rw[hp]
theorem eZ.Z1 (_:Mem X ρ F o c h) {o':Ob} {F':Nat→Prop} (H':Mem X ρ F' o' c h) (hk:∀t x,VR c ρ F h t x→VR c ρ F' h t x) (qK:∀b,F b→F' b) (hw:∀n y,look o n=some y→∃y',look o' n=some y'∧ee y y')
 {x:Value} {v:TV} (hp:aM E af p=some x) (hv:VR c ρ F' h v x) (hK:K v o' c .pure):eZ E X ρ F o c af h p K:=by
 refine⟨0,⟨x,h,.pure⟩,v,o',c,ρ,F',.pure,fun n _=>?_,hK,⟨H',hk,Nat.le_refl _,qK,fun _ _ _ h=>h⟩,hv,.pure (fun n y hl _=>⟨let⟨y',h1,_⟩:=hw n y hl;⟨y',h1⟩,rfl,fun b _=>⟨rfl,fun _ h=>h⟩⟩) rfl⟩;unfold eH;rw[hp]
def dA (c:Nat) (ρ:Gh) (F:Nat→Prop) (h:ab) (f:Fr) (af:AF):Prop:=∀t,VR c ρ F h (nQ f t) (af.get t)
theorem p8 (L:cm T E) (N:kW T F h) (S:dA c ρ F h f af) {x:Operand} (hx:rJ T x=true):∃v,ev E af x=some v∧VR c ρ F h (l9 T f x) v:=by
 cases x with
 |tmp t=>exact⟨_,rfl,S t⟩
 |const v=>exact⟨v,by simp only[ev,ai,and_true];exact hx,rL hx⟩
 |func g=>exact⟨_,rfl,.cH rfl (fun i t v q=>by simp at q) rfl (fun i t v q=>by simp at q)⟩
 |global g=>
  obtain⟨cs,n3,hx⟩:∃cs,cs.all B8=true∧T.wg g=some cs:=by
   simp only[rJ]at hx;split at hx
   ·rename_i cs hg;exact⟨cs,hx,hg⟩
   ·cases hx
  obtain⟨n1,n2,_⟩:=N g cs hx;refine⟨.pointer (some ⟨g,0,none⟩),by simp only[ev,Env.dc,L.wg g cs hx,Option.isSome_some,bF],?_⟩;show VR c ρ F h (match T.wg g with|some cs=>.ep (Kt cs) 0|none=>.j) _;rw[hx];have:=VR.ep (c:=c) (ρ:=ρ) (F:=F) (h:=h) (e:=Kt cs) (o:=0) (b:=g) (q:=0) (cs:=cs) n1 n2 (by rw[Je];omega) (fun t ht=>Od n3 t ht) (fun j t v q1 q2=>(sK (List.all_eq_true.2 fun v hv=>by have:=List.all_eq_true.1 n3 v hv;simp only[B8,Bool.and_eq_true]at this;exact this.1)).2 j t v q1 (by simpa using q2));simpa using this
theorem pq (L:cm T E) (N:kW T F h) (S:dA c ρ F h f af):∀{l:List Operand},l.all (rJ T)=true→∃vs,Gt E af l=some vs∧dI c ρ F h (Ku T f l) vs
 |[],_=>⟨[],rfl,.nil⟩
 |x::l,hx=>by
  simp only[List.all_cons,Bool.and_eq_true]at hx;obtain⟨v,h1,h2⟩:=p8 (E:=E) L N S hx.1;obtain⟨vs,h3,h4⟩:=pq L N S hx.2;exact⟨v::vs,by simp[Gt,h1,h3],.cons h2 h4⟩
def Rz (c:Nat) (ρ:Gh) (F:Nat→Prop) (h:ab):List (Nat×TV)→List (Nat×Value)→Prop
 |[],[]=>True
 |a::l,b::m=>a.1=b.1∧VR c ρ F h a.2 b.2∧Rz c ρ F h l m
 |_,_=>False
theorem nU (L:cm T E) (N:kW T F h) (S:dA c ρ F h f af):∀{l:List (Nat×Operand)},(l.map (·.2)).all (rJ T)=true→∃vs,iC E af l=some vs∧Rz c ρ F h (Cd T f l) vs
 |[],_=>⟨[],rfl,trivial⟩
 |(i,x)::l,hx=>by
  simp only[List.map_cons,List.all_cons,Bool.and_eq_true]at hx;obtain⟨v,h1,h2⟩:=p8 (E:=E) L N S hx.1;obtain⟨vs,h3,h4⟩:=nU L N S hx.2;exact⟨(i,v)::vs,by simp[iC,h1,h3],rfl,h2,h4⟩
theorem eo {v:TV} {K:TV→Prop} (hf:force v K):K v∧v≠ .j:=by
 cases v<;>simp[force]at hf ⊢ <;>exact hf
theorem He {k k':IntKind} {v w:Value} (h:kf k k' v=some w):k=k'∧v=w:=by
 cases k<;>cases k'<;>simp[kf]at h<;>exact⟨rfl,h⟩
theorem Hf (v:Value):eG (pure v:Sem Value)=some v:=rfl
theorem uu {k:IntKind} {x:Int} {v:Value} (h:eG (pure (.int k x):Sem Value)=some v):aC v=true:=by
 rw[Hf]at h;cases h;rfl
theorem Jf {op:BinOp} {k k':IntKind} {x y:Int} {v:Value} (h:NT op k k' x y=some v) (t:TypeId):eG (binOp op t (.int k x) (.int k' y))=some v∧aC v=true:=by
 cases op<;>simp only[NT]at h
 case add|sub|mul|eql|neq|lss|leq|gtr|geq=>obtain⟨rfl,rfl⟩:=He h;exact⟨by simp[binOp,Op.intArith,Op.intCmp,eG,Pure.pure],rfl⟩
 case quo|rem=>
  refine⟨h,?_⟩;simp only[binOp]at h;split at h
  ·simp[stuck,eG]at h
  ·simp only[Op.intDiv]at h;split at h
   ·have e:eG (runtimePanic (.error "integer divide by zero"):Sem Value)=none:=rfl;rw[e]at h;cases h
   ·exact uu h
 case and|or|xor|andNot=>
  refine⟨h,?_⟩;simp only[binOp]at h;split at h
  ·simp[stuck,eG]at h
  ·exact uu h
 case shl|shr=>
  refine⟨h,?_⟩;simp only[binOp,Op.shift]at h;split at h
  ·have e:eG (runtimePanic (.error "negative shift amount"):Sem Value)=none:=rfl;rw[e]at h;cases h
  ·exact uu h
theorem cm.shape {T E:Env} (L:cm T E) {t:TypeId} {s:Bool×Nat} (h:eQ T t=some s):eQ E t=some s:=by
 unfold eQ at h ⊢;simp only[Option.bind_eq_some_iff]at h ⊢;obtain⟨d,h1,h2⟩:=h;refine⟨d,L.desc t d h1,?_⟩;cases ha:isAgg d with
 |false=>rw[ha]at h2;exact h2
 |true=>
  rw[ha]at h2;simp only[cond_true,Option.bind_eq_some_iff]at h2 ⊢;obtain⟨n,h3,h4⟩:=h2;exact⟨n,L.size t n h3,h4⟩
theorem Oe:∀{zs:List Value} {xs ys:List TV} {r:Bool},ma zs xs ys=some r→(∀t∈xs,∃v,t= .s v)∧(∀t∈ys,∃v,t= .s v)
 |[],[],[],r,_=>⟨by simp,by simp⟩
 |[],[],_::_,r,h=>by simp[ma]at h
 |[],x::l,ys,r,h=>by simp[ma]at h
 |z::zs,[],ys,r,h=>by simp[ma]at h
 |z::zs,x::l,[],r,h=>by cases x<;>simp[ma]at h
 |z::zs,x::l,y::m,r,h=>by
  cases x<;>try(simp[ma]at h;done)
  rename_i v;cases y<;>try(simp[ma]at h;done)
  rename_i w;simp only[ma]at h;split at h
  ·split at h
   ·rename_i hq;obtain⟨k1,k2⟩:=Oe hq;refine⟨fun t ht=>?_,fun t ht=>?_⟩
    ·rcases List.mem_cons.1 ht with rfl |h2
     ·exact⟨_,rfl⟩
     ·exact k1 t h2
    ·rcases List.mem_cons.1 ht with rfl |h2
     ·exact⟨_,rfl⟩
     ·exact k2 t h2
   ·cases h
  ·cases h
theorem Of:∀{xs:List TV} {a:List Value},dI c ρ F h xs a→(∀t∈xs,∃v,t= .s v)→a=xs.map Wm
 |[],a,H,_=>by rw[H.bK];rfl
 |x::l,a,H,hs=>by
  obtain⟨v,m,rfl,h1,h2⟩:=H.aP;obtain⟨w,rfl⟩:=hs x List.mem_cons_self;rw[h1.dj.1,Of h2 fun t ht=>hs t (List.mem_cons_of_mem _ ht)];rfl
def vW:Nat→Bool→Value→Prop
 |0,true,x=>x= .pointer none
 |0,false,x=>∃a,x= .pointer (some a)
 |1,true,x=>x= .map none
 |1,false,x=>∃a,x= .map (some a)
 |2,true,x=>x= .nilFunc
 |2,false,x=>∃g a k,x= .func g a k
 |3,true,x=>x= .nilIface
 |3,false,x=>∃t v,x= .iface t v
 |4,true,x=>x= .slice none 0 0
 |4,false,x=>∃a l k,x= .slice (some a) l k
 |_,_,_=>False
theorem Eo {v:TV} {x:Value} (hv:VR c ρ F h v x) {d:Nat} {b:Bool} (hb:vU v=some (d,b)):vW d b x:=by
 cases hv with
 |s hp=>
  unfold vU at hb;split at hb<;>simp_all<;>obtain⟨rfl,rfl⟩:=hb<;>simp[vW]
 |nil he=>subst he;unfold vU at hb;split at hb<;>simp_all<;>obtain⟨rfl,rfl⟩:=hb<;>simp[vW]
 |sl h1 h2 h3=>
  unfold vU at hb;split at hb<;>simp_all;obtain⟨rfl,rfl⟩:=hb;exact⟨_,_,_,rfl⟩
 |ptr=>simp[vU]at hb;obtain⟨rfl,rfl⟩:=hb;exact⟨_,rfl⟩
 |ep=>simp[vU]at hb;obtain⟨rfl,rfl⟩:=hb;exact⟨_,rfl⟩
 |mp=>simp[vU]at hb;obtain⟨rfl,rfl⟩:=hb;exact⟨_,rfl⟩
 |nq=>simp[vU]at hb;obtain⟨rfl,rfl⟩:=hb;exact⟨_,_,rfl⟩
 |cH=>simp[vU]at hb;obtain⟨rfl,rfl⟩:=hb;exact⟨_,_,_,rfl⟩
 |_=>simp[vU]at hb
theorem p9 {E:Env} {t:TypeId} {ds:TypeDesc} {d:Nat} {p q:Bool} {a b:Value} (hd:E.desc t=some ds) (hk:D4 ds=some d) (ha:vW d p a) (hb:vW d q b) (UA:(p||q)=true):vO E 100 t a b=some (p&&q):=by
 cases ds<;>simp[D4]at hk<;>subst hk<;>cases p<;>cases q<;>simp at UA<;>simp only[vW]at ha hb
 all_goals
  (try obtain⟨_,rfl⟩:=ha)
  (try obtain⟨_,rfl⟩:=hb)
  (try obtain⟨_,_,rfl⟩:=ha)
  (try obtain⟨_,_,rfl⟩:=hb)
  (try obtain⟨_,_,_,rfl⟩:=ha)
  (try obtain⟨_,_,_,rfl⟩:=hb)
  (try subst ha)
  (try subst hb)
  (show vO E (99+1) t _ _=_)
  unfold vO;rw[hd];rfl
end
def jk (c:Nat) (ρ:Gh) (F:Nat→Prop) (h:ab) (o:Ob) (canon:Option Value) (K:OK):Prop:=∃v x,canon=some x∧VR c ρ F h v x∧K v o c .pure
section
variable {T E:Env} {X:Cx} {ρ:Gh} {F:Nat→Prop} {o:Ob} {c:Nat} {af:AF} {f:Fr} {h:ab} {p:Oper} {K:OK}
theorem kY {op:BinOp} {t:TypeId} {x y:Operand} {a b:Value} {r:Bool} (hi:∀k n k' m,¬(a= .int k n∧b= .int k' m)) (hs:∀s r,¬(a= .string s∧b= .string r)) (he:nu E t x y a b=true) (hq:vO E 100 t a b=some r):
 (op= .eql→wQ E op t x y a b=some (.bool r))∧(op= .neq→wQ E op t x y a b=some (.bool !r)):=by
 constructor
 ·rintro rfl;unfold wQ;split
  ·exact absurd ⟨rfl,rfl⟩ (hi _ _ _ _)
  ·exact absurd ⟨rfl,rfl⟩ (hs _ _)
  ·simp[bF,he,hq]
 ·rintro rfl;unfold wQ;split
  ·exact absurd ⟨rfl,rfl⟩ (hi _ _ _ _)
  ·exact absurd ⟨rfl,rfl⟩ (hs _ _)
  ·simp[bF,he,hq]
theorem sO {v:Option Value} (hp:Ai v o c K) {canon:Option Value} (hc:∀x,v=some x→canon=some x):jk c ρ F h o canon K:=by
 unfold Ai at hp;split at hp
 ·rename_i x;split at hp
  ·rename_i h2;exact⟨_,_,hc x rfl,.s h2,hp⟩
  ·exact hp.elim
 ·exact hp.elim
theorem vW.Ep {d:Nat} {b:Bool} {n:Nat} (hv:vW d b (.chan (some n))):False:=by
 unfold vW at hv;split at hv<;>simp at hv
theorem vW.Jg {d:Nat} {b:Bool} {x:Value} (hv:vW d b x):(∀k n,x≠ .int k n)∧(∀s,x≠ .string s)∧(∀a,x≠ .agg a)∧(x= .nilIface→d=3∧b=true):=by
 unfold vW at hv;split at hv
 all_goals
  (try obtain⟨_,rfl⟩:=hv)
  (try obtain⟨_,_,rfl⟩:=hv)
  (try obtain⟨_,_,_,rfl⟩:=hv)
  (try subst hv)
  (try(exact hv.elim))
  (try simp)
theorem KI {k k':IntKind} {v w x:Value} (h:kf k k' v=some x):kf k k' w=some w:=by
 unfold kf at h ⊢;split at h<;>first|rfl |cases h
theorem uv {p:Prop} (hw:ask p o c K) {canon:Option Value} (b:Bool) (hb:b=true↔p) (hc:canon=some (.bool b)):jk c ρ F h o canon K:=by
 cases b with
 |true=>exact⟨_,_,hc,.s rfl,hw.1 (hb.1 rfl)⟩
 |false=>exact⟨_,_,hc,.s rfl,hw.2 fun hp=>by have:=hb.2 hp;cases this⟩
theorem qd {p:Prop} {k k':IntKind} {op:BinOp} {t:TypeId} {n m:Int} (hw:D6 k k' p o c K) (b:Bool) (hb:b=true↔p) (hv:NT op k k' n m=kf k k' (.bool b)):jk c ρ F h o (eG (binOp op t (.int k n) (.int k' m))) K:=by
 unfold D6 at hw;split at hw
 ·rename_i hs;exact uv hw b hb ((Jf (hv.trans (KI hs)) t).1)
 ·exact hw.elim
theorem RA (L:cm T E) (H:Mem X ρ F o c h) {op:BinOp} {t:TypeId} {x y:Operand} {a b:TV} {xa xb:Value} (hw:V6 T op t x y a b o c K) (ha:VR c ρ F h a xa) (hb:VR c ρ F h b xb):jk c ρ F h o (wQ E op t x y xa xb) K:=by
 unfold V6 at hw;split at hw
 ·rename_i k n k' m;rw[ha.dj.1,hb.dj.1];show jk c ρ F h o (eG (binOp op t (.int k n) (.int k' m))) K;split at hw
  ·exact qd hw (n==m) (by simp) rfl
  ·exact qd hw (n != m) (by simp) rfl
  ·exact qd hw (decide (n<m)) (by simp) rfl
  ·exact qd hw (decide (n≤m)) (by simp) rfl
  ·exact qd hw (decide (n>m)) (by simp) rfl
  ·exact qd hw (decide (n≥m)) (by simp) rfl
  ·exact sO hw fun v hv=>(Jf hv t).1
 ·rename_i s r;rw[ha.dj.1,hb.dj.1];split at hw
  ·exact uv hw (s.data.toList==r.data.toList) (by simp) rfl
  ·exact uv hw (!(s.data.toList==r.data.toList)) (by simp) rfl
  ·exact uv hw (Op.bytesLess s.data.toList r.data.toList) (by simp) rfl
  ·exact⟨_,_,(by simp only[wQ];rw[ai];exact⟨decide_eq_true om,rfl⟩),.s rfl,hw.2⟩
  ·refine sO hw fun v hv=>?_;simp only[wQ]at hv;cases hv
 ·rename_i p q;rw[ha.dj.1,hb.dj.1];split at hw
  ·rename_i hd;have hq:vO E 100 t (.bool p) (.bool q)=some (p==q):=by
    show vO E (99+1) t _ _=_;unfold vO;rw[L.desc _ _ hd];rfl
   obtain⟨k1,k2⟩:=kY (op:=op) (E:=E) (x:=x) (y:=y) (t:=t) (a:=.bool p) (b:=.bool q) (by rintro _ _ _ _ ⟨e,_⟩;cases e) (by rintro _ _ ⟨e,_⟩;cases e) rfl hq;split at hw
   ·exact⟨_,_,k1 rfl,.s rfl,hw⟩
   ·exact⟨_,_,k2 rfl,.s rfl,hw⟩
   ·exact hw.elim
  ·exact hw.elim
 ·rename_i xs ys;obtain⟨a',rfl,h1⟩:=ha.fo;obtain⟨b',rfl,h2⟩:=hb.fo;split at hw
  ·rename_i z he hz;split at hw
   case h_2=>exact hw.elim
   rename_i r hr;obtain⟨s1,s2⟩:=Oe hr;obtain⟨e1,e2⟩:=L.eq t a' b' z xs ys r he hz hr (Of h1 s1) (Of h2 s2);obtain⟨k1,k2⟩:=kY (op:=op) (E:=E) (x:=x) (y:=y) (t:=t) (a:=.agg a') (b:=.agg b') (by rintro _ _ _ _ ⟨e,_⟩;cases e) (by rintro _ _ ⟨e,_⟩;cases e) e1 e2;split at hw
   ·exact uv hw r Iff.rfl (k1 rfl)
   ·exact uv hw (!r) (by simp) (k2 rfl)
   ·exact hw.elim
  ·exact hw.elim
 ·split at hw
  ·rename_i es hq;obtain⟨Kx,rfl,se⟩:∃Kx,b= .sl 0 [] Kx∧((∃z fl,a= .sl (z+1) es fl)∨∃n z w,a= .tk n∧look o n=some (.arr z w es)):=by
    unfold ZG at hq;split at hq
    ·cases hq;exact⟨_,rfl,.inl ⟨_,_,rfl⟩⟩
    ·split at hq
     ·rename_i hl;cases hq;exact⟨_,rfl,.inr ⟨_,_,_,rfl,hl⟩⟩
     ·cases hq
    ·cases hq
   have bX:xb= .slice none 0 0:=by
    cases hb with
    |nil=>rfl
    |sl _ _ hz=>omega
   subst bX;have main:∀{ds:TypeDesc},E.desc t=some ds→D4 ds=some 4→∃r:Bool,(r=true→es=[])∧vO E 100 t xa (.slice none 0 0)=some r∧∃a l k,xa= .slice a l k:=by
    intro ds h1 h2;rcases se with⟨z,fl,rfl⟩|⟨n,z,w,rfl,hl⟩
    ·cases ha with
     |nil he=>exact⟨true,fun _=>he,p9 (p:=true) (q:=true) h1 h2 rfl rfl rfl,_,_,_,rfl⟩
     |sl=>exact⟨false,(by simp),p9 (p:=false) (q:=true) h1 h2 ⟨_,_,_,rfl⟩ rfl rfl,_,_,_,rfl⟩
    ·obtain⟨_,hob⟩:=H.b7 hl;cases ha with
     |tk hn DK haa h0=>
      cases hob with
      |nil wU hz=>
       rcases h0 _ wU with rfl |⟨_,_,_,_,_,_,_,rfl⟩
       ·exact⟨true,fun _=>rfl,p9 (p:=true) (q:=true) h1 h2 rfl rfl rfl,_,_,_,rfl⟩
       ·exact⟨false,(by simp),p9 (p:=false) (q:=true) h1 h2 ⟨_,_,_,rfl⟩ rfl rfl,_,_,_,rfl⟩
      |arr wU=>
       obtain⟨cap,_,rfl⟩:=haa _ _ _ wU;exact⟨false,(by simp),p9 (p:=false) (q:=true) h1 h2 ⟨_,_,_,rfl⟩ rfl rfl,_,_,_,rfl⟩
   split at hw
   ·rename_i hd;simp only[Option.bind_eq_some_iff]at hd;obtain⟨ds,Ge,VZ⟩:=hd;obtain⟨r,m1,m2,a0,l0,k0,rfl⟩:=main (L.desc _ _ Ge) VZ;obtain⟨k1,k2⟩:=kY (op:=.eql) (E:=E) (x:=x) (y:=y) (t:=t) (a:=.slice a0 l0 k0) (b:=.slice none 0 0) (by rintro _ _ _ _ ⟨e,_⟩;cases e) (by rintro _ _ ⟨e,_⟩;cases e) rfl m2;cases r with
    |true=>exact⟨_,_,k1 rfl,.s rfl,hw.1 (m1 rfl)⟩
    |false=>exact⟨_,_,k1 rfl,.s rfl,hw.2⟩
   ·rename_i hd;simp only[Option.bind_eq_some_iff]at hd;obtain⟨ds,Ge,VZ⟩:=hd;obtain⟨r,m1,m2,a0,l0,k0,rfl⟩:=main (L.desc _ _ Ge) VZ;obtain⟨k1,k2⟩:=kY (op:=.neq) (E:=E) (x:=x) (y:=y) (t:=t) (a:=.slice a0 l0 k0) (b:=.slice none 0 0) (by rintro _ _ _ _ ⟨e,_⟩;cases e) (by rintro _ _ ⟨e,_⟩;cases e) rfl m2;cases r with
    |true=>exact⟨_,_,k2 rfl,.s rfl,hw.1 (m1 rfl)⟩
    |false=>exact⟨_,_,k2 rfl,.s rfl,hw.2⟩
   ·exact hw.elim
  split at hw
  ·rename_i d d1 p d2 q hd hp hq;split at hw
   ·rename_i hc;simp only[Bool.and_eq_true,beq_iff,Bool.or_eq_true,Bool.not_eq_true']at hc;obtain⟨⟨⟨rfl,rfl⟩,UA⟩,np⟩:=hc;simp only[Option.bind_eq_some_iff]at hd;obtain⟨ds,Ge,VZ⟩:=hd;have va:=Eo ha hp;have vb:=Eo hb hq;have Wn:=p9 (L.desc _ _ Ge) VZ va vb (by simpa using UA);obtain⟨a1,a2,a3,a4⟩:=va.Jg;obtain⟨b1,b2,b3,b4⟩:=vb.Jg;have he:nu E t x y xa xb=true:=by
     unfold nu;split
     ·obtain⟨rfl,rfl⟩:=a4 rfl;obtain⟨_,rfl⟩:=b4 rfl;rcases np with (np|np)|np
      ·simp at np
      ·rw[np];rfl
      ·rw[np];simp
     ·exact absurd rfl (a3 _)
     ·exact va.Ep.elim
     ·exact vb.Ep.elim
     ·rfl
    obtain⟨k1,k2⟩:=kY (op:=op) (E:=E) (x:=x) (y:=y) (t:=t) (a:=xa) (b:=xb) (by rintro k n _ _ ⟨e,_⟩;exact a1 k n e) (by rintro s _ ⟨e,_⟩;exact a2 s e) he Wn;split at hw
    ·exact⟨_,_,k1 rfl,.s rfl,hw⟩
    ·exact⟨_,_,k2 rfl,.s rfl,hw⟩
    ·exact hw.elim
   ·exact hw.elim
  ·exact hw.elim
theorem uw (H:Mem X ρ F o c h) {m i q:Nat} {y:TO} (hl:look o m=some y) (hy:zK y=true) {x:Value} (hx:VR c ρ F h (.wp m i q) x):
 ∃b z l,ρ m=some (.arr b z l)∧x= .pointer (some ⟨b,i*z+q,none⟩):=by
 cases hx with
 |wp hn p5 ha h0=>
  obtain⟨S,hO⟩:=H.b7 hl;cases hO with
  |nil hb hz=>exact absurd hb (h0 _)
  |gF hb hz=>exact absurd hb (h0 _)
  |arr hb=>exact⟨_,_,_,hb,ha _ _ _ hb⟩
  |bx hb=>exact⟨_,_,_,hb,ha _ _ _ hb⟩
  |_=>simp[zK]at hy
def Er:TO→Nat
 | .arr _ _ es=>es.length
 | .bx _ es _=>es.length
 |_=>0
theorem OR.tk {base m:Nat} {S:Ft} {y:TO} (hO:OR c ρ F h base m S y) (hy:zK y=true) {x:Value} (hx:VR c ρ F h (.tk m) x):
 (Er y=0∧ρ m=some (.nil (KG y))∧(x= .slice none 0 0∨∃b o cs,F b∧h.rd b=some cs∧0<KG y∧o≤cs.length∧x= .slice (some ⟨b,o,some (KG y)⟩) 0 0))∨
 ∃b cap,ρ m=some (.arr b (KG y) (Er y))∧Er y≤cap∧x= .slice (some ⟨b,0,some (KG y)⟩) (Er y) cap:=by
 cases hx with
 |tk hn p5 ha h0=>
  cases hO with
  |nil hb hz=>exact .inl ⟨rfl,hb,h0 _ hb⟩
  |gF hb hz=>exact .inl ⟨rfl,hb,h0 _ hb⟩
  |arr hb=>obtain⟨cap,h1,h2⟩:=ha _ _ _ hb;exact .inr ⟨_,cap,hb,h1,h2⟩
  |bx hb=>obtain⟨cap,h1,h2⟩:=ha _ _ _ hb;exact .inr ⟨_,cap,hb,h1,h2⟩
  |_=>simp[zK]at hy
theorem zM (L:cm T E) (H:Mem X ρ F o c h) {s:TypeId} {x:TV} {fd:Nat} {xv:Value} (hw:rE T s x fd o c K) (hx:VR c ρ F h x xv):
 jk c ρ F h o ((E.desc s).bind fun d=>(jc xv).bind fun p=>(match d with
 | .struct fields=>(fields[fd]?).bind fun fl=>(E.size fl.type).bind fun n=>bF (Nat.blt 0 n) (some (.pointer (some ⟨p.1,p.2+fl.offset,none⟩)))
 |_=>none)) K:=by
 unfold rE at hw;split at hw
 ·rename_i fields hd;split at hw
  ·rename_i fl hf;split at hw
   ·rename_i n hn;split at hw
    ·rename_i h0
     have fin:∀b q,xv=Value.pointer (some ⟨b,q,none⟩)→(((E.desc s).bind fun d=>(jc xv).bind fun p=>(match d with
      | .struct fields=>(fields[fd]?).bind fun fl=>(E.size fl.type).bind fun n=>bF (Nat.blt 0 n) (some (Value.pointer (some ⟨p.1,p.2+fl.offset,none⟩)))
      |_=>none))=some (Value.pointer (some ⟨b,q+fl.offset,none⟩))):=by
      rintro b q rfl;rw[L.desc _ _ hd];simp only[Option.bind_some,jc,hf,L.size _ _ hn,h0,bF]
     split at hw
     ·cases hx with
      |ptr hb=>exact⟨_,_,fin _ _ rfl,.ptr hb,hw⟩
     ·cases hx with
      |ep h1 h2 h3 h4 h5=>exact⟨_,_,fin _ _ rfl,by rw[Nat.add_assoc];exact .ep h1 h2 h3 h4 h5,hw⟩
     ·have go:∀{m i p:Nat} {y:TO},look o m=some y→zK y=true→VR c ρ F h (.wp m i p) xv→K (.wp m i (p+fl.offset)) o c .pure→jk c ρ F h o ((E.desc s).bind fun d=>(jc xv).bind fun p=>(match d with
       | .struct fields=>(fields[fd]?).bind fun fl=>(E.size fl.type).bind fun n=>bF (Nat.blt 0 n) (some (.pointer (some ⟨p.1,p.2+fl.offset,none⟩)))
       |_=>none)) K:=by
       intro m i p y hl hy hx hw;obtain⟨b,z,l,hb,rfl⟩:=uw H hl hy hx;cases hx with
       |wp hn p5 ha h0=>
        refine⟨_,_,fin _ _ rfl,.wp hn rfl (fun b' z' l' kP=>?_) h0,hw⟩;rw[hb]at kP;cases kP;rw[Nat.add_assoc]
      split at hw
      ·rename_i hl;exact go hl rfl hx hw
      ·rename_i hl;exact go hl rfl hx hw
      ·exact hw.elim
     ·exact hw.elim
    ·exact hw.elim
   ·exact hw.elim
  ·exact hw.elim
 ·exact hw.elim
theorem fX {agg:Bool} {l:List TV} {v:TV} (ho:eM agg l=some v) {m:List Value} (H:dI c ρ F h l m):∃x,cG agg m=some x∧VR c ρ F h v x:=by
 unfold eM at ho;split at ho
 ·cases ho;exact⟨_,rfl,.gz (by simpa using H)⟩
 ·cases ho;obtain⟨x,m',rfl,h1,h2⟩:=H.aP;rw[h2.bK];exact⟨x,rfl,h1⟩
 ·cases ho
theorem Au {n:Nat} {l r:List TV} (ht:takeN n l=some r) {m:List Value} (H:dI c ρ F h l m):∃q,takeN n m=some q∧dI c ρ F h r q:=by
 rw[aW]at ht;obtain⟨h1,rfl⟩:=ht;exact⟨m.take n,by rw[aW];exact⟨by rw[←H.1];exact h1,rfl⟩,H.take n⟩
theorem KJ (L:cm T E) {t:TypeId} {x:TV} {fd:Nat} {xv:Value} (hw:GV T t x fd o c K) (hx:VR c ρ F h x xv):
 jk c ρ F h o ((E.desc t).bind fun d=>(YY xv).bind fun cs=>(match d with
 | .struct fields=>(fields[fd]?).bind fun fl=>oU E fl.type cs fl.offset
 |_=>none)) K:=by
 unfold GV at hw;split at hw
 ·rename_i fields hd;split at hw
  ·rename_i fl cs hf;split at hw
   ·rename_i agg n hs;split at hw
    ·rename_i l hl;split at hw
     ·rename_i v hv;obtain⟨hK,_⟩:=eo hw;obtain⟨a,rfl,h1⟩:=hx.fo;obtain⟨q,h2,h3⟩:=Au hl (h1.drop fl.offset);obtain⟨x,h4,h5⟩:=fX hv h3;refine⟨v,x,?_,h5,hK⟩;rw[L.desc _ _ hd];simp only[Option.bind_some,YY,hf,oU,L.shape hs,h2,h4]
     ·exact hw.elim
    ·exact hw.elim
   ·exact hw.elim
  ·exact hw.elim
 ·exact hw.elim
theorem mT {i:TV} {x:Value} {n:Int} (hi:D5 i=some n) (hx:VR c ρ F h i x):Q9 x=some n:=by
 unfold D5 at hi;split at hi
 ·cases hi;rw[hx.dj.1];rfl
 ·cases hi
theorem zN (L:cm T E) (H:Mem X ρ F o c h) {t:TypeId} {x i:TV} {xv iv:Value} (hw:rF T t x i o c K) (hx:VR c ρ F h x xv) (hi:VR c ρ F h i iv):jk c ρ F h o (fk E t xv iv) K:=by
 unfold rF at hw;split at hw
 ·rename_i elem i' hd BP;have hI:=mT BP hi;split at hw
  ·rename_i n hn;have fin:∀b q z len cap,xv=Value.slice (some ⟨b,q,some z⟩) len cap→0≤i'→i'<len→fk E t xv iv=some (.pointer (some ⟨b,q+i'.toNat*n,none⟩)):=by
    rintro b q z len cap rfl h1 h2;unfold fk;rw[L.desc _ _ hd,hI];simp only[Option.bind_some,L.size _ _ hn,bF,h1,h2,decide_true,Bool.and_self]
   split at hw
   ·rename_i z es fl;split at hw
    ·rename_i hz;rw[beq_iff]at hz;obtain⟨e,⟨h0,he⟩,hK⟩:=hw;cases hx with
     |nil Du=>subst Du;simp at he
     |sl q1 q2 q3 q4 q5 q6 q7 q8 q9 UB=>
      have bH:=(List.getElem?_eq_some_iff.1 he).1;refine⟨_,_,fin _ _ _ _ _ rfl h0 om,?_,hK⟩;have vu:=q8 e (List.mem_of_getElem? he);rw[←Nat.add_zero (_+_*n)];refine .ep q1 q2 ?_ (q9 e (List.mem_of_getElem? he)) fun j t v r1 r2=>UB _ j e t v he r1 (by rw[hz];exact r2);rw[vu,←hz];have:(i'.toNat+1)*z≤es.length*z:=Nat.mul_le_mul_right z bH;rw[Nat.add_mul]at this;subst q4;omega
    ·exact hw.elim
   ·rename_i m;have go:∀{y:TO},look o m=some y→zK y=true→KG y=n→0≤i'→i'<Er y→K (.wp m i'.toNat 0) o c .pure→jk c ρ F h o (fk E t xv iv) K:=by
     intro y hl hy hz h0 h1 hK;obtain⟨S,hO⟩:=H.b7 hl;rcases hO.tk hy hx with⟨e,_⟩|⟨b,cap,hb,_,rfl⟩
     ·rw[e]at h1;omega
     ·refine⟨_,_,fin _ _ _ _ _ rfl h0 h1,?_,hK⟩;cases hx with
      |tk Rb p5 ha h0'=>
       refine .wp Rb rfl (fun b' z2 l2 kP=>?_) (fun z2 kP=>by rw[hb]at kP;cases kP);rw[hb]at kP;cases kP;rw[Nat.zero_add,Nat.add_zero,hz]
    split at hw
    ·rename_i z w es hl;split at hw
     ·rename_i hz;obtain⟨⟨h0,h1⟩,hK⟩:=hw;exact go hl rfl (beq_iff.1 hz) h0 h1 hK
     ·exact hw.elim
    ·rename_i z es op hl;split at hw
     ·rename_i hz;obtain⟨⟨h0,h1⟩,hK⟩:=hw;exact go hl rfl (beq_iff.1 hz) h0 h1 hK
     ·exact hw.elim
    ·exact hw.elim
   ·exact hw.elim
  ·exact hw.elim
 ·rename_i len elem i' hd BP;have hI:=mT BP hi;split at hw
  ·rename_i n hn;obtain⟨⟨h1,h2⟩,hw⟩:=hw;have fin:∀b q,xv=Value.pointer (some ⟨b,q,none⟩)→fk E t xv iv=some (.pointer (some ⟨b,q+i'.toNat*n,none⟩)):=by
    rintro b q rfl;unfold fk;rw[L.desc _ _ hd,hI];simp only[Option.bind_some,L.size _ _ hn,bF,h1,h2,decide_true,Bool.and_self]
   split at hw
   ·cases hx with
    |ptr hb=>exact⟨_,_,fin _ _ rfl,.ptr hb,hw⟩
   ·cases hx with
    |ep q1 q2 q3 q4 q5=>exact⟨_,_,fin _ _ rfl,by rw[Nat.add_assoc];exact .ep q1 q2 q3 q4 q5,hw⟩
   ·exact hw.elim
  ·exact hw.elim
 ·exact hw.elim
theorem KK (L:cm T E) {t:TypeId} {x i:TV} {xv iv:Value} (hw:GW T t x i o c K) (hx:VR c ρ F h x xv) (hi:VR c ρ F h i iv):jk c ρ F h o (tY E t xv iv) K:=by
 unfold GW at hw;split at hw
 ·rename_i i' hd BP;have hI:=mT BP hi;split at hw
  ·obtain⟨b,⟨h1,h2⟩,hK⟩:=hw;rw[hx.dj.1];refine⟨_,_,?_,.s rfl,hK⟩;unfold tY;rw[L.desc _ _ hd,hI];simp only[Option.bind_some,bF,h1,decide_true,h2]
  ·exact hw.elim
 ·rename_i len elem i' hd BP;have hI:=mT BP hi;split at hw
  ·rename_i z agg n cs hz hs;obtain⟨⟨h1,h2⟩,hw⟩:=hw;split at hw
   ·rename_i l hl;split at hw
    ·rename_i v hv;obtain⟨hK,_⟩:=eo hw;obtain⟨a,rfl,k1⟩:=hx.fo;obtain⟨q,h3,h4⟩:=Au hl (k1.drop (i'.toNat*z));obtain⟨x,h5,h6⟩:=fX hv h4;refine⟨v,x,?_,h6,hK⟩;unfold tY;rw[L.desc _ _ hd,hI];simp only[Option.bind_some,L.size _ _ hz,bF,h1,h2,decide_true,Bool.and_self,oU,L.shape hs,h3,h5]
    ·exact hw.elim
   ·exact hw.elim
  ·exact hw.elim
 ·exact hw.elim
end
section
variable {T E:Env} {X:Cx} {ρ:Gh} {F:Nat→Prop} {o:Ob} {c:Nat} {af:AF} {f:Fr} {h:ab} {p:Oper} {K:OK}
def Es (X:Cx) (c:Nat) (ρ:Gh) (F:Nat→Prop) (h:ab) (o:Ob) (canon:Option Value) (K:OK):Prop:=
 ∃v x o' F',canon=some x∧Mem X ρ F' o' c h∧(∀t x,VR c ρ F h t x→VR c ρ F' h t x)∧(∀b,F b→F' b)∧(∀n y,look o n=some y→∃y',look o' n=some y'∧ee y y')∧VR c ρ F' h v x∧K v o' c .pure
theorem jk.toS (H:Mem X ρ F o c h) {canon:Option Value} (R:jk c ρ F h o canon K):Es X c ρ F h o canon K:=by
 obtain⟨v,x,h1,h2,h3⟩:=R;exact⟨v,x,o,F,h1,H,fun _ _ h=>h,fun _ h=>h,fun n y hl=>⟨y,hl,ee.refl y⟩,h2,h3⟩
theorem Es.Gp {canon:Option Value} (H:Mem X ρ F o c h) (R:Es X c ρ F h o canon K) (hp:aM E af p=canon):eZ E X ρ F o c af h p K:=by
 obtain⟨v,x,o',F',h1,h2,h3,h4,h5,h6,h7⟩:=R;exact eZ.Z1 H h2 h3 h4 h5 (hp.trans h1) h6 h7
theorem pr (o:Ob) (m:Nat):∀n y,look o n=some y→∃y',look (jh o m) n=some y'∧ee y y':=by
 intro n y hl;unfold jh;split
 ·rename_i z w es hm;rw[eg];by_cases e:n=m
  ·subst e;rw[if_pos rfl,hm];rw[hm]at hl;cases hl;exact⟨_,rfl,rfl,rfl,fun h=>by cases h⟩
  ·rw[if_neg e];exact⟨y,hl,ee.refl y⟩
 ·exact⟨y,hl,ee.refl y⟩
theorem pt {d y:Nat} {i:Int} (hi:0≤i) (hy:i≤y) (k:IntKind):cq d y (some (.int k i))=some i.toNat:=by
 simp[cq,bF,hi,hy]
theorem jC {d:Nat} {lo:Option TV} {xP:Option Value} {l:Int} (hb:QU d lo=some l) (hl:(lo=none∧xP=none)∨∃y v,lo=some y∧xP=some v∧VR c ρ F h y v):
 (xP=none∧l=d)∨∃k,xP=some (.int k l):=by
 rcases hl with⟨rfl,rfl⟩|⟨y,v,rfl,rfl,hv⟩
 ·simp[QU]at hb;exact .inl ⟨rfl,hb.symm⟩
 ·unfold QU at hb;split at hb
  ·rename_i he;cases he
  ·rename_i k i he;cases he;cases hb;rw[hv.dj.1];exact .inr ⟨k,rfl⟩
  ·cases hb
theorem eF {d y:Nat} {l:Int} {xP:Option Value} (h1:(xP=none∧l=d)∨∃k,xP=some (.int k l)) (h0:0≤l) (hy:l≤y):cq d y xP=some l.toNat:=by
 rcases h1 with⟨rfl,rfl⟩|⟨k,rfl⟩
 ·simp[cq]
 ·exact pt h0 hy k
theorem iP {t elem:TypeId} {n z b o' len cap:Nat} {lo hi mx:Option Value} {l hh m:Nat} (hd:E.desc t=some (.slice elem)) (hn:E.size elem=some n) (hz:n=z) (hm:cq cap len mx=some m)
 (Og:cq len (bif mx.isSome then m else len) hi=some hh) (hc:hi.isSome||mx.isNone) (u5:cq 0 hh lo=some l):
 iE E t (.slice (some ⟨b,o',some z⟩) len cap) lo hi mx=some (.slice (some (bif Nat.beq m l then⟨b,o',some z⟩else⟨b,o'+l*z,some z⟩)) (hh - l) (m - l)):=by
 unfold iE;subst hz;rw[hd];simp only[Option.bind_some,hn,hm,Og,u5,bF,hc];simp
theorem Hg {z b oo len cap:Nat} {es:List (List TV)} {fl:Bool} (hv:VR c ρ F h (.sl z es fl) (.slice (some ⟨b,oo,some z⟩) len cap)) {l hh m:Nat} (hl:l≤hh) (hhl:hh≤es.length) (hm:hh≤m) (Kx:Bool) (ud:Kx=true→m=hh):
 VR c ρ F h (.sl z ((es.take hh).drop l) Kx) (.slice (some (bif Nat.beq m l then⟨b,oo,some z⟩else⟨b,oo+l*z,some z⟩)) (hh - l) (m - l)):=by
 cases hv with
 |sl q1 q2 q3 q4 q5 q6 q7 q8 q9 UB=>
  have hlen:((es.take hh).drop l).length=hh - l:=by simp;omega
  by_cases e:m=l
  ·have e2:hh=l:=by omega
   subst e2;subst e;rw[show(bif Nat.beq m m then(⟨b,oo,some z⟩:Addr)else⟨b,oo+m*z,some z⟩)=⟨b,oo,some z⟩ by simp];refine .sl q1 q2 q3 hlen om (fun _=>rfl) (by simp;omega) (fun e he=>?_) (fun e he=>?_) fun i j e t v r1=>?_
   ·exact q8 e (List.mem_of_mem_take (List.mem_of_mem_drop he))
   ·exact q9 e (List.mem_of_mem_take (List.mem_of_mem_drop he))
   ·have:=(List.getElem?_eq_some_iff.1 r1).1;omega
  ·rw[show(bif Nat.beq m l then(⟨b,oo,some z⟩:Addr)else⟨b,oo+l*z,some z⟩)=⟨b,oo+l*z,some z⟩ by
    rw[D9];simp[e]]
   refine .sl q1 q2 q3 hlen om (fun h=>by rw[ud h]) ?_ (fun e he=>?_) (fun e he=>?_) fun i j e t v r1 r2 r3=>?_
   ·have:(l+(hh - l))*z≤es.length*z:=Nat.mul_le_mul_right z om;rw[Nat.add_mul]at this;subst q4;omega
   ·exact q8 e (List.mem_of_mem_take (List.mem_of_mem_drop he))
   ·exact q9 e (List.mem_of_mem_take (List.mem_of_mem_drop he))
   ·rw[List.getElem?_drop,List.getElem?_take]at r1;split at r1
    ·refine UB (l+i) j e t v r1 r2 ?_;rw[←r3,Nat.add_mul]
     congr 1;omega
    ·cases r1
theorem lK {t elem n:Nat} {lo hi mx:Option Value} {l hh m:Nat} (hd:E.desc t=some (.slice elem)) (hn:E.size elem=some n) (hm:cq 0 0 mx=some m)
 (Og:cq 0 (bif mx.isSome then m else 0) hi=some hh) (hc:hi.isSome||mx.isNone) (u5:cq 0 hh lo=some l):
 iE E t (.slice none 0 0) lo hi mx=some (.slice none 0 0):=by
 unfold iE;rw[hd];simp only[Option.bind_some,hn,hm,Og,u5,bF,hc]
def RB (c:Nat) (ρ:Gh) (F:Nat→Prop) (h:ab) (y:Option TV) (v:Option Value):Prop:=(y=none∧v=none)∨∃y' v',y=some y'∧v=some v'∧VR c ρ F h y' v'
theorem vw (L:cm T E) {t:TypeId} {z n l hh m:Nat} {elem:TypeId} {es:List (List TV)} {fl:Bool} {xv:Value} {xP hiv Q2:Option Value} (hd:T.desc t=some (.slice elem)) (hn:T.size elem=some n) (hz:z=n∨z=0)
 (hx:VR c ρ F h (.sl z es fl) xv) (hl:l≤hh) (hhl:hh≤es.length) (_:hh≤m) (Kx:Bool) (_:Kx=true→m=hh)
 (b1:∀len cap,len=es.length→len≤cap→∃m',cq cap len Q2=some m'∧cq len (bif Q2.isSome then m' else len) hiv=some hh∧hh≤m'∧(Kx=true→m'=hh)) (b2:(hiv.isSome||Q2.isNone)=true) (b3:cq 0 hh xP=some l):
 ∃x,iE E t xv xP hiv Q2=some x∧VR c ρ F h (.sl z ((es.take hh).drop l) Kx) x:=by
 cases hx with
 |nil he=>
  subst he;obtain⟨m',k1,k2,_,_⟩:=b1 0 0 rfl (Nat.le_refl _);refine⟨_,lK (L.desc _ _ hd) (L.size _ _ hn) k1 k2 b2 b3,.nil (by simp)⟩
 |sl q1 q2 q3 q4 q5 q6 q7 q8 q9 UB=>
  have RC:n=z:=by omega
  obtain⟨m',k1,k2,k3,k4⟩:=b1 _ _ q4.symm q5;refine⟨_,iP (L.desc _ _ hd) (L.size _ _ hn) RC k1 k2 b2 b3,Hg (.sl q1 q2 q3 q4 q5 q6 q7 q8 q9 UB) hl hhl k3 Kx k4⟩
theorem Oh (H:Mem X ρ F o c h) {x:TV} {z:Nat} {es:List (List TV)} (he:NW o x=some (z,es)):∃F',Mem X ρ F' (share1 o x) c h∧(∀t v,VR c ρ F h t v→VR c ρ F' h t v)∧(∀b,F b→F' b)∧(∀n y,look o n=some y→∃y',look (share1 o x) n=some y'∧ee y y')∧
 ∀xv,VR c ρ F h x xv→∃fl,VR c ρ F' h (.sl z es fl) xv:=by
 unfold NW at he;split at he
 ·cases he;exact⟨F,H,fun _ _ h=>h,fun _ h=>h,fun n y hl=>⟨y,hl,ee.refl y⟩,fun xv hx=>⟨_,hx⟩⟩
 ·rename_i m;split at he
  ·rename_i w bS hl;cases he;obtain⟨F',h1,h2,h3,h4⟩:=H.share m;exact⟨F',h1,h2,h3,pr o m,fun xv hx=>⟨false,h4 _ _ _ _ hl hx⟩⟩
  ·cases he
 ·cases he
theorem KL (L:cm T E) (H:Mem X ρ F o c h) {t:TypeId} {x:TV} {xv:Value} {lo hi mx:Option TV} {xP hiv Q2:Option Value} (hw:GX T t x lo hi mx o c K) (hx:VR c ρ F h x xv) (u5:RB c ρ F h lo xP) (Og:RB c ρ F h hi hiv) (Gd:RB c ρ F h mx Q2):
 Es X c ρ F h o (iE E t xv xP hiv Q2) K:=by
 unfold GX at hw;split at hw
 ·rename_i hd;split at hw
  ·rename_i s;split at hw
   ·rename_i hh l e1 e2;obtain⟨⟨h1,h2,h3⟩,hK⟩:=hw;rcases Gd with⟨_,rfl⟩|⟨_,_,e,_⟩
    ·refine jk.toS H ⟨_,_,?_,.s rfl,hK⟩;rw[hx.dj.1];have a1:cq s.size s.size hiv=some hh.toNat:=eF (jC e1 Og) om h3;have a2:cq 0 hh.toNat xP=some l.toNat:=eF (jC e2 u5) h1 om;unfold iE;rw[L.desc _ _ hd];simp only[Option.bind_some,bF,a1,a2];rfl
    ·cases e
   ·exact hw.elim
  ·exact hw.elim
 ·rename_i elem hd;split at hw
  ·rename_i n z es hn he;obtain⟨F',k1,k2,k3,k4,k5⟩:=Oh H he;obtain⟨fl,MQ⟩:=k5 xv hx;split at hw
   ·rename_i hz;simp only[Bool.or_eq_true,beq_iff]at hz;split at hw
    ·rcases Gd with⟨_,rfl⟩|⟨_,_,e,_⟩
     ·split at hw
      ·rename_i hh l e1 e2;have plain:(0≤l∧l≤hh∧hh≤es.length)→K (.sl z ((es.take hh.toNat).drop l.toNat) false) (share1 o x) c .pure→Es X c ρ F h o (iE E t xv xP hiv none) K:=by
        rintro⟨h1,h2,h3⟩ hK
        obtain⟨x',q1,q2⟩:=vw L (l:=l.toNat) (hh:=hh.toNat) (m:=hh.toNat) hd hn hz MQ om om (Nat.le_refl _) false (xP:=xP) (hiv:=hiv) (Q2:=none) (fun h=>by cases h)
         (fun len cap e3 e4=>⟨cap,rfl,by subst e3;exact eF (jC e1 Og) om h3,by subst e3;omega,fun h=>by cases h⟩) (by simp) (eF (jC e2 u5) h1 om)
        exact⟨_,x',_,F',q1,k1,k2,k3,k4,q2,hK⟩
       split at hw
       ·split at hw
        ·obtain⟨hc,hK⟩:=hw;split at hK
         ·rename_i hz9;have hz9:=beq_iff.1 hz9;subst hz9;obtain⟨h1,h2,h3⟩:=hc;have hz8:=MQ;cases hz8 with
          |nil he9=>
           subst he9;simp only[List.length_nil]at h3;have e0:hh.toNat=0:=by simp at h3;omega
           have e9:l.toNat=0:=by omega
           have b1:=eF (y:=0) (jC e1 Og) om (by simpa using h3);have b2:=eF (y:=0) (jC e2 u5) h1 (by simp at h3;omega);rw[e0]at b1;rw[e9]at b2;exact⟨.sl 0 [] true,.slice none 0 0,_,F',lK (L.desc _ _ hd) (L.size _ _ hn) (m:=0) (hh:=0) (l:=0) rfl b1 (by simp) b2,k1,k2,k3,k4,.nil rfl,hK⟩
          |sl q1 q2 q3=>omega
         ·exact plain hc hK
        ·rename_i n' UA;obtain⟨hc,hK⟩:=hw;rcases hK with hK|hK
         ·exact plain hc hK
         obtain⟨h1,h2,h3⟩:=hc;obtain⟨rfl,rfl,y,rfl⟩:x= .tk n'∧lo=none∧∃y,hi=some y:=by
          unfold pvQ at UA;split at UA
          ·cases UA;exact⟨rfl,rfl,_,rfl⟩
          ·cases UA
         have adg:xP=none:=by
          rcases u5 with⟨_,e⟩|⟨_,_,e,_⟩
          ·exact e
          ·cases e
         subst adg;have qE:l=0:=by simpa[QU]using e2.symm
         subst qE;obtain⟨w,hl⟩:∃w,look o n'=some (.arr z w es):=by
          unfold NW at he;simp only at he;split at he
          ·rename_i w _ hl;cases he;exact⟨_,hl⟩
          ·cases he
         have a1:∀y:Nat,y=es.length→cq y y hiv=some hh.toNat:=fun y hy=>by subst hy;exact eF (jC e1 Og) om h3
         obtain⟨Sm,hO⟩:=H.b7 hl;have Gj:n'<c:=by cases hx with|tk hn=>exact hn
         rcases hO.tk rfl hx with⟨h0,hb,rfl |⟨b,o',cs,q1,q2,Cw,q4,rfl⟩⟩|⟨b,cap,hb,gC,rfl⟩
         ·have h0:es.length=0:=h0;have Zd:hh.toNat=0:=by omega
          refine⟨.pv n' hh.toNat,.slice none 0 0,o,F,lK (L.desc _ _ hd) (L.size _ _ hn) (m:=0) (hh:=0) (l:=0) rfl (by have:=a1 0 om;rwa [Zd]at this) (by simp) rfl,H,fun _ _ h=>h,fun _ h=>h,fun n y hl=>⟨y,hl,ee.refl y⟩,
           .pv Gj rfl (fun b z len e=>by rw[hb]at e;cases e) (fun _ _=>.inl rfl),hK⟩
         ·have h0:es.length=0:=h0;have Zd:hh.toNat=0:=by omega
          have Cw:0<z:=Cw
          refine⟨.pv n' hh.toNat,_,o,F,iP (L.desc _ _ hd) (L.size _ _ hn) (z:=z) (m:=0) (hh:=0) (l:=0) om rfl (by have:=a1 0 om;rwa [Zd]at this) (by simp) rfl,H,fun _ _ h=>h,fun _ h=>h,fun n y hl=>⟨y,hl,ee.refl y⟩,
           .pv Gj rfl (fun b z len e=>by rw[hb]at e;cases e) (fun z' jY=>?_),hK⟩
          have Q3:z'=z:=by rw[hb]at jY;cases jY;rfl
          subst Q3;exact .inr ⟨_,_,_,q1,q2,Cw,q4,rfl⟩
         ·have Cw:0<z:=by
           cases hO with
           |nil bX=>rw[hb]at bX;cases bX
           |arr _ _ _ _ _ hz=>exact hz
          have hb:ρ n'=some (.arr b z es.length):=hb;have gC:es.length≤cap:=gC
          refine⟨.pv n' hh.toNat,_,o,F,iP (L.desc _ _ hd) (L.size _ _ hn) (z:=z) (m:=cap) (hh:=hh.toNat) (l:=0) om rfl (eF (jC e1 Og) om h3) (by simp) rfl,H,fun _ _ h=>h,fun _ h=>h,fun n y hl=>⟨y,hl,ee.refl y⟩,
           .pv Gj rfl (fun b1 z1 Ri e=>?_) (fun _ e=>by rw[hb]at e;cases e),hK⟩
          rw[hb]at e;cases e;exact⟨cap,om,by simp⟩
       ·rename_i n' Wo;obtain⟨hc,hK⟩:=hw;rcases hK with hK|hK
        ·exact plain hc hK
        obtain⟨h1,h2,h3⟩:=hc;obtain⟨rfl,rfl⟩:x= .tk n'∧hi=none:=by
         unfold svQ at Wo;split at Wo
         ·cases Wo;exact⟨rfl,rfl⟩
         ·cases Wo
        have adh:hiv=none:=by
         rcases Og with⟨_,e⟩|⟨_,_,e,_⟩
         ·exact e
         ·cases e
        subst adh;have hhe:hh=es.length:=by simpa[QU]using e1.symm
        subst hhe;obtain⟨w,hl⟩:∃w,look o n'=some (.arr z w es):=by
         unfold NW at he;simp only at he;split at he
         ·rename_i w _ hl;cases he;exact⟨_,hl⟩
         ·cases he
        have b3:∀y:Nat,l≤y→cq 0 y xP=some l.toNat:=fun y hy=>eF (jC e2 u5) h1 hy;obtain⟨Sm,hO⟩:=H.b7 hl;have Gj:n'<c:=by cases hx with|tk hn=>exact hn
        rcases hO.tk rfl hx with⟨h0,hb,rfl |⟨b,o',cs,_,_,Cw,_,rfl⟩⟩|⟨b,cap,hb,gC,rfl⟩
        ·have h0:es.length=0:=h0;have qE:l.toNat=0:=by omega
         refine⟨.sv n' l.toNat,.slice none 0 0,o,F,lK (L.desc _ _ hd) (L.size _ _ hn) (m:=0) (hh:=0) (l:=0) rfl rfl rfl (by have:=b3 0 om;rwa [qE]at this),H,fun _ _ h=>h,fun _ h=>h,fun n y hl=>⟨y,hl,ee.refl y⟩,
          .sv Gj rfl (fun b z len e=>by rw[hb]at e;cases e) (fun _ _=>.inl rfl),hK⟩
        ·have h0:es.length=0:=h0;have qE:l.toNat=0:=by omega
         have Cw:0<z:=Cw
         refine⟨.sv n' l.toNat,_,o,F,iP (L.desc _ _ hd) (L.size _ _ hn) (z:=z) (m:=0) (hh:=0) (l:=0) om rfl rfl rfl (by have:=b3 0 om;rwa [qE]at this),H,fun _ _ h=>h,fun _ h=>h,fun n y hl=>⟨y,hl,ee.refl y⟩,
          .sv Gj rfl (fun b z len e=>by rw[hb]at e;cases e) (fun _ _=>.inr ⟨_,_,_,_,rfl⟩),hK⟩
        ·have Cw:0<z:=by
          cases hO with
          |nil bX=>rw[hb]at bX;cases bX
          |arr _ _ _ _ _ hz=>exact hz
         have hb:ρ n'=some (.arr b z es.length):=hb;have gC:es.length≤cap:=gC
         refine⟨.sv n' l.toNat,_,o,F,iP (L.desc _ _ hd) (L.size _ _ hn) (z:=z) (m:=cap) (hh:=es.length) (l:=l.toNat) om rfl rfl rfl (b3 _ om),H,fun _ _ h=>h,fun _ h=>h,fun n y hl=>⟨y,hl,ee.refl y⟩,
          .sv Gj rfl (fun b1 z1 Ri e=>?_) (fun _ e=>by rw[hb]at e;cases e),hK⟩
         rw[hb]at e;cases e;cases hbq:Nat.beq cap l.toNat with
         |true=>
          have:=beq_iff.1 hbq;exact⟨_,_,rfl,fun bH=>by omega⟩
         |false=>exact⟨_,_,rfl,fun _=>Nat.zero_add _⟩
      ·exact hw.elim
     ·cases e
    ·rename_i m _;split at hw
     ·rename_i kk hh l m' e2 e3;obtain⟨⟨h1,h2,rfl,h3⟩,hK⟩:=hw;rcases Gd with⟨e,_⟩|⟨y1,v1,e,rfl,vt⟩
      ·cases e
      ·cases e;rcases Og with⟨e,_⟩|⟨y2,v2,e,rfl,IS⟩
       ·cases e
       ·cases e;have QY:∃k,v1= .int k hh:=by
         unfold D5 at e3;split at e3
         ·cases e3;rw[vt.dj.1];exact⟨_,rfl⟩
         ·cases e3
        obtain⟨k',rfl⟩:=QY;rw[IS.dj.1]
        obtain⟨x',q1,q2⟩:=vw L (l:=l.toNat) (hh:=hh.toNat) (m:=hh.toNat) hd hn hz MQ om om (Nat.le_refl _) true (xP:=xP) (hiv:=some (.int kk hh)) (Q2:=some (.int k' hh)) (fun _=>rfl)
         (fun len cap e3 e4=>⟨hh.toNat,pt om (by subst e3;omega) k',pt om (by simp;omega) kk,Nat.le_refl _,fun _=>rfl⟩) rfl (eF (jC e2 u5) h1 om)
        exact⟨_,x',_,F',q1,k1,k2,k3,k4,q2,hK⟩
     ·exact hw.elim
   ·exact hw.elim
  ·exact hw.elim
 ·exact hw.elim
end
section
variable {T E:Env} {X:Cx} {ρ:Gh} {F:Nat→Prop} {o:Ob} {c:Nat} {af:AF} {f:Fr} {h:ab} {p:Oper} {K:OK}
theorem KM {x:Value} (h:∀a,x≠ .agg a):x.cells= #[x]:=by
 cases x<;>first|rfl |exact absurd rfl (h _)
theorem Cy {x:Value} (h:aC x=true):∀a,x≠ .agg a:=by rintro a rfl;simp[aC]at h
theorem jl {v:TV} {x:Value} (hv:VR c ρ F h v x) (ho:okV v=true):dI c ρ F h (aF v) x.cells.toList:=by
 have one:(∀a,x≠ .agg a)→aF v=[v]→dI c ρ F h (aF v) x.cells.toList:=fun h1 h2=>by
  rw[h2,KM h1];exact .cons hv .nil
 cases hv with
 |j=>simp[okV,xw]at ho
 |s hp=>exact one (Cy hp) rfl
 |nil=>exact one (by rintro a e;cases e) rfl
 |sl=>exact one (by rintro a e;cases e) rfl
 |tk hn p5 ha h0=>exact one (by rintro a rfl;simp[KA]at p5) rfl
 |ptr=>exact one (by rintro a e;cases e) rfl
 |ep=>exact one (by rintro a e;cases e) rfl
 |wp hn p5 ha h0=>exact one (by rintro a rfl;simp[YD]at p5) rfl
 |mp=>exact one (by rintro a e;cases e) rfl
 |bg=>exact one (by rintro a e;cases e) rfl
 |sv=>simp[okV,xw]at ho
 |pv=>simp[okV,xw]at ho
 |agg hs ha=>exact⟨by simpa[aF,Value.cells]using hs,fun i t v h1 h2=>ha i t v h1 (by simpa[Value.cells]using h2)⟩
 |dF=>simp[okV,xw]at ho
 |nq=>exact one (by rintro a e;cases e) rfl
 |cH=>exact one (by rintro a e;cases e) rfl
theorem xQ:∀{n:Nat} {l xs r:List TV} {l' Nj:List Value},c8 l n xs=some r→dI c ρ F h l l'→dI c ρ F h xs Nj→∃r',c8 l' n Nj=some r'∧dI c ρ F h r r'
 |0,l,[],r,l',Nj,hs,hl,hx=>by
  simp[c8]at hs;subst hs;rw[hx.bK];exact⟨l',by simp[c8],hl⟩
 |0,[],x::xs,r,l',Nj,hs,hl,hx=>by simp[c8]at hs
 |0,y::l,x::xs,r,l',Nj,hs,hl,hx=>by
  simp only[c8,Option.bind_eq_some_iff,Option.some.injEq]at hs;obtain⟨q,hq,rfl⟩:=hs;obtain⟨y',m,rfl,_,h2⟩:=hl.aP;obtain⟨x',k,rfl,h3,h4⟩:=hx.aP;obtain⟨r',h5,h6⟩:=xQ hq h2 h4;exact⟨x'::r',by simp[c8,h5],.cons h3 h6⟩
 |n+1,[],xs,r,l',Nj,hs,hl,hx=>by simp[c8]at hs
 |n+1,y::l,xs,r,l',Nj,hs,hl,hx=>by
  simp only[c8,Option.bind_eq_some_iff,Option.some.injEq]at hs;obtain⟨q,hq,rfl⟩:=hs;obtain⟨y',m,rfl,h1,h2⟩:=hl.aP;obtain⟨r',h5,h6⟩:=xQ hq h2 hx;exact⟨y'::r',by simp[c8,h5],.cons h1 h6⟩
theorem ux {pT pE:Nat→Option (Nat×Nat)} (hp:∀i x,pT i=some x→pE i=some x):∀{ps:List (Nat×TV)} {zs cs:List TV} {zv:List Value} {pv:List (Nat×Value)},Ak pT zs ps=some cs→dI c ρ F h zs zv→Rz c ρ F h ps pv→
 ∃cv,ka pE zv pv=some cv∧dI c ρ F h cs cv
 |[],zs,cs,zv,[],hf,hz,_=>by simp[Ak]at hf;subst hf;exact⟨zv,rfl,hz⟩
 |[],zs,cs,zv,_::_,hf,hz,hq=>hq.elim
 |a::l,zs,cs,zv,[],hf,hz,hq=>hq.elim
 |a::l,zs,cs,zv,b::m,hf,hz,hq=>by
  obtain⟨e,hv,hr⟩:=hq;unfold Ak at hf;split at hf
  ·rename_i q n nS;split at hf
   ·rename_i hc;simp only[Bool.and_eq_true,beq_iff]at hc;have rZ:=jl hv hc.1;split at hf
    ·rename_i ua cQ;obtain⟨r',h1,h2⟩:=xQ cQ hz rZ;obtain⟨cv,h3,h4⟩:=ux hp hf h2 hr;refine⟨cv,?_,h4⟩;obtain⟨i,x⟩:=b;simp only[ka];simp only at e;subst e;rw[hp _ _ nS];simp only[Option.bind_some];have:x.cells.size=n:=by have:=rZ.1;simp only[Array.length_toList]at this;omega
     rw[this];simp[bF,h1,h3]
    ·cases hf
   ·cases hf
  ·cases hf
theorem KN (L:cm T E) {t:TypeId} {ps:List (Nat×TV)} {pv:List (Nat×Value)} (hw:GZ T t ps o c K) (hp:Rz c ρ F h ps pv):jk c ρ F h o (tX E t pv) K:=by
 unfold GZ at hw;split at hw
 ·rename_i fields z hd hz;obtain⟨jY,nS⟩:=L.zero _ _ hz;split at hw
  ·rename_i zs iY jy;rw[Array.all_toList]at iY;split at hw
   ·rename_i cs hf;have Uy:∀i x,qS T fields i=some x→qS E fields i=some x:=fun i x hx=>by
     unfold qS at hx ⊢;simp only[Option.bind_eq_some_iff]at hx ⊢;obtain⟨fd,h1,n,h2,h3⟩:=hx;exact⟨fd,h1,n,L.size _ _ h2,h3⟩
    obtain⟨cv,h1,h2⟩:=ux Uy hf (fV nS jy) hp;refine⟨_,_,?_,.gz (a:=cv.toArray) (by simpa using h2),hw⟩;unfold tX;rw[L.desc _ _ hd,jY];simp only[Option.bind_some];have Z2:(fields.all fun fd=>(E.size fd.type).isSome)=true:=by
     rw[Array.all_eq_true]at iY ⊢;intro i hi;have:=iY i hi;obtain⟨n,hn⟩:=Option.isSome_iff_exists.1 this;rw[L.size _ _ hn];rfl
    rw[Z2];simp[bF,h1]
   ·exact hw.elim
  ·exact hw.elim
 ·rename_i len elem z hd hz;obtain⟨jY,nS⟩:=L.zero _ _ hz;split at hw
  ·rename_i n zs hn jy;split at hw
   ·rename_i cs hf;obtain⟨cv,h1,h2⟩:=ux (pE:=fun i=>some (i*n,n)) (fun i x hx=>hx) hf (fV nS jy) hp;refine⟨_,_,?_,.gz (a:=cv.toArray) (by simpa using h2),hw⟩;unfold tX;rw[L.desc _ _ hd,jY];simp only[Option.bind_some,L.size _ _ hn,h1]
   ·exact hw.elim
  ·exact hw.elim
 ·exact hw.elim
theorem Hh (L:cm T E) {s d:TypeId} {x v:Value} (hx:qD T s d x=some v):qD E s d x=some v:=by
 unfold qD at hx ⊢;simp only[Option.bind_eq_some_iff]at hx ⊢;obtain⟨q,h1,dd,h2,h3⟩:=hx;exact⟨q,L.desc _ _ h1,dd,L.desc _ _ h2,h3⟩
end
section
variable {T E:Env} {X:Cx} {ρ:Gh} {F:Nat→Prop} {o:Ob} {c:Nat} {af:AF} {f:Fr} {h:ab} {p:Oper} {K:OK}
theorem Hi {v:Value} (hp:aC v=true) (hc:∀r,v≠ .chan r):jG v v=true:=by
 cases v<;>simp[aC]at hp<;>first
  |(simp[jG];done)
  |(exact absurd rfl (hc _))
  |(rename_i a;cases a<;>simp at hp<;>simp[jG])
theorem gS {t:TV} {x:Value} (hv:VR c ρ F h t x) (he:GS t=true):jG x x=true:=by
 cases hv with
 |j=>simp[GS]at he
 |s hp=>exact Hi hp (by rintro r rfl;simp[GS]at he)
 |nil=>simp[jG]
 |sl=>simp[jG]
 |tk hn p5 ha h0=>cases x<;>simp[KA]at p5;simp[jG]
 |ptr=>simp[jG]
 |ep=>simp[jG]
 |wp hn p5 ha h0=>cases x<;>simp[YD]at p5;simp[jG]
 |mp=>simp[jG]
 |bg=>simp[GS]at he
 |sv=>simp[GS]at he
 |pv=>simp[GS]at he
 |agg=>simp[GS]at he
 |dF=>simp[GS]at he
 |nq vt=>
  rename_i t v v';cases v<;>simp[GS]at he;rename_i w;cases w<;>simp at he;rw[vt.dj.1];simp[jG]
 |cH hs ha ht hk=>
  rename_i g x y a k;cases x<;>simp[GS]at he;cases y<;>simp at he;simp at hs ht;simp[jG,←hs,←ht]
theorem uy:∀{l:List TV} {m:List Value},dI c ρ F h l m→l.all GS=true→gu m m=true
 |[],m,H,_=>by rw[H.bK];rfl
 |t::l,m,H,he=>by
  simp only[List.all_cons,Bool.and_eq_true]at he;obtain⟨v,m',rfl,h1,h2⟩:=H.aP;simp only[gu,Bool.and_eq_true];exact⟨gS h1 he.1,uy h2 he.2⟩
theorem Cz {c1:Nat} {iw:Gh} {l:List TV} {m:List Value} {v:VL} {q:RQ} {ρ':Gh} {o':Ob} {h':ab} (H:dI c1 iw F h l m) (NQ:gu m m=true→fM ρ F o h ρ' o' h' v (.rd q h)):fM ρ F o h ρ' o' h' (NU l v) (.rd q h):=by
 unfold NU;split
 ·rename_i he;exact NQ (uy H he)
 ·exact .bad
def jm (X:Cx) (c:Nat) (ρ:Gh) (F:Nat→Prop) (h:ab) (o:Ob) (q:RQ) (K:OK):Prop:=∃v x lg ρ' o' c',q.run h=some x∧Nx X ρ F o c h ρ' F o' c' h∧VR c' ρ' F h v x∧K v o' c' lg∧fM ρ F o h ρ' o' h lg (.rd q h)
theorem jm.Gp {q:RQ} (R:jm X c ρ F h o q K) (hp:aM E af p=none) (hq:bL E af p=some q):eZ E X ρ F o c af h p K:=by
 obtain⟨v,x,lg,ρ',o',c',h1,h2,h3,h4,h5⟩:=R;refine⟨0,⟨x,h,.rd q h⟩,v,o',c',ρ',F,lg,fun n _=>?_,h4,h2,h3,h5⟩;unfold eH;rw[hp,hq];simp[h1]
theorem jm.same {q:RQ} (H:Mem X ρ F o c h) {v:TV} {x:Value} {lg:VL} (h1:q.run h=some x) (h2:VR c ρ F h v x) (h3:K v o c lg) (h4:fM ρ F o h ρ o h lg (.rd q h)):jm X c ρ F h o q K:=⟨v,x,lg,ρ,o,c,h1,.refl H,h2,h3,h4⟩
theorem uz:∀{l:List TV} {k:Nat},(dV l k).2=[]→(dV l k).1=l
 |[],_,_=>rfl
 |t::l,k,hn=>by
  cases t<;>first|(simp only[dV]at hn ⊢;rw[uz hn])|(simp[dV]at hn)
theorem kx {α:Type}:∀{l xs r:List α} {p:Nat},c8 l p xs=some r→r=l.take p++(xs++(l.drop p).drop xs.length)
 |l,[],r,0,h=>by simp[c8]at h;subst h;simp
 |[],x::xs,r,0,h=>by simp[c8]at h
 |y::l,x::xs,r,0,h=>by
  simp only[c8,Option.bind_eq_some_iff,Option.some.injEq]at h;obtain⟨q,hq,rfl⟩:=h;have:=kx hq;simp only[List.take_zero,List.nil_append,List.drop_zero]at this;rw[this];simp
 |[],xs,r,p+1,h=>by simp[c8]at h
 |y::l,xs,r,p+1,h=>by
  simp only[c8,Option.bind_eq_some_iff,Option.some.injEq]at h;obtain⟨q,hq,rfl⟩:=h;rw[kx hq];simp
theorem Av:∀(l:List TV) (k:Nat),(dV l k).1.length=l.length
 |[],_=>rfl
 |t::l,k=>by cases t<;>simp[dV,Av l]
theorem Et (H:Mem X ρ F o c h) {S:Nat→Ft} (K0:MO X ρ F o c h S) {agg:Bool} {n p q m b:Nat} {e:List TV} {y:TO} {put:List TV→TO} {Se:Ft} {vs:List Value} {lg:VL} (hw:Aj agg n p e o c lg put m K) (hl:look o m=some y) (hb:At ρ m b) (vl:lg= .lu m∨lg= .zI m p .j∧p=q∧ρ m=some (.dw b))
 (hc:cI c ρ F h X.base Se e vs) (hr:n≤(e.drop p).length→M.ae h b q n=some ((vs.drop p).take n))
 (Wp:∀c' ρ' e' S',(∀t v,VR c ρ F h t v→VR c' ρ' F h t v)→ρ' m=ρ m→e'.length=e.length→cI c' ρ' F h X.base S' e' vs→∃S0,OR c' ρ' F h X.base m S0 (put e')∧∀R,Se.Perm (S'++R)→(S m).Perm (S0++R)):
 jm X c ρ F h o (.cells agg b q n) K:=by
 unfold Aj at hw;split at hw
 ·exact hw.elim
 ·rename_i l ht;rw[aW]at ht;obtain⟨t1,rfl⟩:=ht;have Eu:=hr t1;obtain⟨S1,S2,S3,hS,a1,a2,a3⟩:=hc.part p n;have fzm:∀t v,VR 0 um F h t v→fz t=true→VR c ρ F h t v:=fun t v hv hf=>hv.dN hf;split at hw
  ·rename_i mK;split at hw
   ·rename_i v hv;obtain⟨hK,_⟩:=eo hw;obtain⟨Ss,ls,b1,b2,b3⟩:=a2.opened c;have qE:ls.length=0:=by rw[b2.l2,mK];rfl
    have hV:=b3 c ρ (fun _ _ h=>h) om (fun i q hq=>by
     have:=(List.getElem?_eq_some_iff.1 hq).1;omega)
    rw[uz mK]at hV;obtain⟨x,h6,h7⟩:=fX hv hV;have main:gu ((vs.drop p).take n) ((vs.drop p).take n)=true→fM ρ F o h ρ o h (nmL v lg) (.rd (.cells agg b q n) h):=by
     intro he;have pl:fM ρ F o h ρ o h (.lu m) (.rd (.cells agg b q n) h):=.lu (.refl _) rfl hl hb ⟨_,Eu,he⟩;rcases vl with rfl |⟨rfl,rfl,II⟩
     ·exact pl
     have one:∀w,v=w→di w=false→eD w=true→(∀cs,w≠ .agg cs)→(∀y,VR c ρ F h w y→kX ρ w y)→fM ρ F o h ρ o h (.zI m p w) (.rd (.cells agg b p n) h):=by
      rintro w rfl _ _ Gl Uw;unfold eM at hv;split at hv
      ·cases hv;exact absurd rfl (Gl _)
      ·rename_i l' w' heq;cases hv;rw[heq]at hV;obtain⟨y1,m1,e1,hy,Gw⟩:=hV.aP;obtain rfl:=Gw.bK;have Dp:n=1:=by
        have:=congrArg List.length heq;rw[List.length_take]at this;simp only[List.length_cons,List.length_nil]at this;omega
       subst Dp;rw[e1]at Eu;exact .zI (.refl _) rfl hl II (Uw _ hy) Eu
      ·cases hv
     unfold nmL;split
     ·rename_i m' p' v' heq;cases heq;split
      ·exact one _ rfl rfl rfl (by rintro cs e;cases e) fun y hy=>by cases hy with|mp hb=>exact .inl ⟨_,_,rfl,hb,rfl⟩
      ·exact one _ rfl rfl rfl (by rintro cs e;cases e) fun y hy=>by cases hy with|ptr hb=>exact .inr ⟨_,_,_,rfl,hb,rfl⟩
      ·exact pl
     ·rename_i bc;exact absurd rfl (bc _ _ _)
    exact jm.same H (by simp[RQ.run,Eu,h6]) h7 hK (Cz hV main)
   ·exact hw.elim
  ·rename_i q0 new mK;split at hw
   ·rename_i e' v cQ hv;obtain⟨hK,_⟩:=eo hw;have hA:∀ls:List Loc,∀t v,VR c ρ F h t v→VR (c+(new.length+1)) (oI ρ c ls) F h t v:=fun ls t v=>VR.mono om (fun n l hn h1=>by rwa [fA _ _ hn]at h1) (fun n b h1=>by rw[fA _ _ (H.names _ _ h1)];exact h1) (fun _ h=>h) (fun _ _ _ h=>h);obtain⟨Ss,ls,b1,b2,b3⟩:=a2.opened c;rw[mK]at b2;have zF:ls.length=new.length+1:=b2.l2;have hV:=b3 (c+(new.length+1)) (oI ρ c ls) (hA ls) om (fun i q hq=>by rw[sN];exact hq);obtain⟨x,h6,h7⟩:=fX hv hV;have hlen:(dV ((e.drop p).take n) c).1.length=n:=by rw[Av,List.length_take];omega
    have Dt:=kx cQ;rw[hlen]at Dt;have Gz:=H.lt hl;have Z3:cI (c+(new.length+1)) (oI ρ c ls) F h X.base (S1++S3) e' vs:=by
     have k1:=a1.bl (c':=c+(new.length+1)) (ρ':=oI ρ c ls) (F':=F) (h':=h) (T:=fun _=>False) H.wf (fun _ _ _=>rfl) (fun _ h=>h) (fun _ _ _ h=>h) (hA ls) (fun _ _ hf=>hf.elim);have k3:=a3.bl (c':=c+(new.length+1)) (ρ':=oI ρ c ls) (F':=F) (h':=h) (T:=fun _=>False) H.wf (fun _ _ _=>rfl) (fun _ h=>h) (fun _ _ _ h=>h) (hA ls) (fun _ _ hf=>hf.elim);have:=k1.join ((cI.kU (base:=X.base) hV).join k3);rw[List.take_append_drop,List.take_append_drop,←Dt]at this;exact this
    obtain⟨S0,hO,hP⟩:=Wp _ _ e' (S1++S3) (hA ls) (fA _ _ Gz) (dv cQ).2.1 Z3;have Aw:(S m).Perm (S0++Ss.flatten):=hP _ (by
     rw[hS,←b1,List.append_assoc];exact List.perm_append_comm.append_left _)
    obtain⟨M,hk⟩:=H.opens K0 (y1:=put e') hl b2 Aw (fun _=>hO);refine⟨v,x,_,_,_,_,by simp[RQ.run,Eu,h6],⟨M,hk,Nat.le_refl _,fun _ h=>h,fun _ _ _ h=>h⟩,h7,hK,Cz hV fun he=>(show ZH lg= .lu m by rcases vl with rfl |⟨rfl,_⟩<;>rfl)▸ .lu (fun n' y' rN _=>⟨?_,fA _ _ (H.lt rN),fun b _=>⟨rfl,fun _ h=>h⟩⟩) rfl hl hb ⟨_,Eu,he⟩⟩;rw[jL,uo b2,if_pos (H.lt rN)];simp only
    rw[eg];by_cases em:n'=m
    ·rw[if_pos em,hl];exact⟨_,rfl⟩
    ·rw[if_neg em];exact⟨_,rN⟩
   ·exact hw.elim
theorem Wq {z i p n b:Nat} {v1 v2 v3:List Value} (hr:h.rd b=some (v1++(v2++v3))) (h1:v1.length=i*z) (h2:n≤(v2.drop p).length):M.ae h b (i*z+p) n=some ((v2.drop p).take n):=by
 unfold M.ae;rw[hr];simp only[Option.bind_some,aW];rcases Nat.eq_zero_or_pos n with h0|h0
 ·subst h0;simp
 ·simp only[List.length_drop]at h2;have e:(v1++(v2++v3)).drop (i*z+p)=v2.drop p++v3:=by
   rw[←h1,List.drop_append,List.drop_eq_nil_of_le om,Nat.add_sub_cancel_left,List.nil_append,List.drop_append_of_le_length om]
  rw[e];refine⟨by rw[List.length_append,List.length_drop];omega,?_⟩;rw[List.take_append_of_le_length (by rw[List.length_drop];omega)]
theorem Oi (L:cm T E) (H:Mem X ρ F o c h) {t:TypeId} {a:TV} {av:Value} (hw:NV T t a o c K) (ha:VR c ρ F h a av):
 ∃q,((jc av).bind fun p=>(eQ E t).bind fun s=>some (.cells s.1 p.1 p.2 s.2))=some q∧jm X c ρ F h o q K:=by
 unfold NV at hw;split at hw
 ·exact hw.elim
 ·rename_i agg n hs;have ZC:=L.shape hs;obtain⟨S,K0⟩:=H.ex;split at hw
  ·rename_i m q;split at hw
   ·rename_i cs hl;have hO:=K0.b7 m _ hl;generalize hS:S m=Sm at hO;cases hO with
    |cells hb hg oy hc=>
     rename_i Sq b aQ cs';cases ha with
     |ptr bX=>
      rw[hb]at bX;cases bX;refine⟨.cells agg b q n,by simp[jc,ZC],Et H K0 hw hl (.inl hb) (.inr ⟨rfl,rfl,hb⟩) hc (fun hn=>?_) fun c' ρ' e' S' hm fp hlen Z3=>⟨_,.cells (fp.trans hb) hg oy Z3,fun R hR=>by rw[hS];exact hR.cons _⟩⟩;unfold M.ae;rw[dD (bM hg hg) oy (aB hg)];simp only[Option.bind_some,aW,and_true];have:=hc.len;simp only[List.length_drop]at hn ⊢;omega
   ·exact hw.elim
  ·rename_i e q;split at hw
   ·rename_i l ht;split at hw
    ·rename_i v hv;obtain⟨hK,_⟩:=eo hw;cases ha with
     |ep h1 h2 h3 h4 h5=>
      rename_i b q0 cs;rw[aW]at ht;obtain⟨t1,rfl⟩:=ht;simp only[List.length_drop]at t1;have hlen:n≤(cs.drop (q0+q)).length∨n=0:=by
       simp only[List.length_drop];omega
      have hR:dI c ρ F h ((e.drop q).take n) ((cs.drop (q0+q)).take n):=by
       refine⟨by simp;omega,fun i t v r1 r2=>?_⟩;rw[List.getElem?_take]at r1 r2;split at r1
       ·rename_i bH;rw[if_pos bH]at r2;rw[List.getElem?_drop]at r1 r2;exact h5 (q+i) t v r1 (by rw[←r2];congr 1;omega)
       ·cases r1
      obtain⟨x,h6,h7⟩:=fX hv hR;have Eu:M.ae h b (q0+q) n=some ((cs.drop (q0+q)).take n):=by
       unfold M.ae;rw[h2];simp only[Option.bind_some,aW,and_true];rcases hlen with h8|h8
       ·exact h8
       ·omega
      exact⟨.cells agg b (q0+q) n,by simp[jc,ZC],jm.same H (by simp[RQ.run,Eu,h6]) h7 hK (Cz hR fun he=>.IY (.refl _) rfl h1 ⟨_,_,_,_,rfl⟩ ⟨_,Eu,he⟩)⟩
    ·exact hw.elim
   ·exact hw.elim
  ·rename_i m i q;split at hw
   ·rename_i z w es hl;obtain⟨e,he,hw⟩:=hw;split at hw
    ·rename_i l ht;split at hw
     ·rename_i v hv;obtain⟨hK,_⟩:=eo hw;obtain⟨b,z',l',hb,rfl⟩:=uw H hl rfl ha;obtain⟨Sm,hO⟩:=H.b7 hl;cases hO with
      |nil bX hz=>rw[hb]at bX;cases bX
      |arr bX hg hf oy dx hz hlen mj gK hc hF=>
       rename_i f t0 eX aQ cs;rw[hb]at bX;cases bX;have fP:=dD hf oy (aB hg);rw[aW]at ht;obtain⟨t1,rfl⟩:=ht;simp only[List.length_drop]at t1;have MX:=mj e (List.mem_of_getElem? he);have hi:i<es.length:=(List.getElem?_eq_some_iff.1 he).1;have hle:(i+1)*z≤es.length*z:=Nat.mul_le_mul_right z hi;rw[Nat.add_mul]at hle;have hR:dI c ρ F h ((e.drop q).take n) ((cs.drop (i*z+q)).take n):=by
        refine⟨by simp;omega,fun j t v r1 r2=>?_⟩;rw[List.getElem?_take]at r1 r2;split at r1
        ·rename_i bH;rw[if_pos bH]at r2;rw[List.getElem?_drop]at r1 r2;exact hc i (q+j) e t v he r1 (by rw[←r2];congr 1;omega)
        ·cases r1
       obtain⟨x,h6,h7⟩:=fX hv hR;have Eu:M.ae h b (i*z+q) n=some ((cs.drop (i*z+q)).take n):=by
        unfold M.ae;rw[fP];simp only[Option.bind_some,aW,and_true,List.length_drop];omega
       exact⟨.cells agg b (i*z+q) n,by simp[jc,ZC],jm.same H (by simp[RQ.run,Eu,h6]) h7 hK (Cz hR fun Dt=>.lu (.refl _) rfl hl (.inr ⟨_,_,hb⟩) ⟨_,Eu,Dt⟩)⟩
     ·exact hw.elim
    ·exact hw.elim
   ·rename_i z es op hl;obtain⟨b,z',l',hb,rfl⟩:=uw H hl rfl ha;have hO:=K0.b7 m _ hl;generalize hS:S m=Sm at hO;cases hO with
    |gF bX hz=>rw[hb]at bX;cases bX
    |bx bX hg hf oy dx hz hlen mj bT jA hc=>
     rename_i Sq f t0 eX aQ cs;rw[hb]at bX;cases bX;have fP:=dD hf oy (aB hg);have fc:=rP bT;refine⟨.cells agg b (i*z+q) n,by simp[jc,ZC],?_⟩
     -- a row that is there as it is
     have row:∀(Kz:List TV→List (Nat×List TV)) e,(cD es op)[i]? =some e→(∀e',e'.length=z→(∀p∈Kz e',p.1<es.length∧p.2.length=z)∧cD es (Kz e')=(cD es op).set i e')→Aj agg n q e o c (.lu m) (fun e'=>.bx z es (Kz e')) m K→jm X c ρ F h o (.cells agg b (i*z+q) n) K:=by
      intro Kz e Up xn hw;obtain⟨cW,jy⟩:=sL mj jA;have hi:i<(cD es op).length:=(List.getElem?_eq_some_iff.1 Up).1;have he:=jy e (List.mem_of_getElem? Up);have jd:(cD es op).set i e=cD es op:=by
       refine List.ext_getElem? fun k=>?_;rw[List.getElem?_set];by_cases ek:i=k
       ·subst ek;rw[if_pos rfl,if_pos hi,Up]
       ·rw[if_neg ek]
      rw[←jd]at hc;generalize cD es op=rows at*
      obtain⟨S1,S2,S3,v1,v2,v3,rfl,rfl,a1,a2,a3⟩:=ia jy hi hc;have e1:v1.length=i*z:=by
       have h1:=a1.len;have:=(fh jy Up).2;rw[Nat.add_mul]at this;rw[←h1,List.length_take];omega
      have e2:v2.length=z:=by rw[←a2.len];exact he
      refine Et H K0 hw hl (.inr ⟨_,_,hb⟩) (.inl rfl) a2 (fun hn=>Wq fP e1 (by simp only[List.length_drop]at hn ⊢;omega)) fun c' ρ' e' S' hm fp cC Z3=>?_;have jY:=xn e' (by rw[cC];exact he);have:=kG jy hi (a1.bl (T:=fun _=>False) H.wf (fun _ _ _=>rfl) (fun _ h=>h) (fun _ _ _ h=>h) hm (by simp)) Z3 (a3.bl (T:=fun _=>False) H.wf (fun _ _ _=>rfl) (fun _ h=>h) (fun _ _ _ h=>h) hm (by simp));rw[←jY.2]at this;refine⟨_,.bx (fp.trans hb) hg hf oy dx hz hlen mj bT jY.1 this,fun R hR=>?_⟩;rw[hS];refine List.Perm.cons _ ?_;show List.Perm _ ((S1++(S'++S3))++R);rw[List.append_assoc,List.append_assoc]
      refine List.Perm.append_left S1 ((hR.append_right S3).trans ?_);rw[List.append_assoc];exact List.perm_append_comm.append_left _
     have cW:=(sL mj jA).1;have Z4:∀{e':List TV},i<es.length→e'.length=z→∀p∈(i,e')::op,p.1<es.length∧p.2.length=z:=fun h1 h2 p hp=>by
      rcases List.mem_cons.1 hp with rfl |hp
      ·exact⟨h1,h2⟩
      ·exact jA p hp
     have Z5:∀{e':List TV},i<es.length→e'.length=z→∀p∈[(i,e')],p.1<es.length∧p.2.length=z:=fun h1 h2 p hp=>by
      simp only[List.mem_singleton]at hp;subst hp;exact⟨h1,h2⟩
     unfold IZ at hw;split at hw
     ·obtain⟨e,he,hw⟩:=hw;exact row (fun e'=>[(i,e')]) e he (fun e' rN=>⟨Z5 (List.getElem?_eq_some_iff.1 he).1 rN,rfl⟩) hw
     ·rename_i j ej;obtain⟨o1,o2⟩:=jA (j,ej) (by simp);by_cases YH:i=j
      ·subst YH;exact row (fun e'=>[(i,e')]) ej (by show(es.set i ej)[i]? =_;rw[List.getElem?_set_self o1]) (fun e' rN=>⟨Z5 o1 rN,by show es.set i e'=(es.set i ej).set i e';rw[List.set_set]⟩) (hw.1 rfl)
      ·obtain⟨e,he,hw⟩:=hw.2 YH;have Up:(es.set j ej)[i]? =some e:=by rw[List.getElem?_set,if_neg (fun h=>YH h.symm)];exact he
       exact row (fun e'=>(i,e')::[(j,ej)]) e Up (fun e' rN=>⟨Z4 (List.getElem?_eq_some_iff.1 he).1 rN,rfl⟩) hw
     ·obtain⟨e,he,hw⟩:=hw;exact row (fun e'=>(i,e')::op) e he (fun e' rN=>⟨Z4 (by rw[←cW];exact(List.getElem?_eq_some_iff.1 he).1) rN,rfl⟩) hw
   ·exact hw.elim
  ·exact hw.elim
theorem qe {kd:TypeDesc} {k:Value} {n:Nat} (hk:kindOk kd k n=true):(∃b,kd= .bool∧k= .bool b∧n=1)∨(∃s,kd= .string∧k= .string s∧n=2)∨(∃i x,kd= .int i∧k= .int i x∧n=iZ i):=by
 unfold kindOk at hk;simp only[Bool.and_eq_true,beq_iff,aS]at hk;obtain⟨⟨h0,h1⟩,h2⟩:=hk;cases kd<;>simp[xu]at h1<;>try omega
 ·cases k<;>simp[a6]at h2<;>try omega
  ·exact .inl ⟨_,rfl,rfl,h1.symm⟩
  ·rename_i i x;subst h1;cases i<;>simp[iZ]at h2
 ·rename_i i;cases k<;>simp[a6]at h2<;>try omega
  ·subst h1;cases i<;>simp[iZ]at h2
  ·rename_i j x;have:i=j:=by subst h1;cases i<;>cases j<;>simp[iZ]at h2<;>rfl
   subst this;exact .inr (.inr ⟨_,_,rfl,rfl,h1.symm⟩)
  ·subst h1;cases i<;>simp[iZ]at h2
 ·cases k<;>simp[a6]at h2<;>try omega
  ·rename_i i x;subst h1;cases i<;>simp[iZ]at h2
  ·exact .inr (.inl ⟨_,rfl,rfl,h1.symm⟩)
theorem jD {kd:TypeDesc} {k:Value} {n:Nat} (hk:kindOk kd k n=true):iD kd=true∧scalar k=true:=by
 rcases qe hk with⟨_,rfl,rfl,_⟩|⟨_,rfl,rfl,_⟩|⟨_,_,rfl,rfl,_⟩<;>exact⟨rfl,rfl⟩
theorem jN {kd:TypeDesc} {k k':Value} {n:Nat} (hk:kindOk kd k n=true) (pd:a6 k'=n):Instr.sameNow kd k k'=some (qI k k'):=by
 rcases qe hk with⟨b,rfl,rfl,rfl⟩|⟨s,rfl,rfl,rfl⟩|⟨i,x,rfl,rfl,rfl⟩
 ·cases k'<;>simp[a6]at pd
  ·rfl
  ·rename_i j y;cases j<;>simp[iZ]at pd
 ·cases k'<;>simp[a6]at pd
  ·rename_i j y;cases j<;>simp[iZ]at pd
  ·rfl
 ·cases k'<;>simp[a6]at pd<;>try(cases i<;>simp[iZ]at pd;done)
  rename_i j y;have:i=j:=by cases i<;>cases j<;>simp[iZ]at pd<;>rfl
  subst this;simp[Instr.sameNow,qI]
def uA (c:Nat) (ρ:Gh) (F:Nat→Prop) (h:ab) (kd:Nat) (es:List (Value×TV)) (bS:List MapEntry):Prop:=
 es.length=bS.length∧∀(i:Nat) e e',es[i]? =some e→bS[i]? =some e'→e'.key=e.1∧(0<kd∧a6 e.1=kd)∧DY e.2=true∧VR c ρ F h e.2 e'.val
theorem uA.aP {kd:Nat} {e:Value×TV} {es:List (Value×TV)} {bS:List MapEntry} (H:uA c ρ F h kd (e::es) bS):∃e' m,bS=e'::m∧e'.key=e.1∧(0<kd∧a6 e.1=kd)∧DY e.2=true∧VR c ρ F h e.2 e'.val∧uA c ρ F h kd es m:=by
 match bS,H with
 |[],H=>have:=H.1;simp at this
 |e'::m,H=>
  obtain⟨h1,h2,h3,h4⟩:=H.2 0 e e' rfl rfl;exact⟨e',m,rfl,h1,h2,h3,h4,by simpa using H.1,fun i x x' q1 q2=>H.2 (i+1) x x' (by simpa using q1) (by simpa using q2)⟩
theorem uA.bK {kd:Nat} {bS:List MapEntry} (H:uA c ρ F h kd [] bS):bS=[]:=by have:=H.1;cases bS<;>simp_all
theorem sP {kd:TypeDesc} {k:Value} {n:Nat} (hk:kindOk kd k n=true):∀{es:List (Value×TV)} {bS:List MapEntry} (i:Nat),uA c ρ F h n es bS→
 (match gQ es k with
 |some v=>∃j x,Instr.findNow kd k bS i=some (some (i+j,x))∧VR c ρ F h v x∧DY v=true∧∃e,bS[j]? =some e∧e.val=x
 |none=>Instr.findNow kd k bS i=some none)
 |[],bS,i,H=>by rw[H.bK];rfl
 |e::es,bS,i,H=>by
  obtain⟨e',m,rfl,h1,h2,h3,h4,h5⟩:=H.aP;unfold gQ Instr.findNow;rw[h1,jN hk h2.2];cases hq:qI k e.1 with
  |true=>exact⟨0,e'.val,rfl,h4,h3,e',rfl,rfl⟩
  |false=>
   have ih:=sP hk (i+1) h5;simp only
   split
   ·rename_i v hv;rw[hv]at ih;obtain⟨j,x,q1,q2,q3,e2,q4,q5⟩:=ih;exact⟨j+1,x,by rw[q1];congr 3;omega,q2,q3,e2,by simpa using q4,q5⟩
   ·rename_i hv;rw[hv]at ih;exact ih
theorem CA {t:TV} (hf:fz t=true):GS t=true:=by
 unfold fz at hf;split at hf
 ·rename_i v;cases v<;>first|rfl |simp[xr]at hf
 ·rfl
 ·rfl
 ·rfl
 ·cases hf
theorem Oj {t:TV} {x:Value} (hv:VR c ρ F h t x) (hf:DY t=true):Dm x x=true:=by
 have one:jG x x=true→Dm x x=true:=fun h=>by
  unfold Dm;split
  ·simp[jG]at h
  ·exact h
 unfold DY at hf;split at hf
 ·obtain⟨a,rfl,h1⟩:=hv.fo;exact uy h1 (List.all_eq_true.2 fun t ht=>CA (List.all_eq_true.1 hf t ht))
 ·exact one (gS hv (CA hf))
theorem uA.refl {kd:Nat}:∀{es:List (Value×TV)} {bS:List MapEntry},uA c ρ F h kd es bS→wR bS bS=true
 |[],bS,H=>by rw[H.bK];rfl
 |e::es,bS,H=>by
  obtain⟨e',m,rfl,h1,h2,h3,h4,h5⟩:=H.aP;simp only[wR,Bool.and_eq_true];refine⟨⟨⟨?_,Oj h4 h3⟩,by simp⟩,h5.refl⟩;rw[h1];have:=h2.2;cases he:e.1<;>rw[he]at this<;>simp[a6]at this<;>try omega
  all_goals simp[Dm,jG]
theorem xR {a b:ByteArray}:(a==b)=true↔a=b:=by
 cases a;cases b;show(Array.instBEq.beq _ _)=true↔_;simp
theorem Ol {kd:TypeDesc} {k k':Value} {n:Nat} (hk:kindOk kd k n=true) (pd:a6 k'=n) (h:qI k k'=true):k=k':=by
 rcases qe hk with⟨b,rfl,rfl,rfl⟩|⟨s,rfl,rfl,rfl⟩|⟨i,x,rfl,rfl,rfl⟩
 ·cases k'<;>simp[a6]at pd
  ·simpa[qI]using h
  ·rename_i j y;cases j<;>simp[iZ]at pd
 ·cases k'<;>simp[a6]at pd
  ·rename_i j y;cases j<;>simp[iZ]at pd
  ·simp only[qI]at h;rw[xR.1 h]
 ·cases k'<;>simp[a6]at pd<;>try(cases i<;>simp[iZ]at pd;done)
  rename_i j y;have:i=j:=by cases i<;>cases j<;>simp[iZ]at pd<;>rfl
  subst this;simpa[qI]using h
theorem sQ {kd:TypeDesc} {k:Value} {n:Nat} (hk:kindOk kd k n=true):qI k k=true:=by
 rcases qe hk with⟨b,rfl,rfl,rfl⟩|⟨s,rfl,rfl,rfl⟩|⟨i,x,rfl,rfl,rfl⟩<;>simp[qI,xR]
theorem Om {a b c:Value} (h:qI a b=true):qI c b=qI c a:=by
 unfold qI at h;split at h
 ·have:=eq_of_beq h;subst this;cases c<;>rfl
 ·have:=eq_of_beq h;subst this;cases c<;>rfl
 ·have:=xR.1 h;subst this;cases c<;>rfl
 ·cases h
theorem iN.find {base:Nat} {kd:TypeDesc} {k:Value} {n:Nat} (hk:kindOk kd k n=true):∀{M:List (Value×TV)} {ev:List MapEntry} {S:Ft} (i:Nat),iN c ρ F h base n S M ev→
 (match gQ M k with
 |some v=>∃j x S1 S2 S3,Instr.findNow kd k ev i=some (some (i+j,x))∧S=S1++(S2++S3)∧cI c ρ F h base S2 (aF v) x.cells.toList∧di v=fH x∧
  ∀c' ρ' v' RD,(∀e∈M,∀t∈aF e.2,mD t=true)→cI c' ρ' F h base RD (aF v') x.cells.toList→di v'=fH x→iN c' ρ' F h base n (S1++(RD++S3)) (dG M k v') ev
 |none=>Instr.findNow kd k ev i=some none)
 |[],ev,S,i,H=>by cases H;rfl
 |e::es,ev,S,i,H=>by
  cases H with
  |cons ml iH ha hv hl=>
   rename_i Sa Sb e' m;unfold gQ Instr.findNow;rw[ml,jN hk iH.2];cases hq:qI k e.1 with
   |true=>
    refine⟨0,e'.val,[],Sa,Sb,rfl,rfl,hv,ha,fun c' ρ' v' RD bT uX wZ=>?_⟩;unfold dG;rw[hq];have:=Ol hk iH.2 hq;subst this;have:=iN.cons (e:=(e.1,v')) ml iH wZ uX (hl.conv (c':=c') (ρ':=ρ') fun e he=>bT e (List.mem_cons_of_mem _ he));exact this
   |false=>
    have ih:=iN.find hk (i+1) hl;simp only
    split
    ·rename_i v IS;rw[IS]at ih;obtain⟨j,x,S1,S2,S3,q1,q2,q3,q4,q5⟩:=ih;refine⟨j+1,x,Sa++S1,S2,S3,by rw[q1];congr 3;omega,by rw[q2,List.append_assoc],q3,q4,fun c' ρ' v' RD bT uX wZ=>?_⟩;unfold dG;rw[hq,List.append_assoc];exact .cons ml iH ha (hv.conv (bT e List.mem_cons_self)) (q5 c' ρ' v' RD (fun e he=>bT e (List.mem_cons_of_mem _ he)) uX wZ)
    ·rename_i IS;rw[IS]at ih;exact ih
theorem VR.eM {v:TV} {x:Value} (H:dI c ρ F h (aF v) x.cells.toList) (ha:di v=fH x):VR c ρ F h v x:=by
 cases v with
 |agg cs=>
  cases x<;>simp[di,fH]at ha;exact .gz H
 |_=>
  have hx:x.cells= #[x]:=by cases x<;>first|rfl |simp[di,fH]at ha
  rw[hx]at H;exact H.head
theorem zO {b:Bool} {l:List TV} {v:TV} {x:Value} (ho:eM b l=some v) (H:dI c ρ F h l x.cells.toList) (ha:b=fH x):aF v=l∧di v=b∧VR c ρ F h v x:=by
 unfold eM at ho;split at ho
 ·cases ho;refine⟨rfl,rfl,?_⟩;cases x<;>simp[fH]at ha;exact .gz H
 ·cases ho;have hx:x.cells= #[x]:=by cases x<;>first|rfl |simp[fH]at ha
  rw[hx]at H;have hv:=H.head;have hn:∀cs,v≠ .agg cs:=by
   rintro cs rfl;obtain⟨a,rfl,_⟩:=hv.fo;simp[fH]at ha
  refine⟨?_,?_,hv⟩
  ·cases v<;>first|rfl |exact absurd rfl (hn _)
  ·cases v<;>first|rfl |exact absurd rfl (hn _)
 ·cases ho
theorem On {base:Nat} {S:Ft} {t:TV} {x:Value} (H:CR F h base S (.c t x)):jG x x=true:=by
 cases H with
 |fz hf hv=>exact gS hv (CA hf)
 |own hl hv=>
  rename_i y l;cases y with
  |cells cs=>exact gS hv rfl
  |map kd es=>exact gS hv rfl
  |eL kd es op=>exact gS hv rfl
  |arr z w es=>exact gS hv rfl
  |bx z es op=>exact gS hv rfl
  |gZ ks=>cases hv;simp[jG]
theorem cI.gu {base:Nat} {S:Ft} {l:List TV} {m:List Value} (H:cI c ρ F h base S l m):(∀t∈l,GS t=true∨mD t=true)→gu m m=true:=by
 induction H with
 |nil=>intro _;rfl
 |vr hv _ ih=>
  rename_i t v l m _;intro hc;simp only[M.gu,Bool.and_eq_true];refine⟨?_,ih fun t ht=>hc t (List.mem_cons_of_mem _ ht)⟩;rcases hc t List.mem_cons_self with h1|h1
  ·exact gS hv h1
  ·unfold mD at h1;split at h1
   ·cases hv
   ·exact gS hv (CA h1)
 |cl hv _ ih=>
  intro hc;simp only[M.gu,Bool.and_eq_true];exact⟨On hv,ih fun t ht=>hc t (List.mem_cons_of_mem _ ht)⟩
theorem KP {x:Value} (h:gu x.cells.toList x.cells.toList=true):Dm x x=true:=by
 cases x with
 |agg a=>exact h
 |_=>simpa[Dm,gu,Value.cells]using h
theorem iN.refl {base kd:Nat} {S:Ft} {l:List (Value×TV)} {m:List MapEntry} (H:iN c ρ F h base kd S l m):(∀e∈l,∀t∈aF e.2,GS t=true∨mD t=true)→wR m m=true:=by
 induction H with
 |nil=>intro _;rfl
 |cons hk iH ha hv _ ih=>
  rename_i e e' l m _;intro hc;simp only[wR,Bool.and_eq_true];refine⟨⟨⟨?_,KP (hv.gu (hc _ List.mem_cons_self))⟩,by simp⟩,ih fun e he=>hc e (List.mem_cons_of_mem _ he)⟩;rw[hk];have:=iH.2;cases he:e.1<;>rw[he]at this<;>simp[a6]at this<;>try omega
  all_goals simp[Dm,jG]
theorem Ax {k k':Value} {v:TV} (bc:qI k k'=false):∀{es:List (Value×TV)},gQ (dG es k' v) k=gQ es k
 |[]=>by simp[dG,gQ,bc]
 |e::es=>by
  unfold dG;cases hq:qI k' e.1 with
  |true=>
   have h2:qI k e.1=false:=(Om hq).trans bc;simp[gQ,bc,h2]
  |false=>
   simp only[gQ];rw[Ax bc]
theorem iN.kinds {base kd:Nat} {S:Ft} {l:List (Value×TV)} {m:List MapEntry} (H:iN c ρ F h base kd S l m):∀e∈l,a6 e.1=kd:=by
 induction H with
 |nil=>simp
 |cons hk iH ha hv _ ih=>
  intro e he;rcases List.mem_cons.1 he with rfl |he
  ·exact iH.2
  ·exact ih e he
theorem Ev {k:Value} {v:TV}:∀{es:List (Value×TV)},(k,v)∈dG es k v
 |[]=>by simp[dG]
 |e::es=>by
  unfold dG;cases qI k e.1 with
  |true=>simp
  |false=>exact List.mem_cons_of_mem _ Ev
theorem xS {kd:TypeDesc} {k:Value} {n:Nat} {v:TV} (hk:kindOk kd k n=true):∀{es:List (Value×TV)},gQ (dG es k v) k=some v
 |[]=>by simp[dG,gQ,sQ hk]
 |e::es=>by
  unfold dG;cases hq:qI k e.1 with
  |true=>simp[gQ,sQ hk]
  |false=>simp[gQ,hq,xS hk]
theorem KQ (H:Mem X ρ F o c h) {S:Nat→Ft} (K0:MO X ρ F o c h S) {v:TV} {x y:Value} {m b:Nat} {yo:TO} {S1 S2 S3:Ft} {put:TV→TO} {q:RQ} {wrap:TV→TV} (hw:GY v o c (.lu m) put m fun v o c lg=>K (wrap v) o c lg)
 (hl:look o m=some yo) (hS:S m=(b,true)::(S1++(S2++S3))) (hc:cI c ρ F h X.base S2 (aF v) x.cells.toList) (ha:di v=fH x) (gD:q.run h=some y) (oL:∀c ρ v,VR c ρ F h v x→VR c ρ F h (wrap v) y)
 (lz:fM ρ F o h ρ o h (.lu m) (.rd q h))
 (Wp:∀c' ρ' v',ρ' m=ρ m→cI c' ρ' F h X.base [] (aF v') x.cells.toList→di v'=fH x→OR c' ρ' F h X.base m ((b,true)::(S1++S3)) (put v')):
 jm X c ρ F h o q K:=by
 unfold GY at hw;split at hw
 ·rename_i mK;obtain⟨Ss,ls,b1,b2,b3⟩:=hc.opened c;have qE:ls.length=0:=by rw[b2.l2,mK];rfl
  have hV:=b3 c ρ (fun _ _ h=>h) om (fun i q hq=>by
   have:=(List.getElem?_eq_some_iff.1 hq).1;omega)
  rw[uz mK]at hV;exact jm.same H gD (oL _ _ _ (VR.eM hV ha)) hw lz
 ·rename_i q0 new mK;split at hw
  ·rename_i v' hv;have hA:∀ls:List Loc,∀t v,VR c ρ F h t v→VR (c+(new.length+1)) (oI ρ c ls) F h t v:=fun ls t v=>VR.mono om (fun n l hn h1=>by rwa [fA _ _ hn]at h1) (fun n b h1=>by rw[fA _ _ (H.names _ _ h1)];exact h1) (fun _ h=>h) (fun _ _ _ h=>h);obtain⟨Ss,ls,b1,b2,b3⟩:=hc.opened c;rw[mK]at b2;have zF:ls.length=new.length+1:=b2.l2;have hV:=b3 (c+(new.length+1)) (oI ρ c ls) (hA ls) om (fun i q hq=>by rw[sN];exact hq);obtain⟨e1,e2,e3⟩:=zO hv hV ha;have Aw:(S m).Perm (((b,true)::(S1++S3))++Ss.flatten):=by
    rw[hS,←b1];refine List.Perm.cons _ ?_;show List.Perm _ ((S1++S3)++S2);rw[List.append_assoc];exact List.perm_append_comm.append_left _
   obtain⟨M,hk⟩:=H.opens K0 (y1:=put v') hl b2 Aw (fun _=>Wp _ _ v' (fA _ _ (H.lt hl)) (by rw[e1];exact cI.kU hV) (e2.trans ha));cases lz with
   |lu hr hh Gk rY RE=>
    refine⟨_,_,_,_,_,_,gD,⟨M,hk,Nat.le_refl _,fun _ h=>h,fun _ _ _ h=>h⟩,oL _ _ _ e3,hw,.lu (fun n' y' rN _=>⟨?_,fA _ _ (H.lt rN),fun b _=>⟨rfl,fun _ h=>h⟩⟩) rfl hl rY RE⟩;rw[jL,uo b2,if_pos (H.lt rN)];simp only
    rw[eg];by_cases em:n'=m
    ·rw[if_pos em,hl];exact⟨_,rfl⟩
    ·rw[if_neg em];exact⟨_,rN⟩
  ·exact hw.elim
theorem Hj (L:cm T E) (H:Mem X ρ F o c h) {t:TypeId} {m k:TV} {ok:Bool} {mv kv:Value} (hw:Cb T t m k ok o c K) (hm:VR c ρ F h m mv) (hk:VR c ρ F h k kv):
 (mv= .map none∧jk c ρ F h o ((E.desc t).bind fun d=>(match(generalizing:=false) d,mv with
  | .map kt elem,.map none=>(E.desc kt).bind fun kd=>(E.zero elem).bind fun z=>bF (iD kd&&scalar kv&&fj z) (some (bif ok then .tuple #[z,.bool false]else z))
  |_,_=>none)) K)∨
 (∃r,mv= .map (some r)∧∃q,((E.desc t).bind fun d=>(match(generalizing:=false) d,mv with
  | .map kt elem,.map (some r)=>(E.desc kt).bind fun kd=>(E.zero elem).bind fun z=>bF (iD kd&&scalar kv&&fj z) (some (RQ.look r kd kv z ok))
  |_,_=>none))=some q∧jm X c ρ F h o q K):=by
 unfold Cb at hw;split at hw
 ·rename_i kt elem hd;split at hw
  ·rename_i kd z zP iH hz;obtain⟨jY,nS⟩:=L.zero _ _ hz;rw[hk.dj.1]
   have hq:∀b,kindOk kd zP (xu kd)=true→((E.desc t).bind fun d=>(match(generalizing:=false) d,Value.map (some b)with
    | .map kt elem,.map (some r)=>(E.desc kt).bind fun kd=>(E.zero elem).bind fun z=>bF (iD kd&&scalar zP&&fj z) (some (RQ.look r kd zP z ok))
    |_,_=>none))=some (RQ.look b kd zP z ok):=by
    intro b kz;obtain⟨Dr,KR⟩:=jD kz;rw[L.desc _ _ hd];simp only[Option.bind_some,L.desc _ _ iH,jY,Dr,KR,nS,Bool.and_self,bF]
   have QS:∀{n},kindOk kd zP n=true→kindOk kd zP (xu kd)=true:=fun {n} h=>by
    have h0:=h;unfold kindOk at h0 ⊢;simp only[Bool.and_eq_true,beq_iff]at h0 ⊢;obtain⟨⟨q1,q2⟩,q3⟩:=h0;subst q2;exact⟨⟨q1,trivial⟩,q3⟩
   split at hw
   ·rename_i n;right;split at hw
    ·rename_i kn es hl;split at hw
     ·rename_i kz;obtain⟨r,hr,hw⟩:=hw;obtain⟨Sm,hO⟩:=H.b7 hl;cases hO with
      |map hb hg hlen hc bW=>
       rename_i b clock bS;have hE:uA c ρ F h kn es bS:=⟨hlen,hc⟩;cases hm with
       |mp bX=>
        rw[hb]at bX;cases bX;refine⟨b,rfl,_,hq b (QS kz),?_⟩;have CB:eR h b=some (bS,clock):=by unfold eR;rw[hg]
        have lz:fM ρ F o h ρ o h (.lu n) (.rd (RQ.look b kd zP z ok) h):=.lu (.refl _) rfl hl (.inl hb) ⟨_,CB,hE.refl⟩;have hf:=sP kz 0 hE;rw[hr]at hf;cases r with
        |some v=>
         obtain⟨j,x,q1,q2,_⟩:=hf;simp only at hw;cases ok with
         |true=>exact jm.same H (by simp[RQ.run,CB,j4,q1]) (.iM (.cons q2 (.cons (.s rfl) .nil))) hw lz
         |false=>exact jm.same H (by simp[RQ.run,CB,j4,q1]) q2 hw lz
        |none=>
         simp only at hw hf;cases ok with
         |true=>exact jm.same H (by simp[RQ.run,CB,j4,hf]) (.iM (.cons (rL nS) (.cons (.s rfl) .nil))) hw lz
         |false=>exact jm.same H (by simp[RQ.run,CB,j4,hf]) (rL nS) hw lz
     ·exact hw.elim
    ·rename_i kn es op hl;split at hw
     ·rename_i kz;obtain⟨S,K0⟩:=H.ex;have hO:=K0.b7 n _ hl;generalize hS:S n=Sm at hO;cases hO with
      |eL hb hg bT hc bW=>
       rename_i Sq b clock ev;cases hm with
       |mp bX=>
        rw[hb]at bX;cases bX;refine⟨b,rfl,_,hq b (QS kz),?_⟩;have CB:eR h b=some (ev,clock):=by unfold eR;rw[hg]
        have Z6:∀{M:List (Value×TV)} {S0:Ft} {lg:VL},iN c ρ F h X.base kn S0 M ev→gQ M zP=none→fM ρ F o h ρ o h lg (.rd (RQ.look b kd zP z ok) h)→K (NY ok (cT z) false) o c lg→jm X c ρ F h o (RQ.look b kd zP z ok) K:=by
         intro M S0 lg hE vh lz hw;have hf:=hE.find kz 0;rw[vh]at hf;simp only at hf;cases ok with
         |true=>exact jm.same H (by simp[RQ.run,CB,j4,hf]) (.iM (.cons (rL nS) (.cons (.s rfl) .nil))) hw lz
         |false=>exact jm.same H (by simp[RQ.run,CB,j4,hf]) (rL nS) hw lz
        have met:∀{M:List (Value×TV)} {S0:Ft} {lg:VL} {v:TV},iN c ρ F h X.base kn S0 M ev→gQ M zP=some v→(aF v).all eD=true→fM ρ F o h ρ o h lg (.rd (RQ.look b kd zP z ok) h)→K (NY ok v true) o c lg→jm X c ρ F h o (RQ.look b kd zP z ok) K:=by
         intro M S0 lg v hE hv hp lz hw;have hf:=hE.find kz 0;rw[hv]at hf;obtain⟨j,x,S1,S2,S3,q1,q2,q3,q4,_⟩:=hf;obtain⟨hV,_⟩:=q3.YE (fun t v hv hf=>hv.dN hf) hp;have hx:=VR.eM hV q4;cases ok with
         |true=>exact jm.same H (by simp[RQ.run,CB,j4,q1]) (.iM (.cons hx (.cons (.s rfl) .nil))) hw lz
         |false=>exact jm.same H (by simp[RQ.run,CB,j4,q1]) hx hw lz
        split at hw
        ·obtain⟨r,hr,hw⟩:=hw;have hE:iN c ρ F h X.base kn Sq es ev:=hc;have lz:fM ρ F o h ρ o h (.lu n) (.rd (RQ.look b kd zP z ok) h):=.lu (.refl _) rfl hl (.inl hb) ⟨_,CB,hE.refl fun e he t ht=>.inr (bT e he t ht)⟩;cases r with
         |none=>simp only at hw;exact Z6 hE hr lz hw
         |some v=>
          simp only at hw;have hf:=hE.find kz 0;rw[hr]at hf;obtain⟨j,x,S1,S2,S3,q1,q2,q3,q4,q5⟩:=hf;refine KQ H K0 (x:=x) (y:=bif ok then .tuple #[x,.bool true]else x) (wrap:=fun v=>NY ok v true) hw hl (by rw[hS,q2]) q3 q4 (by simp[RQ.run,CB,j4,q1]) (fun c ρ v hv=>?_) lz fun c' ρ' v' fp uX wZ=>?_
          ·cases ok with
           |true=>exact .iM (.cons hv (.cons (.s rfl) .nil))
           |false=>exact hv
          ·exact .eL (fp.trans hb) hg bT (q5 c' ρ' v' [] bT uX wZ) bW
        ·rename_i k' w;obtain⟨Dv,xT⟩:=hw;have hE:iN c ρ F h X.base kn Sq (dG es k' w) ev:=hc;have lz:fM ρ F o h ρ o h (NU (aF w) (.lu n)) (.rd (RQ.look b kd zP z ok) h):=by
          unfold NU;split
          ·rename_i he;refine .lu (.refl _) rfl hl (.inl hb) ⟨_,CB,hE.refl fun e Dt t ht=>?_⟩;rcases xF Dt with rfl |h1
           ·exact .inl (List.all_eq_true.1 he t ht)
           ·exact .inr (bT e h1 t ht)
          ·exact .bad
         by_cases ek:zP=k'
         ·subst ek;have hv:=xS (v:=w) (es:=es) kz;have hf:=hE.find kz 0;rw[hv]at hf;obtain⟨j,x,S1,S2,S3,q1,q2,q3,q4,_⟩:=hf;exact met hE hv (Dv rfl).1 lz (Dv rfl).2
         ·obtain⟨r,hr,hw⟩:=xT ek;have bc:qI zP k'=false:=by
           cases hq:qI zP k' with
           |false=>rfl
           |true=>exact absurd (Ol kz (hE.kinds _ Ev) hq) ek
          have:=Ax (v:=w) (es:=es) bc;cases r with
          |none=>simp only at hw;exact Z6 hE (this.trans hr) lz hw
          |some v=>simp only at hw;exact met hE (this.trans hr) hw.1 lz hw.2
        ·exact hw.elim
     ·exact hw.elim
    ·exact hw.elim
   ·left;split at hw
    ·rename_i kz;obtain⟨Dr,KR⟩:=jD kz;have hmv:=hm.dj.1;subst hmv;refine⟨rfl,?_⟩
     have hq:∀y:Value,(bif ok then Value.tuple #[z,.bool false]else z)=y→((E.desc t).bind fun d=>(match d,Value.map none with
            | .map kt elem,.map none=>(E.desc kt).bind fun kd=>(E.zero elem).bind fun z=>bF (iD kd&&scalar zP&&fj z) (some (bif ok then .tuple #[z,.bool false]else z))
            |_,_=>none))=some y:=by
      rintro y rfl;rw[L.desc _ _ hd];simp only[Option.bind_some,L.desc _ _ iH,jY,Dr,KR,nS,Bool.and_self,bF]
     cases ok with
     |true=>exact⟨_,_,hq _ rfl,.iM (.cons (rL nS) (.cons (.s rfl) .nil)),hw⟩
     |false=>exact⟨_,_,hq _ rfl,rL nS,hw⟩
    ·exact hw.elim
   ·exact hw.elim
  ·exact hw.elim
 ·exact hw.elim
end
section
variable {T E:Env} {X:Cx} {ρ:Gh} {F:Nat→Prop} {o:Ob} {c:Nat} {af:AF} {f:Fr} {h:ab} {p:Oper} {K:OK}
def esA:Option TO→Option (Nat×List (List TV))
 |some (.arr z _ es)=>some (z,es)
 |_=>none
theorem Hk (o:Ob) (m n:Nat):esA (look (jh o m) n)=esA (look o n):=by
 cases hm:look o m with
 |none=>unfold jh;rw[hm]
 |some y=>
  cases y with
  |arr z w es=>
   unfold jh;rw[hm];simp only
   rw[eg];by_cases e:n=m
   ·subst e;rw[if_pos rfl,hm];rfl
   ·rw[if_neg e]
  |_=>unfold jh;rw[hm]
theorem Oo (o:Ob) (n:Nat):cZ o (.tk n)=(esA (look o n)).map fun p=>.sl p.1 p.2 false:=by
 show(match look o n with|some (.arr z _ es)=>some (TV.sl z es false)|_=>none)=_;cases look o n with
 |none=>rfl
 |some y=>cases y<;>rfl
theorem Hl (o:Ob) (m:Nat) (t:TV):cZ (jh o m) t=cZ o t:=by
 cases t with
 |tk n=>rw[Oo,Oo,Hk]
 |nq t v=>cases v<;>try rfl
          rename_i w;cases w<;>rfl
 |cH g a k=>cases a<;>cases k<;>rfl
 |_=>rfl
theorem xU (o:Ob) (v t:TV):cZ (share1 o v) t=cZ o t:=by
 cases v<;>try rfl
 exact Hl _ _ _
theorem vx (o:Ob) (v:TV):∀l,pg (share1 o v) l=pg o l
 |[]=>rfl
 |t::l=>by simp only[pg,xU,vx o v l]
theorem Oq {t t':TV} (hf:cZ o t=some t'):fz t'=true:=by
 unfold cZ at hf;split at hf
 ·split at hf
  ·rename_i hp;cases hf;exact hp
  ·cases hf
 ·cases hf;rfl
 ·split at hf
  ·cases hf;rfl
  ·cases hf
 ·cases hf;rfl
 ·cases hf;rfl
 ·cases hf
theorem wy:∀{l l':List TV},pg o l=some l'→(∀t∈l',fz t=true)∧l'.length=l.length
 |[],l',hf=>by simp[pg]at hf;subst hf;exact⟨by simp,rfl⟩
 |t::l,l',hf=>by
  unfold pg at hf;split at hf
  ·rename_i v' hv;split at hf
   ·rename_i l2 hl;cases hf;obtain⟨h1,h2⟩:=wy hl;refine⟨fun t ht=>?_,by simp[h2]⟩;rcases List.mem_cons.1 ht with rfl |ht
    ·exact Oq hv
    ·exact h1 t ht
   ·cases hf
  ·cases hf
structure px (X:Cx) (ρ:Gh) (c:Nat) (h:ab) (F:Nat→Prop) (o:Ob) (F':Nat→Prop) (o':Ob):Prop where
 mem:Mem X ρ F' o' c h
 bl:∀t x,VR c ρ F h t x→VR c ρ F' h t x
 FF:∀b,F b→F' b
 wk:∀n y,look o n=some y→∃y',look o' n=some y'∧ee y y'
theorem px.refl (H:Mem X ρ F o c h):px X ρ c h F o F o:=⟨H,fun _ _ h=>h,fun _ h=>h,fun _ y hl=>⟨y,hl,ee.refl y⟩⟩
theorem px.trans {F1 F2:Nat→Prop} {o1 o2:Ob} (A:px X ρ c h F o F1 o1) (B:px X ρ c h F1 o1 F2 o2):px X ρ c h F o F2 o2:=
 ⟨B.mem,fun t x hx=>B.bl t x (A.bl t x hx),fun b hb=>B.FF b (A.FF b hb),fun n y hl=>by
  obtain⟨y1,h1,h2⟩:=A.wk n y hl;obtain⟨y2,h3,h4⟩:=B.wk n y1 h1;exact⟨y2,h3,h2.trans h4⟩⟩
theorem KS (H:Mem X ρ F o c h) (v:TV):∃F',px X ρ c h F o F' (share1 o v)∧∀v' x,cZ o v=some v'→VR c ρ F h v x→VR c ρ F' h v' x:=by
 cases v with
 |tk n=>
  obtain⟨F',h1,h2,h3,h4⟩:=H.share n;refine⟨F',⟨h1,h2,h3,pr o n⟩,fun v' x hf hx=>?_⟩;unfold cZ at hf;simp only at hf;split at hf
  ·rename_i z w es hl;cases hf;exact h4 _ _ _ _ hl hx
  ·cases hf
 |sl z es fl=>
  refine⟨F,.refl H,fun v' x hf hx=>?_⟩;simp only[cZ,Option.some.injEq]at hf;subst hf;cases hx with
  |nil he=>exact .nil he
  |sl h1 h2 h3 h4 h5 h6 h7 h8 h9 h10=>exact .sl h1 h2 h3 h4 h5 (fun h=>by cases h) h7 h8 h9 h10
 |s w=>
  refine⟨F,.refl H,fun v' x hf hx=>?_⟩;unfold cZ at hf;simp only at hf;split at hf
  ·cases hf;exact hx
  ·cases hf
 |nq t w=>
  refine⟨F,.refl H,fun v' x hf hx=>?_⟩;unfold cZ at hf;split at hf<;>simp_all
  all_goals(first|(obtain⟨rfl,rfl⟩:= ‹_∧_›;subst hf;exact hx)|skip)
 |cH g a k=>
  refine⟨F,.refl H,fun v' x hf hx=>?_⟩;unfold cZ at hf;split at hf<;>simp_all
  all_goals(first|(obtain⟨rfl,rfl,rfl⟩:= ‹_∧_∧_›;subst hf;exact hx)|skip)
 |_=>exact⟨F,.refl H,fun v' x hf hx=>by simp[cZ]at hf⟩
theorem qf:∀(l:List TV) {F:Nat→Prop} {o:Ob},Mem X ρ F o c h→∃F',px X ρ c h F o F' (shares o l)∧∀l' m,pg o l=some l'→dI c ρ F h l m→dI c ρ F' h l' m
 |[],F,o,H=>⟨F,.refl H,fun l' m hf hm=>by simp[pg]at hf;subst hf;exact hm⟩
 |v::l,F,o,H=>by
  obtain⟨F1,A,a⟩:=KS H v;obtain⟨F2,B,b⟩:=qf l A.mem;refine⟨F2,A.trans B,fun l' m hf hm=>?_⟩;unfold pg at hf;split at hf
  ·rename_i v' hv;split at hf
   ·rename_i l2 hl;cases hf;obtain⟨x,m',rfl,h1,h2⟩:=hm.aP;exact .cons (B.bl _ _ (a v' x hv h1)) (b l2 m' (by rw[vx];exact hl) (h2.qJ A.bl))
   ·cases hf
  ·cases hf
theorem RF (H:Mem X ρ F o c h) (v:TV) (ho:okV v=true):∃F',px X ρ c h F o F' (shares o (aF v))∧∀v' x,NS o v=some v'→VR c ρ F h v x→VR c ρ F' h v' x∧DY v'=true:=by
 obtain⟨F',A,a⟩:=qf (aF v) H;refine⟨F',A,fun v' x hf hx=>?_⟩;have one:(∀cs,v≠ .agg cs)→VR c ρ F' h v' x∧DY v'=true:=fun Gl=>by
  have vt:aF v=[v]:=by cases v<;>first|rfl |exact absurd rfl (Gl _)
  have IS:NS o v=cZ o v:=by cases v<;>first|rfl |exact absurd rfl (Gl _)
  rw[IS]at hf;have gK:=Oq hf;rw[vt]at a;have:=a [v'] [x] (by simp[pg,hf]) (.cons hx .nil);refine⟨this.head,?_⟩;cases v'<;>simp[fz]at gK<;>simp[DY,fz,gK]
 cases v with
 |agg cs=>
  obtain⟨q,rfl,h1⟩:=hx.fo;simp only[NS]at hf;split at hf
  ·rename_i cs' hc;cases hf;refine⟨.gz (a cs' q.toList hc h1),?_⟩;simp only[DY];exact List.all_eq_true.2 (wy hc).1
  ·cases hf
 |_=>exact one (by intro cs e;cases e)
theorem Mem.CC (H:Mem X ρ F o c h) {S:Nat→Ft} (K:MO X ρ F o c h S) {n b:Nat} {y:TO} (hl:look o n=some y) (hb:At ρ n b):b<h.size∧hd h b∈dk (S n):=by
 rcases(K.b7 n y hl).block with⟨b',o',h1,h2,h3,h4⟩|⟨b',z,len,cs,f,t0,eX,c0,t1,wW,h1,h2,h3,h4⟩|⟨z,h1⟩
 ·rcases hb with hb|⟨z,l,hb⟩<;>rw[h1]at hb<;>cases hb
  exact⟨H.wf.lt h2,by rw[h3];exact h4⟩
 ·rcases hb with hb|⟨z,l,hb⟩<;>rw[h1]at hb<;>cases hb
  exact⟨H.wf.lt h2,by rw[bZ h2];exact h4⟩
 ·rcases hb with hb|⟨z,l,hb⟩<;>rw[h1]at hb<;>cases hb
theorem Mem.xV (H:Mem X ρ F o c h) {n b:Nat} {y:TO} (hl:look o n=some y) (hb:At ρ n b):b<h.size:=by
 obtain⟨S,K⟩:=H.ex;exact(H.CC K hl hb).1
theorem eZ.alloc {F1:Nat→Prop} {o1:Ob} (H:Mem X ρ F o c h) (S:px X ρ c h F o F1 o1) {md:Made} {hd:qT} {y:TO} {l:Loc} {v:TV} (hp:aM E af p=none) (hq:bL E af p=none) (ha:bf E af p=some (md,hd))
 (hM:Mem X (ct ρ c (some l)) F1 ((c,y)::o1) (c+1) (h.push (md.obj h.size))) (hk:∀t x,VR c ρ F1 h t x→VR (c+1) (ct ρ c (some l)) F1 (h.push (md.obj h.size)) t x)
 (hv:VR (c+1) (ct ρ c (some l)) F1 (h.push (md.obj h.size)) v (hd.val h.size)) (hK:K v ((c,y)::o1) (c+1) .alloc):eZ E X ρ F o c af h p K:=by
 refine⟨0,⟨hd.val h.size,h.push (md.obj h.size),.alloc h (h.push (md.obj h.size))⟩,v,_,_,_,F1,.alloc,fun n _=>?_,hK,⟨hM,fun t x hx=>hk t x (S.bl t x hx),by rw[ab.size_push];omega,S.FF,fun b cs hb hr=>by rw[ew H.wf.le _ (H.I7 hb)];exact hr⟩,hv,
  .alloc fun n y' hl _=>⟨?_,?_,fun b hb=>?_⟩⟩
 ·unfold eH;rw[hp,hq,ha]
 ·have:=H.lt hl;rw[aN,if_neg om];obtain⟨y2,q1,_⟩:=S.wk n y' hl;exact⟨y2,q1⟩
 ·have:=H.lt hl;rw[bj _ _ om]
 ·have:=H.xV hl hb;exact⟨by rw[ab.aq,if_neg om],fun cs hr=>by rw[ew H.wf.le _ this];exact hr⟩
end
section
variable {T E:Env} {X:Cx} {ρ:Gh} {F:Nat→Prop} {o:Ob} {c:Nat} {af:AF} {f:Fr} {h:ab} {p:Oper} {K:OK}
theorem uB (H:Mem X ρ F o c h) {cs:List TV} {cv:List Value} (hc:dI c ρ F h cs cv) (hp:aM E af p=none) (hq:bL E af p=none) (ha:bf E af p=some (.cells cv,.ptr)) (hK:K (.ptr c 0) ((c,.cells cs)::o) (c+1) .alloc):eZ E X ρ F o c af h p K:=by
 obtain⟨h1,h2⟩:=H.N5 hc;exact eZ.alloc H (.refl H) (md:=.cells cv) (hd:=.ptr) hp hq ha h1 h2 (.ptr (aI _ _ _)) hK
theorem RH (H:Mem X ρ F o c h) (kd:Nat) (hp:aM E af p=none) (hq:bL E af p=none) (ha:bf E af p=some (.map,.map)) (hK:K (.mp c) ((c,.map kd [])::o) (c+1) .alloc):eZ E X ρ F o c af h p K:=by
 obtain⟨h1,h2⟩:=H.Wd kd;exact eZ.alloc H (.refl H) (md:=.map) (hd:=.map) hp hq ha h1 h2 (.mp (aI _ _ _)) hK
theorem Jh {F1:Nat→Prop} {o1:Ob} (H:Mem X ρ F o c h) (S:px X ρ c h F o F1 o1) {z cap:Nat} {es:List (List TV)} {cv:List Value} (hE:ER c ρ F1 h z es cv) (hz:0<z) (gC:es.length≤cap)
 (hp:aM E af p=none) (hq:bL E af p=none) (ha:bf E af p=some (.cells cv,.slice z es.length cap)) (hK:K (.tk c) ((c,.arr z true es)::o1) (c+1) .alloc):eZ E X ρ F o c af h p K:=by
 obtain⟨h1,h2⟩:=S.mem.Cp hE hz;refine eZ.alloc H S (md:=.cells cv) (hd:=.slice z es.length cap) hp hq ha h1 h2 (.tk om rfl (fun b z' len hx=>?_) (fun z' hx=>?_)) hK
 ·rw[aI]at hx;cases hx;exact⟨cap,gC,rfl⟩
 ·rw[aI]at hx;cases hx
theorem ER.replicate {z:Nat} {zs:List TV} {zv:List Value} (hz:dI c ρ F h zs zv) (hl:zs.length=z) (hf:zs.all M.fz=true):∀k,ER c ρ F h z (List.replicate k zs) (aT zv k)
 |0=>.nil z
 |k+1=>by
  have ih:=ER.replicate hz hl hf k;have h1:ER c ρ F h z [zs] zv:=by
   refine⟨by rw[←hz.1,hl];simp,fun e he=>by simp at he;subst he;exact hl,fun e he t ht=>by simp at he;subst he;exact List.all_eq_true.1 hf t ht,fun i j e t v q1 q2 q3=>?_⟩;cases i with
   |zero=>simp at q1;subst q1;exact hz.2 j t v q2 (by simpa using q3)
   |succ i=>simp at q1
  exact h1.append ih
theorem lL {α:Type}:∀{n:Nat} {l xs:List α},n+xs.length≤l.length→∃r,c8 l n xs=some r
 |0,l,[],_=>⟨l,by simp[c8]⟩
 |0,[],x::xs,h=>by simp at h
 |0,y::l,x::xs,h=>by
  obtain⟨r,hr⟩:=lL (n:=0) (l:=l) (xs:=xs) (by simp at h ⊢;omega);exact⟨x::r,by simp[c8,hr]⟩
 |n+1,[],xs,h=>by simp at h
 |n+1,y::l,xs,h=>by
  obtain⟨r,hr⟩:=lL (n:=n) (l:=l) (xs:=xs) (by simp at h ⊢;omega);exact⟨y::r,by simp[c8,hr]⟩
theorem xW {α:Type}:∀{l r:List α} {n:Nat} {x:α},setAt l n x=some r→n<l.length∧r.length=l.length∧∀i,r[i]? =if i=n then some x else l[i]?
 |[],r,n,x,h=>by simp[setAt]at h
 |y::l,r,0,x,h=>by
  simp[setAt]at h;subst h;refine⟨by simp,by simp,fun i=>?_⟩;cases i<;>simp
 |y::l,r,n+1,x,h=>by
  unfold setAt at h;split at h
  ·rename_i l' hl;cases h;obtain⟨h1,h2,h3⟩:=xW hl;refine⟨by simp;omega,by simp[h2],fun i=>?_⟩;cases i with
   |zero=>simp
   |succ i=>simp[h3 i]
  ·cases h
theorem ER.setAt {z:Nat} {es bS:List (List TV)} {cs:List Value} {l:List TV} {i:Nat} (A:ER c ρ F h z es cs) (hs:∀j,bS[j]? =if j=i then some l else es[j]?) (hlen:bS.length=es.length) (hi:i<es.length) (hl:l.length=z) (hf:∀t∈l,M.fz t=true)
 {cs':List Value} (hc:cs'.length=cs.length) (IL:∀j t v,l[j]? =some t→cs'[i*z+j]? =some v→VR c ρ F h t v) (Nh:∀k,(k<i*z∨(i+1)*z≤k)→cs'[k]? =cs[k]?):ER c ρ F h z bS cs':=by
 have key:∀j e,bS[j]? =some e→(j=i∧e=l)∨(j≠i∧es[j]? =some e):=fun j e he=>by
  rw[hs]at he;by_cases e1:j=i
  ·rw[if_pos e1]at he;cases he;exact .inl ⟨e1,rfl⟩
  ·rw[if_neg e1]at he;exact .inr ⟨e1,he⟩
 refine⟨by rw[hc,hlen,A.len],fun e he=>?_,fun e he=>?_,fun j k e t v q1 q2 q3=>?_⟩
 ·obtain⟨j,hj⟩:=List.getElem?_of_mem he;rcases key j e hj with⟨_,rfl⟩|⟨_,h1⟩
  ·exact hl
  ·exact A.each e (List.mem_of_getElem? h1)
 ·obtain⟨j,hj⟩:=List.getElem?_of_mem he;rcases key j e hj with⟨_,rfl⟩|⟨_,h1⟩
  ·exact hf
  ·exact A.fz e (List.mem_of_getElem? h1)
 ·rcases key j e q1 with⟨rfl,rfl⟩|⟨h1,h2⟩
  ·exact IL k t v q2 q3
  ·have hk:k<z:=by rw[←A.each e (List.mem_of_getElem? h2)];exact(List.getElem?_eq_some_iff.1 q2).1
   refine A.cell j k e t v h2 q2 ?_;rw[←q3];refine(Nh _ ?_).symm;rcases Nat.lt_or_gt_of_ne h1 with h3|h3
   ·left;have:(j+1)*z≤i*z:=Nat.mul_le_mul_right z h3;rw[Nat.add_mul]at this;omega
   ·right;have:(i+1)*z≤j*z:=Nat.mul_le_mul_right z h3;omega
theorem Ay {n:Nat}:∀{ps:List (Nat×TV)} {o:Ob} {F:Nat→Prop} {es bS:List (List TV)} {cs:List Value} {pv:List (Nat×Value)},Mem X ρ F o c h→sE o n es ps=some bS→ER c ρ F h n es cs→Rz c ρ F h ps pv→
 ∃F' cv,px X ρ c h F o F' (Ce o ps)∧ka (fun i=>some (i*n,n)) cs pv=some cv∧ER c ρ F' h n bS cv∧bS.length=es.length
 |[],o,F,es,bS,cs,[],H,hf,hE,_=>by simp[sE]at hf;subst hf;exact⟨F,cs,.refl H,rfl,hE,rfl⟩
 |[],o,F,es,bS,cs,_::_,H,hf,hE,hq=>hq.elim
 |a::l,o,F,es,bS,cs,[],H,hf,hE,hq=>hq.elim
 |a::l,o,F,es,bS,cs,b::m,H,hf,hE,hq=>by
  obtain⟨e,hv,hr⟩:=hq;unfold sE at hf;split at hf
  ·rename_i l1 hc gK;simp only[Bool.and_eq_true,beq_iff]at hc;split at hf
   ·rename_i Z7 cQ;obtain⟨s1,s2,s3⟩:=xW cQ;obtain⟨F1,A,a1⟩:=qf (aF a.2) H;obtain⟨f1,f2⟩:=wy gK;have rZ:=a1 l1 _ gK (jl hv hc.1);have zF:l1.length=n:=by omega
    have hE1:=hE.mono A.bl;have Ue:b.2.cells.toList.length=n:=by rw[←rZ.1];exact zF
    have hle:a.1*n+b.2.cells.toList.length≤cs.length:=by
     rw[Ue,hE.len];have:(a.1+1)*n≤es.length*n:=Nat.mul_le_mul_right n s1;rw[Nat.add_mul]at this;omega
    obtain⟨ua,CD⟩:=lL hle;obtain⟨t1,t2,t3⟩:=dv CD;have Z8:ER c ρ F1 h n Z7 ua:=by
     refine hE1.setAt s3 s2 s1 zF f1 t2 (fun j t v q1 q2=>?_) (fun k hk=>?_)
     ·have hj:j<l1.length:=(List.getElem?_eq_some_iff.1 q1).1;rw[t3,if_pos ⟨om,om⟩]at q2;exact rZ.2 j t v q1 (by rw[←q2];congr 1;omega)
     ·rw[t3,if_neg];rw[Nat.add_mul]at hk;omega
    have adl:sE (shares o (aF a.2)) n Z7 l=some bS:=by
     have key:∀(o1:Ob),(∀t,cZ o1 t=cZ o t)→∀(l:List (Nat×TV)) (es:List (List TV)),sE o1 n es l=sE o n es l:=by
      intro o1 h1 l;have h2:∀q,pg o1 q=pg o q:=by
       intro q
       induction q with
       |nil=>rfl
       |cons t q ih=>simp only[pg,h1,ih]
      induction l with
      |nil=>intro es;rfl
      |cons p l ih=>
       intro es;simp only[sE,h2,ih]
     rw[key _ (fun t=>?_)];·exact hf
     have:∀(q:List TV) (o1:Ob),cZ (shares o1 q) t=cZ o1 t:=by
      intro q
      induction q with
      |nil=>intro o1;rfl
      |cons v q ih=>intro o1;simp only[shares];rw[ih,xU]
     exact this _ _
    have jX:Rz c ρ F1 h l m:=by
     have:∀(l:List (Nat×TV)) (m:List (Nat×Value)),Rz c ρ F h l m→Rz c ρ F1 h l m:=by
      intro l
      induction l with
      |nil=>intro m hm;cases m<;>exact hm
      |cons p l ih=>
       intro m hm;cases m with
       |nil=>exact hm
       |cons q m=>exact⟨hm.1,A.bl _ _ hm.2.1,ih m hm.2.2⟩
     exact this l m hr
    obtain⟨F2,cv,B,b1,b2,b3⟩:=Ay A.mem adl Z8 jX;refine⟨F2,cv,A.trans B,?_,b2,by rw[b3,s2]⟩;obtain⟨i,x⟩:=b;simp only at e;subst e;simp only[ka,Option.bind_some];have:x.cells.size=n:=by simpa using Ue
    rw[this];simp only at CD;simp[bF,CD,b1]
   ·cases hf
  ·cases hf
end
end Go.M
