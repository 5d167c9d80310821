/-
  Part 7 of the library that the proof leans on.
-/
import Derived.Test.YteoljjhhdgplnaaGreatDoorL6
namespace Go.M
open Go
def C2 (ρ:Gh) (n b:Nat):Prop:=ρ n=some (.dJ b)∨∃z l,ρ n=some (.arr b z l)
def mO (q:RQ) (h:ah):Prop:=match q with
 | .cells _ b o n=>∃l,ai h b o n=some l∧gZ l l=true
 | .look r _ _ _ _| .len r=>∃m,fj h r=some m∧zD m.1 m.1=true
structure Nx (X:Cx) (ρ:Gh) (F:Nat→Prop) (o:Ob) (c:Nat) (h:ah) (ρ':Gh) (F':Nat→Prop) (o':Ob) (c':Nat) (h':ah):Prop where
 mem:Mem X ρ' F' o' c' h'
 bx:∀t x,VR c ρ F h t x→VR c' ρ' F' h' t x
 size:h.size≤h'.size
 FF:∀b,F b→F' b
 c7:∀b cs,F b→h.rd b=some cs→h'.rd b=some cs
def Raw (ρ:Gh) (o:Ob) (h:ah) (ρ':Gh) (o':Ob) (h':ah) (ns:List Nat):Prop:=
 ∀n y,look o n=some y→n∉ns→(∃y',look o' n=some y')∧ρ' n=ρ n∧∀b,C2 ρ n b→h'.get b=h.get b∧∀cs,h.rd b=some cs→h'.rd b=some cs
def lS (ρ:Gh) (v:TV) (x:Value):Prop:=(∃k b,v= .mp k∧ρ k=some (.dJ b)∧x= .map (some b))∨∃k q b,v= .ptr k q∧ρ k=some (.dJ b)∧x= .pointer (some ⟨b,q,none⟩)
inductive gy (ρ:Gh) (F:Nat→Prop) (o:Ob) (h:ah) (ρ':Gh) (o':Ob) (h':ah):VL→eK→Prop
 |pure (hr:Raw ρ o h ρ' o' h' []) (hh:h'=h):gy ρ F o h ρ' o' h' .pure .pure
 |alloc (hr:Raw ρ o h ρ' o' h' []):gy ρ F o h ρ' o' h' .alloc (.alloc h h')
 |Mk {q:RQ} (hr:Raw ρ o h ρ' o' h' []) (hh:h'=h) (hF:F q.dJ) (hc:∃a b o n,q= .cells a b o n) (hn:mO q h):gy ρ F o h ρ' o' h' .Mk (.rd q h)
 |mi {q:RQ} {n:Nat} {y:TO} (hr:Raw ρ o h ρ' o' h' []) (hh:h'=h) (hl:look o n=some y) (hb:C2 ρ n q.dJ) (hn:mO q h):gy ρ F o h ρ' o' h' (.mi n) (.rd q h)
 |vg {n p b:Nat} {v:TV} {x:Value} {y:TO} (hr:Raw ρ o h ρ' o' h' []) (hh:h'=h) (hl:look o n=some y) (hb:ρ n=some (.dJ b)) (hx:lS ρ v x) (gW:ai h b p 1=some [x]):gy ρ F o h ρ' o' h' (.vg n p v) (.rd (.cells false b p 1) h)
 |dI {ns:List Nat} (hr:Raw ρ o h ρ' o' h' ns):gy ρ F o h ρ' o' h' (.dI ns) (.dI h h')
 |pY {ns:List Nat} (hr:Raw ρ o h ρ' o' h' ns) (hh:h'=h):gy ρ F o h ρ' o' h' (.pY ns) (.dI h h')
 |pZ (hr:Raw ρ o h ρ' o' h' []) (hG:∀b,b<h.size→h'.get b=h.get b):gy ρ F o h ρ' o' h' .pZ (.dI h h')
 |bad {l:eK}:gy ρ F o h ρ' o' h' .bad l
def fv (E:Env) (X:Cx) (ρ:Gh) (F:Nat→Prop) (o:Ob) (c:Nat) (af:AF) (h:ah) (p:Oper) (K:OK):Prop:=
 ∃n0 r v o' c' ρ' F' lg,(∀n,n0≤n→eM E X.base (fW E X.base n) (dK X.base (aN E X.base n)) p af h=some r)∧K v o' c' lg∧
  Nx X ρ F o c h ρ' F' o' c' r.h∧VR c' ρ' F' r.h v r.v∧gy ρ F o h ρ' o' r.h lg r.log
def unS:TV→Value
 | .s v=>v
 |_=>undef
def Kl (E:Env) (g:FuncId):Prop:=∀base n args h v h',fW E base n g args h=some (v,h')→h'=h
structure cm (T E:Env):Prop where
 desc:∀t d,T.desc t=some d→E.desc t=some d
 size:∀t n,T.size t=some n→E.size t=some n
 bytes:∀t n,T.bytes t=some n→E.bytes t=some n
 zero:∀t z,T.zero t=some z→E.zero t=some z∧fF z=true
 eq:∀t (a b:Array Value) z xs ys r,T.uQ t=true→T.zero t=some z→nr z.cells.toList xs ys=some r→a.toList=xs.map unS→b.toList=ys.map unS→E.uQ t=true∧yH E 100 t (.agg a) (.agg b)=some r
 y5:∀g cs,T.y5 g=some cs→E.y5 g=some cs
 still:∀g,T.still g=true→Kl E g
theorem lR.sub {T E:Env} {F:Nat→Prop} {h:ah} (L:cm T E) (N:lR E F h):lR T F h:=fun g cs hg=>N g cs (L.y5 g cs hg)
theorem Mw:∀(l:List Value),(N9 l).length=l.length
 |[]=>rfl
 |v::l=>by simp[N9,Mw l]
theorem Rs:∀{l:List Value},l.all EJ=true→∀t∈N9 l,fz t=true
 |[],_,t,ht=>by simp[N9]at ht
 |v::l,hl,t,ht=>by
  simp only[List.all_cons,Bool.and_eq_true]at hl;simp only[N9,List.mem_cons]at ht;rcases ht with rfl |ht
  ·have:=hl.1;simp only[EJ,Bool.and_eq_true]at this;exact this.2
  ·exact Rs hl.2 t ht
section
variable {T E:Env} {X:Cx} {ρ:Gh} {F:Nat→Prop} {o:Ob} {c:Nat} {af:AF} {f:Fr} {h:ah} {p:Oper} {K:OK}
theorem Mem.cC (H:Mem X ρ F o c h) {m:Nat} {y:TO} (hl:look o m=some y):∃S,OR c ρ F h X.base m S y:=let⟨S,K⟩:=H.ex;⟨S m,K.cC m y hl⟩
theorem Nx.refl (H:Mem X ρ F o c h):Nx X ρ F o c h ρ F o c h:=⟨H,fun _ _ h=>h,Nat.le_refl _,fun _ h=>h,fun _ _ _ h=>h⟩
theorem Raw.refl (ns:List Nat):Raw ρ o h ρ o h ns:=fun _ y hl _=>⟨⟨y,hl⟩,rfl,fun _ _=>⟨rfl,fun _ h=>h⟩⟩
theorem fv.pure (H:Mem X ρ F o c h) {x:Value} {v:TV} (hp:aO E af p=some x) (hv:VR c ρ F h v x) (hK:K v o c .pure):fv E X ρ F o c af h p K:=by
 refine⟨0,⟨x,h,.pure⟩,v,o,c,ρ,F,.pure,fun n _=>?_,hK,.refl H,hv,.pure (.refl _) rfl⟩;unfold eM;rw[hp]
theorem fv.aew (_:Mem X ρ F o c h) {o':Ob} {F':Nat→Prop} (H':Mem X ρ F' o' c h) (hk:∀t x,VR c ρ F h t x→VR c ρ F' h t x) (qy:∀b,F b→F' b) (hw:∀n y,look o n=some y→∃y',look o' n=some y'∧jC y y')
 {x:Value} {v:TV} (hp:aO E af p=some x) (hv:VR c ρ F' h v x) (hK:K v o' c .pure):fv E X ρ F o c af h p K:=by
 refine⟨0,⟨x,h,.pure⟩,v,o',c,ρ,F',.pure,fun n _=>?_,hK,⟨H',hk,Nat.le_refl _,qy,fun _ _ _ h=>h⟩,hv,.pure (fun n y hl _=>⟨let⟨y',h1,_⟩:=hw n y hl;⟨y',h1⟩,rfl,fun b _=>⟨rfl,fun _ h=>h⟩⟩) rfl⟩;unfold eM;rw[hp]
def bH (c:Nat) (ρ:Gh) (F:Nat→Prop) (h:ah) (f:Fr) (af:AF):Prop:=∀t,VR c ρ F h (pe f t) (af.get t)
theorem se (L:cm T E) (N:lR T F h) (S:bH c ρ F h f af) {x:Operand} (hx:ui T x=true):∃v,ev E af x=some v∧VR c ρ F h (nq T f x) v:=by
 cases x with
 |tmp t=>exact⟨_,rfl,S t⟩
 |const v=>exact⟨v,by simp only[ev,aj,and_true];exact hx,uj hx⟩
 |func g=>exact⟨_,rfl,.dg rfl (fun i t v q=>by simp at q) rfl (fun i t v q=>by simp at q)⟩
 |global g=>
  obtain⟨cs,n3,hx⟩:∃cs,cs.all EJ=true∧T.y5 g=some cs:=by
   simp only[ui]at hx;split at hx
   ·rename_i cs hg;exact⟨cs,hx,hg⟩
   ·cases hx
  obtain⟨n1,n2,_⟩:=N g cs hx;refine⟨.pointer (some ⟨g,0,none⟩),by simp only[ev,Env.dN,L.y5 g cs hx,Option.isSome_some,bL],?_⟩;show VR c ρ F h (match T.y5 g with|some cs=>.ep (N9 cs) 0|none=>.j) _;rw[hx];have:=VR.ep (c:=c) (ρ:=ρ) (F:=F) (h:=h) (e:=N9 cs) (o:=0) (b:=g) (q:=0) (cs:=cs) n1 n2 (by rw[Mw];omega) (fun t ht=>Rs n3 t ht) (fun j t v q1 q2=>(vn (List.all_eq_true.2 fun v hv=>by have:=List.all_eq_true.1 n3 v hv;simp only[EJ,Bool.and_eq_true]at this;exact this.1)).2 j t v q1 (by simpa using q2));simpa using this
theorem qE (L:cm T E) (N:lR T F h) (S:bH c ρ F h f af):∀{l:List Operand},l.all (ui T)=true→∃vs,JK E af l=some vs∧ee c ρ F h (Oa T f l) vs
 |[],_=>⟨[],rfl,.nil⟩
 |x::l,hx=>by
  simp only[List.all_cons,Bool.and_eq_true]at hx;obtain⟨v,h1,h2⟩:=se (E:=E) L N S hx.1;obtain⟨vs,h3,h4⟩:=qE L N S hx.2;exact⟨v::vs,by simp[JK,h1,h3],.cons h2 h4⟩
def VX (c:Nat) (ρ:Gh) (F:Nat→Prop) (h:ah):List (Nat×TV)→List (Nat×Value)→Prop
 |[],[]=>True
 |a::l,b::m=>a.1=b.1∧VR c ρ F h a.2 b.2∧VX c ρ F h l m
 |_,_=>False
theorem pj (L:cm T E) (N:lR T F h) (S:bH c ρ F h f af):∀{l:List (Nat×Operand)},(l.map (·.2)).all (ui T)=true→∃vs,jd E af l=some vs∧VX c ρ F h (EO T f l) vs
 |[],_=>⟨[],rfl,trivial⟩
 |(i,x)::l,hx=>by
  simp only[List.map_cons,List.all_cons,Bool.and_eq_true]at hx;obtain⟨v,h1,h2⟩:=se (E:=E) L N S hx.1;obtain⟨vs,h3,h4⟩:=pj L N S hx.2;exact⟨(i,v)::vs,by simp[jd,h1,h3],rfl,h2,h4⟩
theorem eR {v:TV} {K:TV→Prop} (hf:force v K):K v∧v≠ .j:=by
 cases v<;>simp[force]at hf ⊢ <;>exact hf
theorem Km {k k':IntKind} {v w:Value} (h:kJ k k' v=some w):k=k'∧v=w:=by
 cases k<;>cases k'<;>simp[kJ]at h<;>exact⟨rfl,h⟩
theorem Kn (v:Value):e8 (pure v:Sem Value)=some v:=rfl
theorem wJ {k:IntKind} {x:Int} {v:Value} (h:e8 (pure (.int k x):Sem Value)=some v):ay v=true:=by
 rw[Kn]at h;cases h;rfl
theorem Mx {op:BinOp} {k k':IntKind} {x y:Int} {v:Value} (h:Re op k k' x y=some v) (t:TypeId):e8 (binOp op t (.int k x) (.int k' y))=some v∧ay v=true:=by
 cases op<;>simp only[Re]at h
 case add|sub|mul|eql|neq|lss|leq|gtr|geq=>obtain⟨rfl,rfl⟩:=Km h;exact⟨by simp[binOp,Op.intArith,Op.intCmp,e8,Pure.pure],rfl⟩
 case quo|rem=>
  refine⟨h,?_⟩;simp only[binOp]at h;split at h
  ·simp[stuck,e8]at h
  ·simp only[Op.intDiv]at h;split at h
   ·have e:e8 (runtimePanic (.error "integer divide by zero"):Sem Value)=none:=rfl;rw[e]at h;cases h
   ·exact wJ h
 case and|or|xor|andNot=>
  refine⟨h,?_⟩;simp only[binOp]at h;split at h
  ·simp[stuck,e8]at h
  ·exact wJ h
 case shl|shr=>
  refine⟨h,?_⟩;simp only[binOp,Op.shift]at h;split at h
  ·have e:e8 (runtimePanic (.error "negative shift amount"):Sem Value)=none:=rfl;rw[e]at h;cases h
  ·exact wJ h
theorem cm.shape {T E:Env} (L:cm T E) {t:TypeId} {s:Bool×Nat} (h:fi T t=some s):fi E t=some s:=by
 unfold fi at h ⊢;simp only[Option.bind_eq_some_iff]at h ⊢;obtain⟨d,h1,h2⟩:=h;refine⟨d,L.desc t d h1,?_⟩;cases ha:isAgg d with
 |false=>rw[ha]at h2;exact h2
 |true=>
  rw[ha]at h2;simp only[cond_true,Option.bind_eq_some_iff]at h2 ⊢;obtain⟨n,h3,h4⟩:=h2;exact⟨n,L.size t n h3,h4⟩
theorem Rt:∀{zs:List Value} {xs ys:List TV} {r:Bool},nr zs xs ys=some r→(∀t∈xs,∃v,t= .s v)∧(∀t∈ys,∃v,t= .s v)
 |[],[],[],r,_=>⟨by simp,by simp⟩
 |[],[],_::_,r,h=>by simp[nr]at h
 |[],x::l,ys,r,h=>by simp[nr]at h
 |z::zs,[],ys,r,h=>by simp[nr]at h
 |z::zs,x::l,[],r,h=>by cases x<;>simp[nr]at h
 |z::zs,x::l,y::m,r,h=>by
  cases x<;>try(simp[nr]at h;done)
  rename_i v;cases y<;>try(simp[nr]at h;done)
  rename_i w;simp only[nr]at h;split at h
  ·split at h
   ·rename_i hq;obtain⟨k1,k2⟩:=Rt hq;refine⟨fun t ht=>?_,fun t ht=>?_⟩
    ·rcases List.mem_cons.1 ht with rfl |h2
     ·exact⟨_,rfl⟩
     ·exact k1 t h2
    ·rcases List.mem_cons.1 ht with rfl |h2
     ·exact⟨_,rfl⟩
     ·exact k2 t h2
   ·cases h
  ·cases h
theorem Ru:∀{xs:List TV} {a:List Value},ee c ρ F h xs a→(∀t∈xs,∃v,t= .s v)→a=xs.map unS
 |[],a,H,_=>by rw[H.bU];rfl
 |x::l,a,H,hs=>by
  obtain⟨v,m,rfl,h1,h2⟩:=H.aY;obtain⟨w,rfl⟩:=hs x List.mem_cons_self;rw[h1.dV.1,Ru h2 fun t ht=>hs t (List.mem_cons_of_mem _ ht)];rfl
def yT:Nat→Bool→Value→Prop
 |0,true,x=>x= .pointer none
 |0,false,x=>∃a,x= .pointer (some a)
 |1,true,x=>x= .map none
 |1,false,x=>∃a,x= .map (some a)
 |2,true,x=>x= .nilFunc
 |2,false,x=>∃g a k,x= .func g a k
 |3,true,x=>x= .nilIface
 |3,false,x=>∃t v,x= .iface t v
 |4,true,x=>x= .slice none 0 0
 |4,false,x=>∃a l k,x= .slice (some a) l k
 |_,_,_=>False
theorem HL {v:TV} {x:Value} (hv:VR c ρ F h v x) {d:Nat} {b:Bool} (hb:yO v=some (d,b)):yT d b x:=by
 cases hv with
 |s hp=>
  unfold yO at hb;split at hb<;>simp_all<;>obtain⟨rfl,rfl⟩:=hb<;>simp[yT]
 |nil he=>subst he;unfold yO at hb;split at hb<;>simp_all<;>obtain⟨rfl,rfl⟩:=hb<;>simp[yT]
 |sl h1 h2 h3=>
  unfold yO at hb;split at hb<;>simp_all;obtain⟨rfl,rfl⟩:=hb;exact⟨_,_,_,rfl⟩
 |ptr=>simp[yO]at hb;obtain⟨rfl,rfl⟩:=hb;exact⟨_,rfl⟩
 |ep=>simp[yO]at hb;obtain⟨rfl,rfl⟩:=hb;exact⟨_,rfl⟩
 |mp=>simp[yO]at hb;obtain⟨rfl,rfl⟩:=hb;exact⟨_,rfl⟩
 |oP=>simp[yO]at hb;obtain⟨rfl,rfl⟩:=hb;exact⟨_,_,rfl⟩
 |dg=>simp[yO]at hb;obtain⟨rfl,rfl⟩:=hb;exact⟨_,_,_,rfl⟩
 |_=>simp[yO]at hb
theorem sf {E:Env} {t:TypeId} {ds:TypeDesc} {d:Nat} {p q:Bool} {a b:Value} (hd:E.desc t=some ds) (hk:Ha ds=some d) (ha:yT d p a) (hb:yT d q b) (Qo:(p||q)=true):yH E 100 t a b=some (p&&q):=by
 cases ds<;>simp[Ha]at hk<;>subst hk<;>cases p<;>cases q<;>simp at Qo<;>simp only[yT]at ha hb
 all_goals
  (try obtain⟨_,rfl⟩:=ha)
  (try obtain⟨_,rfl⟩:=hb)
  (try obtain⟨_,_,rfl⟩:=ha)
  (try obtain⟨_,_,rfl⟩:=hb)
  (try obtain⟨_,_,_,rfl⟩:=ha)
  (try obtain⟨_,_,_,rfl⟩:=hb)
  (try subst ha)
  (try subst hb)
  (show yH E (99+1) t _ _=_)
  unfold yH;rw[hd];rfl
end
def jN (c:Nat) (ρ:Gh) (F:Nat→Prop) (h:ah) (o:Ob) (canon:Option Value) (K:OK):Prop:=∃v x,canon=some x∧VR c ρ F h v x∧K v o c .pure
section
variable {T E:Env} {X:Cx} {ρ:Gh} {F:Nat→Prop} {o:Ob} {c:Nat} {af:AF} {f:Fr} {h:ah} {p:Oper} {K:OK}
theorem lT {op:BinOp} {t:TypeId} {x y:Operand} {a b:Value} {r:Bool} (hi:∀k n k' m,¬(a= .int k n∧b= .int k' m)) (hs:∀s r,¬(a= .string s∧b= .string r)) (he:oR E t x y a b=true) (hq:yH E 100 t a b=some r):
 (op= .eql→zC E op t x y a b=some (.bool r))∧(op= .neq→zC E op t x y a b=some (.bool !r)):=by
 constructor
 ·rintro rfl;unfold zC;split
  ·exact absurd ⟨rfl,rfl⟩ (hi _ _ _ _)
  ·exact absurd ⟨rfl,rfl⟩ (hs _ _)
  ·simp[bL,he,hq]
 ·rintro rfl;unfold zC;split
  ·exact absurd ⟨rfl,rfl⟩ (hi _ _ _ _)
  ·exact absurd ⟨rfl,rfl⟩ (hs _ _)
  ·simp[bL,he,hq]
theorem vx {v:Option Value} (hp:CQ v o c K) {canon:Option Value} (hc:∀x,v=some x→canon=some x):jN c ρ F h o canon K:=by
 unfold CQ at hp;split at hp
 ·rename_i x;split at hp
  ·rename_i h2;exact⟨_,_,hc x rfl,.s h2,hp⟩
  ·exact hp.elim
 ·exact hp.elim
theorem yT.HM {d:Nat} {b:Bool} {n:Nat} (hv:yT d b (.chan (some n))):False:=by
 unfold yT at hv;split at hv<;>simp at hv
theorem yT.My {d:Nat} {b:Bool} {x:Value} (hv:yT d b x):(∀k n,x≠ .int k n)∧(∀s,x≠ .string s)∧(∀a,x≠ .agg a)∧(x= .nilIface→d=3∧b=true):=by
 unfold yT at hv;split at hv
 all_goals
  (try obtain⟨_,rfl⟩:=hv)
  (try obtain⟨_,_,rfl⟩:=hv)
  (try obtain⟨_,_,_,rfl⟩:=hv)
  (try subst hv)
  (try(exact hv.elim))
  (try simp)
theorem Ot {k k':IntKind} {v w x:Value} (h:kJ k k' v=some x):kJ k k' w=some w:=by
 unfold kJ at h ⊢;split at h<;>first|rfl |cases h
theorem wK {p:Prop} (hw:ask p o c K) {canon:Option Value} (b:Bool) (hb:b=true↔p) (hc:canon=some (.bool b)):jN c ρ F h o canon K:=by
 cases b with
 |true=>exact⟨_,_,hc,.s rfl,hw.1 (hb.1 rfl)⟩
 |false=>exact⟨_,_,hc,.s rfl,hw.2 fun hp=>by have:=hb.2 hp;cases this⟩
theorem sg {p:Prop} {k k':IntKind} {op:BinOp} {t:TypeId} {n m:Int} (hw:Hc k k' p o c K) (b:Bool) (hb:b=true↔p) (hv:Re op k k' n m=kJ k k' (.bool b)):jN c ρ F h o (e8 (binOp op t (.int k n) (.int k' m))) K:=by
 unfold Hc at hw;split at hw
 ·rename_i hs;exact wK hw b hb ((Mx (hv.trans (Ot hs)) t).1)
 ·exact hw.elim
theorem VY (L:cm T E) (H:Mem X ρ F o c h) {op:BinOp} {t:TypeId} {x y:Operand} {a b:TV} {xa xb:Value} (hw:ZY T op t x y a b o c K) (ha:VR c ρ F h a xa) (hb:VR c ρ F h b xb):jN c ρ F h o (zC E op t x y xa xb) K:=by
 unfold ZY at hw;split at hw
 ·rename_i k n k' m;rw[ha.dV.1,hb.dV.1];show jN c ρ F h o (e8 (binOp op t (.int k n) (.int k' m))) K;split at hw
  ·exact sg hw (n==m) (by simp) rfl
  ·exact sg hw (n != m) (by simp) rfl
  ·exact sg hw (decide (n<m)) (by simp) rfl
  ·exact sg hw (decide (n≤m)) (by simp) rfl
  ·exact sg hw (decide (n>m)) (by simp) rfl
  ·exact sg hw (decide (n≥m)) (by simp) rfl
  ·exact vx hw fun v hv=>(Mx hv t).1
 ·rename_i s r;rw[ha.dV.1,hb.dV.1];split at hw
  ·exact wK hw (s.data.toList==r.data.toList) (by simp) rfl
  ·exact wK hw (!(s.data.toList==r.data.toList)) (by simp) rfl
  ·exact wK hw (Op.bytesLess s.data.toList r.data.toList) (by simp) rfl
  ·exact⟨_,_,(by simp only[zC];rw[aj];exact⟨decide_eq_true om,rfl⟩),.s rfl,hw.2⟩
  ·refine vx hw fun v hv=>?_;simp only[zC]at hv;cases hv
 ·rename_i p q;rw[ha.dV.1,hb.dV.1];split at hw
  ·rename_i hd;have hq:yH E 100 t (.bool p) (.bool q)=some (p==q):=by
    show yH E (99+1) t _ _=_;unfold yH;rw[L.desc _ _ hd];rfl
   obtain⟨k1,k2⟩:=lT (op:=op) (E:=E) (x:=x) (y:=y) (t:=t) (a:=.bool p) (b:=.bool q) (by rintro _ _ _ _ ⟨e,_⟩;cases e) (by rintro _ _ ⟨e,_⟩;cases e) rfl hq;split at hw
   ·exact⟨_,_,k1 rfl,.s rfl,hw⟩
   ·exact⟨_,_,k2 rfl,.s rfl,hw⟩
   ·exact hw.elim
  ·exact hw.elim
 ·rename_i xs ys;obtain⟨a',rfl,h1⟩:=ha.fM;obtain⟨b',rfl,h2⟩:=hb.fM;split at hw
  ·rename_i z he hz;split at hw
   case h_2=>exact hw.elim
   rename_i r hr;obtain⟨s1,s2⟩:=Rt hr;obtain⟨e1,e2⟩:=L.eq t a' b' z xs ys r he hz hr (Ru h1 s1) (Ru h2 s2);obtain⟨k1,k2⟩:=lT (op:=op) (E:=E) (x:=x) (y:=y) (t:=t) (a:=.agg a') (b:=.agg b') (by rintro _ _ _ _ ⟨e,_⟩;cases e) (by rintro _ _ ⟨e,_⟩;cases e) e1 e2;split at hw
   ·exact wK hw r Iff.rfl (k1 rfl)
   ·exact wK hw (!r) (by simp) (k2 rfl)
   ·exact hw.elim
  ·exact hw.elim
 ·split at hw
  ·rename_i es hq;obtain⟨Oe,rfl,uW⟩:∃Oe,b= .sl 0 [] Oe∧((∃z fl,a= .sl (z+1) es fl)∨∃n z w,a= .tk n∧look o n=some (.arr z w es)):=by
    unfold ad9 at hq;split at hq
    ·cases hq;exact⟨_,rfl,.inl ⟨_,_,rfl⟩⟩
    ·split at hq
     ·rename_i hl;cases hq;exact⟨_,rfl,.inr ⟨_,_,_,rfl,hl⟩⟩
     ·cases hq
    ·cases hq
   have cA:xb= .slice none 0 0:=by
    cases hb with
    |nil=>rfl
    |sl _ _ hz=>omega
   subst cA;have main:∀{ds:TypeDesc},E.desc t=some ds→Ha ds=some 4→∃r:Bool,(r=true→es=[])∧yH E 100 t xa (.slice none 0 0)=some r∧∃a l k,xa= .slice a l k:=by
    intro ds h1 h2;rcases uW with⟨z,fl,rfl⟩|⟨n,z,w,rfl,hl⟩
    ·cases ha with
     |nil he=>exact⟨true,fun _=>he,sf (p:=true) (q:=true) h1 h2 rfl rfl rfl,_,_,_,rfl⟩
     |sl=>exact⟨false,(by simp),sf (p:=false) (q:=true) h1 h2 ⟨_,_,_,rfl⟩ rfl rfl,_,_,_,rfl⟩
    ·obtain⟨_,hob⟩:=H.cC hl;cases ha with
     |tk hn yM haa h0=>
      cases hob with
      |nil zH hz=>
       rcases h0 _ zH with rfl |⟨_,_,_,_,_,_,_,rfl⟩
       ·exact⟨true,fun _=>rfl,sf (p:=true) (q:=true) h1 h2 rfl rfl rfl,_,_,_,rfl⟩
       ·exact⟨false,(by simp),sf (p:=false) (q:=true) h1 h2 ⟨_,_,_,rfl⟩ rfl rfl,_,_,_,rfl⟩
      |arr zH=>
       obtain⟨cap,_,rfl⟩:=haa _ _ _ zH;exact⟨false,(by simp),sf (p:=false) (q:=true) h1 h2 ⟨_,_,_,rfl⟩ rfl rfl,_,_,_,rfl⟩
   split at hw
   ·rename_i hd;simp only[Option.bind_eq_some_iff]at hd;obtain⟨ds,Jy,ZR⟩:=hd;obtain⟨r,m1,m2,a0,l0,k0,rfl⟩:=main (L.desc _ _ Jy) ZR;obtain⟨k1,k2⟩:=lT (op:=.eql) (E:=E) (x:=x) (y:=y) (t:=t) (a:=.slice a0 l0 k0) (b:=.slice none 0 0) (by rintro _ _ _ _ ⟨e,_⟩;cases e) (by rintro _ _ ⟨e,_⟩;cases e) rfl m2;cases r with
    |true=>exact⟨_,_,k1 rfl,.s rfl,hw.1 (m1 rfl)⟩
    |false=>exact⟨_,_,k1 rfl,.s rfl,hw.2⟩
   ·rename_i hd;simp only[Option.bind_eq_some_iff]at hd;obtain⟨ds,Jy,ZR⟩:=hd;obtain⟨r,m1,m2,a0,l0,k0,rfl⟩:=main (L.desc _ _ Jy) ZR;obtain⟨k1,k2⟩:=lT (op:=.neq) (E:=E) (x:=x) (y:=y) (t:=t) (a:=.slice a0 l0 k0) (b:=.slice none 0 0) (by rintro _ _ _ _ ⟨e,_⟩;cases e) (by rintro _ _ ⟨e,_⟩;cases e) rfl m2;cases r with
    |true=>exact⟨_,_,k2 rfl,.s rfl,hw.1 (m1 rfl)⟩
    |false=>exact⟨_,_,k2 rfl,.s rfl,hw.2⟩
   ·exact hw.elim
  split at hw
  ·rename_i d d1 p d2 q hd hp hq;split at hw
   ·rename_i hc;simp only[Bool.and_eq_true,beq_iff,Bool.or_eq_true,Bool.not_eq_true']at hc;obtain⟨⟨⟨rfl,rfl⟩,Qo⟩,mL⟩:=hc;simp only[Option.bind_eq_some_iff]at hd;obtain⟨ds,Jy,ZR⟩:=hd;have va:=HL ha hp;have vb:=HL hb hq;have hae:=sf (L.desc _ _ Jy) ZR va vb (by simpa using Qo);obtain⟨a1,a2,a3,a4⟩:=va.My;obtain⟨b1,b2,b3,b4⟩:=vb.My;have he:oR E t x y xa xb=true:=by
     unfold oR;split
     ·obtain⟨rfl,rfl⟩:=a4 rfl;obtain⟨_,rfl⟩:=b4 rfl;rcases mL with (mL|mL)|mL
      ·simp at mL
      ·rw[mL];rfl
      ·rw[mL];simp
     ·exact absurd rfl (a3 _)
     ·exact va.HM.elim
     ·exact vb.HM.elim
     ·rfl
    obtain⟨k1,k2⟩:=lT (op:=op) (E:=E) (x:=x) (y:=y) (t:=t) (a:=xa) (b:=xb) (by rintro k n _ _ ⟨e,_⟩;exact a1 k n e) (by rintro s _ ⟨e,_⟩;exact a2 s e) he hae;split at hw
    ·exact⟨_,_,k1 rfl,.s rfl,hw⟩
    ·exact⟨_,_,k2 rfl,.s rfl,hw⟩
    ·exact hw.elim
   ·exact hw.elim
  ·exact hw.elim
theorem wL (H:Mem X ρ F o c h) {m i q:Nat} {y:TO} (hl:look o m=some y) (hy:B9 y=true) {x:Value} (hx:VR c ρ F h (.wp m i q) x):
 ∃b z l,ρ m=some (.arr b z l)∧x= .pointer (some ⟨b,i*z+q,none⟩):=by
 cases hx with
 |wp hn sb ha h0=>
  obtain⟨S,hO⟩:=H.cC hl;cases hO with
  |nil hb hz=>exact absurd hb (h0 _)
  |ib hb hz=>exact absurd hb (h0 _)
  |arr hb=>exact⟨_,_,_,hb,ha _ _ _ hb⟩
  |cF hb=>exact⟨_,_,_,hb,ha _ _ _ hb⟩
  |_=>simp[B9]at hy
def HQ:TO→Nat
 | .arr _ _ es=>es.length
 | .cF _ es _=>es.length
 |_=>0
theorem OR.tk {base m:Nat} {S:Ft} {y:TO} (hO:OR c ρ F h base m S y) (hy:B9 y=true) {x:Value} (hx:VR c ρ F h (.tk m) x):
 (HQ y=0∧ρ m=some (.nil (Oo y))∧(x= .slice none 0 0∨∃b o cs,F b∧h.rd b=some cs∧0<Oo y∧o≤cs.length∧x= .slice (some ⟨b,o,some (Oo y)⟩) 0 0))∨
 ∃b cap,ρ m=some (.arr b (Oo y) (HQ y))∧HQ y≤cap∧x= .slice (some ⟨b,0,some (Oo y)⟩) (HQ y) cap:=by
 cases hx with
 |tk hn sb ha h0=>
  cases hO with
  |nil hb hz=>exact .inl ⟨rfl,hb,h0 _ hb⟩
  |ib hb hz=>exact .inl ⟨rfl,hb,h0 _ hb⟩
  |arr hb=>obtain⟨cap,h1,h2⟩:=ha _ _ _ hb;exact .inr ⟨_,cap,hb,h1,h2⟩
  |cF hb=>obtain⟨cap,h1,h2⟩:=ha _ _ _ hb;exact .inr ⟨_,cap,hb,h1,h2⟩
  |_=>simp[B9]at hy
theorem Cb (L:cm T E) (H:Mem X ρ F o c h) {s:TypeId} {x:TV} {fd:Nat} {xv:Value} (hw:ue T s x fd o c K) (hx:VR c ρ F h x xv):
 jN c ρ F h o ((E.desc s).bind fun d=>(jF xv).bind fun p=>(match d with
 | .struct fields=>(fields[fd]?).bind fun fl=>(E.size fl.type).bind fun n=>bL (Nat.blt 0 n) (some (.pointer (some ⟨p.1,p.2+fl.offset,none⟩)))
 |_=>none)) K:=by
 unfold ue at hw;split at hw
 ·rename_i fields hd;split at hw
  ·rename_i fl hf;split at hw
   ·rename_i n hn;split at hw
    ·rename_i h0
     have fin:∀b q,xv=Value.pointer (some ⟨b,q,none⟩)→(((E.desc s).bind fun d=>(jF xv).bind fun p=>(match d with
      | .struct fields=>(fields[fd]?).bind fun fl=>(E.size fl.type).bind fun n=>bL (Nat.blt 0 n) (some (Value.pointer (some ⟨p.1,p.2+fl.offset,none⟩)))
      |_=>none))=some (Value.pointer (some ⟨b,q+fl.offset,none⟩))):=by
      rintro b q rfl;rw[L.desc _ _ hd];simp only[Option.bind_some,jF,hf,L.size _ _ hn,h0,bL]
     split at hw
     ·cases hx with
      |ptr hb=>exact⟨_,_,fin _ _ rfl,.ptr hb,hw⟩
     ·cases hx with
      |ep h1 h2 h3 h4 h5=>exact⟨_,_,fin _ _ rfl,by rw[Nat.add_assoc];exact .ep h1 h2 h3 h4 h5,hw⟩
     ·have go:∀{m i p:Nat} {y:TO},look o m=some y→B9 y=true→VR c ρ F h (.wp m i p) xv→K (.wp m i (p+fl.offset)) o c .pure→jN c ρ F h o ((E.desc s).bind fun d=>(jF xv).bind fun p=>(match d with
       | .struct fields=>(fields[fd]?).bind fun fl=>(E.size fl.type).bind fun n=>bL (Nat.blt 0 n) (some (.pointer (some ⟨p.1,p.2+fl.offset,none⟩)))
       |_=>none)) K:=by
       intro m i p y hl hy hx hw;obtain⟨b,z,l,hb,rfl⟩:=wL H hl hy hx;cases hx with
       |wp hn sb ha h0=>
        refine⟨_,_,fin _ _ rfl,.wp hn rfl (fun b' z' l' ly=>?_) h0,hw⟩;rw[hb]at ly;cases ly;rw[Nat.add_assoc]
      split at hw
      ·rename_i hl;exact go hl rfl hx hw
      ·rename_i hl;exact go hl rfl hx hw
      ·exact hw.elim
     ·exact hw.elim
    ·exact hw.elim
   ·exact hw.elim
  ·exact hw.elim
 ·exact hw.elim
theorem gP {agg:Bool} {l:List TV} {v:TV} (ho:fh agg l=some v) {m:List Value} (H:ee c ρ F h l m):∃x,da agg m=some x∧VR c ρ F h v x:=by
 unfold fh at ho;split at ho
 ·cases ho;exact⟨_,rfl,.g7 (by simpa using H)⟩
 ·cases ho;obtain⟨x,m',rfl,h1,h2⟩:=H.aY;rw[h2.bU];exact⟨x,rfl,h1⟩
 ·cases ho
theorem C3 {n:Nat} {l r:List TV} (ht:takeN n l=some r) {m:List Value} (H:ee c ρ F h l m):∃q,takeN n m=some q∧ee c ρ F h r q:=by
 rw[bf]at ht;obtain⟨h1,rfl⟩:=ht;exact⟨m.take n,by rw[bf];exact⟨by rw[←H.1];exact h1,rfl⟩,H.take n⟩
theorem Ou (L:cm T E) {t:TypeId} {x:TV} {fd:Nat} {xv:Value} (hw:J8 T t x fd o c K) (hx:VR c ρ F h x xv):
 jN c ρ F h o ((E.desc t).bind fun d=>(asA xv).bind fun cs=>(match d with
 | .struct fields=>(fields[fd]?).bind fun fl=>qe E fl.type cs fl.offset
 |_=>none)) K:=by
 unfold J8 at hw;split at hw
 ·rename_i fields hd;split at hw
  ·rename_i fl cs hf;split at hw
   ·rename_i agg n hs;split at hw
    ·rename_i l hl;split at hw
     ·rename_i v hv;obtain⟨hK,_⟩:=eR hw;obtain⟨a,rfl,h1⟩:=hx.fM;obtain⟨q,h2,h3⟩:=C3 hl (h1.drop fl.offset);obtain⟨x,h4,h5⟩:=gP hv h3;refine⟨v,x,?_,h5,hK⟩;rw[L.desc _ _ hd];simp only[Option.bind_some,asA,hf,qe,L.shape hs,h2,h4]
     ·exact hw.elim
    ·exact hw.elim
   ·exact hw.elim
  ·exact hw.elim
 ·exact hw.elim
theorem ow {i:TV} {x:Value} {n:Int} (hi:Hb i=some n) (hx:VR c ρ F h i x):Vt x=some n:=by
 unfold Hb at hi;split at hi
 ·cases hi;rw[hx.dV.1];rfl
 ·cases hi
theorem Cc (L:cm T E) (H:Mem X ρ F o c h) {t:TypeId} {x i:TV} {xv iv:Value} (hw:uf T t x i o c K) (hx:VR c ρ F h x xv) (hi:VR c ρ F h i iv):jN c ρ F h o (fK E t xv iv) K:=by
 unfold uf at hw;split at hw
 ·rename_i elem i' hd zO;have hI:=ow zO hi;split at hw
  ·rename_i n hn;have fin:∀b q z len cap,xv=Value.slice (some ⟨b,q,some z⟩) len cap→0≤i'→i'<len→fK E t xv iv=some (.pointer (some ⟨b,q+i'.toNat*n,none⟩)):=by
    rintro b q z len cap rfl h1 h2;unfold fK;rw[L.desc _ _ hd,hI];simp only[Option.bind_some,L.size _ _ hn,bL,h1,h2,decide_true,Bool.and_self]
   split at hw
   ·rename_i z es fl;split at hw
    ·rename_i hz;rw[beq_iff]at hz;obtain⟨e,⟨h0,he⟩,hK⟩:=hw;cases hx with
     |nil Mz=>subst Mz;simp at he
     |sl q1 q2 q3 q4 q5 q6 q7 q8 q9 YI=>
      have bw:=(List.getElem?_eq_some_iff.1 he).1;refine⟨_,_,fin _ _ _ _ _ rfl h0 om,?_,hK⟩;have Mu:=q8 e (List.mem_of_getElem? he);rw[←Nat.add_zero (_+_*n)];refine .ep q1 q2 ?_ (q9 e (List.mem_of_getElem? he)) fun j t v r1 r2=>YI _ j e t v he r1 (by rw[hz];exact r2);rw[Mu,←hz];have:(i'.toNat+1)*z≤es.length*z:=Nat.mul_le_mul_right z bw;rw[Nat.add_mul]at this;subst q4;omega
    ·exact hw.elim
   ·rename_i m;have go:∀{y:TO},look o m=some y→B9 y=true→Oo y=n→0≤i'→i'<HQ y→K (.wp m i'.toNat 0) o c .pure→jN c ρ F h o (fK E t xv iv) K:=by
     intro y hl hy hz h0 h1 hK;obtain⟨S,hO⟩:=H.cC hl;rcases hO.tk hy hx with⟨e,_⟩|⟨b,cap,hb,_,rfl⟩
     ·rw[e]at h1;omega
     ·refine⟨_,_,fin _ _ _ _ _ rfl h0 h1,?_,hK⟩;cases hx with
      |tk U8 sb ha h0'=>
       refine .wp U8 rfl (fun b' z2 l2 ly=>?_) (fun z2 ly=>by rw[hb]at ly;cases ly);rw[hb]at ly;cases ly;rw[Nat.zero_add,Nat.add_zero,hz]
    split at hw
    ·rename_i z w es hl;split at hw
     ·rename_i hz;obtain⟨⟨h0,h1⟩,hK⟩:=hw;exact go hl rfl (beq_iff.1 hz) h0 h1 hK
     ·exact hw.elim
    ·rename_i z es op hl;split at hw
     ·rename_i hz;obtain⟨⟨h0,h1⟩,hK⟩:=hw;exact go hl rfl (beq_iff.1 hz) h0 h1 hK
     ·exact hw.elim
    ·exact hw.elim
   ·exact hw.elim
  ·exact hw.elim
 ·rename_i len elem i' hd zO;have hI:=ow zO hi;split at hw
  ·rename_i n hn;obtain⟨⟨h1,h2⟩,hw⟩:=hw;have fin:∀b q,xv=Value.pointer (some ⟨b,q,none⟩)→fK E t xv iv=some (.pointer (some ⟨b,q+i'.toNat*n,none⟩)):=by
    rintro b q rfl;unfold fK;rw[L.desc _ _ hd,hI];simp only[Option.bind_some,L.size _ _ hn,bL,h1,h2,decide_true,Bool.and_self]
   split at hw
   ·cases hx with
    |ptr hb=>exact⟨_,_,fin _ _ rfl,.ptr hb,hw⟩
   ·cases hx with
    |ep q1 q2 q3 q4 q5=>exact⟨_,_,fin _ _ rfl,by rw[Nat.add_assoc];exact .ep q1 q2 q3 q4 q5,hw⟩
   ·exact hw.elim
  ·exact hw.elim
 ·exact hw.elim
theorem Ov (L:cm T E) {t:TypeId} {x i:TV} {xv iv:Value} (hw:J9 T t x i o c K) (hx:VR c ρ F h x xv) (hi:VR c ρ F h i iv):jN c ρ F h o (we E t xv iv) K:=by
 unfold J9 at hw;split at hw
 ·rename_i i' hd zO;have hI:=ow zO hi;split at hw
  ·obtain⟨b,⟨h1,h2⟩,hK⟩:=hw;rw[hx.dV.1];refine⟨_,_,?_,.s rfl,hK⟩;unfold we;rw[L.desc _ _ hd,hI];simp only[Option.bind_some,bL,h1,decide_true,h2]
  ·exact hw.elim
 ·rename_i len elem i' hd zO;have hI:=ow zO hi;split at hw
  ·rename_i z agg n cs hz hs;obtain⟨⟨h1,h2⟩,hw⟩:=hw;split at hw
   ·rename_i l hl;split at hw
    ·rename_i v hv;obtain⟨hK,_⟩:=eR hw;obtain⟨a,rfl,k1⟩:=hx.fM;obtain⟨q,h3,h4⟩:=C3 hl (k1.drop (i'.toNat*z));obtain⟨x,h5,h6⟩:=gP hv h4;refine⟨v,x,?_,h6,hK⟩;unfold we;rw[L.desc _ _ hd,hI];simp only[Option.bind_some,L.size _ _ hz,bL,h1,h2,decide_true,Bool.and_self,qe,L.shape hs,h3,h5]
    ·exact hw.elim
   ·exact hw.elim
  ·exact hw.elim
 ·exact hw.elim
end
section
variable {T E:Env} {X:Cx} {ρ:Gh} {F:Nat→Prop} {o:Ob} {c:Nat} {af:AF} {f:Fr} {h:ah} {p:Oper} {K:OK}
def HR (X:Cx) (c:Nat) (ρ:Gh) (F:Nat→Prop) (h:ah) (o:Ob) (canon:Option Value) (K:OK):Prop:=
 ∃v x o' F',canon=some x∧Mem X ρ F' o' c h∧(∀t x,VR c ρ F h t x→VR c ρ F' h t x)∧(∀b,F b→F' b)∧(∀n y,look o n=some y→∃y',look o' n=some y'∧jC y y')∧VR c ρ F' h v x∧K v o' c .pure
theorem jN.toS (H:Mem X ρ F o c h) {canon:Option Value} (R:jN c ρ F h o canon K):HR X c ρ F h o canon K:=by
 obtain⟨v,x,h1,h2,h3⟩:=R;exact⟨v,x,o,F,h1,H,fun _ _ h=>h,fun _ h=>h,fun n y hl=>⟨y,hl,jC.refl y⟩,h2,h3⟩
theorem HR.JF {canon:Option Value} (H:Mem X ρ F o c h) (R:HR X c ρ F h o canon K) (hp:aO E af p=canon):fv E X ρ F o c af h p K:=by
 obtain⟨v,x,o',F',h1,h2,h3,h4,h5,h6,h7⟩:=R;exact fv.aew H h2 h3 h4 h5 (hp.trans h1) h6 h7
theorem qF (o:Ob) (m:Nat):∀n y,look o n=some y→∃y',look (jK o m) n=some y'∧jC y y':=by
 intro n y hl;unfold jK;split
 ·rename_i z w es hm;rw[eQ];by_cases e:n=m
  ·subst e;rw[if_pos rfl,hm];rw[hm]at hl;cases hl;exact⟨_,rfl,rfl,rfl,fun h=>by cases h⟩
  ·rw[if_neg e];exact⟨y,hl,jC.refl y⟩
 ·exact⟨y,hl,jC.refl y⟩
theorem qJ {d y:Nat} {i:Int} (hi:0≤i) (hy:i≤y) (k:IntKind):cO d y (some (.int k i))=some i.toNat:=by
 simp[cO,bL,hi,hy]
theorem j6 {d:Nat} {lo:Option TV} {AA:Option Value} {l:Int} (hb:Vd d lo=some l) (hl:(lo=none∧AA=none)∨∃y v,lo=some y∧AA=some v∧VR c ρ F h y v):
 (AA=none∧l=d)∨∃k,AA=some (.int k l):=by
 rcases hl with⟨rfl,rfl⟩|⟨y,v,rfl,rfl,hv⟩
 ·simp[Vd]at hb;exact .inl ⟨rfl,hb.symm⟩
 ·unfold Vd at hb;split at hb
  ·rename_i he;cases he
  ·rename_i k i he;cases he;cases hb;rw[hv.dV.1];exact .inr ⟨k,rfl⟩
  ·cases hb
theorem eZ {d y:Nat} {l:Int} {AA:Option Value} (h1:(AA=none∧l=d)∨∃k,AA=some (.int k l)) (h0:0≤l) (hy:l≤y):cO d y AA=some l.toNat:=by
 rcases h1 with⟨rfl,rfl⟩|⟨k,rfl⟩
 ·simp[cO]
 ·exact qJ h0 hy k
theorem jl {t elem:TypeId} {n z b o' len cap:Nat} {lo hi mx:Option Value} {l hh m:Nat} (hd:E.desc t=some (.slice elem)) (hn:E.size elem=some n) (hz:n=z) (hm:cO cap len mx=some m)
 (Rv:cO len (bif mx.isSome then m else len) hi=some hh) (hc:hi.isSome||mx.isNone) (yJ:cO 0 hh lo=some l):
 jf E t (.slice (some ⟨b,o',some z⟩) len cap) lo hi mx=some (.slice (some (bif Nat.beq m l then⟨b,o',some z⟩else⟨b,o'+l*z,some z⟩)) (hh - l) (m - l)):=by
 unfold jf;subst hz;rw[hd];simp only[Option.bind_some,hn,hm,Rv,yJ,bL,hc];simp
theorem Ko {z b oo len cap:Nat} {es:List (List TV)} {fl:Bool} (hv:VR c ρ F h (.sl z es fl) (.slice (some ⟨b,oo,some z⟩) len cap)) {l hh m:Nat} (hl:l≤hh) (hhl:hh≤es.length) (hm:hh≤m) (Oe:Bool) (uY:Oe=true→m=hh):
 VR c ρ F h (.sl z ((es.take hh).drop l) Oe) (.slice (some (bif Nat.beq m l then⟨b,oo,some z⟩else⟨b,oo+l*z,some z⟩)) (hh - l) (m - l)):=by
 cases hv with
 |sl q1 q2 q3 q4 q5 q6 q7 q8 q9 YI=>
  have hlen:((es.take hh).drop l).length=hh - l:=by simp;omega
  by_cases e:m=l
  ·have e2:hh=l:=by omega
   subst e2;subst e;rw[show(bif Nat.beq m m then(⟨b,oo,some z⟩:Addr)else⟨b,oo+m*z,some z⟩)=⟨b,oo,some z⟩ by simp];refine .sl q1 q2 q3 hlen om (fun _=>rfl) (by simp;omega) (fun e he=>?_) (fun e he=>?_) fun i j e t v r1=>?_
   ·exact q8 e (List.mem_of_mem_take (List.mem_of_mem_drop he))
   ·exact q9 e (List.mem_of_mem_take (List.mem_of_mem_drop he))
   ·have:=(List.getElem?_eq_some_iff.1 r1).1;omega
  ·rw[show(bif Nat.beq m l then(⟨b,oo,some z⟩:Addr)else⟨b,oo+l*z,some z⟩)=⟨b,oo+l*z,some z⟩ by
    rw[Hf];simp[e]]
   refine .sl q1 q2 q3 hlen om (fun h=>by rw[uY h]) ?_ (fun e he=>?_) (fun e he=>?_) fun i j e t v r1 r2 r3=>?_
   ·have:(l+(hh - l))*z≤es.length*z:=Nat.mul_le_mul_right z om;rw[Nat.add_mul]at this;subst q4;omega
   ·exact q8 e (List.mem_of_mem_take (List.mem_of_mem_drop he))
   ·exact q9 e (List.mem_of_mem_take (List.mem_of_mem_drop he))
   ·rw[List.getElem?_drop,List.getElem?_take]at r1;split at r1
    ·refine YI (l+i) j e t v r1 r2 ?_;rw[←r3,Nat.add_mul]
     congr 1;omega
    ·cases r1
theorem mP {t elem n:Nat} {lo hi mx:Option Value} {l hh m:Nat} (hd:E.desc t=some (.slice elem)) (hn:E.size elem=some n) (hm:cO 0 0 mx=some m)
 (Rv:cO 0 (bif mx.isSome then m else 0) hi=some hh) (hc:hi.isSome||mx.isNone) (yJ:cO 0 hh lo=some l):
 jf E t (.slice none 0 0) lo hi mx=some (.slice none 0 0):=by
 unfold jf;rw[hd];simp only[Option.bind_some,hn,hm,Rv,yJ,bL,hc]
def VZ (c:Nat) (ρ:Gh) (F:Nat→Prop) (h:ah) (y:Option TV) (v:Option Value):Prop:=(y=none∧v=none)∨∃y' v',y=some y'∧v=some v'∧VR c ρ F h y' v'
theorem xW (L:cm T E) {t:TypeId} {z n l hh m:Nat} {elem:TypeId} {es:List (List TV)} {fl:Bool} {xv:Value} {AA hiv Vj:Option Value} (hd:T.desc t=some (.slice elem)) (hn:T.size elem=some n) (hz:z=n∨z=0)
 (hx:VR c ρ F h (.sl z es fl) xv) (hl:l≤hh) (hhl:hh≤es.length) (_:hh≤m) (Oe:Bool) (_:Oe=true→m=hh)
 (b1:∀len cap,len=es.length→len≤cap→∃m',cO cap len Vj=some m'∧cO len (bif Vj.isSome then m' else len) hiv=some hh∧hh≤m'∧(Oe=true→m'=hh)) (b2:(hiv.isSome||Vj.isNone)=true) (b3:cO 0 hh AA=some l):
 ∃x,jf E t xv AA hiv Vj=some x∧VR c ρ F h (.sl z ((es.take hh).drop l) Oe) x:=by
 cases hx with
 |nil he=>
  subst he;obtain⟨m',k1,k2,_,_⟩:=b1 0 0 rfl (Nat.le_refl _);refine⟨_,mP (L.desc _ _ hd) (L.size _ _ hn) k1 k2 b2 b3,.nil (by simp)⟩
 |sl q1 q2 q3 q4 q5 q6 q7 q8 q9 YI=>
  have V0:n=z:=by omega
  obtain⟨m',k1,k2,k3,k4⟩:=b1 _ _ q4.symm q5;refine⟨_,jl (L.desc _ _ hd) (L.size _ _ hn) V0 k1 k2 b2 b3,Ko (.sl q1 q2 q3 q4 q5 q6 q7 q8 q9 YI) hl hhl k3 Oe k4⟩
theorem Rw (H:Mem X ρ F o c h) {x:TV} {z:Nat} {es:List (List TV)} (he:Rh o x=some (z,es)):∃F',Mem X ρ F' (share1 o x) c h∧(∀t v,VR c ρ F h t v→VR c ρ F' h t v)∧(∀b,F b→F' b)∧(∀n y,look o n=some y→∃y',look (share1 o x) n=some y'∧jC y y')∧
 ∀xv,VR c ρ F h x xv→∃fl,VR c ρ F' h (.sl z es fl) xv:=by
 unfold Rh at he;split at he
 ·cases he;exact⟨F,H,fun _ _ h=>h,fun _ h=>h,fun n y hl=>⟨y,hl,jC.refl y⟩,fun xv hx=>⟨_,hx⟩⟩
 ·rename_i m;split at he
  ·rename_i w cb hl;cases he;obtain⟨F',h1,h2,h3,h4⟩:=H.share m;exact⟨F',h1,h2,h3,qF o m,fun xv hx=>⟨false,h4 _ _ _ _ hl hx⟩⟩
  ·cases he
 ·cases he
theorem Ow (L:cm T E) (H:Mem X ρ F o c h) {t:TypeId} {x:TV} {xv:Value} {lo hi mx:Option TV} {AA hiv Vj:Option Value} (hw:Ka T t x lo hi mx o c K) (hx:VR c ρ F h x xv) (yJ:VZ c ρ F h lo AA) (Rv:VZ c ρ F h hi hiv) (zK:VZ c ρ F h mx Vj):
 HR X c ρ F h o (jf E t xv AA hiv Vj) K:=by
 unfold Ka at hw;split at hw
 ·rename_i hd;split at hw
  ·rename_i s;split at hw
   ·rename_i hh l e1 e2;obtain⟨⟨h1,h2,h3⟩,hK⟩:=hw;rcases zK with⟨_,rfl⟩|⟨_,_,e,_⟩
    ·refine jN.toS H ⟨_,_,?_,.s rfl,hK⟩;rw[hx.dV.1];have a1:cO s.size s.size hiv=some hh.toNat:=eZ (j6 e1 Rv) om h3;have a2:cO 0 hh.toNat AA=some l.toNat:=eZ (j6 e2 yJ) h1 om;unfold jf;rw[L.desc _ _ hd];simp only[Option.bind_some,bL,a1,a2];rfl
    ·cases e
   ·exact hw.elim
  ·exact hw.elim
 ·rename_i elem hd;split at hw
  ·rename_i n z es hn he;obtain⟨F',k1,k2,k3,k4,k5⟩:=Rw H he;obtain⟨fl,Qi⟩:=k5 xv hx;split at hw
   ·rename_i hz;simp only[Bool.or_eq_true,beq_iff]at hz;split at hw
    ·rcases zK with⟨_,rfl⟩|⟨_,_,e,_⟩
     ·split at hw
      ·rename_i hh l e1 e2;have plain:(0≤l∧l≤hh∧hh≤es.length)→K (.sl z ((es.take hh.toNat).drop l.toNat) false) (share1 o x) c .pure→HR X c ρ F h o (jf E t xv AA hiv none) K:=by
        rintro⟨h1,h2,h3⟩ hK
        obtain⟨x',q1,q2⟩:=xW L (l:=l.toNat) (hh:=hh.toNat) (m:=hh.toNat) hd hn hz Qi om om (Nat.le_refl _) false (AA:=AA) (hiv:=hiv) (Vj:=none) (fun h=>by cases h)
         (fun len cap e3 e4=>⟨cap,rfl,by subst e3;exact eZ (j6 e1 Rv) om h3,by subst e3;omega,fun h=>by cases h⟩) (by simp) (eZ (j6 e2 yJ) h1 om)
        exact⟨_,x',_,F',q1,k1,k2,k3,k4,q2,hK⟩
       split at hw
       ·split at hw
        ·obtain⟨hc,hK⟩:=hw;split at hK
         ·rename_i hz9;have hz9:=beq_iff.1 hz9;subst hz9;obtain⟨h1,h2,h3⟩:=hc;have hz8:=Qi;cases hz8 with
          |nil he9=>
           subst he9;simp only[List.length_nil]at h3;have e0:hh.toNat=0:=by simp at h3;omega
           have e9:l.toNat=0:=by omega
           have b1:=eZ (y:=0) (j6 e1 Rv) om (by simpa using h3);have b2:=eZ (y:=0) (j6 e2 yJ) h1 (by simp at h3;omega);rw[e0]at b1;rw[e9]at b2;exact⟨.sl 0 [] true,.slice none 0 0,_,F',mP (L.desc _ _ hd) (L.size _ _ hn) (m:=0) (hh:=0) (l:=0) rfl b1 (by simp) b2,k1,k2,k3,k4,.nil rfl,hK⟩
          |sl q1 q2 q3=>omega
         ·exact plain hc hK
        ·rename_i n' Qo;obtain⟨hc,hK⟩:=hw;rcases hK with hK|hK
         ·exact plain hc hK
         obtain⟨h1,h2,h3⟩:=hc;obtain⟨rfl,rfl,y,rfl⟩:x= .tk n'∧lo=none∧∃y,hi=some y:=by
          unfold pvQ at Qo;split at Qo
          ·cases Qo;exact⟨rfl,rfl,_,rfl⟩
          ·cases Qo
         have aiB:AA=none:=by
          rcases yJ with⟨_,e⟩|⟨_,_,e,_⟩
          ·exact e
          ·cases e
         subst aiB;have y8:l=0:=by simpa[Vd]using e2.symm
         subst y8;obtain⟨w,hl⟩:∃w,look o n'=some (.arr z w es):=by
          unfold Rh at he;simp only at he;split at he
          ·rename_i w _ hl;cases he;exact⟨_,hl⟩
          ·cases he
         have a1:∀y:Nat,y=es.length→cO y y hiv=some hh.toNat:=fun y hy=>by subst hy;exact eZ (j6 e1 Rv) om h3
         obtain⟨Sm,hO⟩:=H.cC hl;have JB:n'<c:=by cases hx with|tk hn=>exact hn
         rcases hO.tk rfl hx with⟨h0,hb,rfl |⟨b,o',cs,q1,q2,Gy,q4,rfl⟩⟩|⟨b,cap,hb,ik,rfl⟩
         ·have h0:es.length=0:=h0;have hh0:hh.toNat=0:=by omega
          refine⟨.pv n' hh.toNat,.slice none 0 0,o,F,mP (L.desc _ _ hd) (L.size _ _ hn) (m:=0) (hh:=0) (l:=0) rfl (by have:=a1 0 om;rwa [hh0]at this) (by simp) rfl,H,fun _ _ h=>h,fun _ h=>h,fun n y hl=>⟨y,hl,jC.refl y⟩,
           .pv JB rfl (fun b z len e=>by rw[hb]at e;cases e) (fun _ _=>.inl rfl),hK⟩
         ·have h0:es.length=0:=h0;have hh0:hh.toNat=0:=by omega
          have Gy:0<z:=Gy
          refine⟨.pv n' hh.toNat,_,o,F,jl (L.desc _ _ hd) (L.size _ _ hn) (z:=z) (m:=0) (hh:=0) (l:=0) om rfl (by have:=a1 0 om;rwa [hh0]at this) (by simp) rfl,H,fun _ _ h=>h,fun _ h=>h,fun n y hl=>⟨y,hl,jC.refl y⟩,
           .pv JB rfl (fun b z len e=>by rw[hb]at e;cases e) (fun z' ku=>?_),hK⟩
          have V1:z'=z:=by rw[hb]at ku;cases ku;rfl
          subst V1;exact .inr ⟨_,_,_,q1,q2,Gy,q4,rfl⟩
         ·have Gy:0<z:=by
           cases hO with
           |nil cA=>rw[hb]at cA;cases cA
           |arr _ _ _ _ _ hz=>exact hz
          have hb:ρ n'=some (.arr b z es.length):=hb;have ik:es.length≤cap:=ik
          refine⟨.pv n' hh.toNat,_,o,F,jl (L.desc _ _ hd) (L.size _ _ hn) (z:=z) (m:=cap) (hh:=hh.toNat) (l:=0) om rfl (eZ (j6 e1 Rv) om h3) (by simp) rfl,H,fun _ _ h=>h,fun _ h=>h,fun n y hl=>⟨y,hl,jC.refl y⟩,
           .pv JB rfl (fun b1 z1 VA e=>?_) (fun _ e=>by rw[hb]at e;cases e),hK⟩
          rw[hb]at e;cases e;exact⟨cap,om,by simp⟩
       ·rename_i n' hsq;obtain⟨hc,hK⟩:=hw;rcases hK with hK|hK
        ·exact plain hc hK
        obtain⟨h1,h2,h3⟩:=hc;obtain⟨rfl,rfl⟩:x= .tk n'∧hi=none:=by
         unfold svQ at hsq;split at hsq
         ·cases hsq;exact⟨rfl,rfl⟩
         ·cases hsq
        have aiC:hiv=none:=by
         rcases Rv with⟨_,e⟩|⟨_,_,e,_⟩
         ·exact e
         ·cases e
        subst aiC;have hhe:hh=es.length:=by simpa[Vd]using e1.symm
        subst hhe;obtain⟨w,hl⟩:∃w,look o n'=some (.arr z w es):=by
         unfold Rh at he;simp only at he;split at he
         ·rename_i w _ hl;cases he;exact⟨_,hl⟩
         ·cases he
        have b3:∀y:Nat,l≤y→cO 0 y AA=some l.toNat:=fun y hy=>eZ (j6 e2 yJ) h1 hy;obtain⟨Sm,hO⟩:=H.cC hl;have JB:n'<c:=by cases hx with|tk hn=>exact hn
        rcases hO.tk rfl hx with⟨h0,hb,rfl |⟨b,o',cs,_,_,Gy,_,rfl⟩⟩|⟨b,cap,hb,ik,rfl⟩
        ·have h0:es.length=0:=h0;have y8:l.toNat=0:=by omega
         refine⟨.sv n' l.toNat,.slice none 0 0,o,F,mP (L.desc _ _ hd) (L.size _ _ hn) (m:=0) (hh:=0) (l:=0) rfl rfl rfl (by have:=b3 0 om;rwa [y8]at this),H,fun _ _ h=>h,fun _ h=>h,fun n y hl=>⟨y,hl,jC.refl y⟩,
          .sv JB rfl (fun b z len e=>by rw[hb]at e;cases e) (fun _ _=>.inl rfl),hK⟩
        ·have h0:es.length=0:=h0;have y8:l.toNat=0:=by omega
         have Gy:0<z:=Gy
         refine⟨.sv n' l.toNat,_,o,F,jl (L.desc _ _ hd) (L.size _ _ hn) (z:=z) (m:=0) (hh:=0) (l:=0) om rfl rfl rfl (by have:=b3 0 om;rwa [y8]at this),H,fun _ _ h=>h,fun _ h=>h,fun n y hl=>⟨y,hl,jC.refl y⟩,
          .sv JB rfl (fun b z len e=>by rw[hb]at e;cases e) (fun _ _=>.inr ⟨_,_,_,_,rfl⟩),hK⟩
        ·have Gy:0<z:=by
          cases hO with
          |nil cA=>rw[hb]at cA;cases cA
          |arr _ _ _ _ _ hz=>exact hz
         have hb:ρ n'=some (.arr b z es.length):=hb;have ik:es.length≤cap:=ik
         refine⟨.sv n' l.toNat,_,o,F,jl (L.desc _ _ hd) (L.size _ _ hn) (z:=z) (m:=cap) (hh:=es.length) (l:=l.toNat) om rfl rfl rfl (b3 _ om),H,fun _ _ h=>h,fun _ h=>h,fun n y hl=>⟨y,hl,jC.refl y⟩,
          .sv JB rfl (fun b1 z1 VA e=>?_) (fun _ e=>by rw[hb]at e;cases e),hK⟩
         rw[hb]at e;cases e;cases hbq:Nat.beq cap l.toNat with
         |true=>
          have:=beq_iff.1 hbq;exact⟨_,_,rfl,fun bw=>by omega⟩
         |false=>exact⟨_,_,rfl,fun _=>Nat.zero_add _⟩
      ·exact hw.elim
     ·cases e
    ·rename_i m _;split at hw
     ·rename_i kk hh l m' e2 e3;obtain⟨⟨h1,h2,rfl,h3⟩,hK⟩:=hw;rcases zK with⟨e,_⟩|⟨y1,v1,e,rfl,zc⟩
      ·cases e
      ·cases e;rcases Rv with⟨e,_⟩|⟨y2,v2,e,rfl,QX⟩
       ·cases e
       ·cases e;have Z9:∃k,v1= .int k hh:=by
         unfold Hb at e3;split at e3
         ·cases e3;rw[zc.dV.1];exact⟨_,rfl⟩
         ·cases e3
        obtain⟨k',rfl⟩:=Z9;rw[QX.dV.1]
        obtain⟨x',q1,q2⟩:=xW L (l:=l.toNat) (hh:=hh.toNat) (m:=hh.toNat) hd hn hz Qi om om (Nat.le_refl _) true (AA:=AA) (hiv:=some (.int kk hh)) (Vj:=some (.int k' hh)) (fun _=>rfl)
         (fun len cap e3 e4=>⟨hh.toNat,qJ om (by subst e3;omega) k',qJ om (by simp;omega) kk,Nat.le_refl _,fun _=>rfl⟩) rfl (eZ (j6 e2 yJ) h1 om)
        exact⟨_,x',_,F',q1,k1,k2,k3,k4,q2,hK⟩
     ·exact hw.elim
   ·exact hw.elim
  ·exact hw.elim
 ·exact hw.elim
end
section
variable {T E:Env} {X:Cx} {ρ:Gh} {F:Nat→Prop} {o:Ob} {c:Nat} {af:AF} {f:Fr} {h:ah} {p:Oper} {K:OK}
theorem Ox {x:Value} (h:∀a,x≠ .agg a):x.cells= #[x]:=by
 cases x<;>first|rfl |exact absurd rfl (h _)
theorem E9 {x:Value} (h:ay x=true):∀a,x≠ .agg a:=by rintro a rfl;simp[ay]at h
theorem jO {v:TV} {x:Value} (hv:VR c ρ F h v x) (ho:okV v=true):ee c ρ F h (aF v) x.cells.toList:=by
 have one:(∀a,x≠ .agg a)→aF v=[v]→ee c ρ F h (aF v) x.cells.toList:=fun h1 h2=>by
  rw[h2,Ox h1];exact .cons hv .nil
 cases hv with
 |j=>simp[okV,BS]at ho
 |s hp=>exact one (E9 hp) rfl
 |nil=>exact one (by rintro a e;cases e) rfl
 |sl=>exact one (by rintro a e;cases e) rfl
 |tk hn sb ha h0=>exact one (by rintro a rfl;simp[Oh]at sb) rfl
 |ptr=>exact one (by rintro a e;cases e) rfl
 |ep=>exact one (by rintro a e;cases e) rfl
 |wp hn sb ha h0=>exact one (by rintro a rfl;simp[ptV]at sb) rfl
 |mp=>exact one (by rintro a e;cases e) rfl
 |bg=>exact one (by rintro a e;cases e) rfl
 |sv=>simp[okV,BS]at ho
 |pv=>simp[okV,BS]at ho
 |agg hs ha=>exact⟨by simpa[aF,Value.cells]using hs,fun i t v h1 h2=>ha i t v h1 (by simpa[Value.cells]using h2)⟩
 |cB=>simp[okV,BS]at ho
 |oP=>exact one (by rintro a e;cases e) rfl
 |dg=>exact one (by rintro a e;cases e) rfl
theorem AB:∀{n:Nat} {l xs r:List TV} {l' QG:List Value},dz l n xs=some r→ee c ρ F h l l'→ee c ρ F h xs QG→∃r',dz l' n QG=some r'∧ee c ρ F h r r'
 |0,l,[],r,l',QG,hs,hl,hx=>by
  simp[dz]at hs;subst hs;rw[hx.bU];exact⟨l',by simp[dz],hl⟩
 |0,[],x::xs,r,l',QG,hs,hl,hx=>by simp[dz]at hs
 |0,y::l,x::xs,r,l',QG,hs,hl,hx=>by
  simp only[dz,Option.bind_eq_some_iff,Option.some.injEq]at hs;obtain⟨q,hq,rfl⟩:=hs;obtain⟨y',m,rfl,_,h2⟩:=hl.aY;obtain⟨x',k,rfl,h3,h4⟩:=hx.aY;obtain⟨r',h5,h6⟩:=AB hq h2 h4;exact⟨x'::r',by simp[dz,h5],.cons h3 h6⟩
 |n+1,[],xs,r,l',QG,hs,hl,hx=>by simp[dz]at hs
 |n+1,y::l,xs,r,l',QG,hs,hl,hx=>by
  simp only[dz,Option.bind_eq_some_iff,Option.some.injEq]at hs;obtain⟨q,hq,rfl⟩:=hs;obtain⟨y',m,rfl,h1,h2⟩:=hl.aY;obtain⟨r',h5,h6⟩:=AB hq h2 hx;exact⟨y'::r',by simp[dz,h5],.cons h1 h6⟩
theorem wM {pT pE:Nat→Option (Nat×Nat)} (hp:∀i x,pT i=some x→pE i=some x):∀{ps:List (Nat×TV)} {zs cs:List TV} {zv:List Value} {pv:List (Nat×Value)},CT pT zs ps=some cs→ee c ρ F h zs zv→VX c ρ F h ps pv→
 ∃cv,kD pE zv pv=some cv∧ee c ρ F h cs cv
 |[],zs,cs,zv,[],hf,hz,_=>by simp[CT]at hf;subst hf;exact⟨zv,rfl,hz⟩
 |[],zs,cs,zv,_::_,hf,hz,hq=>hq.elim
 |a::l,zs,cs,zv,[],hf,hz,hq=>hq.elim
 |a::l,zs,cs,zv,b::m,hf,hz,hq=>by
  obtain⟨e,hv,hr⟩:=hq;unfold CT at hf;split at hf
  ·rename_i q n pR;split at hf
   ·rename_i hc;simp only[Bool.and_eq_true,beq_iff]at hc;have vy:=jO hv hc.1;split at hf
    ·rename_i wi ft;obtain⟨r',h1,h2⟩:=AB ft hz vy;obtain⟨cv,h3,h4⟩:=wM hp hf h2 hr;refine⟨cv,?_,h4⟩;obtain⟨i,x⟩:=b;simp only[kD];simp only at e;subst e;rw[hp _ _ pR];simp only[Option.bind_some];have:x.cells.size=n:=by have:=vy.1;simp only[Array.length_toList]at this;omega
     rw[this];simp[bL,h1,h3]
    ·cases hf
   ·cases hf
  ·cases hf
theorem Oy (L:cm T E) {t:TypeId} {ps:List (Nat×TV)} {pv:List (Nat×Value)} (hw:Kc T t ps o c K) (hp:VX c ρ F h ps pv):jN c ρ F h o (wa E t pv) K:=by
 unfold Kc at hw;split at hw
 ·rename_i fields z hd hz;obtain⟨ku,pR⟩:=L.zero _ _ hz;split at hw
  ·rename_i zs ni jZ;rw[Array.all_toList]at ni;split at hw
   ·rename_i cs hf;have hpm:∀i x,tL T fields i=some x→tL E fields i=some x:=fun i x hx=>by
     unfold tL at hx ⊢;simp only[Option.bind_eq_some_iff]at hx ⊢;obtain⟨fd,h1,n,h2,h3⟩:=hx;exact⟨fd,h1,n,L.size _ _ h2,h3⟩
    obtain⟨cv,h1,h2⟩:=wM hpm hf (gN pR jZ) hp;refine⟨_,_,?_,.g7 (a:=cv.toArray) (by simpa using h2),hw⟩;unfold wa;rw[L.desc _ _ hd,ku];simp only[Option.bind_some];have aex:(fields.all fun fd=>(E.size fd.type).isSome)=true:=by
     rw[Array.all_eq_true]at ni ⊢;intro i hi;have:=ni i hi;obtain⟨n,hn⟩:=Option.isSome_iff_exists.1 this;rw[L.size _ _ hn];rfl
    rw[aex];simp[bL,h1]
   ·exact hw.elim
  ·exact hw.elim
 ·rename_i len elem z hd hz;obtain⟨ku,pR⟩:=L.zero _ _ hz;split at hw
  ·rename_i n zs hn jZ;split at hw
   ·rename_i cs hf;obtain⟨cv,h1,h2⟩:=wM (pE:=fun i=>some (i*n,n)) (fun i x hx=>hx) hf (gN pR jZ) hp;refine⟨_,_,?_,.g7 (a:=cv.toArray) (by simpa using h2),hw⟩;unfold wa;rw[L.desc _ _ hd,ku];simp only[Option.bind_some,L.size _ _ hn,h1]
   ·exact hw.elim
  ·exact hw.elim
 ·exact hw.elim
theorem Kp (L:cm T E) {s d:TypeId} {x v:Value} (hx:s8 T s d x=some v):s8 E s d x=some v:=by
 unfold s8 at hx ⊢;simp only[Option.bind_eq_some_iff]at hx ⊢;obtain⟨q,h1,dd,h2,h3⟩:=hx;exact⟨q,L.desc _ _ h1,dd,L.desc _ _ h2,h3⟩
end
section
variable {T E:Env} {X:Cx} {ρ:Gh} {F:Nat→Prop} {o:Ob} {c:Nat} {af:AF} {f:Fr} {h:ah} {p:Oper} {K:OK}
theorem Kq {v:Value} (hp:ay v=true) (hc:∀r,v≠ .chan r):ka v v=true:=by
 cases v<;>simp[ay]at hp<;>first
  |(simp[ka];done)
  |(exact absurd rfl (hc _))
  |(rename_i a;cases a<;>simp at hp<;>simp[ka])
theorem ir {t:TV} {x:Value} (hv:VR c ρ F h t x) (he:J6 t=true):ka x x=true:=by
 cases hv with
 |j=>simp[J6]at he
 |s hp=>exact Kq hp (by rintro r rfl;simp[J6]at he)
 |nil=>simp[ka]
 |sl=>simp[ka]
 |tk hn sb ha h0=>cases x<;>simp[Oh]at sb;simp[ka]
 |ptr=>simp[ka]
 |ep=>simp[ka]
 |wp hn sb ha h0=>cases x<;>simp[ptV]at sb;simp[ka]
 |mp=>simp[ka]
 |bg=>simp[J6]at he
 |sv=>simp[J6]at he
 |pv=>simp[J6]at he
 |agg=>simp[J6]at he
 |cB=>simp[J6]at he
 |oP zc=>
  rename_i t v v';cases v<;>simp[J6]at he;rename_i w;cases w<;>simp at he;rw[zc.dV.1];simp[ka]
 |dg hs ha ht hk=>
  rename_i g x y a k;cases x<;>simp[J6]at he;cases y<;>simp at he;simp at hs ht;simp[ka,←hs,←ht]
theorem wN:∀{l:List TV} {m:List Value},ee c ρ F h l m→l.all J6=true→gZ m m=true
 |[],m,H,_=>by rw[H.bU];rfl
 |t::l,m,H,he=>by
  simp only[List.all_cons,Bool.and_eq_true]at he;obtain⟨v,m',rfl,h1,h2⟩:=H.aY;simp only[gZ,Bool.and_eq_true];exact⟨ir h1 he.1,wN h2 he.2⟩
theorem Fe {c1:Nat} {iE:Gh} {l:List TV} {m:List Value} {v:VL} {q:RQ} {ρ':Gh} {o':Ob} {h':ah} (H:ee c1 iE F h l m) (k9:gZ m m=true→gy ρ F o h ρ' o' h' v (.rd q h)):gy ρ F o h ρ' o' h' (Rf l v) (.rd q h):=by
 unfold Rf;split
 ·rename_i he;exact k9 (wN H he)
 ·exact .bad
def jP (X:Cx) (c:Nat) (ρ:Gh) (F:Nat→Prop) (h:ah) (o:Ob) (q:RQ) (K:OK):Prop:=∃v x lg ρ' o' c',q.run h=some x∧Nx X ρ F o c h ρ' F o' c' h∧VR c' ρ' F h v x∧K v o' c' lg∧gy ρ F o h ρ' o' h lg (.rd q h)
theorem jP.JF {q:RQ} (R:jP X c ρ F h o q K) (hp:aO E af p=none) (hq:bP E af p=some q):fv E X ρ F o c af h p K:=by
 obtain⟨v,x,lg,ρ',o',c',h1,h2,h3,h4,h5⟩:=R;refine⟨0,⟨x,h,.rd q h⟩,v,o',c',ρ',F,lg,fun n _=>?_,h4,h2,h3,h5⟩;unfold eM;rw[hp,hq];simp[h1]
theorem jP.same {q:RQ} (H:Mem X ρ F o c h) {v:TV} {x:Value} {lg:VL} (h1:q.run h=some x) (h2:VR c ρ F h v x) (h3:K v o c lg) (h4:gy ρ F o h ρ o h lg (.rd q h)):jP X c ρ F h o q K:=⟨v,x,lg,ρ,o,c,h1,.refl H,h2,h3,h4⟩
theorem wO:∀{l:List TV} {k:Nat},(eN l k).2=[]→(eN l k).1=l
 |[],_,_=>rfl
 |t::l,k,hn=>by
  cases t<;>first|(simp only[eN]at hn ⊢;rw[wO hn])|(simp[eN]at hn)
theorem kU {α:Type}:∀{l xs r:List α} {p:Nat},dz l p xs=some r→r=l.take p++(xs++(l.drop p).drop xs.length)
 |l,[],r,0,h=>by simp[dz]at h;subst h;simp
 |[],x::xs,r,0,h=>by simp[dz]at h
 |y::l,x::xs,r,0,h=>by
  simp only[dz,Option.bind_eq_some_iff,Option.some.injEq]at h;obtain⟨q,hq,rfl⟩:=h;have:=kU hq;simp only[List.take_zero,List.nil_append,List.drop_zero]at this;rw[this];simp
 |[],xs,r,p+1,h=>by simp[dz]at h
 |y::l,xs,r,p+1,h=>by
  simp only[dz,Option.bind_eq_some_iff,Option.some.injEq]at h;obtain⟨q,hq,rfl⟩:=h;rw[kU hq];simp
theorem C4:∀(l:List TV) (k:Nat),(eN l k).1.length=l.length
 |[],_=>rfl
 |t::l,k=>by cases t<;>simp[eN,C4 l]
theorem HS (H:Mem X ρ F o c h) {S:Nat→Ft} (K0:MO X ρ F o c h S) {agg:Bool} {n p q m b:Nat} {e:List TV} {y:TO} {put:List TV→TO} {Se:Ft} {vs:List Value} {lg:VL} (hw:CS agg n p e o c lg put m K) (hl:look o m=some y) (hb:C2 ρ m b) (xQ:lg= .mi m∨lg= .vg m p .j∧p=q∧ρ m=some (.dJ b))
 (hc:db c ρ F h X.base Se e vs) (hr:n≤(e.drop p).length→M.ai h b q n=some ((vs.drop p).take n))
 (Kr:∀c' ρ' e' S',(∀t v,VR c ρ F h t v→VR c' ρ' F h t v)→ρ' m=ρ m→e'.length=e.length→db c' ρ' F h X.base S' e' vs→∃S0,OR c' ρ' F h X.base m S0 (put e')∧∀R,Se.Perm (S'++R)→(S m).Perm (S0++R)):
 jP X c ρ F h o (.cells agg b q n) K:=by
 unfold CS at hw;split at hw
 ·exact hw.elim
 ·rename_i l ht;rw[bf]at ht;obtain⟨t1,rfl⟩:=ht;have HT:=hr t1;obtain⟨S1,S2,S3,hS,a1,a2,a3⟩:=hc.part p n;have fzm:∀t v,VR 0 wD F h t v→fz t=true→VR c ρ F h t v:=fun t v hv hf=>hv.eo hf;split at hw
  ·rename_i ta;split at hw
   ·rename_i v hv;obtain⟨hK,_⟩:=eR hw;obtain⟨Ss,ls,b1,b2,b3⟩:=a2.opened c;have y8:ls.length=0:=by rw[b2.l2,ta];rfl
    have hV:=b3 c ρ (fun _ _ h=>h) om (fun i q hq=>by
     have:=(List.getElem?_eq_some_iff.1 hq).1;omega)
    rw[wO ta]at hV;obtain⟨x,h6,h7⟩:=gP hv hV;have main:gZ ((vs.drop p).take n) ((vs.drop p).take n)=true→gy ρ F o h ρ o h (nmL v lg) (.rd (.cells agg b q n) h):=by
     intro he;have pl:gy ρ F o h ρ o h (.mi m) (.rd (.cells agg b q n) h):=.mi (.refl _) rfl hl hb ⟨_,HT,he⟩;rcases xQ with rfl |⟨rfl,rfl,QF⟩
     ·exact pl
     have one:∀w,v=w→dF w=false→eX w=true→(∀cs,w≠ .agg cs)→(∀y,VR c ρ F h w y→lS ρ w y)→gy ρ F o h ρ o h (.vg m p w) (.rd (.cells agg b p n) h):=by
      rintro w rfl _ _ CM hnm;unfold fh at hv;split at hv
      ·cases hv;exact absurd rfl (CM _)
      ·rename_i l' w' heq;cases hv;rw[heq]at hV;obtain⟨y1,m1,e1,hy,zE⟩:=hV.aY;obtain rfl:=zE.bU;have hn1:n=1:=by
        have:=congrArg List.length heq;rw[List.length_take]at this;simp only[List.length_cons,List.length_nil]at this;omega
       subst hn1;rw[e1]at HT;exact .vg (.refl _) rfl hl QF (hnm _ hy) HT
      ·cases hv
     unfold nmL;split
     ·rename_i m' p' v' heq;cases heq;split
      ·exact one _ rfl rfl rfl (by rintro cs e;cases e) fun y hy=>by cases hy with|mp hb=>exact .inl ⟨_,_,rfl,hb,rfl⟩
      ·exact one _ rfl rfl rfl (by rintro cs e;cases e) fun y hy=>by cases hy with|ptr hb=>exact .inr ⟨_,_,_,rfl,hb,rfl⟩
      ·exact pl
     ·rename_i bC;exact absurd rfl (bC _ _ _)
    exact jP.same H (by simp[RQ.run,HT,h6]) h7 hK (Fe hV main)
   ·exact hw.elim
  ·rename_i q0 new ta;split at hw
   ·rename_i e' v ft hv;obtain⟨hK,_⟩:=eR hw;have hA:∀ls:List Loc,∀t v,VR c ρ F h t v→VR (c+(new.length+1)) (p6 ρ c ls) F h t v:=fun ls t v=>VR.mono om (fun n l hn h1=>by rwa [fZ _ _ hn]at h1) (fun n b h1=>by rw[fZ _ _ (H.names _ _ h1)];exact h1) (fun _ h=>h) (fun _ _ _ h=>h);obtain⟨Ss,ls,b1,b2,b3⟩:=a2.opened c;rw[ta]at b2;have JC:ls.length=new.length+1:=b2.l2;have hV:=b3 (c+(new.length+1)) (p6 ρ c ls) (hA ls) om (fun i q hq=>by rw[vu];exact hq);obtain⟨x,h6,h7⟩:=gP hv hV;have hlen:(eN ((e.drop p).take n) c).1.length=n:=by rw[C4,List.length_take];omega
    have Gx:=kU ft;rw[hlen]at Gx;have JO:=H.lt hl;have hCN:db (c+(new.length+1)) (p6 ρ c ls) F h X.base (S1++S3) e' vs:=by
     have k1:=a1.bx (c':=c+(new.length+1)) (ρ':=p6 ρ c ls) (F':=F) (h':=h) (T:=fun _=>False) H.wf (fun _ _ _=>rfl) (fun _ h=>h) (fun _ _ _ h=>h) (hA ls) (fun _ _ hf=>hf.elim);have k3:=a3.bx (c':=c+(new.length+1)) (ρ':=p6 ρ c ls) (F':=F) (h':=h) (T:=fun _=>False) H.wf (fun _ _ _=>rfl) (fun _ h=>h) (fun _ _ _ h=>h) (hA ls) (fun _ _ hf=>hf.elim);have:=k1.join ((db.lP (base:=X.base) hV).join k3);rw[List.take_append_drop,List.take_append_drop,←Gx]at this;exact this
    obtain⟨S0,hO,hP⟩:=Kr _ _ e' (S1++S3) (hA ls) (fZ _ _ JO) (dL ft).2.1 hCN;have C5:(S m).Perm (S0++Ss.flatten):=hP _ (by
     rw[hS,←b1,List.append_assoc];exact List.perm_append_comm.append_left _)
    obtain⟨M,hk⟩:=H.opens K0 (y1:=put e') hl b2 C5 (fun _=>hO);refine⟨v,x,_,_,_,_,by simp[RQ.run,HT,h6],⟨M,hk,Nat.le_refl _,fun _ h=>h,fun _ _ _ h=>h⟩,h7,hK,Fe hV fun he=>(show aea lg= .mi m by rcases xQ with rfl |⟨rfl,_⟩<;>rfl)▸ .mi (fun n' y' vw _=>⟨?_,fZ _ _ (H.lt vw),fun b _=>⟨rfl,fun _ h=>h⟩⟩) rfl hl hb ⟨_,HT,he⟩⟩;rw[kh,wE b2,if_pos (H.lt vw)];simp only
    rw[eQ];by_cases em:n'=m
    ·rw[if_pos em,hl];exact⟨_,rfl⟩
    ·rw[if_neg em];exact⟨_,vw⟩
   ·exact hw.elim
theorem aag {z i p n b:Nat} {v1 v2 v3:List Value} (hr:h.rd b=some (v1++(v2++v3))) (h1:v1.length=i*z) (h2:n≤(v2.drop p).length):M.ai h b (i*z+p) n=some ((v2.drop p).take n):=by
 unfold M.ai;rw[hr];simp only[Option.bind_some,bf];rcases Nat.eq_zero_or_pos n with h0|h0
 ·subst h0;simp
 ·simp only[List.length_drop]at h2;have e:(v1++(v2++v3)).drop (i*z+p)=v2.drop p++v3:=by
   rw[←h1,List.drop_append,List.drop_eq_nil_of_le om,Nat.add_sub_cancel_left,List.nil_append,List.drop_append_of_le_length om]
  rw[e];refine⟨by rw[List.length_append,List.length_drop];omega,?_⟩;rw[List.take_append_of_le_length (by rw[List.length_drop];omega)]
theorem Rx (L:cm T E) (H:Mem X ρ F o c h) {t:TypeId} {a:TV} {av:Value} (hw:Rg T t a o c K) (ha:VR c ρ F h a av):
 ∃q,((jF av).bind fun p=>(fi E t).bind fun s=>some (.cells s.1 p.1 p.2 s.2))=some q∧jP X c ρ F h o q K:=by
 unfold Rg at hw;split at hw
 ·exact hw.elim
 ·rename_i agg n hs;have hs':=L.shape hs;obtain⟨S,K0⟩:=H.ex;split at hw
  ·rename_i m q;split at hw
   ·rename_i cs hl;have hO:=K0.cC m _ hl;generalize hS:S m=Sm at hO;cases hO with
    |cells hb hg pU hc=>
     rename_i Sq b aS cs';cases ha with
     |ptr cA=>
      rw[hb]at cA;cases cA;refine⟨.cells agg b q n,by simp[jF,hs'],HS H K0 hw hl (.inl hb) (.inr ⟨rfl,rfl,hb⟩) hc (fun hn=>?_) fun c' ρ' e' S' hm fN hlen hCN=>⟨_,.cells (fN.trans hb) hg pU hCN,fun R hR=>by rw[hS];exact hR.cons _⟩⟩;unfold M.ai;rw[eu (bR hg hg) pU (az hg)];simp only[Option.bind_some,bf,and_true];have:=hc.len;simp only[List.length_drop]at hn ⊢;omega
   ·exact hw.elim
  ·rename_i e q;split at hw
   ·rename_i l ht;split at hw
    ·rename_i v hv;obtain⟨hK,_⟩:=eR hw;cases ha with
     |ep h1 h2 h3 h4 h5=>
      rename_i b q0 cs;rw[bf]at ht;obtain⟨t1,rfl⟩:=ht;simp only[List.length_drop]at t1;have hlen:n≤(cs.drop (q0+q)).length∨n=0:=by
       simp only[List.length_drop];omega
      have hR:ee c ρ F h ((e.drop q).take n) ((cs.drop (q0+q)).take n):=by
       refine⟨by simp;omega,fun i t v r1 r2=>?_⟩;rw[List.getElem?_take]at r1 r2;split at r1
       ·rename_i bw;rw[if_pos bw]at r2;rw[List.getElem?_drop]at r1 r2;exact h5 (q+i) t v r1 (by rw[←r2];congr 1;omega)
       ·cases r1
      obtain⟨x,h6,h7⟩:=gP hv hR;have HT:M.ai h b (q0+q) n=some ((cs.drop (q0+q)).take n):=by
       unfold M.ai;rw[h2];simp only[Option.bind_some,bf,and_true];rcases hlen with h8|h8
       ·exact h8
       ·omega
      exact⟨.cells agg b (q0+q) n,by simp[jF,hs'],jP.same H (by simp[RQ.run,HT,h6]) h7 hK (Fe hR fun he=>.Mk (.refl _) rfl h1 ⟨_,_,_,_,rfl⟩ ⟨_,HT,he⟩)⟩
    ·exact hw.elim
   ·exact hw.elim
  ·rename_i m i q;split at hw
   ·rename_i z w es hl;obtain⟨e,he,hw⟩:=hw;split at hw
    ·rename_i l ht;split at hw
     ·rename_i v hv;obtain⟨hK,_⟩:=eR hw;obtain⟨b,z',l',hb,rfl⟩:=wL H hl rfl ha;obtain⟨Sm,hO⟩:=H.cC hl;cases hO with
      |nil cA hz=>rw[hb]at cA;cases cA
      |arr cA hg hf pU eF hz hlen nv iG hc hF=>
       rename_i f t0 fy aS cs;rw[hb]at cA;cases cA;have gW:=eu hf pU (az hg);rw[bf]at ht;obtain⟨t1,rfl⟩:=ht;simp only[List.length_drop]at t1;have Qp:=nv e (List.mem_of_getElem? he);have hi:i<es.length:=(List.getElem?_eq_some_iff.1 he).1;have hle:(i+1)*z≤es.length*z:=Nat.mul_le_mul_right z hi;rw[Nat.add_mul]at hle;have hR:ee c ρ F h ((e.drop q).take n) ((cs.drop (i*z+q)).take n):=by
        refine⟨by simp;omega,fun j t v r1 r2=>?_⟩;rw[List.getElem?_take]at r1 r2;split at r1
        ·rename_i bw;rw[if_pos bw]at r2;rw[List.getElem?_drop]at r1 r2;exact hc i (q+j) e t v he r1 (by rw[←r2];congr 1;omega)
        ·cases r1
       obtain⟨x,h6,h7⟩:=gP hv hR;have HT:M.ai h b (i*z+q) n=some ((cs.drop (i*z+q)).take n):=by
        unfold M.ai;rw[gW];simp only[Option.bind_some,bf,and_true,List.length_drop];omega
       exact⟨.cells agg b (i*z+q) n,by simp[jF,hs'],jP.same H (by simp[RQ.run,HT,h6]) h7 hK (Fe hR fun Gx=>.mi (.refl _) rfl hl (.inr ⟨_,_,hb⟩) ⟨_,HT,Gx⟩)⟩
     ·exact hw.elim
    ·exact hw.elim
   ·rename_i z es op hl;obtain⟨b,z',l',hb,rfl⟩:=wL H hl rfl ha;have hO:=K0.cC m _ hl;generalize hS:S m=Sm at hO;cases hO with
    |ib cA hz=>rw[hb]at cA;cases cA
    |cF cA hg hf pU eF hz hlen nv cH kr hc=>
     rename_i Sq f t0 fy aS cs;rw[hb]at cA;cases cA;have gW:=eu hf pU (az hg);have fc:=uo cH;refine⟨.cells agg b (i*z+q) n,by simp[jF,hs'],?_⟩
     -- a row that is there as it is
     have row:∀(Og:List TV→List (Nat×List TV)) e,(c8 es op)[i]? =some e→(∀e',e'.length=z→(∀p∈Og e',p.1<es.length∧p.2.length=z)∧c8 es (Og e')=(c8 es op).set i e')→CS agg n q e o c (.mi m) (fun e'=>.cF z es (Og e')) m K→jP X c ρ F h o (.cells agg b (i*z+q) n) K:=by
      intro Og e YA Aa hw;obtain⟨dh,jZ⟩:=vp nv kr;have hi:i<(c8 es op).length:=(List.getElem?_eq_some_iff.1 YA).1;have he:=jZ e (List.mem_of_getElem? YA);have lx:(c8 es op).set i e=c8 es op:=by
       refine List.ext_getElem? fun k=>?_;rw[List.getElem?_set];by_cases ek:i=k
       ·subst ek;rw[if_pos rfl,if_pos hi,YA]
       ·rw[if_neg ek]
      rw[←lx]at hc;generalize c8 es op=rows at*
      obtain⟨S1,S2,S3,v1,v2,v3,rfl,rfl,a1,a2,a3⟩:=iI jZ hi hc;have e1:v1.length=i*z:=by
       have h1:=a1.len;have:=(fE jZ YA).2;rw[Nat.add_mul]at this;rw[←h1,List.length_take];omega
      have e2:v2.length=z:=by rw[←a2.len];exact he
      refine HS H K0 hw hl (.inr ⟨_,_,hb⟩) (.inl rfl) a2 (fun hn=>aag gW e1 (by simp only[List.length_drop]at hn ⊢;omega)) fun c' ρ' e' S' hm fN c6 hCN=>?_;have ku:=Aa e' (by rw[c6];exact he);have:=ld jZ hi (a1.bx (T:=fun _=>False) H.wf (fun _ _ _=>rfl) (fun _ h=>h) (fun _ _ _ h=>h) hm (by simp)) hCN (a3.bx (T:=fun _=>False) H.wf (fun _ _ _=>rfl) (fun _ h=>h) (fun _ _ _ h=>h) hm (by simp));rw[←ku.2]at this;refine⟨_,.cF (fN.trans hb) hg hf pU eF hz hlen nv cH ku.1 this,fun R hR=>?_⟩;rw[hS];refine List.Perm.cons _ ?_;show List.Perm _ ((S1++(S'++S3))++R);rw[List.append_assoc,List.append_assoc]
      refine List.Perm.append_left S1 ((hR.append_right S3).trans ?_);rw[List.append_assoc];exact List.perm_append_comm.append_left _
     have dh:=(vp nv kr).1;have aez:∀{e':List TV},i<es.length→e'.length=z→∀p∈(i,e')::op,p.1<es.length∧p.2.length=z:=fun h1 h2 p hp=>by
      rcases List.mem_cons.1 hp with rfl |hp
      ·exact⟨h1,h2⟩
      ·exact kr p hp
     have aeA:∀{e':List TV},i<es.length→e'.length=z→∀p∈[(i,e')],p.1<es.length∧p.2.length=z:=fun h1 h2 p hp=>by
      simp only[List.mem_singleton]at hp;subst hp;exact⟨h1,h2⟩
     unfold Ml at hw;split at hw
     ·obtain⟨e,he,hw⟩:=hw;exact row (fun e'=>[(i,e')]) e he (fun e' vw=>⟨aeA (List.getElem?_eq_some_iff.1 he).1 vw,rfl⟩) hw
     ·rename_i j ej;obtain⟨o1,o2⟩:=kr (j,ej) (by simp);by_cases eij:i=j
      ·subst eij;exact row (fun e'=>[(i,e')]) ej (by show(es.set i ej)[i]? =_;rw[List.getElem?_set_self o1]) (fun e' vw=>⟨aeA o1 vw,by show es.set i e'=(es.set i ej).set i e';rw[List.set_set]⟩) (hw.1 rfl)
      ·obtain⟨e,he,hw⟩:=hw.2 eij;have YA:(es.set j ej)[i]? =some e:=by rw[List.getElem?_set,if_neg (fun h=>eij h.symm)];exact he
       exact row (fun e'=>(i,e')::[(j,ej)]) e YA (fun e' vw=>⟨aez (List.getElem?_eq_some_iff.1 he).1 vw,rfl⟩) hw
     ·obtain⟨e,he,hw⟩:=hw;exact row (fun e'=>(i,e')::op) e he (fun e' vw=>⟨aez (by rw[←dh];exact(List.getElem?_eq_some_iff.1 he).1) vw,rfl⟩) hw
   ·exact hw.elim
  ·exact hw.elim
theorem si {kd:TypeDesc} {k:Value} {n:Nat} (hk:kindOk kd k n=true):(∃b,kd= .bool∧k= .bool b∧n=1)∨(∃s,kd= .string∧k= .string s∧n=2)∨(∃i x,kd= .int i∧k= .int i x∧n=jB i):=by
 unfold kindOk at hk;simp only[Bool.and_eq_true,beq_iff,bc]at hk;obtain⟨⟨h0,h1⟩,h2⟩:=hk;cases kd<;>simp[Af]at h1<;>try omega
 ·cases k<;>simp[bn]at h2<;>try omega
  ·exact .inl ⟨_,rfl,rfl,h1.symm⟩
  ·rename_i i x;subst h1;cases i<;>simp[jB]at h2
 ·rename_i i;cases k<;>simp[bn]at h2<;>try omega
  ·subst h1;cases i<;>simp[jB]at h2
  ·rename_i j x;have:i=j:=by subst h1;cases i<;>cases j<;>simp[jB]at h2<;>rfl
   subst this;exact .inr (.inr ⟨_,_,rfl,rfl,h1.symm⟩)
  ·subst h1;cases i<;>simp[jB]at h2
 ·cases k<;>simp[bn]at h2<;>try omega
  ·rename_i i x;subst h1;cases i<;>simp[jB]at h2
  ·exact .inr (.inl ⟨_,rfl,rfl,h1.symm⟩)
theorem j7 {kd:TypeDesc} {k:Value} {n:Nat} (hk:kindOk kd k n=true):je kd=true∧scalar k=true:=by
 rcases si hk with⟨_,rfl,rfl,_⟩|⟨_,rfl,rfl,_⟩|⟨_,_,rfl,rfl,_⟩<;>exact⟨rfl,rfl⟩
theorem kl {kd:TypeDesc} {k k':Value} {n:Nat} (hk:kindOk kd k n=true) (r7:bn k'=n):Instr.sameNow kd k k'=some (tf k k'):=by
 rcases si hk with⟨b,rfl,rfl,rfl⟩|⟨s,rfl,rfl,rfl⟩|⟨i,x,rfl,rfl,rfl⟩
 ·cases k'<;>simp[bn]at r7
  ·rfl
  ·rename_i j y;cases j<;>simp[jB]at r7
 ·cases k'<;>simp[bn]at r7
  ·rename_i j y;cases j<;>simp[jB]at r7
  ·rfl
 ·cases k'<;>simp[bn]at r7<;>try(cases i<;>simp[jB]at r7;done)
  rename_i j y;have:i=j:=by cases i<;>cases j<;>simp[jB]at r7<;>rfl
  subst this;simp[Instr.sameNow,tf]
def wP (c:Nat) (ρ:Gh) (F:Nat→Prop) (h:ah) (kd:Nat) (es:List (Value×TV)) (cb:List MapEntry):Prop:=
 es.length=cb.length∧∀(i:Nat) e e',es[i]? =some e→cb[i]? =some e'→e'.key=e.1∧(0<kd∧bn e.1=kd)∧G7 e.2=true∧VR c ρ F h e.2 e'.val
theorem wP.aY {kd:Nat} {e:Value×TV} {es:List (Value×TV)} {cb:List MapEntry} (H:wP c ρ F h kd (e::es) cb):∃e' m,cb=e'::m∧e'.key=e.1∧(0<kd∧bn e.1=kd)∧G7 e.2=true∧VR c ρ F h e.2 e'.val∧wP c ρ F h kd es m:=by
 match cb,H with
 |[],H=>have:=H.1;simp at this
 |e'::m,H=>
  obtain⟨h1,h2,h3,h4⟩:=H.2 0 e e' rfl rfl;exact⟨e',m,rfl,h1,h2,h3,h4,by simpa using H.1,fun i x x' q1 q2=>H.2 (i+1) x x' (by simpa using q1) (by simpa using q2)⟩
theorem wP.bU {kd:Nat} {cb:List MapEntry} (H:wP c ρ F h kd [] cb):cb=[]:=by have:=H.1;cases cb<;>simp_all
theorem vz {kd:TypeDesc} {k:Value} {n:Nat} (hk:kindOk kd k n=true):∀{es:List (Value×TV)} {cb:List MapEntry} (i:Nat),wP c ρ F h n es cb→
 (match im es k with
 |some v=>∃j x,Instr.findNow kd k cb i=some (some (i+j,x))∧VR c ρ F h v x∧G7 v=true∧∃e,cb[j]? =some e∧e.val=x
 |none=>Instr.findNow kd k cb i=some none)
 |[],cb,i,H=>by rw[H.bU];rfl
 |e::es,cb,i,H=>by
  obtain⟨e',m,rfl,h1,h2,h3,h4,h5⟩:=H.aY;unfold im Instr.findNow;rw[h1,kl hk h2.2];cases hq:tf k e.1 with
  |true=>exact⟨0,e'.val,rfl,h4,h3,e',rfl,rfl⟩
  |false=>
   have ih:=vz hk (i+1) h5;simp only
   split
   ·rename_i v hv;rw[hv]at ih;obtain⟨j,x,q1,q2,q3,e2,q4,q5⟩:=ih;exact⟨j+1,x,by rw[q1];congr 3;omega,q2,q3,e2,by simpa using q4,q5⟩
   ·rename_i hv;rw[hv]at ih;exact ih
theorem Ff {t:TV} (hf:fz t=true):J6 t=true:=by
 unfold fz at hf;split at hf
 ·rename_i v;cases v<;>first|rfl |simp[Ae]at hf
 ·rfl
 ·rfl
 ·rfl
 ·cases hf
theorem Ry {t:TV} {x:Value} (hv:VR c ρ F h t x) (hf:G7 t=true):Gt x x=true:=by
 have one:ka x x=true→Gt x x=true:=fun h=>by
  unfold Gt;split
  ·simp[ka]at h
  ·exact h
 unfold G7 at hf;split at hf
 ·obtain⟨a,rfl,h1⟩:=hv.fM;exact wN h1 (List.all_eq_true.2 fun t ht=>Ff (List.all_eq_true.1 hf t ht))
 ·exact one (ir hv (Ff hf))
theorem wP.refl {kd:Nat}:∀{es:List (Value×TV)} {cb:List MapEntry},wP c ρ F h kd es cb→zD cb cb=true
 |[],cb,H=>by rw[H.bU];rfl
 |e::es,cb,H=>by
  obtain⟨e',m,rfl,h1,h2,h3,h4,h5⟩:=H.aY;simp only[zD,Bool.and_eq_true];refine⟨⟨⟨?_,Ry h4 h3⟩,by simp⟩,h5.refl⟩;rw[h1];have:=h2.2;cases he:e.1<;>rw[he]at this<;>simp[bn]at this<;>try omega
  all_goals simp[Gt,ka]
theorem AD {a b:ByteArray}:(a==b)=true↔a=b:=by
 cases a;cases b;show(Array.instBEq.beq _ _)=true↔_;simp
theorem Rz {kd:TypeDesc} {k k':Value} {n:Nat} (hk:kindOk kd k n=true) (r7:bn k'=n) (h:tf k k'=true):k=k':=by
 rcases si hk with⟨b,rfl,rfl,rfl⟩|⟨s,rfl,rfl,rfl⟩|⟨i,x,rfl,rfl,rfl⟩
 ·cases k'<;>simp[bn]at r7
  ·simpa[tf]using h
  ·rename_i j y;cases j<;>simp[jB]at r7
 ·cases k'<;>simp[bn]at r7
  ·rename_i j y;cases j<;>simp[jB]at r7
  ·simp only[tf]at h;rw[AD.1 h]
 ·cases k'<;>simp[bn]at r7<;>try(cases i<;>simp[jB]at r7;done)
  rename_i j y;have:i=j:=by cases i<;>cases j<;>simp[jB]at r7<;>rfl
  subst this;simpa[tf]using h
theorem vA {kd:TypeDesc} {k:Value} {n:Nat} (hk:kindOk kd k n=true):tf k k=true:=by
 rcases si hk with⟨b,rfl,rfl,rfl⟩|⟨s,rfl,rfl,rfl⟩|⟨i,x,rfl,rfl,rfl⟩<;>simp[tf,AD]
theorem RA {a b c:Value} (h:tf a b=true):tf c b=tf c a:=by
 unfold tf at h;split at h
 ·have:=eq_of_beq h;subst this;cases c<;>rfl
 ·have:=eq_of_beq h;subst this;cases c<;>rfl
 ·have:=AD.1 h;subst this;cases c<;>rfl
 ·cases h
theorem jk.find {base:Nat} {kd:TypeDesc} {k:Value} {n:Nat} (hk:kindOk kd k n=true):∀{M:List (Value×TV)} {ev:List MapEntry} {S:Ft} (i:Nat),jk c ρ F h base n S M ev→
 (match im M k with
 |some v=>∃j x S1 S2 S3,Instr.findNow kd k ev i=some (some (i+j,x))∧S=S1++(S2++S3)∧db c ρ F h base S2 (aF v) x.cells.toList∧dF v=gp x∧
  ∀c' ρ' v' V2,(∀e∈M,∀t∈aF e.2,nV t=true)→db c' ρ' F h base V2 (aF v') x.cells.toList→dF v'=gp x→jk c' ρ' F h base n (S1++(V2++S3)) (dU M k v') ev
 |none=>Instr.findNow kd k ev i=some none)
 |[],ev,S,i,H=>by cases H;rfl
 |e::es,ev,S,i,H=>by
  cases H with
  |cons nw ji ha hv hl=>
   rename_i Sa Sb e' m;unfold im Instr.findNow;rw[nw,kl hk ji.2];cases hq:tf k e.1 with
   |true=>
    refine⟨0,e'.val,[],Sa,Sb,rfl,rfl,hv,ha,fun c' ρ' v' V2 cH CE zN=>?_⟩;unfold dU;rw[hq];have:=Rz hk ji.2 hq;subst this;have:=jk.cons (e:=(e.1,v')) nw ji zN CE (hl.conv (c':=c') (ρ':=ρ') fun e he=>cH e (List.mem_cons_of_mem _ he));exact this
   |false=>
    have ih:=jk.find hk (i+1) hl;simp only
    split
    ·rename_i v QX;rw[QX]at ih;obtain⟨j,x,S1,S2,S3,q1,q2,q3,q4,q5⟩:=ih;refine⟨j+1,x,Sa++S1,S2,S3,by rw[q1];congr 3;omega,by rw[q2,List.append_assoc],q3,q4,fun c' ρ' v' V2 cH CE zN=>?_⟩;unfold dU;rw[hq,List.append_assoc];exact .cons nw ji ha (hv.conv (cH e List.mem_cons_self)) (q5 c' ρ' v' V2 (fun e he=>cH e (List.mem_cons_of_mem _ he)) CE zN)
    ·rename_i QX;rw[QX]at ih;exact ih
theorem VR.fh {v:TV} {x:Value} (H:ee c ρ F h (aF v) x.cells.toList) (ha:dF v=gp x):VR c ρ F h v x:=by
 cases v with
 |agg cs=>
  cases x<;>simp[dF,gp]at ha;exact .g7 H
 |_=>
  have hx:x.cells= #[x]:=by cases x<;>first|rfl |simp[dF,gp]at ha
  rw[hx]at H;exact H.head
theorem Cd {b:Bool} {l:List TV} {v:TV} {x:Value} (ho:fh b l=some v) (H:ee c ρ F h l x.cells.toList) (ha:b=gp x):aF v=l∧dF v=b∧VR c ρ F h v x:=by
 unfold fh at ho;split at ho
 ·cases ho;refine⟨rfl,rfl,?_⟩;cases x<;>simp[gp]at ha;exact .g7 H
 ·cases ho;have hx:x.cells= #[x]:=by cases x<;>first|rfl |simp[gp]at ha
  rw[hx]at H;have hv:=H.head;have hn:∀cs,v≠ .agg cs:=by
   rintro cs rfl;obtain⟨a,rfl,_⟩:=hv.fM;simp[gp]at ha
  refine⟨?_,?_,hv⟩
  ·cases v<;>first|rfl |exact absurd rfl (hn _)
  ·cases v<;>first|rfl |exact absurd rfl (hn _)
 ·cases ho
theorem RB {base:Nat} {S:Ft} {t:TV} {x:Value} (H:CR F h base S (.c t x)):ka x x=true:=by
 cases H with
 |fz hf hv=>exact ir hv (Ff hf)
 |own hl hv=>
  rename_i y l;cases y with
  |cells cs=>exact ir hv rfl
  |map kd es=>exact ir hv rfl
  |fp kd es op=>exact ir hv rfl
  |arr z w es=>exact ir hv rfl
  |cF z es op=>exact ir hv rfl
  |iA ks=>cases hv;simp[ka]
theorem db.gZ {base:Nat} {S:Ft} {l:List TV} {m:List Value} (H:db c ρ F h base S l m):(∀t∈l,J6 t=true∨nV t=true)→gZ m m=true:=by
 induction H with
 |nil=>intro _;rfl
 |vr hv _ ih=>
  rename_i t v l m _;intro hc;simp only[M.gZ,Bool.and_eq_true];refine⟨?_,ih fun t ht=>hc t (List.mem_cons_of_mem _ ht)⟩;rcases hc t List.mem_cons_self with h1|h1
  ·exact ir hv h1
  ·unfold nV at h1;split at h1
   ·cases hv
   ·exact ir hv (Ff h1)
 |cl hv _ ih=>
  intro hc;simp only[M.gZ,Bool.and_eq_true];exact⟨RB hv,ih fun t ht=>hc t (List.mem_cons_of_mem _ ht)⟩
theorem Oz {x:Value} (h:gZ x.cells.toList x.cells.toList=true):Gt x x=true:=by
 cases x with
 |agg a=>exact h
 |_=>simpa[Gt,gZ,Value.cells]using h
theorem jk.refl {base kd:Nat} {S:Ft} {l:List (Value×TV)} {m:List MapEntry} (H:jk c ρ F h base kd S l m):(∀e∈l,∀t∈aF e.2,J6 t=true∨nV t=true)→zD m m=true:=by
 induction H with
 |nil=>intro _;rfl
 |cons hk ji ha hv _ ih=>
  rename_i e e' l m _;intro hc;simp only[zD,Bool.and_eq_true];refine⟨⟨⟨?_,Oz (hv.gZ (hc _ List.mem_cons_self))⟩,by simp⟩,ih fun e he=>hc e (List.mem_cons_of_mem _ he)⟩;rw[hk];have:=ji.2;cases he:e.1<;>rw[he]at this<;>simp[bn]at this<;>try omega
  all_goals simp[Gt,ka]
theorem C6 {k k':Value} {v:TV} (bC:tf k k'=false):∀{es:List (Value×TV)},im (dU es k' v) k=im es k
 |[]=>by simp[dU,im,bC]
 |e::es=>by
  unfold dU;cases hq:tf k' e.1 with
  |true=>
   have h2:tf k e.1=false:=(RA hq).trans bC;simp[im,bC,h2]
  |false=>
   simp only[im];rw[C6 bC]
theorem jk.kinds {base kd:Nat} {S:Ft} {l:List (Value×TV)} {m:List MapEntry} (H:jk c ρ F h base kd S l m):∀e∈l,bn e.1=kd:=by
 induction H with
 |nil=>simp
 |cons hk ji ha hv _ ih=>
  intro e he;rcases List.mem_cons.1 he with rfl |he
  ·exact ji.2
  ·exact ih e he
theorem HU {k:Value} {v:TV}:∀{es:List (Value×TV)},(k,v)∈dU es k v
 |[]=>by simp[dU]
 |e::es=>by
  unfold dU;cases tf k e.1 with
  |true=>simp
  |false=>exact List.mem_cons_of_mem _ HU
theorem AE {kd:TypeDesc} {k:Value} {n:Nat} {v:TV} (hk:kindOk kd k n=true):∀{es:List (Value×TV)},im (dU es k v) k=some v
 |[]=>by simp[dU,im,vA hk]
 |e::es=>by
  unfold dU;cases hq:tf k e.1 with
  |true=>simp[im,vA hk]
  |false=>simp[im,hq,AE hk]
theorem OA (H:Mem X ρ F o c h) {S:Nat→Ft} (K0:MO X ρ F o c h S) {v:TV} {x y:Value} {m b:Nat} {yo:TO} {S1 S2 S3:Ft} {put:TV→TO} {q:RQ} {wrap:TV→TV} (hw:Kb v o c (.mi m) put m fun v o c lg=>K (wrap v) o c lg)
 (hl:look o m=some yo) (hS:S m=(b,true)::(S1++(S2++S3))) (hc:db c ρ F h X.base S2 (aF v) x.cells.toList) (ha:dF v=gp x) (ia:q.run h=some y) (lM:∀c ρ v,VR c ρ F h v x→VR c ρ F h (wrap v) y)
 (mr:gy ρ F o h ρ o h (.mi m) (.rd q h))
 (Kr:∀c' ρ' v',ρ' m=ρ m→db c' ρ' F h X.base [] (aF v') x.cells.toList→dF v'=gp x→OR c' ρ' F h X.base m ((b,true)::(S1++S3)) (put v')):
 jP X c ρ F h o q K:=by
 unfold Kb at hw;split at hw
 ·rename_i ta;obtain⟨Ss,ls,b1,b2,b3⟩:=hc.opened c;have y8:ls.length=0:=by rw[b2.l2,ta];rfl
  have hV:=b3 c ρ (fun _ _ h=>h) om (fun i q hq=>by
   have:=(List.getElem?_eq_some_iff.1 hq).1;omega)
  rw[wO ta]at hV;exact jP.same H ia (lM _ _ _ (VR.fh hV ha)) hw mr
 ·rename_i q0 new ta;split at hw
  ·rename_i v' hv;have hA:∀ls:List Loc,∀t v,VR c ρ F h t v→VR (c+(new.length+1)) (p6 ρ c ls) F h t v:=fun ls t v=>VR.mono om (fun n l hn h1=>by rwa [fZ _ _ hn]at h1) (fun n b h1=>by rw[fZ _ _ (H.names _ _ h1)];exact h1) (fun _ h=>h) (fun _ _ _ h=>h);obtain⟨Ss,ls,b1,b2,b3⟩:=hc.opened c;rw[ta]at b2;have JC:ls.length=new.length+1:=b2.l2;have hV:=b3 (c+(new.length+1)) (p6 ρ c ls) (hA ls) om (fun i q hq=>by rw[vu];exact hq);obtain⟨e1,e2,e3⟩:=Cd hv hV ha;have C5:(S m).Perm (((b,true)::(S1++S3))++Ss.flatten):=by
    rw[hS,←b1];refine List.Perm.cons _ ?_;show List.Perm _ ((S1++S3)++S2);rw[List.append_assoc];exact List.perm_append_comm.append_left _
   obtain⟨M,hk⟩:=H.opens K0 (y1:=put v') hl b2 C5 (fun _=>Kr _ _ v' (fZ _ _ (H.lt hl)) (by rw[e1];exact db.lP hV) (e2.trans ha));cases mr with
   |mi hr hh Mc uO V3=>
    refine⟨_,_,_,_,_,_,ia,⟨M,hk,Nat.le_refl _,fun _ h=>h,fun _ _ _ h=>h⟩,lM _ _ _ e3,hw,.mi (fun n' y' vw _=>⟨?_,fZ _ _ (H.lt vw),fun b _=>⟨rfl,fun _ h=>h⟩⟩) rfl hl uO V3⟩;rw[kh,wE b2,if_pos (H.lt vw)];simp only
    rw[eQ];by_cases em:n'=m
    ·rw[if_pos em,hl];exact⟨_,rfl⟩
    ·rw[if_neg em];exact⟨_,vw⟩
  ·exact hw.elim
theorem Ks (L:cm T E) (H:Mem X ρ F o c h) {t:TypeId} {m k:TV} {ok:Bool} {mv kv:Value} (hw:EM T t m k ok o c K) (hm:VR c ρ F h m mv) (hk:VR c ρ F h k kv):
 (mv= .map none∧jN c ρ F h o ((E.desc t).bind fun d=>(match(generalizing:=false) d,mv with
  | .map kt elem,.map none=>(E.desc kt).bind fun kd=>(E.zero elem).bind fun z=>bL (je kd&&scalar kv&&fF z) (some (bif ok then .tuple #[z,.bool false]else z))
  |_,_=>none)) K)∨
 (∃r,mv= .map (some r)∧∃q,((E.desc t).bind fun d=>(match(generalizing:=false) d,mv with
  | .map kt elem,.map (some r)=>(E.desc kt).bind fun kd=>(E.zero elem).bind fun z=>bL (je kd&&scalar kv&&fF z) (some (RQ.look r kd kv z ok))
  |_,_=>none))=some q∧jP X c ρ F h o q K):=by
 unfold EM at hw;split at hw
 ·rename_i kt elem hd;split at hw
  ·rename_i kd z Ce ji hz;obtain⟨ku,pR⟩:=L.zero _ _ hz;rw[hk.dV.1]
   have hq:∀b,kindOk kd Ce (Af kd)=true→((E.desc t).bind fun d=>(match(generalizing:=false) d,Value.map (some b)with
    | .map kt elem,.map (some r)=>(E.desc kt).bind fun kd=>(E.zero elem).bind fun z=>bL (je kd&&scalar Ce&&fF z) (some (RQ.look r kd Ce z ok))
    |_,_=>none))=some (RQ.look b kd Ce z ok):=by
    intro b kV;obtain⟨B4,Cf⟩:=j7 kV;rw[L.desc _ _ hd];simp only[Option.bind_some,L.desc _ _ ji,ku,B4,Cf,pR,Bool.and_self,bL]
   have Vc:∀{n},kindOk kd Ce n=true→kindOk kd Ce (Af kd)=true:=fun {n} h=>by
    have h0:=h;unfold kindOk at h0 ⊢;simp only[Bool.and_eq_true,beq_iff]at h0 ⊢;obtain⟨⟨q1,q2⟩,q3⟩:=h0;subst q2;exact⟨⟨q1,trivial⟩,q3⟩
   split at hw
   ·rename_i n;right;split at hw
    ·rename_i kn es hl;split at hw
     ·rename_i kV;obtain⟨r,hr,hw⟩:=hw;obtain⟨Sm,hO⟩:=H.cC hl;cases hO with
      |map hb hg hlen hc bz=>
       rename_i b clock cb;have hE:wP c ρ F h kn es cb:=⟨hlen,hc⟩;cases hm with
       |mp cA=>
        rw[hb]at cA;cases cA;refine⟨b,rfl,_,hq b (Vc kV),?_⟩;have Fg:fj h b=some (cb,clock):=by unfold fj;rw[hg]
        have mr:gy ρ F o h ρ o h (.mi n) (.rd (RQ.look b kd Ce z ok) h):=.mi (.refl _) rfl hl (.inl hb) ⟨_,Fg,hE.refl⟩;have hf:=vz kV 0 hE;rw[hr]at hf;cases r with
        |some v=>
         obtain⟨j,x,q1,q2,_⟩:=hf;simp only at hw;cases ok with
         |true=>exact jP.same H (by simp[RQ.run,Fg,kx,q1]) (.jj (.cons q2 (.cons (.s rfl) .nil))) hw mr
         |false=>exact jP.same H (by simp[RQ.run,Fg,kx,q1]) q2 hw mr
        |none=>
         simp only at hw hf;cases ok with
         |true=>exact jP.same H (by simp[RQ.run,Fg,kx,hf]) (.jj (.cons (uj pR) (.cons (.s rfl) .nil))) hw mr
         |false=>exact jP.same H (by simp[RQ.run,Fg,kx,hf]) (uj pR) hw mr
     ·exact hw.elim
    ·rename_i kn es op hl;split at hw
     ·rename_i kV;obtain⟨S,K0⟩:=H.ex;have hO:=K0.cC n _ hl;generalize hS:S n=Sm at hO;cases hO with
      |fp hb hg cH hc bz=>
       rename_i Sq b clock ev;cases hm with
       |mp cA=>
        rw[hb]at cA;cases cA;refine⟨b,rfl,_,hq b (Vc kV),?_⟩;have Fg:fj h b=some (ev,clock):=by unfold fj;rw[hg]
        have aeB:∀{M:List (Value×TV)} {S0:Ft} {lg:VL},jk c ρ F h X.base kn S0 M ev→im M Ce=none→gy ρ F o h ρ o h lg (.rd (RQ.look b kd Ce z ok) h)→K (Ri ok (cT z) false) o c lg→jP X c ρ F h o (RQ.look b kd Ce z ok) K:=by
         intro M S0 lg hE uc mr hw;have hf:=hE.find kV 0;rw[uc]at hf;simp only at hf;cases ok with
         |true=>exact jP.same H (by simp[RQ.run,Fg,kx,hf]) (.jj (.cons (uj pR) (.cons (.s rfl) .nil))) hw mr
         |false=>exact jP.same H (by simp[RQ.run,Fg,kx,hf]) (uj pR) hw mr
        have met:∀{M:List (Value×TV)} {S0:Ft} {lg:VL} {v:TV},jk c ρ F h X.base kn S0 M ev→im M Ce=some v→(aF v).all eX=true→gy ρ F o h ρ o h lg (.rd (RQ.look b kd Ce z ok) h)→K (Ri ok v true) o c lg→jP X c ρ F h o (RQ.look b kd Ce z ok) K:=by
         intro M S0 lg v hE hv hp mr hw;have hf:=hE.find kV 0;rw[hv]at hf;obtain⟨j,x,S1,S2,S3,q1,q2,q3,q4,_⟩:=hf;obtain⟨hV,_⟩:=q3.vrs (fun t v hv hf=>hv.eo hf) hp;have hx:=VR.fh hV q4;cases ok with
         |true=>exact jP.same H (by simp[RQ.run,Fg,kx,q1]) (.jj (.cons hx (.cons (.s rfl) .nil))) hw mr
         |false=>exact jP.same H (by simp[RQ.run,Fg,kx,q1]) hx hw mr
        split at hw
        ·obtain⟨r,hr,hw⟩:=hw;have hE:jk c ρ F h X.base kn Sq es ev:=hc;have mr:gy ρ F o h ρ o h (.mi n) (.rd (RQ.look b kd Ce z ok) h):=.mi (.refl _) rfl hl (.inl hb) ⟨_,Fg,hE.refl fun e he t ht=>.inr (cH e he t ht)⟩;cases r with
         |none=>simp only at hw;exact aeB hE hr mr hw
         |some v=>
          simp only at hw;have hf:=hE.find kV 0;rw[hr]at hf;obtain⟨j,x,S1,S2,S3,q1,q2,q3,q4,q5⟩:=hf;refine OA H K0 (x:=x) (y:=bif ok then .tuple #[x,.bool true]else x) (wrap:=fun v=>Ri ok v true) hw hl (by rw[hS,q2]) q3 q4 (by simp[RQ.run,Fg,kx,q1]) (fun c ρ v hv=>?_) mr fun c' ρ' v' fN CE zN=>?_
          ·cases ok with
           |true=>exact .jj (.cons hv (.cons (.s rfl) .nil))
           |false=>exact hv
          ·exact .fp (fN.trans hb) hg cH (q5 c' ρ' v' [] cH CE zN) bz
        ·rename_i k' w;obtain⟨Qq,Gz⟩:=hw;have hE:jk c ρ F h X.base kn Sq (dU es k' w) ev:=hc;have mr:gy ρ F o h ρ o h (Rf (aF w) (.mi n)) (.rd (RQ.look b kd Ce z ok) h):=by
          unfold Rf;split
          ·rename_i he;refine .mi (.refl _) rfl hl (.inl hb) ⟨_,Fg,hE.refl fun e Gx t ht=>?_⟩;rcases Aq Gx with rfl |h1
           ·exact .inl (List.all_eq_true.1 he t ht)
           ·exact .inr (cH e h1 t ht)
          ·exact .bad
         by_cases ek:Ce=k'
         ·subst ek;have hv:=AE (v:=w) (es:=es) kV;have hf:=hE.find kV 0;rw[hv]at hf;obtain⟨j,x,S1,S2,S3,q1,q2,q3,q4,_⟩:=hf;exact met hE hv (Qq rfl).1 mr (Qq rfl).2
         ·obtain⟨r,hr,hw⟩:=Gz ek;have bC:tf Ce k'=false:=by
           cases hq:tf Ce k' with
           |false=>rfl
           |true=>exact absurd (Rz kV (hE.kinds _ HU) hq) ek
          have:=C6 (v:=w) (es:=es) bC;cases r with
          |none=>simp only at hw;exact aeB hE (this.trans hr) mr hw
          |some v=>simp only at hw;exact met hE (this.trans hr) hw.1 mr hw.2
        ·exact hw.elim
     ·exact hw.elim
    ·exact hw.elim
   ·left;split at hw
    ·rename_i kV;obtain⟨B4,Cf⟩:=j7 kV;have hmv:=hm.dV.1;subst hmv;refine⟨rfl,?_⟩
     have hq:∀y:Value,(bif ok then Value.tuple #[z,.bool false]else z)=y→((E.desc t).bind fun d=>(match d,Value.map none with
            | .map kt elem,.map none=>(E.desc kt).bind fun kd=>(E.zero elem).bind fun z=>bL (je kd&&scalar Ce&&fF z) (some (bif ok then .tuple #[z,.bool false]else z))
            |_,_=>none))=some y:=by
      rintro y rfl;rw[L.desc _ _ hd];simp only[Option.bind_some,L.desc _ _ ji,ku,B4,Cf,pR,Bool.and_self,bL]
     cases ok with
     |true=>exact⟨_,_,hq _ rfl,.jj (.cons (uj pR) (.cons (.s rfl) .nil)),hw⟩
     |false=>exact⟨_,_,hq _ rfl,uj pR,hw⟩
    ·exact hw.elim
   ·exact hw.elim
  ·exact hw.elim
 ·exact hw.elim
end
section
variable {T E:Env} {X:Cx} {ρ:Gh} {F:Nat→Prop} {o:Ob} {c:Nat} {af:AF} {f:Fr} {h:ah} {p:Oper} {K:OK}
def esA:Option TO→Option (Nat×List (List TV))
 |some (.arr z _ es)=>some (z,es)
 |_=>none
theorem Kt (o:Ob) (m n:Nat):esA (look (jK o m) n)=esA (look o n):=by
 cases hm:look o m with
 |none=>unfold jK;rw[hm]
 |some y=>
  cases y with
  |arr z w es=>
   unfold jK;rw[hm];simp only
   rw[eQ];by_cases e:n=m
   ·subst e;rw[if_pos rfl,hm];rfl
   ·rw[if_neg e]
  |_=>unfold jK;rw[hm]
theorem RC (o:Ob) (n:Nat):c7 o (.tk n)=(esA (look o n)).map fun p=>.sl p.1 p.2 false:=by
 show(match look o n with|some (.arr z _ es)=>some (TV.sl z es false)|_=>none)=_;cases look o n with
 |none=>rfl
 |some y=>cases y<;>rfl
theorem Ku (o:Ob) (m:Nat) (t:TV):c7 (jK o m) t=c7 o t:=by
 cases t with
 |tk n=>rw[RC,RC,Kt]
 |oP t v=>cases v<;>try rfl
          rename_i w;cases w<;>rfl
 |dg g a k=>cases a<;>cases k<;>rfl
 |_=>rfl
theorem AG (o:Ob) (v t:TV):c7 (share1 o v) t=c7 o t:=by
 cases v<;>try rfl
 exact Ku _ _ _
theorem xX (o:Ob) (v:TV):∀l,qt (share1 o v) l=qt o l
 |[]=>rfl
 |t::l=>by simp only[qt,AG,xX o v l]
theorem RD {t t':TV} (hf:c7 o t=some t'):fz t'=true:=by
 unfold c7 at hf;split at hf
 ·split at hf
  ·rename_i hp;cases hf;exact hp
  ·cases hf
 ·cases hf;rfl
 ·split at hf
  ·cases hf;rfl
  ·cases hf
 ·cases hf;rfl
 ·cases hf;rfl
 ·cases hf
theorem zg:∀{l l':List TV},qt o l=some l'→(∀t∈l',fz t=true)∧l'.length=l.length
 |[],l',hf=>by simp[qt]at hf;subst hf;exact⟨by simp,rfl⟩
 |t::l,l',hf=>by
  unfold qt at hf;split at hf
  ·rename_i v' hv;split at hf
   ·rename_i l2 hl;cases hf;obtain⟨h1,h2⟩:=zg hl;refine⟨fun t ht=>?_,by simp[h2]⟩;rcases List.mem_cons.1 ht with rfl |ht
    ·exact RD hv
    ·exact h1 t ht
   ·cases hf
  ·cases hf
structure qK (X:Cx) (ρ:Gh) (c:Nat) (h:ah) (F:Nat→Prop) (o:Ob) (F':Nat→Prop) (o':Ob):Prop where
 mem:Mem X ρ F' o' c h
 bx:∀t x,VR c ρ F h t x→VR c ρ F' h t x
 FF:∀b,F b→F' b
 wk:∀n y,look o n=some y→∃y',look o' n=some y'∧jC y y'
theorem qK.refl (H:Mem X ρ F o c h):qK X ρ c h F o F o:=⟨H,fun _ _ h=>h,fun _ h=>h,fun _ y hl=>⟨y,hl,jC.refl y⟩⟩
theorem qK.trans {F1 F2:Nat→Prop} {o1 o2:Ob} (A:qK X ρ c h F o F1 o1) (B:qK X ρ c h F1 o1 F2 o2):qK X ρ c h F o F2 o2:=
 ⟨B.mem,fun t x hx=>B.bx t x (A.bx t x hx),fun b hb=>B.FF b (A.FF b hb),fun n y hl=>by
  obtain⟨y1,h1,h2⟩:=A.wk n y hl;obtain⟨y2,h3,h4⟩:=B.wk n y1 h1;exact⟨y2,h3,h2.trans h4⟩⟩
theorem OB (H:Mem X ρ F o c h) (v:TV):∃F',qK X ρ c h F o F' (share1 o v)∧∀v' x,c7 o v=some v'→VR c ρ F h v x→VR c ρ F' h v' x:=by
 cases v with
 |tk n=>
  obtain⟨F',h1,h2,h3,h4⟩:=H.share n;refine⟨F',⟨h1,h2,h3,qF o n⟩,fun v' x hf hx=>?_⟩;unfold c7 at hf;simp only at hf;split at hf
  ·rename_i z w es hl;cases hf;exact h4 _ _ _ _ hl hx
  ·cases hf
 |sl z es fl=>
  refine⟨F,.refl H,fun v' x hf hx=>?_⟩;simp only[c7,Option.some.injEq]at hf;subst hf;cases hx with
  |nil he=>exact .nil he
  |sl h1 h2 h3 h4 h5 h6 h7 h8 h9 Kv=>exact .sl h1 h2 h3 h4 h5 (fun h=>by cases h) h7 h8 h9 Kv
 |s w=>
  refine⟨F,.refl H,fun v' x hf hx=>?_⟩;unfold c7 at hf;simp only at hf;split at hf
  ·cases hf;exact hx
  ·cases hf
 |oP t w=>
  refine⟨F,.refl H,fun v' x hf hx=>?_⟩;unfold c7 at hf;split at hf<;>simp_all
  all_goals(first|(obtain⟨rfl,rfl⟩:= ‹_∧_›;subst hf;exact hx)|skip)
 |dg g a k=>
  refine⟨F,.refl H,fun v' x hf hx=>?_⟩;unfold c7 at hf;split at hf<;>simp_all
  all_goals(first|(obtain⟨rfl,rfl,rfl⟩:= ‹_∧_∧_›;subst hf;exact hx)|skip)
 |_=>exact⟨F,.refl H,fun v' x hf hx=>by simp[c7]at hf⟩
theorem sj:∀(l:List TV) {F:Nat→Prop} {o:Ob},Mem X ρ F o c h→∃F',qK X ρ c h F o F' (shares o l)∧∀l' m,qt o l=some l'→ee c ρ F h l m→ee c ρ F' h l' m
 |[],F,o,H=>⟨F,.refl H,fun l' m hf hm=>by simp[qt]at hf;subst hf;exact hm⟩
 |v::l,F,o,H=>by
  obtain⟨F1,A,a⟩:=OB H v;obtain⟨F2,B,b⟩:=sj l A.mem;refine⟨F2,A.trans B,fun l' m hf hm=>?_⟩;unfold qt at hf;split at hf
  ·rename_i v' hv;split at hf
   ·rename_i l2 hl;cases hf;obtain⟨x,m',rfl,h1,h2⟩:=hm.aY;exact .cons (B.bx _ _ (a v' x hv h1)) (b l2 m' (by rw[xX];exact hl) (h2.tn A.bx))
   ·cases hf
  ·cases hf
theorem V4 (H:Mem X ρ F o c h) (v:TV) (ho:okV v=true):∃F',qK X ρ c h F o F' (shares o (aF v))∧∀v' x,Rd o v=some v'→VR c ρ F h v x→VR c ρ F' h v' x∧G7 v'=true:=by
 obtain⟨F',A,a⟩:=sj (aF v) H;refine⟨F',A,fun v' x hf hx=>?_⟩;have one:(∀cs,v≠ .agg cs)→VR c ρ F' h v' x∧G7 v'=true:=fun CM=>by
  have zc:aF v=[v]:=by cases v<;>first|rfl |exact absurd rfl (CM _)
  have QX:Rd o v=c7 o v:=by cases v<;>first|rfl |exact absurd rfl (CM _)
  rw[QX]at hf;have iG:=RD hf;rw[zc]at a;have:=a [v'] [x] (by simp[qt,hf]) (.cons hx .nil);refine⟨this.head,?_⟩;cases v'<;>simp[fz]at iG<;>simp[G7,fz,iG]
 cases v with
 |agg cs=>
  obtain⟨q,rfl,h1⟩:=hx.fM;simp only[Rd]at hf;split at hf
  ·rename_i cs' hc;cases hf;refine⟨.g7 (a cs' q.toList hc h1),?_⟩;simp only[G7];exact List.all_eq_true.2 (zg hc).1
  ·cases hf
 |_=>exact one (by intro cs e;cases e)
theorem Mem.Fh (H:Mem X ρ F o c h) {S:Nat→Ft} (K:MO X ρ F o c h S) {n b:Nat} {y:TO} (hl:look o n=some y) (hb:C2 ρ n b):b<h.size∧hd h b∈cM (S n):=by
 rcases(K.cC n y hl).block with⟨b',o',h1,h2,h3,h4⟩|⟨b',z,len,cs,f,t0,fy,c0,t1,zJ,h1,h2,h3,h4⟩|⟨z,h1⟩
 ·rcases hb with hb|⟨z,l,hb⟩<;>rw[h1]at hb<;>cases hb
  exact⟨H.wf.lt h2,by rw[h3];exact h4⟩
 ·rcases hb with hb|⟨z,l,hb⟩<;>rw[h1]at hb<;>cases hb
  exact⟨H.wf.lt h2,by rw[cy h2];exact h4⟩
 ·rcases hb with hb|⟨z,l,hb⟩<;>rw[h1]at hb<;>cases hb
theorem Mem.AH (H:Mem X ρ F o c h) {n b:Nat} {y:TO} (hl:look o n=some y) (hb:C2 ρ n b):b<h.size:=by
 obtain⟨S,K⟩:=H.ex;exact(H.Fh K hl hb).1
theorem fv.alloc {F1:Nat→Prop} {o1:Ob} (H:Mem X ρ F o c h) (S:qK X ρ c h F o F1 o1) {md:Made} {hd:tM} {y:TO} {l:Loc} {v:TV} (hp:aO E af p=none) (hq:bP E af p=none) (ha:bt E af p=some (md,hd))
 (hM:Mem X (cP ρ c (some l)) F1 ((c,y)::o1) (c+1) (h.push (md.obj h.size))) (hk:∀t x,VR c ρ F1 h t x→VR (c+1) (cP ρ c (some l)) F1 (h.push (md.obj h.size)) t x)
 (hv:VR (c+1) (cP ρ c (some l)) F1 (h.push (md.obj h.size)) v (hd.val h.size)) (hK:K v ((c,y)::o1) (c+1) .alloc):fv E X ρ F o c af h p K:=by
 refine⟨0,⟨hd.val h.size,h.push (md.obj h.size),.alloc h (h.push (md.obj h.size))⟩,v,_,_,_,F1,.alloc,fun n _=>?_,hK,⟨hM,fun t x hx=>hk t x (S.bx t x hx),by rw[ah.size_push];omega,S.FF,fun b cs hb hr=>by rw[eI H.wf.le _ (H.CY hb)];exact hr⟩,hv,
  .alloc fun n y' hl _=>⟨?_,?_,fun b hb=>?_⟩⟩
 ·unfold eM;rw[hp,hq,ha]
 ·have:=H.lt hl;rw[aQ,if_neg om];obtain⟨y2,q1,_⟩:=S.wk n y' hl;exact⟨y2,q1⟩
 ·have:=H.lt hl;rw[bA _ _ om]
 ·have:=H.AH hl hb;exact⟨by rw[ah.al,if_neg om],fun cs hr=>by rw[eI H.wf.le _ this];exact hr⟩
end
section
variable {T E:Env} {X:Cx} {ρ:Gh} {F:Nat→Prop} {o:Ob} {c:Nat} {af:AF} {f:Fr} {h:ah} {p:Oper} {K:OK}
theorem wQ (H:Mem X ρ F o c h) {cs:List TV} {cv:List Value} (hc:ee c ρ F h cs cv) (hp:aO E af p=none) (hq:bP E af p=none) (ha:bt E af p=some (.cells cv,.ptr)) (hK:K (.ptr c 0) ((c,.cells cs)::o) (c+1) .alloc):fv E X ρ F o c af h p K:=by
 obtain⟨h1,h2⟩:=H.Rk hc;exact fv.alloc H (.refl H) (md:=.cells cv) (hd:=.ptr) hp hq ha h1 h2 (.ptr (aR _ _ _)) hK
theorem V5 (H:Mem X ρ F o c h) (kd:Nat) (hp:aO E af p=none) (hq:bP E af p=none) (ha:bt E af p=some (.map,.map)) (hK:K (.mp c) ((c,.map kd [])::o) (c+1) .alloc):fv E X ρ F o c af h p K:=by
 obtain⟨h1,h2⟩:=H.Z3 kd;exact fv.alloc H (.refl H) (md:=.map) (hd:=.map) hp hq ha h1 h2 (.mp (aR _ _ _)) hK
theorem MA {F1:Nat→Prop} {o1:Ob} (H:Mem X ρ F o c h) (S:qK X ρ c h F o F1 o1) {z cap:Nat} {es:List (List TV)} {cv:List Value} (hE:ER c ρ F1 h z es cv) (hz:0<z) (ik:es.length≤cap)
 (hp:aO E af p=none) (hq:bP E af p=none) (ha:bt E af p=some (.cells cv,.slice z es.length cap)) (hK:K (.tk c) ((c,.arr z true es)::o1) (c+1) .alloc):fv E X ρ F o c af h p K:=by
 obtain⟨h1,h2⟩:=S.mem.E2 hE hz;refine fv.alloc H S (md:=.cells cv) (hd:=.slice z es.length cap) hp hq ha h1 h2 (.tk om rfl (fun b z' len hx=>?_) (fun z' hx=>?_)) hK
 ·rw[aR]at hx;cases hx;exact⟨cap,ik,rfl⟩
 ·rw[aR]at hx;cases hx
theorem ER.replicate {z:Nat} {zs:List TV} {zv:List Value} (hz:ee c ρ F h zs zv) (hl:zs.length=z) (hf:zs.all M.fz=true):∀k,ER c ρ F h z (List.replicate k zs) (aW zv k)
 |0=>.nil z
 |k+1=>by
  have ih:=ER.replicate hz hl hf k;have h1:ER c ρ F h z [zs] zv:=by
   refine⟨by rw[←hz.1,hl];simp,fun e he=>by simp at he;subst he;exact hl,fun e he t ht=>by simp at he;subst he;exact List.all_eq_true.1 hf t ht,fun i j e t v q1 q2 q3=>?_⟩;cases i with
   |zero=>simp at q1;subst q1;exact hz.2 j t v q2 (by simpa using q3)
   |succ i=>simp at q1
  exact h1.append ih
theorem mQ {α:Type}:∀{n:Nat} {l xs:List α},n+xs.length≤l.length→∃r,dz l n xs=some r
 |0,l,[],_=>⟨l,by simp[dz]⟩
 |0,[],x::xs,h=>by simp at h
 |0,y::l,x::xs,h=>by
  obtain⟨r,hr⟩:=mQ (n:=0) (l:=l) (xs:=xs) (by simp at h ⊢;omega);exact⟨x::r,by simp[dz,hr]⟩
 |n+1,[],xs,h=>by simp at h
 |n+1,y::l,xs,h=>by
  obtain⟨r,hr⟩:=mQ (n:=n) (l:=l) (xs:=xs) (by simp at h ⊢;omega);exact⟨y::r,by simp[dz,hr]⟩
theorem AI {α:Type}:∀{l r:List α} {n:Nat} {x:α},setAt l n x=some r→n<l.length∧r.length=l.length∧∀i,r[i]? =if i=n then some x else l[i]?
 |[],r,n,x,h=>by simp[setAt]at h
 |y::l,r,0,x,h=>by
  simp[setAt]at h;subst h;refine⟨by simp,by simp,fun i=>?_⟩;cases i<;>simp
 |y::l,r,n+1,x,h=>by
  unfold setAt at h;split at h
  ·rename_i l' hl;cases h;obtain⟨h1,h2,h3⟩:=AI hl;refine⟨by simp;omega,by simp[h2],fun i=>?_⟩;cases i with
   |zero=>simp
   |succ i=>simp[h3 i]
  ·cases h
theorem ER.setAt {z:Nat} {es cb:List (List TV)} {cs:List Value} {l:List TV} {i:Nat} (A:ER c ρ F h z es cs) (hs:∀j,cb[j]? =if j=i then some l else es[j]?) (hlen:cb.length=es.length) (hi:i<es.length) (hl:l.length=z) (hf:∀t∈l,M.fz t=true)
 {cs':List Value} (hc:cs'.length=cs.length) (Gv:∀j t v,l[j]? =some t→cs'[i*z+j]? =some v→VR c ρ F h t v) (Zs:∀k,(k<i*z∨(i+1)*z≤k)→cs'[k]? =cs[k]?):ER c ρ F h z cb cs':=by
 have key:∀j e,cb[j]? =some e→(j=i∧e=l)∨(j≠i∧es[j]? =some e):=fun j e he=>by
  rw[hs]at he;by_cases e1:j=i
  ·rw[if_pos e1]at he;cases he;exact .inl ⟨e1,rfl⟩
  ·rw[if_neg e1]at he;exact .inr ⟨e1,he⟩
 refine⟨by rw[hc,hlen,A.len],fun e he=>?_,fun e he=>?_,fun j k e t v q1 q2 q3=>?_⟩
 ·obtain⟨j,hj⟩:=List.getElem?_of_mem he;rcases key j e hj with⟨_,rfl⟩|⟨_,h1⟩
  ·exact hl
  ·exact A.each e (List.mem_of_getElem? h1)
 ·obtain⟨j,hj⟩:=List.getElem?_of_mem he;rcases key j e hj with⟨_,rfl⟩|⟨_,h1⟩
  ·exact hf
  ·exact A.fz e (List.mem_of_getElem? h1)
 ·rcases key j e q1 with⟨rfl,rfl⟩|⟨h1,h2⟩
  ·exact Gv k t v q2 q3
  ·have hk:k<z:=by rw[←A.each e (List.mem_of_getElem? h2)];exact(List.getElem?_eq_some_iff.1 q2).1
   refine A.cell j k e t v h2 q2 ?_;rw[←q3];refine(Zs _ ?_).symm;rcases Nat.lt_or_gt_of_ne h1 with h3|h3
   ·left;have:(j+1)*z≤i*z:=Nat.mul_le_mul_right z h3;rw[Nat.add_mul]at this;omega
   ·right;have:(i+1)*z≤j*z:=Nat.mul_le_mul_right z h3;omega
theorem C7 {n:Nat}:∀{ps:List (Nat×TV)} {o:Ob} {F:Nat→Prop} {es cb:List (List TV)} {cs:List Value} {pv:List (Nat×Value)},Mem X ρ F o c h→vh o n es ps=some cb→ER c ρ F h n es cs→VX c ρ F h ps pv→
 ∃F' cv,qK X ρ c h F o F' (EP o ps)∧kD (fun i=>some (i*n,n)) cs pv=some cv∧ER c ρ F' h n cb cv∧cb.length=es.length
 |[],o,F,es,cb,cs,[],H,hf,hE,_=>by simp[vh]at hf;subst hf;exact⟨F,cs,.refl H,rfl,hE,rfl⟩
 |[],o,F,es,cb,cs,_::_,H,hf,hE,hq=>hq.elim
 |a::l,o,F,es,cb,cs,[],H,hf,hE,hq=>hq.elim
 |a::l,o,F,es,cb,cs,b::m,H,hf,hE,hq=>by
  obtain⟨e,hv,hr⟩:=hq;unfold vh at hf;split at hf
  ·rename_i l1 hc iG;simp only[Bool.and_eq_true,beq_iff]at hc;split at hf
   ·rename_i es1 ft;obtain⟨s1,s2,s3⟩:=AI ft;obtain⟨F1,A,a1⟩:=sj (aF a.2) H;obtain⟨f1,f2⟩:=zg iG;have vy:=a1 l1 _ iG (jO hv hc.1);have JC:l1.length=n:=by omega
    have hE1:=hE.mono A.bx;have Yu:b.2.cells.toList.length=n:=by rw[←vy.1];exact JC
    have hle:a.1*n+b.2.cells.toList.length≤cs.length:=by
     rw[Yu,hE.len];have:(a.1+1)*n≤es.length*n:=Nat.mul_le_mul_right n s1;rw[Nat.add_mul]at this;omega
    obtain⟨wi,Fi⟩:=mQ hle;obtain⟨t1,t2,t3⟩:=dL Fi;have hE2:ER c ρ F1 h n es1 wi:=by
     refine hE1.setAt s3 s2 s1 JC f1 t2 (fun j t v q1 q2=>?_) (fun k hk=>?_)
     ·have hj:j<l1.length:=(List.getElem?_eq_some_iff.1 q1).1;rw[t3,if_pos ⟨om,om⟩]at q2;exact vy.2 j t v q1 (by rw[←q2];congr 1;omega)
     ·rw[t3,if_neg];rw[Nat.add_mul]at hk;omega
    have aiF:vh (shares o (aF a.2)) n es1 l=some cb:=by
     have key:∀(o1:Ob),(∀t,c7 o1 t=c7 o t)→∀(l:List (Nat×TV)) (es:List (List TV)),vh o1 n es l=vh o n es l:=by
      intro o1 h1 l;have h2:∀q,qt o1 q=qt o q:=by
       intro q
       induction q with
       |nil=>rfl
       |cons t q ih=>simp only[qt,h1,ih]
      induction l with
      |nil=>intro es;rfl
      |cons p l ih=>
       intro es;simp only[vh,h2,ih]
     rw[key _ (fun t=>?_)];·exact hf
     have:∀(q:List TV) (o1:Ob),c7 (shares o1 q) t=c7 o1 t:=by
      intro q
      induction q with
      |nil=>intro o1;rfl
      |cons v q ih=>intro o1;simp only[shares];rw[ih,AG]
     exact this _ _
    have jI:VX c ρ F1 h l m:=by
     have:∀(l:List (Nat×TV)) (m:List (Nat×Value)),VX c ρ F h l m→VX c ρ F1 h l m:=by
      intro l
      induction l with
      |nil=>intro m hm;cases m<;>exact hm
      |cons p l ih=>
       intro m hm;cases m with
       |nil=>exact hm
       |cons q m=>exact⟨hm.1,A.bx _ _ hm.2.1,ih m hm.2.2⟩
     exact this l m hr
    obtain⟨F2,cv,B,b1,b2,b3⟩:=C7 A.mem aiF hE2 jI;refine⟨F2,cv,A.trans B,?_,b2,by rw[b3,s2]⟩;obtain⟨i,x⟩:=b;simp only at e;subst e;simp only[kD,Option.bind_some];have:x.cells.size=n:=by simpa using Yu
    rw[this];simp only at Fi;simp[bL,Fi,b1]
   ·cases hf
  ·cases hf
end
end Go.M
