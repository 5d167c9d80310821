/-
  Part 7 of the library that the proof leans on.
-/
import Derived.Test.YtjklkjjfnipcnaaGreatDoorL6
noncomputable section
namespace Go.M
open Go
def xm (ρ:Gh) (n b:Nat):Prop:=ρ n=some (.cO b)∨∃z l,ρ n=some (.arr b z l)
def ka (q:RQ) (h:ab):Prop:=match q with
 | .cells _ b o n=>∃l,ah h b o n=some l∧dL l l=true
 | .look r _ _ _ _| .len r=>∃m,dB h r=some m∧tP m.1 m.1=true
structure Nx (X:Cx) (ρ:Gh) (F:Nat→Prop) (o:Ob) (c:Nat) (h:ab) (ρ':Gh) (F':Nat→Prop) (o':Ob) (c':Nat) (h':ab):Prop where
 mem:Mem X ρ' F' o' c' h'
 bf:∀t x,VR c ρ F h t x→VR c' ρ' F' h' t x
 size:h.size≤h'.size
 FF:∀b,F b→F' b
 cA:∀b cs,F b→h.rd b=some cs→h'.rd b=some cs
def Raw (ρ:Gh) (o:Ob) (h:ab) (ρ':Gh) (o':Ob) (h':ab) (ns:List Nat):Prop:=
 ∀n y,look o n=some y→n∉ns→(∃y',look o' n=some y')∧ρ' n=ρ n∧∀b,xm ρ n b→h'.get b=h.get b∧∀cs,h.rd b=some cs→h'.rd b=some cs
def jJ (ρ:Gh) (v:TV) (x:Value):Prop:=(∃k b,v= .mp k∧ρ k=some (.cO b)∧x= .map (some b))∨∃k q b,v= .ptr k q∧ρ k=some (.cO b)∧x= .pointer (some ⟨b,q,none⟩)
inductive eK (ρ:Gh) (F:Nat→Prop) (o:Ob) (h:ab) (ρ':Gh) (o':Ob) (h':ab):VL→cg→Prop
 |pure (hr:Raw ρ o h ρ' o' h' []) (hh:h'=h):eK ρ F o h ρ' o' h' .pure .pure
 |alloc (hr:Raw ρ o h ρ' o' h' []):eK ρ F o h ρ' o' h' .alloc (.alloc h h')
 |DB {q:RQ} (hr:Raw ρ o h ρ' o' h' []) (hh:h'=h) (hF:F q.cO) (hc:∃a b o n,q= .cells a b o n) (hn:ka q h):eK ρ F o h ρ' o' h' .DB (.rd q h)
 |jR {q:RQ} {n:Nat} {y:TO} (hr:Raw ρ o h ρ' o' h' []) (hh:h'=h) (hl:look o n=some y) (hb:xm ρ n q.cO) (hn:ka q h):eK ρ F o h ρ' o' h' (.jR n) (.rd q h)
 |wx {n p b:Nat} {v:TV} {x:Value} {y:TO} (hr:Raw ρ o h ρ' o' h' []) (hh:h'=h) (hl:look o n=some y) (hb:ρ n=some (.cO b)) (hx:jJ ρ v x) (fj:ah h b p 1=some [x]):eK ρ F o h ρ' o' h' (.wx n p v) (.rd (.cells false b p 1) h)
 |ck {ns:List Nat} (hr:Raw ρ o h ρ' o' h' ns):eK ρ F o h ρ' o' h' (.ck ns) (.ck h h')
 |mi {ns:List Nat} (hr:Raw ρ o h ρ' o' h' ns) (hh:h'=h):eK ρ F o h ρ' o' h' (.mi ns) (.ck h h')
 |mj (hr:Raw ρ o h ρ' o' h' []) (hG:∀b,b<h.size→h'.get b=h.get b):eK ρ F o h ρ' o' h' .mj (.ck h h')
 |bad {l:cg}:eK ρ F o h ρ' o' h' .bad l
def dG (E:Env) (X:Cx) (ρ:Gh) (F:Nat→Prop) (o:Ob) (c:Nat) (af:AF) (h:ab) (p:Oper) (K:OK):Prop:=
 ∃n0 r v o' c' ρ' F' lg,(∀n,n0≤n→cV E X.base (eI E X.base n) (fw X.base (aT E X.base n)) p af h=some r)∧K v o' c' lg∧
  Nx X ρ F o c h ρ' F' o' c' r.h∧VR c' ρ' F' r.h v r.v∧eK ρ F o h ρ' o' r.h lg r.log
def MY:TV→Value
 | .s v=>v
 |_=>undef
def CM (E:Env) (g:FuncId):Prop:=∀base n args h v h',eI E base n g args h=some (v,h')→h'=h
structure bV (T E:Env):Prop where
 desc:∀t d,T.desc t=some d→E.desc t=some d
 size:∀t n,T.size t=some n→E.size t=some n
 bytes:∀t n,T.bytes t=some n→E.bytes t=some n
 zero:∀t z,T.zero t=some z→E.zero t=some z∧dz z=true
 eq:∀t (a b:Array Value) z xs ys r,T.pq t=true→T.zero t=some z→kA z.cells.toList xs ys=some r→a.toList=xs.map MY→b.toList=ys.map MY→E.pq t=true∧sO E 100 t (.agg a) (.agg b)=some r
 vY:∀g cs,T.vY g=some cs→E.vY g=some cs
 still:∀g,T.still g=true→CM E g
theorem jI.sub {T E:Env} {F:Nat→Prop} {h:ab} (L:bV T E) (N:jI E F h):jI T F h:=fun g cs hg=>N g cs (L.vY g cs hg)
theorem DP:∀(l:List Value),(EU l).length=l.length
 |[]=>rfl
 |v::l=>by simp[EU,DP l]
theorem Hu:∀{l:List Value},l.all wv=true→∀t∈EU l,fz t=true
 |[],_,t,ht=>by simp[EU]at ht
 |v::l,hl,t,ht=>by
  simp only[List.all_cons,Bool.and_eq_true]at hl;simp only[EU,List.mem_cons]at ht;rcases ht with rfl |ht
  ·have:=hl.1;simp only[wv,Bool.and_eq_true]at this;exact this.2
  ·exact Hu hl.2 t ht
section
variable {T E:Env} {X:Cx} {ρ:Gh} {F:Nat→Prop} {o:Ob} {c:Nat} {af:AF} {f:Fr} {h:ab} {p:Oper} {K:OK}
theorem Mem.bR (H:Mem X ρ F o c h) {m:Nat} {y:TO} (hl:look o m=some y):∃S,OR c ρ F h X.base m S y:=let⟨S,K⟩:=H.ex;⟨S m,K.bR m y hl⟩
theorem Nx.refl (H:Mem X ρ F o c h):Nx X ρ F o c h ρ F o c h:=⟨H,fun _ _ h=>h,Nat.le_refl _,fun _ h=>h,fun _ _ _ h=>h⟩
theorem Raw.refl (ns:List Nat):Raw ρ o h ρ o h ns:=fun _ y hl _=>⟨⟨y,hl⟩,rfl,fun _ _=>⟨rfl,fun _ h=>h⟩⟩
theorem dG.pure (H:Mem X ρ F o c h) {x:Value} {v:TV} (hp:aB E af p=some x) (hv:VR c ρ F h v x) (hK:K v o c .pure):dG E X ρ F o c af h p K:=by
 refine⟨0,⟨x,h,.pure⟩,v,o,c,ρ,F,.pure,fun n _=>?_,hK,.refl H,hv,.pure (.refl _) rfl⟩;unfold cV;rw[hp]
theorem dG.P6 (_:Mem X ρ F o c h) {o':Ob} {F':Nat→Prop} (H':Mem X ρ F' o' c h) (hk:∀t x,VR c ρ F h t x→VR c ρ F' h t x) (oy:∀b,F b→F' b) (hw:∀n y,look o n=some y→∃y',look o' n=some y'∧gz y y')
 {x:Value} {v:TV} (hp:aB E af p=some x) (hv:VR c ρ F' h v x) (hK:K v o' c .pure):dG E X ρ F o c af h p K:=by
 refine⟨0,⟨x,h,.pure⟩,v,o',c,ρ,F',.pure,fun n _=>?_,hK,⟨H',hk,Nat.le_refl _,oy,fun _ _ _ h=>h⟩,hv,.pure (fun n y hl _=>⟨let⟨y',h1,_⟩:=hw n y hl;⟨y',h1⟩,rfl,fun b _=>⟨rfl,fun _ h=>h⟩⟩) rfl⟩;unfold cV;rw[hp]
def cU (c:Nat) (ρ:Gh) (F:Nat→Prop) (h:ab) (f:Fr) (af:AF):Prop:=∀t,VR c ρ F h (oT f t) (af.get t)
theorem nL (L:bV T E) (N:jI T F h) (S:cU c ρ F h f af) {x:Operand} (hx:oZ T x=true):∃v,ev E af x=some v∧VR c ρ F h (ky T f x) v:=by
 cases x with
 |tmp t=>exact⟨_,rfl,S t⟩
 |const v=>exact⟨v,by simp only[ev,ae,and_true];exact hx,o5 hx⟩
 |func g=>exact⟨_,rfl,.de rfl (fun i t v q=>by simp at q) rfl (fun i t v q=>by simp at q)⟩
 |global g=>
  obtain⟨cs,n3,hx⟩:∃cs,cs.all wv=true∧T.vY g=some cs:=by
   simp only[oZ]at hx;split at hx
   ·rename_i cs hg;exact⟨cs,hx,hg⟩
   ·cases hx
  obtain⟨n1,n2,_⟩:=N g cs hx;refine⟨.pointer (some ⟨g,0,none⟩),by simp only[ev,Env.cd,L.vY g cs hx,Option.isSome_some,aW],?_⟩;show VR c ρ F h (match T.vY g with|some cs=>.ep (EU cs) 0|none=>.j) _;rw[hx];have:=VR.ep (c:=c) (ρ:=ρ) (F:=F) (h:=h) (e:=EU cs) (o:=0) (b:=g) (q:=0) (cs:=cs) n1 n2 (by rw[DP];omega) (fun t ht=>Hu n3 t ht) (fun j t v q1 q2=>(pY (List.all_eq_true.2 fun v hv=>by have:=List.all_eq_true.1 n3 v hv;simp only[wv,Bool.and_eq_true]at this;exact this.1)).2 j t v q1 (by simpa using q2));simpa using this
theorem mU (L:bV T E) (N:jI T F h) (S:cU c ρ F h f af):∀{l:List Operand},l.all (oZ T)=true→∃vs,zR E af l=some vs∧cX c ρ F h (EV T f l) vs
 |[],_=>⟨[],rfl,.nil⟩
 |x::l,hx=>by
  simp only[List.all_cons,Bool.and_eq_true]at hx;obtain⟨v,h1,h2⟩:=nL (E:=E) L N S hx.1;obtain⟨vs,h3,h4⟩:=mU L N S hx.2;exact⟨v::vs,by simp[zR,h1,h3],.cons h2 h4⟩
def Kg (c:Nat) (ρ:Gh) (F:Nat→Prop) (h:ab):List (Nat×TV)→List (Nat×Value)→Prop
 |[],[]=>True
 |a::l,b::m=>a.1=b.1∧VR c ρ F h a.2 b.2∧Kg c ρ F h l m
 |_,_=>False
theorem lK (L:bV T E) (N:jI T F h) (S:cU c ρ F h f af):∀{l:List (Nat×Operand)},(l.map (·.2)).all (oZ T)=true→∃vs,fU E af l=some vs∧Kg c ρ F h (yN T f l) vs
 |[],_=>⟨[],rfl,trivial⟩
 |(i,x)::l,hx=>by
  simp only[List.map_cons,List.all_cons,Bool.and_eq_true]at hx;obtain⟨v,h1,h2⟩:=nL (E:=E) L N S hx.1;obtain⟨vs,h3,h4⟩:=lK L N S hx.2;exact⟨(i,v)::vs,by simp[fU,h1,h3],rfl,h2,h4⟩
theorem dm {v:TV} {K:TV→Prop} (hf:force v K):K v∧v≠ .j:=by
 cases v<;>simp[force]at hf ⊢ <;>exact hf
theorem CN {k k':IntKind} {v w:Value} (h:ja k k' v=some w):k=k'∧v=w:=by
 cases k<;>cases k'<;>simp[ja]at h<;>exact⟨rfl,h⟩
theorem CO (v:Value):dw (pure v:Sem Value)=some v:=rfl
theorem qW {k:IntKind} {x:Int} {v:Value} (h:dw (pure (.int k x):Sem Value)=some v):ar v=true:=by
 rw[CO]at h;cases h;rfl
theorem DQ {op:BinOp} {k k':IntKind} {x y:Int} {v:Value} (h:J7 op k k' x y=some v) (t:TypeId):dw (binOp op t (.int k x) (.int k' y))=some v∧ar v=true:=by
 cases op<;>simp only[J7]at h
 case add|sub|mul|eql|neq|lss|leq|gtr|geq=>obtain⟨rfl,rfl⟩:=CN h;exact⟨by simp[binOp,Op.intArith,Op.intCmp,dw,Pure.pure],rfl⟩
 case quo|rem=>
  refine⟨h,?_⟩;simp only[binOp]at h;split at h
  ·simp[stuck,dw]at h
  ·simp only[Op.intDiv]at h;split at h
   ·have e:dw (runtimePanic (.error "integer divide by zero"):Sem Value)=none:=rfl;rw[e]at h;cases h
   ·exact qW h
 case and|or|xor|andNot=>
  refine⟨h,?_⟩;simp only[binOp]at h;split at h
  ·simp[stuck,dw]at h
  ·exact qW h
 case shl|shr=>
  refine⟨h,?_⟩;simp only[binOp,Op.shift]at h;split at h
  ·have e:dw (runtimePanic (.error "negative shift amount"):Sem Value)=none:=rfl;rw[e]at h;cases h
  ·exact qW h
theorem bV.shape {T E:Env} (L:bV T E) {t:TypeId} {s:Bool×Nat} (h:dA T t=some s):dA E t=some s:=by
 unfold dA at h ⊢;simp only[Option.bind_eq_some_iff]at h ⊢;obtain⟨d,h1,h2⟩:=h;refine⟨d,L.desc t d h1,?_⟩;cases ha:isAgg d with
 |false=>rw[ha]at h2;exact h2
 |true=>
  rw[ha]at h2;simp only[cond_true,Option.bind_eq_some_iff]at h2 ⊢;obtain⟨n,h3,h4⟩:=h2;exact⟨n,L.size t n h3,h4⟩
theorem Hv:∀{zs:List Value} {xs ys:List TV} {r:Bool},kA zs xs ys=some r→(∀t∈xs,∃v,t= .s v)∧(∀t∈ys,∃v,t= .s v)
 |[],[],[],r,_=>⟨by simp,by simp⟩
 |[],[],_::_,r,h=>by simp[kA]at h
 |[],x::l,ys,r,h=>by simp[kA]at h
 |z::zs,[],ys,r,h=>by simp[kA]at h
 |z::zs,x::l,[],r,h=>by cases x<;>simp[kA]at h
 |z::zs,x::l,y::m,r,h=>by
  cases x<;>try(simp[kA]at h;done)
  rename_i v;cases y<;>try(simp[kA]at h;done)
  rename_i w;simp only[kA]at h;split at h
  ·split at h
   ·rename_i hq;obtain⟨k1,k2⟩:=Hv hq;refine⟨fun t ht=>?_,fun t ht=>?_⟩
    ·rcases List.mem_cons.1 ht with rfl |h2
     ·exact⟨_,rfl⟩
     ·exact k1 t h2
    ·rcases List.mem_cons.1 ht with rfl |h2
     ·exact⟨_,rfl⟩
     ·exact k2 t h2
   ·cases h
  ·cases h
theorem Hw:∀{xs:List TV} {a:List Value},cX c ρ F h xs a→(∀t∈xs,∃v,t= .s v)→a=xs.map MY
 |[],a,H,_=>by rw[H.bu];rfl
 |x::l,a,H,hs=>by
  obtain⟨v,m,rfl,h1,h2⟩:=H.aG;obtain⟨w,rfl⟩:=hs x List.mem_cons_self;rw[h1.cM.1,Hw h2 fun t ht=>hs t (List.mem_cons_of_mem _ ht)];rfl
def sW:Nat→Bool→Value→Prop
 |0,true,x=>x= .pointer none
 |0,false,x=>∃a,x= .pointer (some a)
 |1,true,x=>x= .map none
 |1,false,x=>∃a,x= .map (some a)
 |2,true,x=>x= .nilFunc
 |2,false,x=>∃g a k,x= .func g a k
 |3,true,x=>x= .nilIface
 |3,false,x=>∃t v,x= .iface t v
 |4,true,x=>x= .slice none 0 0
 |4,false,x=>∃a l k,x= .slice (some a) l k
 |_,_,_=>False
theorem AQ {v:TV} {x:Value} (hv:VR c ρ F h v x) {d:Nat} {b:Bool} (hb:sS v=some (d,b)):sW d b x:=by
 cases hv with
 |s hp=>
  unfold sS at hb;split at hb<;>simp_all<;>obtain⟨rfl,rfl⟩:=hb<;>simp[sW]
 |nil he=>subst he;unfold sS at hb;split at hb<;>simp_all<;>obtain⟨rfl,rfl⟩:=hb<;>simp[sW]
 |sl h1 h2 h3=>
  unfold sS at hb;split at hb<;>simp_all;obtain⟨rfl,rfl⟩:=hb;exact⟨_,_,_,rfl⟩
 |ptr=>simp[sS]at hb;obtain⟨rfl,rfl⟩:=hb;exact⟨_,rfl⟩
 |ep=>simp[sS]at hb;obtain⟨rfl,rfl⟩:=hb;exact⟨_,rfl⟩
 |mp=>simp[sS]at hb;obtain⟨rfl,rfl⟩:=hb;exact⟨_,rfl⟩
 |k9=>simp[sS]at hb;obtain⟨rfl,rfl⟩:=hb;exact⟨_,_,rfl⟩
 |de=>simp[sS]at hb;obtain⟨rfl,rfl⟩:=hb;exact⟨_,_,_,rfl⟩
 |_=>simp[sS]at hb
theorem nM {E:Env} {t:TypeId} {ds:TypeDesc} {d:Nat} {p q:Bool} {a b:Value} (hd:E.desc t=some ds) (hk:At ds=some d) (ha:sW d p a) (hb:sW d q b) (LG:(p||q)=true):sO E 100 t a b=some (p&&q):=by
 cases ds<;>simp[At]at hk<;>subst hk<;>cases p<;>cases q<;>simp at LG<;>simp only[sW]at ha hb
 all_goals
  (try obtain⟨_,rfl⟩:=ha)
  (try obtain⟨_,rfl⟩:=hb)
  (try obtain⟨_,_,rfl⟩:=ha)
  (try obtain⟨_,_,rfl⟩:=hb)
  (try obtain⟨_,_,_,rfl⟩:=ha)
  (try obtain⟨_,_,_,rfl⟩:=hb)
  (try subst ha)
  (try subst hb)
  (show sO E (99+1) t _ _=_)
  unfold sO;rw[hd];rfl
end
def gT (c:Nat) (ρ:Gh) (F:Nat→Prop) (h:ab) (o:Ob) (canon:Option Value) (K:OK):Prop:=∃v x,canon=some x∧VR c ρ F h v x∧K v o c .pure
section
variable {T E:Env} {X:Cx} {ρ:Gh} {F:Nat→Prop} {o:Ob} {c:Nat} {af:AF} {f:Fr} {h:ab} {p:Oper} {K:OK}
theorem jK {op:BinOp} {t:TypeId} {x y:Operand} {a b:Value} {r:Bool} (hi:∀k n k' m,¬(a= .int k n∧b= .int k' m)) (hs:∀s r,¬(a= .string s∧b= .string r)) (he:la E t x y a b=true) (hq:sO E 100 t a b=some r):
 (op= .eql→tO E op t x y a b=some (.bool r))∧(op= .neq→tO E op t x y a b=some (.bool !r)):=by
 constructor
 ·rintro rfl;unfold tO;split
  ·exact absurd ⟨rfl,rfl⟩ (hi _ _ _ _)
  ·exact absurd ⟨rfl,rfl⟩ (hs _ _)
  ·simp[aW,he,hq]
 ·rintro rfl;unfold tO;split
  ·exact absurd ⟨rfl,rfl⟩ (hi _ _ _ _)
  ·exact absurd ⟨rfl,rfl⟩ (hs _ _)
  ·simp[aW,he,hq]
theorem qa {v:Option Value} (hp:w9 v o c K) {canon:Option Value} (hc:∀x,v=some x→canon=some x):gT c ρ F h o canon K:=by
 unfold w9 at hp;split at hp
 ·rename_i x;split at hp
  ·rename_i h2;exact⟨_,_,hc x rfl,.s h2,hp⟩
  ·exact hp.elim
 ·exact hp.elim
theorem sW.AS {d:Nat} {b:Bool} {n:Nat} (hv:sW d b (.chan (some n))):False:=by
 unfold sW at hv;split at hv<;>simp at hv
theorem sW.DR {d:Nat} {b:Bool} {x:Value} (hv:sW d b x):(∀k n,x≠ .int k n)∧(∀s,x≠ .string s)∧(∀a,x≠ .agg a)∧(x= .nilIface→d=3∧b=true):=by
 unfold sW at hv;split at hv
 all_goals
  (try obtain⟨_,rfl⟩:=hv)
  (try obtain⟨_,_,rfl⟩:=hv)
  (try obtain⟨_,_,_,rfl⟩:=hv)
  (try subst hv)
  (try(exact hv.elim))
  (try simp)
theorem Fg {k k':IntKind} {v w x:Value} (h:ja k k' v=some x):ja k k' w=some w:=by
 unfold ja at h ⊢;split at h<;>first|rfl |cases h
theorem qX {p:Prop} (hw:ask p o c K) {canon:Option Value} (b:Bool) (hb:b=true↔p) (hc:canon=some (.bool b)):gT c ρ F h o canon K:=by
 cases b with
 |true=>exact⟨_,_,hc,.s rfl,hw.1 (hb.1 rfl)⟩
 |false=>exact⟨_,_,hc,.s rfl,hw.2 fun hp=>by have:=hb.2 hp;cases this⟩
theorem nN {p:Prop} {k k':IntKind} {op:BinOp} {t:TypeId} {n m:Int} (hw:Av k k' p o c K) (b:Bool) (hb:b=true↔p) (hv:J7 op k k' n m=ja k k' (.bool b)):gT c ρ F h o (dw (binOp op t (.int k n) (.int k' m))) K:=by
 unfold Av at hw;split at hw
 ·rename_i hs;exact qX hw b hb ((DQ (hv.trans (Fg hs)) t).1)
 ·exact hw.elim
theorem Kh (L:bV T E) (H:Mem X ρ F o c h) {op:BinOp} {t:TypeId} {x y:Operand} {a b:TV} {xa xb:Value} (hw:ME T op t x y a b o c K) (ha:VR c ρ F h a xa) (hb:VR c ρ F h b xb):gT c ρ F h o (tO E op t x y xa xb) K:=by
 unfold ME at hw;split at hw
 ·rename_i k n k' m;rw[ha.cM.1,hb.cM.1];show gT c ρ F h o (dw (binOp op t (.int k n) (.int k' m))) K;split at hw
  ·exact nN hw (n==m) (by simp) rfl
  ·exact nN hw (n != m) (by simp) rfl
  ·exact nN hw (decide (n<m)) (by simp) rfl
  ·exact nN hw (decide (n≤m)) (by simp) rfl
  ·exact nN hw (decide (n>m)) (by simp) rfl
  ·exact nN hw (decide (n≥m)) (by simp) rfl
  ·exact qa hw fun v hv=>(DQ hv t).1
 ·rename_i s r;rw[ha.cM.1,hb.cM.1];split at hw
  ·exact qX hw (s.data.toList==r.data.toList) (by simp) rfl
  ·exact qX hw (!(s.data.toList==r.data.toList)) (by simp) rfl
  ·exact qX hw (Op.bytesLess s.data.toList r.data.toList) (by simp) rfl
  ·exact⟨_,_,(by simp only[tO];rw[ae];exact⟨decide_eq_true om,rfl⟩),.s rfl,hw.2⟩
  ·refine qa hw fun v hv=>?_;simp only[tO]at hv;cases hv
 ·rename_i p q;rw[ha.cM.1,hb.cM.1];split at hw
  ·rename_i hd;have hq:sO E 100 t (.bool p) (.bool q)=some (p==q):=by
    show sO E (99+1) t _ _=_;unfold sO;rw[L.desc _ _ hd];rfl
   obtain⟨k1,k2⟩:=jK (op:=op) (E:=E) (x:=x) (y:=y) (t:=t) (a:=.bool p) (b:=.bool q) (by rintro _ _ _ _ ⟨e,_⟩;cases e) (by rintro _ _ ⟨e,_⟩;cases e) rfl hq;split at hw
   ·exact⟨_,_,k1 rfl,.s rfl,hw⟩
   ·exact⟨_,_,k2 rfl,.s rfl,hw⟩
   ·exact hw.elim
  ·exact hw.elim
 ·rename_i xs ys;obtain⟨a',rfl,h1⟩:=ha.dN;obtain⟨b',rfl,h2⟩:=hb.dN;split at hw
  ·rename_i z he hz;split at hw
   case h_2=>exact hw.elim
   rename_i r hr;obtain⟨s1,s2⟩:=Hv hr;obtain⟨e1,e2⟩:=L.eq t a' b' z xs ys r he hz hr (Hw h1 s1) (Hw h2 s2);obtain⟨k1,k2⟩:=jK (op:=op) (E:=E) (x:=x) (y:=y) (t:=t) (a:=.agg a') (b:=.agg b') (by rintro _ _ _ _ ⟨e,_⟩;cases e) (by rintro _ _ ⟨e,_⟩;cases e) e1 e2;split at hw
   ·exact qX hw r Iff.rfl (k1 rfl)
   ·exact qX hw (!r) (by simp) (k2 rfl)
   ·exact hw.elim
  ·exact hw.elim
 ·split at hw
  ·rename_i es hq;obtain⟨EX,rfl,pA⟩:∃EX,b= .sl 0 [] EX∧((∃z fl,a= .sl (z+1) es fl)∨∃n z w,a= .tk n∧look o n=some (.arr z w es)):=by
    unfold PM at hq;split at hq
    ·cases hq;exact⟨_,rfl,.inl ⟨_,_,rfl⟩⟩
    ·split at hq
     ·rename_i hl;cases hq;exact⟨_,rfl,.inr ⟨_,_,_,rfl,hl⟩⟩
     ·cases hq
    ·cases hq
   have bE:xb= .slice none 0 0:=by
    cases hb with
    |nil=>rfl
    |sl _ _ hz=>omega
   subst bE;have main:∀{ds:TypeDesc},E.desc t=some ds→At ds=some 4→∃r:Bool,(r=true→es=[])∧sO E 100 t xa (.slice none 0 0)=some r∧∃a l k,xa= .slice a l k:=by
    intro ds h1 h2;rcases pA with⟨z,fl,rfl⟩|⟨n,z,w,rfl,hl⟩
    ·cases ha with
     |nil he=>exact⟨true,fun _=>he,nM (p:=true) (q:=true) h1 h2 rfl rfl rfl,_,_,_,rfl⟩
     |sl=>exact⟨false,(by simp),nM (p:=false) (q:=true) h1 h2 ⟨_,_,_,rfl⟩ rfl rfl,_,_,_,rfl⟩
    ·obtain⟨_,Wd⟩:=H.bR hl;cases ha with
     |tk hn Lr We h0=>
      cases Wd with
      |nil te hz=>
       rcases h0 _ te with rfl |⟨_,_,_,_,_,_,_,rfl⟩
       ·exact⟨true,fun _=>rfl,nM (p:=true) (q:=true) h1 h2 rfl rfl rfl,_,_,_,rfl⟩
       ·exact⟨false,(by simp),nM (p:=false) (q:=true) h1 h2 ⟨_,_,_,rfl⟩ rfl rfl,_,_,_,rfl⟩
      |arr te=>
       obtain⟨cap,_,rfl⟩:=We _ _ _ te;exact⟨false,(by simp),nM (p:=false) (q:=true) h1 h2 ⟨_,_,_,rfl⟩ rfl rfl,_,_,_,rfl⟩
   split at hw
   ·rename_i hd;simp only[Option.bind_eq_some_iff]at hd;obtain⟨ds,wV,zI⟩:=hd;obtain⟨r,m1,m2,a0,l0,k0,rfl⟩:=main (L.desc _ _ wV) zI;obtain⟨k1,k2⟩:=jK (op:=.eql) (E:=E) (x:=x) (y:=y) (t:=t) (a:=.slice a0 l0 k0) (b:=.slice none 0 0) (by rintro _ _ _ _ ⟨e,_⟩;cases e) (by rintro _ _ ⟨e,_⟩;cases e) rfl m2;cases r with
    |true=>exact⟨_,_,k1 rfl,.s rfl,hw.1 (m1 rfl)⟩
    |false=>exact⟨_,_,k1 rfl,.s rfl,hw.2⟩
   ·rename_i hd;simp only[Option.bind_eq_some_iff]at hd;obtain⟨ds,wV,zI⟩:=hd;obtain⟨r,m1,m2,a0,l0,k0,rfl⟩:=main (L.desc _ _ wV) zI;obtain⟨k1,k2⟩:=jK (op:=.neq) (E:=E) (x:=x) (y:=y) (t:=t) (a:=.slice a0 l0 k0) (b:=.slice none 0 0) (by rintro _ _ _ _ ⟨e,_⟩;cases e) (by rintro _ _ ⟨e,_⟩;cases e) rfl m2;cases r with
    |true=>exact⟨_,_,k2 rfl,.s rfl,hw.1 (m1 rfl)⟩
    |false=>exact⟨_,_,k2 rfl,.s rfl,hw.2⟩
   ·exact hw.elim
  split at hw
  ·rename_i d d1 p d2 q hd hp hq;split at hw
   ·rename_i hc;simp only[Bool.and_eq_true,beq_iff,Bool.or_eq_true,Bool.not_eq_true']at hc;obtain⟨⟨⟨rfl,rfl⟩,LG⟩,qI⟩:=hc;simp only[Option.bind_eq_some_iff]at hd;obtain⟨ds,wV,zI⟩:=hd;have va:=AQ ha hp;have vb:=AQ hb hq;have MZ:=nM (L.desc _ _ wV) zI va vb (by simpa using LG);obtain⟨a1,a2,a3,a4⟩:=va.DR;obtain⟨b1,b2,b3,b4⟩:=vb.DR;have he:la E t x y xa xb=true:=by
     unfold la;split
     ·obtain⟨rfl,rfl⟩:=a4 rfl;obtain⟨_,rfl⟩:=b4 rfl;rcases qI with (qI|qI)|qI
      ·simp at qI
      ·rw[qI];rfl
      ·rw[qI];simp
     ·exact absurd rfl (a3 _)
     ·exact va.AS.elim
     ·exact vb.AS.elim
     ·rfl
    obtain⟨k1,k2⟩:=jK (op:=op) (E:=E) (x:=x) (y:=y) (t:=t) (a:=xa) (b:=xb) (by rintro k n _ _ ⟨e,_⟩;exact a1 k n e) (by rintro s _ ⟨e,_⟩;exact a2 s e) he MZ;split at hw
    ·exact⟨_,_,k1 rfl,.s rfl,hw⟩
    ·exact⟨_,_,k2 rfl,.s rfl,hw⟩
    ·exact hw.elim
   ·exact hw.elim
  ·exact hw.elim
theorem qY (H:Mem X ρ F o c h) {m i q:Nat} {y:TO} (hl:look o m=some y) (hy:wz y=true) {x:Value} (hx:VR c ρ F h (.wp m i q) x):
 ∃b z l,ρ m=some (.arr b z l)∧x= .pointer (some ⟨b,i*z+q,none⟩):=by
 cases hx with
 |wp hn nJ ha h0=>
  obtain⟨S,hO⟩:=H.bR hl;cases hO with
  |nil hb hz=>exact absurd hb (h0 _)
  |fi hb hz=>exact absurd hb (h0 _)
  |arr hb=>exact⟨_,_,_,hb,ha _ _ _ hb⟩
  |cm hb=>exact⟨_,_,_,hb,ha _ _ _ hb⟩
  |_=>simp[wz]at hy
def AT:TO→Nat
 | .arr _ _ es=>es.length
 | .cm _ es _=>es.length
 |_=>0
theorem OR.tk {base m:Nat} {S:Ft} {y:TO} (hO:OR c ρ F h base m S y) (hy:wz y=true) {x:Value} (hx:VR c ρ F h (.tk m) x):
 (AT y=0∧ρ m=some (.nil (Fe y))∧(x= .slice none 0 0∨∃b o cs,F b∧h.rd b=some cs∧0<Fe y∧o≤cs.length∧x= .slice (some ⟨b,o,some (Fe y)⟩) 0 0))∨
 ∃b cap,ρ m=some (.arr b (Fe y) (AT y))∧AT y≤cap∧x= .slice (some ⟨b,0,some (Fe y)⟩) (AT y) cap:=by
 cases hx with
 |tk hn nJ ha h0=>
  cases hO with
  |nil hb hz=>exact .inl ⟨rfl,hb,h0 _ hb⟩
  |fi hb hz=>exact .inl ⟨rfl,hb,h0 _ hb⟩
  |arr hb=>obtain⟨cap,h1,h2⟩:=ha _ _ _ hb;exact .inr ⟨_,cap,hb,h1,h2⟩
  |cm hb=>obtain⟨cap,h1,h2⟩:=ha _ _ _ hb;exact .inr ⟨_,cap,hb,h1,h2⟩
  |_=>simp[wz]at hy
theorem wE (L:bV T E) (H:Mem X ρ F o c h) {s:TypeId} {x:TV} {fd:Nat} {xv:Value} (hw:oV T s x fd o c K) (hx:VR c ρ F h x xv):
 gT c ρ F h o ((E.desc s).bind fun d=>(gF xv).bind fun p=>(match d with
 | .struct fields=>(fields[fd]?).bind fun fl=>(E.size fl.type).bind fun n=>aW (Nat.blt 0 n) (some (.pointer (some ⟨p.1,p.2+fl.offset,none⟩)))
 |_=>none)) K:=by
 unfold oV at hw;split at hw
 ·rename_i fields hd;split at hw
  ·rename_i fl hf;split at hw
   ·rename_i n hn;split at hw
    ·rename_i h0
     have fin:∀b q,xv=Value.pointer (some ⟨b,q,none⟩)→(((E.desc s).bind fun d=>(gF xv).bind fun p=>(match d with
      | .struct fields=>(fields[fd]?).bind fun fl=>(E.size fl.type).bind fun n=>aW (Nat.blt 0 n) (some (Value.pointer (some ⟨p.1,p.2+fl.offset,none⟩)))
      |_=>none))=some (Value.pointer (some ⟨b,q+fl.offset,none⟩))):=by
      rintro b q rfl;rw[L.desc _ _ hd];simp only[Option.bind_some,gF,hf,L.size _ _ hn,h0,aW]
     split at hw
     ·cases hx with
      |ptr hb=>exact⟨_,_,fin _ _ rfl,.ptr hb,hw⟩
     ·cases hx with
      |ep h1 h2 h3 h4 h5=>exact⟨_,_,fin _ _ rfl,by rw[Nat.add_assoc];exact .ep h1 h2 h3 h4 h5,hw⟩
     ·have go:∀{m i p:Nat} {y:TO},look o m=some y→wz y=true→VR c ρ F h (.wp m i p) xv→K (.wp m i (p+fl.offset)) o c .pure→gT c ρ F h o ((E.desc s).bind fun d=>(gF xv).bind fun p=>(match d with
       | .struct fields=>(fields[fd]?).bind fun fl=>(E.size fl.type).bind fun n=>aW (Nat.blt 0 n) (some (.pointer (some ⟨p.1,p.2+fl.offset,none⟩)))
       |_=>none)) K:=by
       intro m i p y hl hy hx hw;obtain⟨b,z,l,hb,rfl⟩:=qY H hl hy hx;cases hx with
       |wp hn nJ ha h0=>
        refine⟨_,_,fin _ _ rfl,.wp hn rfl (fun b' z' l' ir=>?_) h0,hw⟩;rw[hb]at ir;cases ir;rw[Nat.add_assoc]
      split at hw
      ·rename_i hl;exact go hl rfl hx hw
      ·rename_i hl;exact go hl rfl hx hw
      ·exact hw.elim
     ·exact hw.elim
    ·exact hw.elim
   ·exact hw.elim
  ·exact hw.elim
 ·exact hw.elim
theorem eT {agg:Bool} {l:List TV} {v:TV} (ho:dy agg l=some v) {m:List Value} (H:cX c ρ F h l m):∃x,b5 agg m=some x∧VR c ρ F h v x:=by
 unfold dy at ho;split at ho
 ·cases ho;exact⟨_,rfl,.fg (by simpa using H)⟩
 ·cases ho;obtain⟨x,m',rfl,h1,h2⟩:=H.aG;rw[h2.bu];exact⟨x,rfl,h1⟩
 ·cases ho
theorem xn {n:Nat} {l r:List TV} (ht:takeN n l=some r) {m:List Value} (H:cX c ρ F h l m):∃q,takeN n m=some q∧cX c ρ F h r q:=by
 rw[aO]at ht;obtain⟨h1,rfl⟩:=ht;exact⟨m.take n,by rw[aO];exact⟨by rw[←H.1];exact h1,rfl⟩,H.take n⟩
theorem Fh (L:bV T E) {t:TypeId} {x:TV} {fd:Nat} {xv:Value} (hw:Cy T t x fd o c K) (hx:VR c ρ F h x xv):
 gT c ρ F h o ((E.desc t).bind fun d=>(O6 xv).bind fun cs=>(match d with
 | .struct fields=>(fields[fd]?).bind fun fl=>mw E fl.type cs fl.offset
 |_=>none)) K:=by
 unfold Cy at hw;split at hw
 ·rename_i fields hd;split at hw
  ·rename_i fl cs hf;split at hw
   ·rename_i agg n hs;split at hw
    ·rename_i l hl;split at hw
     ·rename_i v hv;obtain⟨hK,_⟩:=dm hw;obtain⟨a,rfl,h1⟩:=hx.dN;obtain⟨q,h2,h3⟩:=xn hl (h1.drop fl.offset);obtain⟨x,h4,h5⟩:=eT hv h3;refine⟨v,x,?_,h5,hK⟩;rw[L.desc _ _ hd];simp only[Option.bind_some,O6,hf,mw,L.shape hs,h2,h4]
     ·exact hw.elim
    ·exact hw.elim
   ·exact hw.elim
  ·exact hw.elim
 ·exact hw.elim
theorem kT {i:TV} {x:Value} {n:Int} (hi:Au i=some n) (hx:VR c ρ F h i x):JS x=some n:=by
 unfold Au at hi;split at hi
 ·cases hi;rw[hx.cM.1];rfl
 ·cases hi
theorem wF (L:bV T E) (H:Mem X ρ F o c h) {t:TypeId} {x i:TV} {xv iv:Value} (hw:oW T t x i o c K) (hx:VR c ρ F h x xv) (hi:VR c ρ F h i iv):gT c ρ F h o (dK E t xv iv) K:=by
 unfold oW at hw;split at hw
 ·rename_i elem i' hd yp;have hI:=kT yp hi;split at hw
  ·rename_i n hn;have fin:∀b q z len cap,xv=Value.slice (some ⟨b,q,some z⟩) len cap→0≤i'→i'<len→dK E t xv iv=some (.pointer (some ⟨b,q+i'.toNat*n,none⟩)):=by
    rintro b q z len cap rfl h1 h2;unfold dK;rw[L.desc _ _ hd,hI];simp only[Option.bind_some,L.size _ _ hn,aW,h1,h2,decide_true,Bool.and_self]
   split at hw
   ·rename_i z es fl;split at hw
    ·rename_i hz;rw[beq_iff]at hz;obtain⟨e,⟨h0,he⟩,hK⟩:=hw;cases hx with
     |nil zO=>subst zO;simp at he
     |sl q1 q2 q3 q4 q5 q6 q7 q8 q9 LH=>
      have bO:=(List.getElem?_eq_some_iff.1 he).1;refine⟨_,_,fin _ _ _ _ _ rfl h0 om,?_,hK⟩;have AH:=q8 e (List.mem_of_getElem? he);rw[←Nat.add_zero (_+_*n)];refine .ep q1 q2 ?_ (q9 e (List.mem_of_getElem? he)) fun j t v r1 r2=>LH _ j e t v he r1 (by rw[hz];exact r2);rw[AH,←hz];have:(i'.toNat+1)*z≤es.length*z:=Nat.mul_le_mul_right z bO;rw[Nat.add_mul]at this;subst q4;omega
    ·exact hw.elim
   ·rename_i m;have go:∀{y:TO},look o m=some y→wz y=true→Fe y=n→0≤i'→i'<AT y→K (.wp m i'.toNat 0) o c .pure→gT c ρ F h o (dK E t xv iv) K:=by
     intro y hl hy hz h0 h1 hK;obtain⟨S,hO⟩:=H.bR hl;rcases hO.tk hy hx with⟨e,_⟩|⟨b,cap,hb,_,rfl⟩
     ·rw[e]at h1;omega
     ·refine⟨_,_,fin _ _ _ _ _ rfl h0 h1,?_,hK⟩;cases hx with
      |tk JU nJ ha X7=>
       refine .wp JU rfl (fun b' z2 l2 ir=>?_) (fun z2 ir=>by rw[hb]at ir;cases ir);rw[hb]at ir;cases ir;rw[Nat.zero_add,Nat.add_zero,hz]
    split at hw
    ·rename_i z w es hl;split at hw
     ·rename_i hz;obtain⟨⟨h0,h1⟩,hK⟩:=hw;exact go hl rfl (beq_iff.1 hz) h0 h1 hK
     ·exact hw.elim
    ·rename_i z es op hl;split at hw
     ·rename_i hz;obtain⟨⟨h0,h1⟩,hK⟩:=hw;exact go hl rfl (beq_iff.1 hz) h0 h1 hK
     ·exact hw.elim
    ·exact hw.elim
   ·exact hw.elim
  ·exact hw.elim
 ·rename_i len elem i' hd yp;have hI:=kT yp hi;split at hw
  ·rename_i n hn;obtain⟨⟨h1,h2⟩,hw⟩:=hw;have fin:∀b q,xv=Value.pointer (some ⟨b,q,none⟩)→dK E t xv iv=some (.pointer (some ⟨b,q+i'.toNat*n,none⟩)):=by
    rintro b q rfl;unfold dK;rw[L.desc _ _ hd,hI];simp only[Option.bind_some,L.size _ _ hn,aW,h1,h2,decide_true,Bool.and_self]
   split at hw
   ·cases hx with
    |ptr hb=>exact⟨_,_,fin _ _ rfl,.ptr hb,hw⟩
   ·cases hx with
    |ep q1 q2 q3 q4 q5=>exact⟨_,_,fin _ _ rfl,by rw[Nat.add_assoc];exact .ep q1 q2 q3 q4 q5,hw⟩
   ·exact hw.elim
  ·exact hw.elim
 ·exact hw.elim
theorem Fi (L:bV T E) {t:TypeId} {x i:TV} {xv iv:Value} (hw:Cz T t x i o c K) (hx:VR c ρ F h x xv) (hi:VR c ρ F h i iv):gT c ρ F h o (qG E t xv iv) K:=by
 unfold Cz at hw;split at hw
 ·rename_i i' hd yp;have hI:=kT yp hi;split at hw
  ·obtain⟨b,⟨h1,h2⟩,hK⟩:=hw;rw[hx.cM.1];refine⟨_,_,?_,.s rfl,hK⟩;unfold qG;rw[L.desc _ _ hd,hI];simp only[Option.bind_some,aW,h1,decide_true,h2]
  ·exact hw.elim
 ·rename_i len elem i' hd yp;have hI:=kT yp hi;split at hw
  ·rename_i z agg n cs hz hs;obtain⟨⟨h1,h2⟩,hw⟩:=hw;split at hw
   ·rename_i l hl;split at hw
    ·rename_i v hv;obtain⟨hK,_⟩:=dm hw;obtain⟨a,rfl,k1⟩:=hx.dN;obtain⟨q,h3,h4⟩:=xn hl (k1.drop (i'.toNat*z));obtain⟨x,h5,h6⟩:=eT hv h4;refine⟨v,x,?_,h6,hK⟩;unfold qG;rw[L.desc _ _ hd,hI];simp only[Option.bind_some,L.size _ _ hz,aW,h1,h2,decide_true,Bool.and_self,mw,L.shape hs,h3,h5]
    ·exact hw.elim
   ·exact hw.elim
  ·exact hw.elim
 ·exact hw.elim
end
section
variable {T E:Env} {X:Cx} {ρ:Gh} {F:Nat→Prop} {o:Ob} {c:Nat} {af:AF} {f:Fr} {h:ab} {p:Oper} {K:OK}
def AU (X:Cx) (c:Nat) (ρ:Gh) (F:Nat→Prop) (h:ab) (o:Ob) (canon:Option Value) (K:OK):Prop:=
 ∃v x o' F',canon=some x∧Mem X ρ F' o' c h∧(∀t x,VR c ρ F h t x→VR c ρ F' h t x)∧(∀b,F b→F' b)∧(∀n y,look o n=some y→∃y',look o' n=some y'∧gz y y')∧VR c ρ F' h v x∧K v o' c .pure
theorem gT.Wg (H:Mem X ρ F o c h) {canon:Option Value} (R:gT c ρ F h o canon K):AU X c ρ F h o canon K:=by
 obtain⟨v,x,h1,h2,h3⟩:=R;exact⟨v,x,o,F,h1,H,fun _ _ h=>h,fun _ h=>h,fun n y hl=>⟨y,hl,gz.refl y⟩,h2,h3⟩
theorem AU.B0 {canon:Option Value} (H:Mem X ρ F o c h) (R:AU X c ρ F h o canon K) (hp:aB E af p=canon):dG E X ρ F o c af h p K:=by
 obtain⟨v,x,o',F',h1,h2,h3,h4,h5,h6,h7⟩:=R;exact dG.P6 H h2 h3 h4 h5 (hp.trans h1) h6 h7
theorem mV (o:Ob) (m:Nat):∀n y,look o n=some y→∃y',look (gQ o m) n=some y'∧gz y y':=by
 intro n y hl;unfold gQ;split
 ·rename_i z w es hm;rw[dk];by_cases e:n=m
  ·subst e;rw[if_pos rfl,hm];rw[hm]at hl;cases hl;exact⟨_,rfl,rfl,rfl,fun h=>by cases h⟩
  ·rw[if_neg e];exact⟨y,hl,gz.refl y⟩
 ·exact⟨y,hl,gz.refl y⟩
theorem mW {d y:Nat} {i:Int} (hi:0≤i) (hy:i≤y) (k:IntKind):bS d y (some (.int k i))=some i.toNat:=by
 simp[bS,aW,hi,hy]
theorem ic {d:Nat} {lo:Option TV} {uU:Option Value} {l:Int} (hb:JE d lo=some l) (hl:(lo=none∧uU=none)∨∃y v,lo=some y∧uU=some v∧VR c ρ F h y v):
 (uU=none∧l=d)∨∃k,uU=some (.int k l):=by
 rcases hl with⟨rfl,rfl⟩|⟨y,v,rfl,rfl,hv⟩
 ·simp[JE]at hb;exact .inl ⟨rfl,hb.symm⟩
 ·unfold JE at hb;split at hb
  ·rename_i he;cases he
  ·rename_i k i he;cases he;cases hb;rw[hv.cM.1];exact .inr ⟨k,rfl⟩
  ·cases hb
theorem dv {d y:Nat} {l:Int} {uU:Option Value} (h1:(uU=none∧l=d)∨∃k,uU=some (.int k l)) (h0:0≤l) (hy:l≤y):bS d y uU=some l.toNat:=by
 rcases h1 with⟨rfl,rfl⟩|⟨k,rfl⟩
 ·simp[bS]
 ·exact mW h0 hy k
theorem gk {t elem:TypeId} {n z b o' len cap:Nat} {lo hi mx:Option Value} {l hh m:Nat} (hd:E.desc t=some (.slice elem)) (hn:E.size elem=some n) (hz:n=z) (hm:bS cap len mx=some m)
 (Gt:bS len (bif mx.isSome then m else len) hi=some hh) (hc:hi.isSome||mx.isNone) (v7:bS 0 hh lo=some l):
 fW E t (.slice (some ⟨b,o',some z⟩) len cap) lo hi mx=some (.slice (some (bif Nat.beq m l then⟨b,o',some z⟩else⟨b,o'+l*z,some z⟩)) (hh - l) (m - l)):=by
 unfold fW;subst hz;rw[hd];simp only[Option.bind_some,hn,hm,Gt,v7,aW,hc];simp
theorem CP {z b oo len cap:Nat} {es:List (List TV)} {fl:Bool} (hv:VR c ρ F h (.sl z es fl) (.slice (some ⟨b,oo,some z⟩) len cap)) {l hh m:Nat} (hl:l≤hh) (Va:hh≤es.length) (hm:hh≤m) (EX:Bool) (zD:EX=true→m=hh):
 VR c ρ F h (.sl z ((es.take hh).drop l) EX) (.slice (some (bif Nat.beq m l then⟨b,oo,some z⟩else⟨b,oo+l*z,some z⟩)) (hh - l) (m - l)):=by
 cases hv with
 |sl q1 q2 q3 q4 q5 q6 q7 q8 q9 LH=>
  have hlen:((es.take hh).drop l).length=hh - l:=by simp;omega
  by_cases e:m=l
  ·have e2:hh=l:=by omega
   subst e2;subst e;rw[show(bif Nat.beq m m then(⟨b,oo,some z⟩:Addr)else⟨b,oo+m*z,some z⟩)=⟨b,oo,some z⟩ by simp];refine .sl q1 q2 q3 hlen om (fun _=>rfl) (by simp;omega) (fun e he=>?_) (fun e he=>?_) fun i j e t v r1=>?_
   ·exact q8 e (List.mem_of_mem_take (List.mem_of_mem_drop he))
   ·exact q9 e (List.mem_of_mem_take (List.mem_of_mem_drop he))
   ·have:=(List.getElem?_eq_some_iff.1 r1).1;omega
  ·rw[show(bif Nat.beq m l then(⟨b,oo,some z⟩:Addr)else⟨b,oo+l*z,some z⟩)=⟨b,oo+l*z,some z⟩ by
    rw[Ay];simp[e]]
   refine .sl q1 q2 q3 hlen om (fun h=>by rw[zD h]) ?_ (fun e he=>?_) (fun e he=>?_) fun i j e t v r1 r2 r3=>?_
   ·have:(l+(hh - l))*z≤es.length*z:=Nat.mul_le_mul_right z om;rw[Nat.add_mul]at this;subst q4;omega
   ·exact q8 e (List.mem_of_mem_take (List.mem_of_mem_drop he))
   ·exact q9 e (List.mem_of_mem_take (List.mem_of_mem_drop he))
   ·rw[List.getElem?_drop,List.getElem?_take]at r1;split at r1
    ·refine LH (l+i) j e t v r1 r2 ?_;rw[←r3,Nat.add_mul]
     congr 1;omega
    ·cases r1
theorem kc {t elem n:Nat} {lo hi mx:Option Value} {l hh m:Nat} (hd:E.desc t=some (.slice elem)) (hn:E.size elem=some n) (hm:bS 0 0 mx=some m)
 (Gt:bS 0 (bif mx.isSome then m else 0) hi=some hh) (hc:hi.isSome||mx.isNone) (v7:bS 0 hh lo=some l):
 fW E t (.slice none 0 0) lo hi mx=some (.slice none 0 0):=by
 unfold fW;rw[hd];simp only[Option.bind_some,hn,hm,Gt,v7,aW,hc]
def Ki (c:Nat) (ρ:Gh) (F:Nat→Prop) (h:ab) (y:Option TV) (v:Option Value):Prop:=(y=none∧v=none)∨∃y' v',y=some y'∧v=some v'∧VR c ρ F h y' v'
theorem sm (L:bV T E) {t:TypeId} {z n l hh m:Nat} {elem:TypeId} {es:List (List TV)} {fl:Bool} {xv:Value} {uU hiv JJ:Option Value} (hd:T.desc t=some (.slice elem)) (hn:T.size elem=some n) (hz:z=n∨z=0)
 (hx:VR c ρ F h (.sl z es fl) xv) (hl:l≤hh) (Va:hh≤es.length) (_:hh≤m) (EX:Bool) (_:EX=true→m=hh)
 (b1:∀len cap,len=es.length→len≤cap→∃m',bS cap len JJ=some m'∧bS len (bif JJ.isSome then m' else len) hiv=some hh∧hh≤m'∧(EX=true→m'=hh)) (b2:(hiv.isSome||JJ.isNone)=true) (b3:bS 0 hh uU=some l):
 ∃x,fW E t xv uU hiv JJ=some x∧VR c ρ F h (.sl z ((es.take hh).drop l) EX) x:=by
 cases hx with
 |nil he=>
  subst he;obtain⟨m',k1,k2,_,_⟩:=b1 0 0 rfl (Nat.le_refl _);refine⟨_,kc (L.desc _ _ hd) (L.size _ _ hn) k1 k2 b2 b3,.nil (by simp)⟩
 |sl q1 q2 q3 q4 q5 q6 q7 q8 q9 LH=>
  have Kj:n=z:=by omega
  obtain⟨m',k1,k2,k3,k4⟩:=b1 _ _ q4.symm q5;refine⟨_,gk (L.desc _ _ hd) (L.size _ _ hn) Kj k1 k2 b2 b3,CP (.sl q1 q2 q3 q4 q5 q6 q7 q8 q9 LH) hl Va k3 EX k4⟩
theorem Hy (H:Mem X ρ F o c h) {x:TV} {z:Nat} {es:List (List TV)} (he:He o x=some (z,es)):∃F',Mem X ρ F' (share1 o x) c h∧(∀t v,VR c ρ F h t v→VR c ρ F' h t v)∧(∀b,F b→F' b)∧(∀n y,look o n=some y→∃y',look (share1 o x) n=some y'∧gz y y')∧
 ∀xv,VR c ρ F h x xv→∃fl,VR c ρ F' h (.sl z es fl) xv:=by
 unfold He at he;split at he
 ·cases he;exact⟨F,H,fun _ _ h=>h,fun _ h=>h,fun n y hl=>⟨y,hl,gz.refl y⟩,fun xv hx=>⟨_,hx⟩⟩
 ·rename_i m;split at he
  ·rename_i w bC hl;cases he;obtain⟨F',h1,h2,h3,h4⟩:=H.share m;exact⟨F',h1,h2,h3,mV o m,fun xv hx=>⟨false,h4 _ _ _ _ hl hx⟩⟩
  ·cases he
 ·cases he
theorem Fj (L:bV T E) (H:Mem X ρ F o c h) {t:TypeId} {x:TV} {xv:Value} {lo hi mx:Option TV} {uU hiv JJ:Option Value} (hw:CA T t x lo hi mx o c K) (hx:VR c ρ F h x xv) (v7:Ki c ρ F h lo uU) (Gt:Ki c ρ F h hi hiv) (Er:Ki c ρ F h mx JJ):
 AU X c ρ F h o (fW E t xv uU hiv JJ) K:=by
 unfold CA at hw;split at hw
 ·rename_i hd;split at hw
  ·rename_i s;split at hw
   ·rename_i hh l e1 e2;obtain⟨⟨h1,h2,h3⟩,hK⟩:=hw;rcases Er with⟨_,rfl⟩|⟨_,_,e,_⟩
    ·refine gT.Wg H ⟨_,_,?_,.s rfl,hK⟩;rw[hx.cM.1];have a1:bS s.size s.size hiv=some hh.toNat:=dv (ic e1 Gt) om h3;have a2:bS 0 hh.toNat uU=some l.toNat:=dv (ic e2 v7) h1 om;unfold fW;rw[L.desc _ _ hd];simp only[Option.bind_some,aW,a1,a2];rfl
    ·cases e
   ·exact hw.elim
  ·exact hw.elim
 ·rename_i elem hd;split at hw
  ·rename_i n z es hn he;obtain⟨F',k1,k2,k3,k4,k5⟩:=Hy H he;obtain⟨fl,Dw⟩:=k5 xv hx;split at hw
   ·rename_i hz;simp only[Bool.or_eq_true,beq_iff]at hz;split at hw
    ·rcases Er with⟨_,rfl⟩|⟨_,_,e,_⟩
     ·split at hw
      ·rename_i hh l e1 e2;have plain:(0≤l∧l≤hh∧hh≤es.length)→K (.sl z ((es.take hh.toNat).drop l.toNat) false) (share1 o x) c .pure→AU X c ρ F h o (fW E t xv uU hiv none) K:=by
        rintro⟨h1,h2,h3⟩ hK
        obtain⟨x',q1,q2⟩:=sm L (l:=l.toNat) (hh:=hh.toNat) (m:=hh.toNat) hd hn hz Dw om om (Nat.le_refl _) false (uU:=uU) (hiv:=hiv) (JJ:=none) (fun h=>by cases h)
         (fun len cap e3 e4=>⟨cap,rfl,by subst e3;exact dv (ic e1 Gt) om h3,by subst e3;omega,fun h=>by cases h⟩) (by simp) (dv (ic e2 v7) h1 om)
        exact⟨_,x',_,F',q1,k1,k2,k3,k4,q2,hK⟩
       split at hw
       ·split at hw
        ·obtain⟨hc,hK⟩:=hw;split at hK
         ·rename_i S7;have S7:=beq_iff.1 S7;subst S7;obtain⟨h1,h2,h3⟩:=hc;have Wh:=Dw;cases Wh with
          |nil Wi=>
           subst Wi;simp only[List.length_nil]at h3;have e0:hh.toNat=0:=by simp at h3;omega
           have e9:l.toNat=0:=by omega
           have b1:=dv (y:=0) (ic e1 Gt) om (by simpa using h3);have b2:=dv (y:=0) (ic e2 v7) h1 (by simp at h3;omega);rw[e0]at b1;rw[e9]at b2;exact⟨.sl 0 [] true,.slice none 0 0,_,F',kc (L.desc _ _ hd) (L.size _ _ hn) (m:=0) (hh:=0) (l:=0) rfl b1 (by simp) b2,k1,k2,k3,k4,.nil rfl,hK⟩
          |sl q1 q2 q3=>omega
         ·exact plain hc hK
        ·rename_i n' LG;obtain⟨hc,hK⟩:=hw;rcases hK with hK|hK
         ·exact plain hc hK
         obtain⟨h1,h2,h3⟩:=hc;obtain⟨rfl,rfl,y,rfl⟩:x= .tk n'∧lo=none∧∃y,hi=some y:=by
          unfold UX at LG;split at LG
          ·cases LG;exact⟨rfl,rfl,_,rfl⟩
          ·cases LG
         have S8:uU=none:=by
          rcases v7 with⟨_,e⟩|⟨_,_,e,_⟩
          ·exact e
          ·cases e
         subst S8;have qB:l=0:=by simpa[JE]using e2.symm
         subst qB;obtain⟨w,hl⟩:∃w,look o n'=some (.arr z w es):=by
          unfold He at he;simp only at he;split at he
          ·rename_i w _ hl;cases he;exact⟨_,hl⟩
          ·cases he
         have a1:∀y:Nat,y=es.length→bS y y hiv=some hh.toNat:=fun y hy=>by subst hy;exact dv (ic e1 Gt) om h3
         obtain⟨Sm,hO⟩:=H.bR hl;have BX:n'<c:=by cases hx with|tk hn=>exact hn
         rcases hO.tk rfl hx with⟨h0,hb,rfl |⟨b,o',cs,q1,q2,zP,q4,rfl⟩⟩|⟨b,cap,hb,fk,rfl⟩
         ·have h0:es.length=0:=h0;have Ln:hh.toNat=0:=by omega
          refine⟨.pv n' hh.toNat,.slice none 0 0,o,F,kc (L.desc _ _ hd) (L.size _ _ hn) (m:=0) (hh:=0) (l:=0) rfl (by have:=a1 0 om;rwa [Ln]at this) (by simp) rfl,H,fun _ _ h=>h,fun _ h=>h,fun n y hl=>⟨y,hl,gz.refl y⟩,
           .pv BX rfl (fun b z len e=>by rw[hb]at e;cases e) (fun _ _=>.inl rfl),hK⟩
         ·have h0:es.length=0:=h0;have Ln:hh.toNat=0:=by omega
          have zP:0<z:=zP
          refine⟨.pv n' hh.toNat,_,o,F,gk (L.desc _ _ hd) (L.size _ _ hn) (z:=z) (m:=0) (hh:=0) (l:=0) om rfl (by have:=a1 0 om;rwa [Ln]at this) (by simp) rfl,H,fun _ _ h=>h,fun _ h=>h,fun n y hl=>⟨y,hl,gz.refl y⟩,
           .pv BX rfl (fun b z len e=>by rw[hb]at e;cases e) (fun z' iJ=>?_),hK⟩
          have Kk:z'=z:=by rw[hb]at iJ;cases iJ;rfl
          subst Kk;exact .inr ⟨_,_,_,q1,q2,zP,q4,rfl⟩
         ·have zP:0<z:=by
           cases hO with
           |nil bE=>rw[hb]at bE;cases bE
           |arr _ _ _ _ _ hz=>exact hz
          have hb:ρ n'=some (.arr b z es.length):=hb;have fk:es.length≤cap:=fk
          refine⟨.pv n' hh.toNat,_,o,F,gk (L.desc _ _ hd) (L.size _ _ hn) (z:=z) (m:=cap) (hh:=hh.toNat) (l:=0) om rfl (dv (ic e1 Gt) om h3) (by simp) rfl,H,fun _ _ h=>h,fun _ h=>h,fun n y hl=>⟨y,hl,gz.refl y⟩,
           .pv BX rfl (fun b1 z1 EB e=>?_) (fun _ e=>by rw[hb]at e;cases e),hK⟩
          rw[hb]at e;cases e;exact⟨cap,om,by simp⟩
       ·rename_i n' RJ;obtain⟨hc,hK⟩:=hw;rcases hK with hK|hK
        ·exact plain hc hK
        obtain⟨h1,h2,h3⟩:=hc;obtain⟨rfl,rfl⟩:x= .tk n'∧hi=none:=by
         unfold UW at RJ;split at RJ
         ·cases RJ;exact⟨rfl,rfl⟩
         ·cases RJ
        have S9:hiv=none:=by
         rcases Gt with⟨_,e⟩|⟨_,_,e,_⟩
         ·exact e
         ·cases e
        subst S9;have Wj:hh=es.length:=by simpa[JE]using e1.symm
        subst Wj;obtain⟨w,hl⟩:∃w,look o n'=some (.arr z w es):=by
         unfold He at he;simp only at he;split at he
         ·rename_i w _ hl;cases he;exact⟨_,hl⟩
         ·cases he
        have b3:∀y:Nat,l≤y→bS 0 y uU=some l.toNat:=fun y hy=>dv (ic e2 v7) h1 hy;obtain⟨Sm,hO⟩:=H.bR hl;have BX:n'<c:=by cases hx with|tk hn=>exact hn
        rcases hO.tk rfl hx with⟨h0,hb,rfl |⟨b,o',cs,_,_,zP,_,rfl⟩⟩|⟨b,cap,hb,fk,rfl⟩
        ·have h0:es.length=0:=h0;have qB:l.toNat=0:=by omega
         refine⟨.sv n' l.toNat,.slice none 0 0,o,F,kc (L.desc _ _ hd) (L.size _ _ hn) (m:=0) (hh:=0) (l:=0) rfl rfl rfl (by have:=b3 0 om;rwa [qB]at this),H,fun _ _ h=>h,fun _ h=>h,fun n y hl=>⟨y,hl,gz.refl y⟩,
          .sv BX rfl (fun b z len e=>by rw[hb]at e;cases e) (fun _ _=>.inl rfl),hK⟩
        ·have h0:es.length=0:=h0;have qB:l.toNat=0:=by omega
         have zP:0<z:=zP
         refine⟨.sv n' l.toNat,_,o,F,gk (L.desc _ _ hd) (L.size _ _ hn) (z:=z) (m:=0) (hh:=0) (l:=0) om rfl rfl rfl (by have:=b3 0 om;rwa [qB]at this),H,fun _ _ h=>h,fun _ h=>h,fun n y hl=>⟨y,hl,gz.refl y⟩,
          .sv BX rfl (fun b z len e=>by rw[hb]at e;cases e) (fun _ _=>.inr ⟨_,_,_,_,rfl⟩),hK⟩
        ·have zP:0<z:=by
          cases hO with
          |nil bE=>rw[hb]at bE;cases bE
          |arr _ _ _ _ _ hz=>exact hz
         have hb:ρ n'=some (.arr b z es.length):=hb;have fk:es.length≤cap:=fk
         refine⟨.sv n' l.toNat,_,o,F,gk (L.desc _ _ hd) (L.size _ _ hn) (z:=z) (m:=cap) (hh:=es.length) (l:=l.toNat) om rfl rfl rfl (b3 _ om),H,fun _ _ h=>h,fun _ h=>h,fun n y hl=>⟨y,hl,gz.refl y⟩,
          .sv BX rfl (fun b1 z1 EB e=>?_) (fun _ e=>by rw[hb]at e;cases e),hK⟩
         rw[hb]at e;cases e;cases Ta:Nat.beq cap l.toNat with
         |true=>
          have:=beq_iff.1 Ta;exact⟨_,_,rfl,fun bO=>by omega⟩
         |false=>exact⟨_,_,rfl,fun _=>Nat.zero_add _⟩
      ·exact hw.elim
     ·cases e
    ·rename_i m _;split at hw
     ·rename_i kk hh l m' e2 e3;obtain⟨⟨h1,h2,rfl,h3⟩,hK⟩:=hw;rcases Er with⟨e,_⟩|⟨y1,v1,e,rfl,pn⟩
      ·cases e
      ·cases e;rcases Gt with⟨e,_⟩|⟨y2,v2,e,rfl,EF⟩
       ·cases e
       ·cases e;have MU:∃k,v1= .int k hh:=by
         unfold Au at e3;split at e3
         ·cases e3;rw[pn.cM.1];exact⟨_,rfl⟩
         ·cases e3
        obtain⟨k',rfl⟩:=MU;rw[EF.cM.1]
        obtain⟨x',q1,q2⟩:=sm L (l:=l.toNat) (hh:=hh.toNat) (m:=hh.toNat) hd hn hz Dw om om (Nat.le_refl _) true (uU:=uU) (hiv:=some (.int kk hh)) (JJ:=some (.int k' hh)) (fun _=>rfl)
         (fun len cap e3 e4=>⟨hh.toNat,mW om (by subst e3;omega) k',mW om (by simp;omega) kk,Nat.le_refl _,fun _=>rfl⟩) rfl (dv (ic e2 v7) h1 om)
        exact⟨_,x',_,F',q1,k1,k2,k3,k4,q2,hK⟩
     ·exact hw.elim
   ·exact hw.elim
  ·exact hw.elim
 ·exact hw.elim
end
section
variable {T E:Env} {X:Cx} {ρ:Gh} {F:Nat→Prop} {o:Ob} {c:Nat} {af:AF} {f:Fr} {h:ab} {p:Oper} {K:OK}
theorem Fk {x:Value} (h:∀a,x≠ .agg a):x.cells= #[x]:=by
 cases x<;>first|rfl |exact absurd rfl (h _)
theorem y9 {x:Value} (h:ar x=true):∀a,x≠ .agg a:=by rintro a rfl;simp[ar]at h
theorem gU {v:TV} {x:Value} (hv:VR c ρ F h v x) (ho:okV v=true):cX c ρ F h (ay v) x.cells.toList:=by
 have one:(∀a,x≠ .agg a)→ay v=[v]→cX c ρ F h (ay v) x.cells.toList:=fun h1 h2=>by
  rw[h2,Fk h1];exact .cons hv .nil
 cases hv with
 |j=>simp[okV,we]at ho
 |s hp=>exact one (y9 hp) rfl
 |nil=>exact one (by rintro a e;cases e) rfl
 |sl=>exact one (by rintro a e;cases e) rfl
 |tk hn nJ ha h0=>exact one (by rintro a rfl;simp[E3]at nJ) rfl
 |ptr=>exact one (by rintro a e;cases e) rfl
 |ep=>exact one (by rintro a e;cases e) rfl
 |wp hn nJ ha h0=>exact one (by rintro a rfl;simp[OT]at nJ) rfl
 |mp=>exact one (by rintro a e;cases e) rfl
 |bg=>exact one (by rintro a e;cases e) rfl
 |sv=>simp[okV,we]at ho
 |pv=>simp[okV,we]at ho
 |agg hs ha=>exact⟨by simpa[ay,Value.cells]using hs,fun i t v h1 h2=>ha i t v h1 (by simpa[Value.cells]using h2)⟩
 |dH=>simp[okV,we]at ho
 |k9=>exact one (by rintro a e;cases e) rfl
 |de=>exact one (by rintro a e;cases e) rfl
theorem uV:∀{n:Nat} {l xs r:List TV} {l' GI:List Value},cB l n xs=some r→cX c ρ F h l l'→cX c ρ F h xs GI→∃r',cB l' n GI=some r'∧cX c ρ F h r r'
 |0,l,[],r,l',GI,hs,hl,hx=>by
  simp[cB]at hs;subst hs;rw[hx.bu];exact⟨l',by simp[cB],hl⟩
 |0,[],x::xs,r,l',GI,hs,hl,hx=>by simp[cB]at hs
 |0,y::l,x::xs,r,l',GI,hs,hl,hx=>by
  simp only[cB,Option.bind_eq_some_iff,Option.some.injEq]at hs;obtain⟨q,hq,rfl⟩:=hs;obtain⟨y',m,rfl,_,h2⟩:=hl.aG;obtain⟨x',k,rfl,h3,h4⟩:=hx.aG;obtain⟨r',h5,h6⟩:=uV hq h2 h4;exact⟨x'::r',by simp[cB,h5],.cons h3 h6⟩
 |n+1,[],xs,r,l',GI,hs,hl,hx=>by simp[cB]at hs
 |n+1,y::l,xs,r,l',GI,hs,hl,hx=>by
  simp only[cB,Option.bind_eq_some_iff,Option.some.injEq]at hs;obtain⟨q,hq,rfl⟩:=hs;obtain⟨y',m,rfl,h1,h2⟩:=hl.aG;obtain⟨r',h5,h6⟩:=uV hq h2 hx;exact⟨y'::r',by simp[cB,h5],.cons h1 h6⟩
theorem qZ {pT pE:Nat→Option (Nat×Nat)} (hp:∀i x,pT i=some x→pE i=some x):∀{ps:List (Nat×TV)} {zs cs:List TV} {zv:List Value} {pv:List (Nat×Value)},xe pT zs ps=some cs→cX c ρ F h zs zv→Kg c ρ F h ps pv→
 ∃cv,iW pE zv pv=some cv∧cX c ρ F h cs cv
 |[],zs,cs,zv,[],hf,hz,_=>by simp[xe]at hf;subst hf;exact⟨zv,rfl,hz⟩
 |[],zs,cs,zv,_::_,hf,hz,hq=>hq.elim
 |a::l,zs,cs,zv,[],hf,hz,hq=>hq.elim
 |a::l,zs,cs,zv,b::m,hf,hz,hq=>by
  obtain⟨e,hv,hr⟩:=hq;unfold xe at hf;split at hf
  ·rename_i q n gJ;split at hf
   ·rename_i hc;simp only[Bool.and_eq_true,beq_iff]at hc;have re:=gU hv hc.1;split at hf
    ·rename_i qJ gN;obtain⟨r',h1,h2⟩:=uV gN hz re;obtain⟨cv,h3,h4⟩:=qZ hp hf h2 hr;refine⟨cv,?_,h4⟩;obtain⟨i,x⟩:=b;simp only[iW];simp only at e;subst e;rw[hp _ _ gJ];simp only[Option.bind_some];have:x.cells.size=n:=by have:=re.1;simp only[Array.length_toList]at this;omega
     rw[this];simp[aW,h1,h3]
    ·cases hf
   ·cases hf
  ·cases hf
theorem Fl (L:bV T E) {t:TypeId} {ps:List (Nat×TV)} {pv:List (Nat×Value)} (hw:CC T t ps o c K) (hp:Kg c ρ F h ps pv):gT c ρ F h o (qF E t pv) K:=by
 unfold CC at hw;split at hw
 ·rename_i fields z hd hz;obtain⟨iJ,gJ⟩:=L.zero _ _ hz;split at hw
  ·rename_i zs iP hY;rw[Array.all_toList]at iP;split at hw
   ·rename_i cs hf;have RG:∀i x,oE T fields i=some x→oE E fields i=some x:=fun i x hx=>by
     unfold oE at hx ⊢;simp only[Option.bind_eq_some_iff]at hx ⊢;obtain⟨fd,h1,n,h2,h3⟩:=hx;exact⟨fd,h1,n,L.size _ _ h2,h3⟩
    obtain⟨cv,h1,h2⟩:=qZ RG hf (eQ gJ hY) hp;refine⟨_,_,?_,.fg (a:=cv.toArray) (by simpa using h2),hw⟩;unfold qF;rw[L.desc _ _ hd,iJ];simp only[Option.bind_some];have P7:(fields.all fun fd=>(E.size fd.type).isSome)=true:=by
     rw[Array.all_eq_true]at iP ⊢;intro i hi;have:=iP i hi;obtain⟨n,hn⟩:=Option.isSome_iff_exists.1 this;rw[L.size _ _ hn];rfl
    rw[P7];simp[aW,h1]
   ·exact hw.elim
  ·exact hw.elim
 ·rename_i len elem z hd hz;obtain⟨iJ,gJ⟩:=L.zero _ _ hz;split at hw
  ·rename_i n zs hn hY;split at hw
   ·rename_i cs hf;obtain⟨cv,h1,h2⟩:=qZ (pE:=fun i=>some (i*n,n)) (fun i x hx=>hx) hf (eQ gJ hY) hp;refine⟨_,_,?_,.fg (a:=cv.toArray) (by simpa using h2),hw⟩;unfold qF;rw[L.desc _ _ hd,iJ];simp only[Option.bind_some,L.size _ _ hn,h1]
   ·exact hw.elim
  ·exact hw.elim
 ·exact hw.elim
theorem CQ (L:bV T E) {s d:TypeId} {x v:Value} (hx:oh T s d x=some v):oh E s d x=some v:=by
 unfold oh at hx ⊢;simp only[Option.bind_eq_some_iff]at hx ⊢;obtain⟨q,h1,dd,h2,h3⟩:=hx;exact⟨q,L.desc _ _ h1,dd,L.desc _ _ h2,h3⟩
end
section
variable {T E:Env} {X:Cx} {ρ:Gh} {F:Nat→Prop} {o:Ob} {c:Nat} {af:AF} {f:Fr} {h:ab} {p:Oper} {K:OK}
theorem CS {v:Value} (hp:ar v=true) (hc:∀r,v≠ .chan r):fZ v v=true:=by
 cases v<;>simp[ar]at hp<;>first
  |(simp[fZ];done)
  |(exact absurd rfl (hc _))
  |(rename_i a;cases a<;>simp at hp<;>simp[fZ])
theorem fq {t:TV} {x:Value} (hv:VR c ρ F h t x) (he:Cv t=true):fZ x x=true:=by
 cases hv with
 |j=>simp[Cv]at he
 |s hp=>exact CS hp (by rintro r rfl;simp[Cv]at he)
 |nil=>simp[fZ]
 |sl=>simp[fZ]
 |tk hn nJ ha h0=>cases x<;>simp[E3]at nJ;simp[fZ]
 |ptr=>simp[fZ]
 |ep=>simp[fZ]
 |wp hn nJ ha h0=>cases x<;>simp[OT]at nJ;simp[fZ]
 |mp=>simp[fZ]
 |bg=>simp[Cv]at he
 |sv=>simp[Cv]at he
 |pv=>simp[Cv]at he
 |agg=>simp[Cv]at he
 |dH=>simp[Cv]at he
 |k9 pn=>
  rename_i t v v';cases v<;>simp[Cv]at he;rename_i w;cases w<;>simp at he;rw[pn.cM.1];simp[fZ]
 |de hs ha ht hk=>
  rename_i g x y a k;cases x<;>simp[Cv]at he;cases y<;>simp at he;simp at hs ht;simp[fZ,←hs,←ht]
theorem ri:∀{l:List TV} {m:List Value},cX c ρ F h l m→l.all Cv=true→dL m m=true
 |[],m,H,_=>by rw[H.bu];rfl
 |t::l,m,H,he=>by
  simp only[List.all_cons,Bool.and_eq_true]at he;obtain⟨v,m',rfl,h1,h2⟩:=H.aG;simp only[dL,Bool.and_eq_true];exact⟨fq h1 he.1,ri h2 he.2⟩
theorem za {c1:Nat} {fS:Gh} {l:List TV} {m:List Value} {v:VL} {q:RQ} {ρ':Gh} {o':Ob} {h':ab} (H:cX c1 fS F h l m) (BZ:dL m m=true→eK ρ F o h ρ' o' h' v (.rd q h)):eK ρ F o h ρ' o' h' (Hb l v) (.rd q h):=by
 unfold Hb;split
 ·rename_i he;exact BZ (ri H he)
 ·exact .bad
def gV (X:Cx) (c:Nat) (ρ:Gh) (F:Nat→Prop) (h:ab) (o:Ob) (q:RQ) (K:OK):Prop:=∃v x lg ρ' o' c',q.run h=some x∧Nx X ρ F o c h ρ' F o' c' h∧VR c' ρ' F h v x∧K v o' c' lg∧eK ρ F o h ρ' o' h lg (.rd q h)
theorem gV.B0 {q:RQ} (R:gV X c ρ F h o q K) (hp:aB E af p=none) (hq:ba E af p=some q):dG E X ρ F o c af h p K:=by
 obtain⟨v,x,lg,ρ',o',c',h1,h2,h3,h4,h5⟩:=R;refine⟨0,⟨x,h,.rd q h⟩,v,o',c',ρ',F,lg,fun n _=>?_,h4,h2,h3,h5⟩;unfold cV;rw[hp,hq];simp[h1]
theorem gV.same {q:RQ} (H:Mem X ρ F o c h) {v:TV} {x:Value} {lg:VL} (h1:q.run h=some x) (h2:VR c ρ F h v x) (h3:K v o c lg) (h4:eK ρ F o h ρ o h lg (.rd q h)):gV X c ρ F h o q K:=⟨v,x,lg,ρ,o,c,h1,.refl H,h2,h3,h4⟩
theorem rj:∀{l:List TV} {k:Nat},(ew l k).2=[]→(ew l k).1=l
 |[],_,_=>rfl
 |t::l,k,hn=>by
  cases t<;>first|(simp only[ew]at hn ⊢;rw[rj hn])|(simp[ew]at hn)
theorem jh {α:Type}:∀{l xs r:List α} {p:Nat},cB l p xs=some r→r=l.take p++(xs++(l.drop p).drop xs.length)
 |l,[],r,0,h=>by simp[cB]at h;subst h;simp
 |[],x::xs,r,0,h=>by simp[cB]at h
 |y::l,x::xs,r,0,h=>by
  simp only[cB,Option.bind_eq_some_iff,Option.some.injEq]at h;obtain⟨q,hq,rfl⟩:=h;have:=jh hq;simp only[List.take_zero,List.nil_append,List.drop_zero]at this;rw[this];simp
 |[],xs,r,p+1,h=>by simp[cB]at h
 |y::l,xs,r,p+1,h=>by
  simp only[cB,Option.bind_eq_some_iff,Option.some.injEq]at h;obtain⟨q,hq,rfl⟩:=h;rw[jh hq];simp
theorem xo:∀(l:List TV) (k:Nat),(ew l k).1.length=l.length
 |[],_=>rfl
 |t::l,k=>by cases t<;>simp[ew,xo l]
theorem AV (H:Mem X ρ F o c h) {S:Nat→Ft} (K0:MO X ρ F o c h S) {agg:Bool} {n p q m b:Nat} {e:List TV} {y:TO} {put:List TV→TO} {Se:Ft} {vs:List Value} {lg:VL} (hw:xc agg n p e o c lg put m K) (hl:look o m=some y) (hb:xm ρ m b) (se:lg= .jR m∨lg= .wx m p .j∧p=q∧ρ m=some (.cO b))
 (hc:b8 c ρ F h X.base Se e vs) (hr:n≤(e.drop p).length→M.ah h b q n=some ((vs.drop p).take n))
 (M0:∀c' ρ' e' S',(∀t v,VR c ρ F h t v→VR c' ρ' F h t v)→ρ' m=ρ m→e'.length=e.length→b8 c' ρ' F h X.base S' e' vs→∃S0,OR c' ρ' F h X.base m S0 (put e')∧∀R,Se.Perm (S'++R)→(S m).Perm (S0++R)):
 gV X c ρ F h o (.cells agg b q n) K:=by
 unfold xc at hw;split at hw
 ·exact hw.elim
 ·rename_i l ht;rw[aO]at ht;obtain⟨t1,rfl⟩:=ht;have DS:=hr t1;obtain⟨S1,S2,S3,hS,a1,a2,a3⟩:=hc.part p n;have X8:∀t v,VR 0 qR F h t v→fz t=true→VR c ρ F h t v:=fun t v hv hf=>hv.c6 hf;split at hw
  ·rename_i nC;split at hw
   ·rename_i v hv;obtain⟨hK,_⟩:=dm hw;obtain⟨Ss,ls,b1,b2,b3⟩:=a2.opened c;have qB:ls.length=0:=by rw[b2.l2,nC];rfl
    have hV:=b3 c ρ (fun _ _ h=>h) om (fun i q hq=>by
     have:=(List.getElem?_eq_some_iff.1 hq).1;omega)
    rw[rj nC]at hV;obtain⟨x,h6,h7⟩:=eT hv hV;have main:dL ((vs.drop p).take n) ((vs.drop p).take n)=true→eK ρ F o h ρ o h (SL v lg) (.rd (.cells agg b q n) h):=by
     intro he;have pl:eK ρ F o h ρ o h (.jR m) (.rd (.cells agg b q n) h):=.jR (.refl _) rfl hl hb ⟨_,DS,he⟩;rcases se with rfl |⟨rfl,rfl,Lh⟩
     ·exact pl
     have one:∀w,v=w→cF w=false→dr w=true→(∀cs,w≠ .agg cs)→(∀y,VR c ρ F h w y→jJ ρ w y)→eK ρ F o h ρ o h (.wx m p w) (.rd (.cells agg b p n) h):=by
      rintro w rfl _ _ yB OV;unfold dy at hv;split at hv
      ·cases hv;exact absurd rfl (yB _)
      ·rename_i l' w' heq;cases hv;rw[heq]at hV;obtain⟨y1,m1,e1,hy,BV⟩:=hV.aG;obtain rfl:=BV.bu;have Sp:n=1:=by
        have:=congrArg List.length heq;rw[List.length_take]at this;simp only[List.length_cons,List.length_nil]at this;omega
       subst Sp;rw[e1]at DS;exact .wx (.refl _) rfl hl Lh (OV _ hy) DS
      ·cases hv
     unfold SL;split
     ·rename_i m' p' v' heq;cases heq;split
      ·exact one _ rfl rfl rfl (by rintro cs e;cases e) fun y hy=>by cases hy with|mp hb=>exact .inl ⟨_,_,rfl,hb,rfl⟩
      ·exact one _ rfl rfl rfl (by rintro cs e;cases e) fun y hy=>by cases hy with|ptr hb=>exact .inr ⟨_,_,_,rfl,hb,rfl⟩
      ·exact pl
     ·rename_i aX;exact absurd rfl (aX _ _ _)
    exact gV.same H (by simp[RQ.run,DS,h6]) h7 hK (za hV main)
   ·exact hw.elim
  ·rename_i q0 new nC;split at hw
   ·rename_i e' v gN hv;obtain⟨hK,_⟩:=dm hw;have hA:∀ls:List Loc,∀t v,VR c ρ F h t v→VR (c+(new.length+1)) (ml ρ c ls) F h t v:=fun ls t v=>VR.mono om (fun n l hn h1=>by rwa [eR _ _ hn]at h1) (fun n b h1=>by rw[eR _ _ (H.names _ _ h1)];exact h1) (fun _ h=>h) (fun _ _ _ h=>h);obtain⟨Ss,ls,b1,b2,b3⟩:=a2.opened c;rw[nC]at b2;have wu:ls.length=new.length+1:=b2.l2;have hV:=b3 (c+(new.length+1)) (ml ρ c ls) (hA ls) om (fun i q hq=>by rw[uJ];exact hq);obtain⟨x,h6,h7⟩:=eT hv hV;have hlen:(ew ((e.drop p).take n) c).1.length=n:=by rw[xo,List.length_take];omega
    have zN:=jh gN;rw[hlen]at zN;have B7:=H.lt hl;have P8:b8 (c+(new.length+1)) (ml ρ c ls) F h X.base (S1++S3) e' vs:=by
     have k1:=a1.bf (c':=c+(new.length+1)) (ρ':=ml ρ c ls) (F':=F) (h':=h) (T:=fun _=>False) H.wf (fun _ _ _=>rfl) (fun _ h=>h) (fun _ _ _ h=>h) (hA ls) (fun _ _ hf=>hf.elim);have k3:=a3.bf (c':=c+(new.length+1)) (ρ':=ml ρ c ls) (F':=F) (h':=h) (T:=fun _=>False) H.wf (fun _ _ _=>rfl) (fun _ h=>h) (fun _ _ _ h=>h) (hA ls) (fun _ _ hf=>hf.elim);have:=k1.join ((b8.j9 (base:=X.base) hV).join k3);rw[List.take_append_drop,List.take_append_drop,←zN]at this;exact this
    obtain⟨S0,hO,hP⟩:=M0 _ _ e' (S1++S3) (hA ls) (eR _ _ B7) (cH gN).2.1 P8;have AW:(S m).Perm (S0++Ss.flatten):=hP _ (by
     rw[hS,←b1,List.append_assoc];exact List.perm_append_comm.append_left _)
    obtain⟨M,hk⟩:=H.opens K0 (y1:=put e') hl b2 AW (fun _=>hO);refine⟨v,x,_,_,_,_,by simp[RQ.run,DS,h6],⟨M,hk,Nat.le_refl _,fun _ h=>h,fun _ _ _ h=>h⟩,h7,hK,za hV fun he=>(show PN lg= .jR m by rcases se with rfl |⟨rfl,_⟩<;>rfl)▸ .jR (fun n' y' nH _=>⟨?_,eR _ _ (H.lt nH),fun b _=>⟨rfl,fun _ h=>h⟩⟩) rfl hl hb ⟨_,DS,he⟩⟩;rw[iB,qS b2,if_pos (H.lt nH)];simp only
    rw[dk];by_cases em:n'=m
    ·rw[if_pos em,hl];exact⟨_,rfl⟩
    ·rw[if_neg em];exact⟨_,nH⟩
   ·exact hw.elim
theorem M4 {z i p n b:Nat} {v1 v2 v3:List Value} (hr:h.rd b=some (v1++(v2++v3))) (h1:v1.length=i*z) (h2:n≤(v2.drop p).length):M.ah h b (i*z+p) n=some ((v2.drop p).take n):=by
 unfold M.ah;rw[hr];simp only[Option.bind_some,aO];rcases Nat.eq_zero_or_pos n with h0|h0
 ·subst h0;simp
 ·simp only[List.length_drop]at h2;have e:(v1++(v2++v3)).drop (i*z+p)=v2.drop p++v3:=by
   rw[←h1,List.drop_append,List.drop_eq_nil_of_le om,Nat.add_sub_cancel_left,List.nil_append,List.drop_append_of_le_length om]
  rw[e];refine⟨by rw[List.length_append,List.length_drop];omega,?_⟩;rw[List.take_append_of_le_length (by rw[List.length_drop];omega)]
theorem Hz (L:bV T E) (H:Mem X ρ F o c h) {t:TypeId} {a:TV} {av:Value} (hw:Hc T t a o c K) (ha:VR c ρ F h a av):
 ∃q,((gF av).bind fun p=>(dA E t).bind fun s=>some (.cells s.1 p.1 p.2 s.2))=some q∧gV X c ρ F h o q K:=by
 unfold Hc at hw;split at hw
 ·exact hw.elim
 ·rename_i agg n hs;have PH:=L.shape hs;obtain⟨S,K0⟩:=H.ex;split at hw
  ·rename_i m q;split at hw
   ·rename_i cs hl;have hO:=K0.bR m _ hl;generalize hS:S m=Sm at hO;cases hO with
    |cells hb hg wi hc=>
     rename_i Sq b aE cs';cases ha with
     |ptr bE=>
      rw[hb]at bE;cases bE;refine⟨.cells agg b q n,by simp[gF,PH],AV H K0 hw hl (.inl hb) (.inr ⟨rfl,rfl,hb⟩) hc (fun hn=>?_) fun c' ρ' e' S' hm dR hlen P8=>⟨_,.cells (dR.trans hb) hg wi P8,fun R hR=>by rw[hS];exact hR.cons _⟩⟩;unfold M.ah;rw[cJ (bp hg hg) wi (au hg)];simp only[Option.bind_some,aO,and_true];have:=hc.len;simp only[List.length_drop]at hn ⊢;omega
   ·exact hw.elim
  ·rename_i e q;split at hw
   ·rename_i l ht;split at hw
    ·rename_i v hv;obtain⟨hK,_⟩:=dm hw;cases ha with
     |ep h1 h2 h3 h4 h5=>
      rename_i b q0 cs;rw[aO]at ht;obtain⟨t1,rfl⟩:=ht;simp only[List.length_drop]at t1;have hlen:n≤(cs.drop (q0+q)).length∨n=0:=by
       simp only[List.length_drop];omega
      have hR:cX c ρ F h ((e.drop q).take n) ((cs.drop (q0+q)).take n):=by
       refine⟨by simp;omega,fun i t v r1 r2=>?_⟩;rw[List.getElem?_take]at r1 r2;split at r1
       ·rename_i bO;rw[if_pos bO]at r2;rw[List.getElem?_drop]at r1 r2;exact h5 (q+i) t v r1 (by rw[←r2];congr 1;omega)
       ·cases r1
      obtain⟨x,h6,h7⟩:=eT hv hR;have DS:M.ah h b (q0+q) n=some ((cs.drop (q0+q)).take n):=by
       unfold M.ah;rw[h2];simp only[Option.bind_some,aO,and_true];rcases hlen with h8|h8
       ·exact h8
       ·omega
      exact⟨.cells agg b (q0+q) n,by simp[gF,PH],gV.same H (by simp[RQ.run,DS,h6]) h7 hK (za hR fun he=>.DB (.refl _) rfl h1 ⟨_,_,_,_,rfl⟩ ⟨_,DS,he⟩)⟩
    ·exact hw.elim
   ·exact hw.elim
  ·rename_i m i q;split at hw
   ·rename_i z w es hl;obtain⟨e,he,hw⟩:=hw;split at hw
    ·rename_i l ht;split at hw
     ·rename_i v hv;obtain⟨hK,_⟩:=dm hw;obtain⟨b,z',l',hb,rfl⟩:=qY H hl rfl ha;obtain⟨Sm,hO⟩:=H.bR hl;cases hO with
      |nil bE hz=>rw[hb]at bE;cases bE
      |arr bE hg hf wi dc hz hlen jL fy hc hF=>
       rename_i f t0 ee aE cs;rw[hb]at bE;cases bE;have fj:=cJ hf wi (au hg);rw[aO]at ht;obtain⟨t1,rfl⟩:=ht;simp only[List.length_drop]at t1;have Gu:=jL e (List.mem_of_getElem? he);have hi:i<es.length:=(List.getElem?_eq_some_iff.1 he).1;have hle:(i+1)*z≤es.length*z:=Nat.mul_le_mul_right z hi;rw[Nat.add_mul]at hle;have hR:cX c ρ F h ((e.drop q).take n) ((cs.drop (i*z+q)).take n):=by
        refine⟨by simp;omega,fun j t v r1 r2=>?_⟩;rw[List.getElem?_take]at r1 r2;split at r1
        ·rename_i bO;rw[if_pos bO]at r2;rw[List.getElem?_drop]at r1 r2;exact hc i (q+j) e t v he r1 (by rw[←r2];congr 1;omega)
        ·cases r1
       obtain⟨x,h6,h7⟩:=eT hv hR;have DS:M.ah h b (i*z+q) n=some ((cs.drop (i*z+q)).take n):=by
        unfold M.ah;rw[fj];simp only[Option.bind_some,aO,and_true,List.length_drop];omega
       exact⟨.cells agg b (i*z+q) n,by simp[gF,PH],gV.same H (by simp[RQ.run,DS,h6]) h7 hK (za hR fun zN=>.jR (.refl _) rfl hl (.inr ⟨_,_,hb⟩) ⟨_,DS,zN⟩)⟩
     ·exact hw.elim
    ·exact hw.elim
   ·rename_i z es op hl;obtain⟨b,z',l',hb,rfl⟩:=qY H hl rfl ha;have hO:=K0.bR m _ hl;generalize hS:S m=Sm at hO;cases hO with
    |fi bE hz=>rw[hb]at bE;cases bE
    |cm bE hg hf wi dc hz hlen jL bL e7 hc=>
     rename_i Sq f t0 ee aE cs;rw[hb]at bE;cases bE;have fj:=cJ hf wi (au hg);have fc:=o8 bL;refine⟨.cells agg b (i*z+q) n,by simp[gF,PH],?_⟩
     -- a row that is there as it is
     have row:∀(EZ:List TV→List (Nat×List TV)) e,(bZ es op)[i]? =some e→(∀e',e'.length=z→(∀p∈EZ e',p.1<es.length∧p.2.length=z)∧bZ es (EZ e')=(bZ es op).set i e')→xc agg n q e o c (.jR m) (fun e'=>.cm z es (EZ e')) m K→gV X c ρ F h o (.cells agg b (i*z+q) n) K:=by
      intro EZ e Lu uw hw;obtain⟨dx,hY⟩:=pZ jL e7;have hi:i<(bZ es op).length:=(List.getElem?_eq_some_iff.1 Lu).1;have he:=hY e (List.mem_of_getElem? Lu);have jz:(bZ es op).set i e=bZ es op:=by
       refine List.ext_getElem? fun k=>?_;rw[List.getElem?_set];by_cases ek:i=k
       ·subst ek;rw[if_pos rfl,if_pos hi,Lu]
       ·rw[if_neg ek]
      rw[←jz]at hc;generalize bZ es op=rows at*
      obtain⟨S1,S2,S3,v1,v2,v3,rfl,rfl,a1,a2,a3⟩:=fF hY hi hc;have e1:v1.length=i*z:=by
       have h1:=a1.len;have:=(dI hY Lu).2;rw[Nat.add_mul]at this;rw[←h1,List.length_take];omega
      have e2:v2.length=z:=by rw[←a2.len];exact he
      refine AV H K0 hw hl (.inr ⟨_,_,hb⟩) (.inl rfl) a2 (fun hn=>M4 fj e1 (by simp only[List.length_drop]at hn ⊢;omega)) fun c' ρ' e' S' hm dR bY P8=>?_;have iJ:=uw e' (by rw[bY];exact he);have:=jn hY hi (a1.bf (T:=fun _=>False) H.wf (fun _ _ _=>rfl) (fun _ h=>h) (fun _ _ _ h=>h) hm (by simp)) P8 (a3.bf (T:=fun _=>False) H.wf (fun _ _ _=>rfl) (fun _ h=>h) (fun _ _ _ h=>h) hm (by simp));rw[←iJ.2]at this;refine⟨_,.cm (dR.trans hb) hg hf wi dc hz hlen jL bL iJ.1 this,fun R hR=>?_⟩;rw[hS];refine List.Perm.cons _ ?_;show List.Perm _ ((S1++(S'++S3))++R);rw[List.append_assoc,List.append_assoc]
      refine List.Perm.append_left S1 ((hR.append_right S3).trans ?_);rw[List.append_assoc];exact List.perm_append_comm.append_left _
     have dx:=(pZ jL e7).1;have P9:∀{e':List TV},i<es.length→e'.length=z→∀p∈(i,e')::op,p.1<es.length∧p.2.length=z:=fun h1 h2 p hp=>by
      rcases List.mem_cons.1 hp with rfl |hp
      ·exact⟨h1,h2⟩
      ·exact e7 p hp
     have Kl:∀{e':List TV},i<es.length→e'.length=z→∀p∈[(i,e')],p.1<es.length∧p.2.length=z:=fun h1 h2 p hp=>by
      simp only[List.mem_singleton]at hp;subst hp;exact⟨h1,h2⟩
     unfold DC at hw;split at hw
     ·obtain⟨e,he,hw⟩:=hw;exact row (fun e'=>[(i,e')]) e he (fun e' nH=>⟨Kl (List.getElem?_eq_some_iff.1 he).1 nH,rfl⟩) hw
     ·rename_i j ej;obtain⟨o1,o2⟩:=e7 (j,ej) (by simp);by_cases OX:i=j
      ·subst OX;exact row (fun e'=>[(i,e')]) ej (by show(es.set i ej)[i]? =_;rw[List.getElem?_set_self o1]) (fun e' nH=>⟨Kl o1 nH,by show es.set i e'=(es.set i ej).set i e';rw[List.set_set]⟩) (hw.1 rfl)
      ·obtain⟨e,he,hw⟩:=hw.2 OX;have Lu:(es.set j ej)[i]? =some e:=by rw[List.getElem?_set,if_neg (fun h=>OX h.symm)];exact he
       exact row (fun e'=>(i,e')::[(j,ej)]) e Lu (fun e' nH=>⟨P9 (List.getElem?_eq_some_iff.1 he).1 nH,rfl⟩) hw
     ·obtain⟨e,he,hw⟩:=hw;exact row (fun e'=>(i,e')::op) e he (fun e' nH=>⟨P9 (by rw[←dx];exact(List.getElem?_eq_some_iff.1 he).1) nH,rfl⟩) hw
   ·exact hw.elim
  ·exact hw.elim
theorem nO {kd:TypeDesc} {k:Value} {n:Nat} (hk:kindOk kd k n=true):(∃b,kd= .bool∧k= .bool b∧n=1)∨(∃s,kd= .string∧k= .string s∧n=2)∨(∃i x,kd= .int i∧k= .int i x∧n=fE i):=by
 unfold kindOk at hk;simp only[Bool.and_eq_true,beq_iff,aF]at hk;obtain⟨⟨h0,h1⟩,h2⟩:=hk;cases kd<;>simp[uB]at h1<;>try omega
 ·cases k<;>simp[aR]at h2<;>try omega
  ·exact .inl ⟨_,rfl,rfl,h1.symm⟩
  ·rename_i i x;subst h1;cases i<;>simp[fE]at h2
 ·rename_i i;cases k<;>simp[aR]at h2<;>try omega
  ·subst h1;cases i<;>simp[fE]at h2
  ·rename_i j x;have:i=j:=by subst h1;cases i<;>cases j<;>simp[fE]at h2<;>rfl
   subst this;exact .inr (.inr ⟨_,_,rfl,rfl,h1.symm⟩)
  ·subst h1;cases i<;>simp[fE]at h2
 ·cases k<;>simp[aR]at h2<;>try omega
  ·rename_i i x;subst h1;cases i<;>simp[fE]at h2
  ·exact .inr (.inl ⟨_,rfl,rfl,h1.symm⟩)
theorem ie {kd:TypeDesc} {k:Value} {n:Nat} (hk:kindOk kd k n=true):fV kd=true∧scalar k=true:=by
 rcases nO hk with⟨_,rfl,rfl,_⟩|⟨_,rfl,rfl,_⟩|⟨_,_,rfl,rfl,_⟩<;>exact⟨rfl,rfl⟩
theorem iD {kd:TypeDesc} {k k':Value} {n:Nat} (hk:kindOk kd k n=true) (l6:aR k'=n):Instr.sameNow kd k k'=some (ov k k'):=by
 rcases nO hk with⟨b,rfl,rfl,rfl⟩|⟨s,rfl,rfl,rfl⟩|⟨i,x,rfl,rfl,rfl⟩
 ·cases k'<;>simp[aR]at l6
  ·rfl
  ·rename_i j y;cases j<;>simp[fE]at l6
 ·cases k'<;>simp[aR]at l6
  ·rename_i j y;cases j<;>simp[fE]at l6
  ·rfl
 ·cases k'<;>simp[aR]at l6<;>try(cases i<;>simp[fE]at l6;done)
  rename_i j y;have:i=j:=by cases i<;>cases j<;>simp[fE]at l6<;>rfl
  subst this;simp[Instr.sameNow,ov]
def rk (c:Nat) (ρ:Gh) (F:Nat→Prop) (h:ab) (kd:Nat) (es:List (Value×TV)) (bC:List MapEntry):Prop:=
 es.length=bC.length∧∀(i:Nat) e e',es[i]? =some e→bC[i]? =some e'→e'.key=e.1∧(0<kd∧aR e.1=kd)∧Ap e.2=true∧VR c ρ F h e.2 e'.val
theorem rk.aG {kd:Nat} {e:Value×TV} {es:List (Value×TV)} {bC:List MapEntry} (H:rk c ρ F h kd (e::es) bC):∃e' m,bC=e'::m∧e'.key=e.1∧(0<kd∧aR e.1=kd)∧Ap e.2=true∧VR c ρ F h e.2 e'.val∧rk c ρ F h kd es m:=by
 match bC,H with
 |[],H=>have:=H.1;simp at this
 |e'::m,H=>
  obtain⟨h1,h2,h3,h4⟩:=H.2 0 e e' rfl rfl;exact⟨e',m,rfl,h1,h2,h3,h4,by simpa using H.1,fun i x x' q1 q2=>H.2 (i+1) x x' (by simpa using q1) (by simpa using q2)⟩
theorem rk.bu {kd:Nat} {bC:List MapEntry} (H:rk c ρ F h kd [] bC):bC=[]:=by have:=H.1;cases bC<;>simp_all
theorem qc {kd:TypeDesc} {k:Value} {n:Nat} (hk:kindOk kd k n=true):∀{es:List (Value×TV)} {bC:List MapEntry} (i:Nat),rk c ρ F h n es bC→
 (match fo es k with
 |some v=>∃j x,Instr.findNow kd k bC i=some (some (i+j,x))∧VR c ρ F h v x∧Ap v=true∧∃e,bC[j]? =some e∧e.val=x
 |none=>Instr.findNow kd k bC i=some none)
 |[],bC,i,H=>by rw[H.bu];rfl
 |e::es,bC,i,H=>by
  obtain⟨e',m,rfl,h1,h2,h3,h4,h5⟩:=H.aG;unfold fo Instr.findNow;rw[h1,iD hk h2.2];cases hq:ov k e.1 with
  |true=>exact⟨0,e'.val,rfl,h4,h3,e',rfl,rfl⟩
  |false=>
   have ih:=qc hk (i+1) h5;simp only
   split
   ·rename_i v hv;rw[hv]at ih;obtain⟨j,x,q1,q2,q3,e2,q4,q5⟩:=ih;exact⟨j+1,x,by rw[q1];congr 3;omega,q2,q3,e2,by simpa using q4,q5⟩
   ·rename_i hv;rw[hv]at ih;exact ih
theorem zb {t:TV} (hf:fz t=true):Cv t=true:=by
 unfold fz at hf;split at hf
 ·rename_i v;cases v<;>first|rfl |simp[oU]at hf
 ·rfl
 ·rfl
 ·rfl
 ·cases hf
theorem HA {t:TV} {x:Value} (hv:VR c ρ F h t x) (hf:Ap t=true):zB x x=true:=by
 have one:fZ x x=true→zB x x=true:=fun h=>by
  unfold zB;split
  ·simp[fZ]at h
  ·exact h
 unfold Ap at hf;split at hf
 ·obtain⟨a,rfl,h1⟩:=hv.dN;exact ri h1 (List.all_eq_true.2 fun t ht=>zb (List.all_eq_true.1 hf t ht))
 ·exact one (fq hv (zb hf))
theorem rk.refl {kd:Nat}:∀{es:List (Value×TV)} {bC:List MapEntry},rk c ρ F h kd es bC→tP bC bC=true
 |[],bC,H=>by rw[H.bu];rfl
 |e::es,bC,H=>by
  obtain⟨e',m,rfl,h1,h2,h3,h4,h5⟩:=H.aG;simp only[tP,Bool.and_eq_true];refine⟨⟨⟨?_,HA h4 h3⟩,by simp⟩,h5.refl⟩;rw[h1];have:=h2.2;cases he:e.1<;>rw[he]at this<;>simp[aR]at this<;>try omega
  all_goals simp[zB,fZ]
theorem uW {a b:ByteArray}:(a==b)=true↔a=b:=by
 cases a;cases b;show(Array.instBEq.beq _ _)=true↔_;simp
theorem HB {kd:TypeDesc} {k k':Value} {n:Nat} (hk:kindOk kd k n=true) (l6:aR k'=n) (h:ov k k'=true):k=k':=by
 rcases nO hk with⟨b,rfl,rfl,rfl⟩|⟨s,rfl,rfl,rfl⟩|⟨i,x,rfl,rfl,rfl⟩
 ·cases k'<;>simp[aR]at l6
  ·simpa[ov]using h
  ·rename_i j y;cases j<;>simp[fE]at l6
 ·cases k'<;>simp[aR]at l6
  ·rename_i j y;cases j<;>simp[fE]at l6
  ·simp only[ov]at h;rw[uW.1 h]
 ·cases k'<;>simp[aR]at l6<;>try(cases i<;>simp[fE]at l6;done)
  rename_i j y;have:i=j:=by cases i<;>cases j<;>simp[fE]at l6<;>rfl
  subst this;simpa[ov]using h
theorem qd {kd:TypeDesc} {k:Value} {n:Nat} (hk:kindOk kd k n=true):ov k k=true:=by
 rcases nO hk with⟨b,rfl,rfl,rfl⟩|⟨s,rfl,rfl,rfl⟩|⟨i,x,rfl,rfl,rfl⟩<;>simp[ov,uW]
theorem HC {a b c:Value} (h:ov a b=true):ov c b=ov c a:=by
 unfold ov at h;split at h
 ·have:=eq_of_beq h;subst this;cases c<;>rfl
 ·have:=eq_of_beq h;subst this;cases c<;>rfl
 ·have:=uW.1 h;subst this;cases c<;>rfl
 ·cases h
theorem gj.find {base:Nat} {kd:TypeDesc} {k:Value} {n:Nat} (hk:kindOk kd k n=true):∀{M:List (Value×TV)} {ev:List MapEntry} {S:Ft} (i:Nat),gj c ρ F h base n S M ev→
 (match fo M k with
 |some v=>∃j x S1 S2 S3,Instr.findNow kd k ev i=some (some (i+j,x))∧S=S1++(S2++S3)∧b8 c ρ F h base S2 (ay v) x.cells.toList∧cF v=eG x∧
  ∀c' ρ' v' Km,(∀e∈M,∀t∈ay e.2,kI t=true)→b8 c' ρ' F h base Km (ay v') x.cells.toList→cF v'=eG x→gj c' ρ' F h base n (S1++(Km++S3)) (c8 M k v') ev
 |none=>Instr.findNow kd k ev i=some none)
 |[],ev,S,i,H=>by cases H;rfl
 |e::es,ev,S,i,H=>by
  cases H with
  |cons ft hH ha hv hl=>
   rename_i Sa Sb e' m;unfold fo Instr.findNow;rw[ft,iD hk hH.2];cases hq:ov k e.1 with
   |true=>
    refine⟨0,e'.val,[],Sa,Sb,rfl,rfl,hv,ha,fun c' ρ' v' Km bL vZ tW=>?_⟩;unfold c8;rw[hq];have:=HB hk hH.2 hq;subst this;have:=gj.cons (e:=(e.1,v')) ft hH tW vZ (hl.conv (c':=c') (ρ':=ρ') fun e he=>bL e (List.mem_cons_of_mem _ he));exact this
   |false=>
    have ih:=gj.find hk (i+1) hl;simp only
    split
    ·rename_i v EF;rw[EF]at ih;obtain⟨j,x,S1,S2,S3,q1,q2,q3,q4,q5⟩:=ih;refine⟨j+1,x,Sa++S1,S2,S3,by rw[q1];congr 3;omega,by rw[q2,List.append_assoc],q3,q4,fun c' ρ' v' Km bL vZ tW=>?_⟩;unfold c8;rw[hq,List.append_assoc];exact .cons ft hH ha (hv.conv (bL e List.mem_cons_self)) (q5 c' ρ' v' Km (fun e he=>bL e (List.mem_cons_of_mem _ he)) vZ tW)
    ·rename_i EF;rw[EF]at ih;exact ih
theorem VR.dy {v:TV} {x:Value} (H:cX c ρ F h (ay v) x.cells.toList) (ha:cF v=eG x):VR c ρ F h v x:=by
 cases v with
 |agg cs=>
  cases x<;>simp[cF,eG]at ha;exact .fg H
 |_=>
  have hx:x.cells= #[x]:=by cases x<;>first|rfl |simp[cF,eG]at ha
  rw[hx]at H;exact H.head
theorem wG {b:Bool} {l:List TV} {v:TV} {x:Value} (ho:dy b l=some v) (H:cX c ρ F h l x.cells.toList) (ha:b=eG x):ay v=l∧cF v=b∧VR c ρ F h v x:=by
 unfold dy at ho;split at ho
 ·cases ho;refine⟨rfl,rfl,?_⟩;cases x<;>simp[eG]at ha;exact .fg H
 ·cases ho;have hx:x.cells= #[x]:=by cases x<;>first|rfl |simp[eG]at ha
  rw[hx]at H;have hv:=H.head;have hn:∀cs,v≠ .agg cs:=by
   rintro cs rfl;obtain⟨a,rfl,_⟩:=hv.dN;simp[eG]at ha
  refine⟨?_,?_,hv⟩
  ·cases v<;>first|rfl |exact absurd rfl (hn _)
  ·cases v<;>first|rfl |exact absurd rfl (hn _)
 ·cases ho
theorem HD {base:Nat} {S:Ft} {t:TV} {x:Value} (H:CR F h base S (.c t x)):fZ x x=true:=by
 cases H with
 |fz hf hv=>exact fq hv (zb hf)
 |own hl hv=>
  rename_i y l;cases y with
  |cells cs=>exact fq hv rfl
  |map kd es=>exact fq hv rfl
  |eC kd es op=>exact fq hv rfl
  |arr z w es=>exact fq hv rfl
  |cm z es op=>exact fq hv rfl
  |gK ks=>cases hv;simp[fZ]
theorem b8.dL {base:Nat} {S:Ft} {l:List TV} {m:List Value} (H:b8 c ρ F h base S l m):(∀t∈l,Cv t=true∨kI t=true)→dL m m=true:=by
 induction H with
 |nil=>intro _;rfl
 |vr hv _ ih=>
  rename_i t v l m _;intro hc;simp only[M.dL,Bool.and_eq_true];refine⟨?_,ih fun t ht=>hc t (List.mem_cons_of_mem _ ht)⟩;rcases hc t List.mem_cons_self with h1|h1
  ·exact fq hv h1
  ·unfold kI at h1;split at h1
   ·cases hv
   ·exact fq hv (zb h1)
 |cl hv _ ih=>
  intro hc;simp only[M.dL,Bool.and_eq_true];exact⟨HD hv,ih fun t ht=>hc t (List.mem_cons_of_mem _ ht)⟩
theorem Fm {x:Value} (h:dL x.cells.toList x.cells.toList=true):zB x x=true:=by
 cases x with
 |agg a=>exact h
 |_=>simpa[zB,dL,Value.cells]using h
theorem gj.refl {base kd:Nat} {S:Ft} {l:List (Value×TV)} {m:List MapEntry} (H:gj c ρ F h base kd S l m):(∀e∈l,∀t∈ay e.2,Cv t=true∨kI t=true)→tP m m=true:=by
 induction H with
 |nil=>intro _;rfl
 |cons hk hH ha hv _ ih=>
  rename_i e e' l m _;intro hc;simp only[tP,Bool.and_eq_true];refine⟨⟨⟨?_,Fm (hv.dL (hc _ List.mem_cons_self))⟩,by simp⟩,ih fun e he=>hc e (List.mem_cons_of_mem _ he)⟩;rw[hk];have:=hH.2;cases he:e.1<;>rw[he]at this<;>simp[aR]at this<;>try omega
  all_goals simp[zB,fZ]
theorem xp {k k':Value} {v:TV} (aX:ov k k'=false):∀{es:List (Value×TV)},fo (c8 es k' v) k=fo es k
 |[]=>by simp[c8,fo,aX]
 |e::es=>by
  unfold c8;cases hq:ov k' e.1 with
  |true=>
   have h2:ov k e.1=false:=(HC hq).trans aX;simp[fo,aX,h2]
  |false=>
   simp only[fo];rw[xp aX]
theorem gj.kinds {base kd:Nat} {S:Ft} {l:List (Value×TV)} {m:List MapEntry} (H:gj c ρ F h base kd S l m):∀e∈l,aR e.1=kd:=by
 induction H with
 |nil=>simp
 |cons hk hH ha hv _ ih=>
  intro e he;rcases List.mem_cons.1 he with rfl |he
  ·exact hH.2
  ·exact ih e he
theorem AX {k:Value} {v:TV}:∀{es:List (Value×TV)},(k,v)∈c8 es k v
 |[]=>by simp[c8]
 |e::es=>by
  unfold c8;cases ov k e.1 with
  |true=>simp
  |false=>exact List.mem_cons_of_mem _ AX
theorem uX {kd:TypeDesc} {k:Value} {n:Nat} {v:TV} (hk:kindOk kd k n=true):∀{es:List (Value×TV)},fo (c8 es k v) k=some v
 |[]=>by simp[c8,fo,qd hk]
 |e::es=>by
  unfold c8;cases hq:ov k e.1 with
  |true=>simp[fo,qd hk]
  |false=>simp[fo,hq,uX hk]
theorem Fo (H:Mem X ρ F o c h) {S:Nat→Ft} (K0:MO X ρ F o c h S) {v:TV} {x y:Value} {m b:Nat} {yo:TO} {S1 S2 S3:Ft} {put:TV→TO} {q:RQ} {wrap:TV→TV} (hw:CB v o c (.jR m) put m fun v o c lg=>K (wrap v) o c lg)
 (hl:look o m=some yo) (hS:S m=(b,true)::(S1++(S2++S3))) (hc:b8 c ρ F h X.base S2 (ay v) x.cells.toList) (ha:cF v=eG x) (bH:q.run h=some y) (EA:∀c ρ v,VR c ρ F h v x→VR c ρ F h (wrap v) y)
 (jV:eK ρ F o h ρ o h (.jR m) (.rd q h))
 (M0:∀c' ρ' v',ρ' m=ρ m→b8 c' ρ' F h X.base [] (ay v') x.cells.toList→cF v'=eG x→OR c' ρ' F h X.base m ((b,true)::(S1++S3)) (put v')):
 gV X c ρ F h o q K:=by
 unfold CB at hw;split at hw
 ·rename_i nC;obtain⟨Ss,ls,b1,b2,b3⟩:=hc.opened c;have qB:ls.length=0:=by rw[b2.l2,nC];rfl
  have hV:=b3 c ρ (fun _ _ h=>h) om (fun i q hq=>by
   have:=(List.getElem?_eq_some_iff.1 hq).1;omega)
  rw[rj nC]at hV;exact gV.same H bH (EA _ _ _ (VR.dy hV ha)) hw jV
 ·rename_i q0 new nC;split at hw
  ·rename_i v' hv;have hA:∀ls:List Loc,∀t v,VR c ρ F h t v→VR (c+(new.length+1)) (ml ρ c ls) F h t v:=fun ls t v=>VR.mono om (fun n l hn h1=>by rwa [eR _ _ hn]at h1) (fun n b h1=>by rw[eR _ _ (H.names _ _ h1)];exact h1) (fun _ h=>h) (fun _ _ _ h=>h);obtain⟨Ss,ls,b1,b2,b3⟩:=hc.opened c;rw[nC]at b2;have wu:ls.length=new.length+1:=b2.l2;have hV:=b3 (c+(new.length+1)) (ml ρ c ls) (hA ls) om (fun i q hq=>by rw[uJ];exact hq);obtain⟨e1,e2,e3⟩:=wG hv hV ha;have AW:(S m).Perm (((b,true)::(S1++S3))++Ss.flatten):=by
    rw[hS,←b1];refine List.Perm.cons _ ?_;show List.Perm _ ((S1++S3)++S2);rw[List.append_assoc];exact List.perm_append_comm.append_left _
   obtain⟨M,hk⟩:=H.opens K0 (y1:=put v') hl b2 AW (fun _=>M0 _ _ v' (eR _ _ (H.lt hl)) (by rw[e1];exact b8.j9 hV) (e2.trans ha));cases jV with
   |jR hr hh zG qA Kn=>
    refine⟨_,_,_,_,_,_,bH,⟨M,hk,Nat.le_refl _,fun _ h=>h,fun _ _ _ h=>h⟩,EA _ _ _ e3,hw,.jR (fun n' y' nH _=>⟨?_,eR _ _ (H.lt nH),fun b _=>⟨rfl,fun _ h=>h⟩⟩) rfl hl qA Kn⟩;rw[iB,qS b2,if_pos (H.lt nH)];simp only
    rw[dk];by_cases em:n'=m
    ·rw[if_pos em,hl];exact⟨_,rfl⟩
    ·rw[if_neg em];exact⟨_,nH⟩
  ·exact hw.elim
theorem CT (L:bV T E) (H:Mem X ρ F o c h) {t:TypeId} {m k:TV} {ok:Bool} {mv kv:Value} (hw:yL T t m k ok o c K) (hm:VR c ρ F h m mv) (hk:VR c ρ F h k kv):
 (mv= .map none∧gT c ρ F h o ((E.desc t).bind fun d=>(match(generalizing:=false) d,mv with
  | .map kt elem,.map none=>(E.desc kt).bind fun kd=>(E.zero elem).bind fun z=>aW (fV kd&&scalar kv&&dz z) (some (bif ok then .tuple #[z,.bool false]else z))
  |_,_=>none)) K)∨
 (∃r,mv= .map (some r)∧∃q,((E.desc t).bind fun d=>(match(generalizing:=false) d,mv with
  | .map kt elem,.map (some r)=>(E.desc kt).bind fun kd=>(E.zero elem).bind fun z=>aW (fV kd&&scalar kv&&dz z) (some (RQ.look r kd kv z ok))
  |_,_=>none))=some q∧gV X c ρ F h o q K):=by
 unfold yL at hw;split at hw
 ·rename_i kt elem hd;split at hw
  ·rename_i kd z wH hH hz;obtain⟨iJ,gJ⟩:=L.zero _ _ hz;rw[hk.cM.1]
   have hq:∀b,kindOk kd wH (uB kd)=true→((E.desc t).bind fun d=>(match(generalizing:=false) d,Value.map (some b)with
    | .map kt elem,.map (some r)=>(E.desc kt).bind fun kd=>(E.zero elem).bind fun z=>aW (fV kd&&scalar wH&&dz z) (some (RQ.look r kd wH z ok))
    |_,_=>none))=some (RQ.look b kd wH z ok):=by
    intro b ji;obtain⟨zJ,Fp⟩:=ie ji;rw[L.desc _ _ hd];simp only[Option.bind_some,L.desc _ _ hH,iJ,zJ,Fp,gJ,Bool.and_self,aW]
   have G6:∀{n},kindOk kd wH n=true→kindOk kd wH (uB kd)=true:=fun {n} h=>by
    have h0:=h;unfold kindOk at h0 ⊢;simp only[Bool.and_eq_true,beq_iff]at h0 ⊢;obtain⟨⟨q1,q2⟩,q3⟩:=h0;subst q2;exact⟨⟨q1,trivial⟩,q3⟩
   split at hw
   ·rename_i n;right;split at hw
    ·rename_i kn es hl;split at hw
     ·rename_i ji;obtain⟨r,hr,hw⟩:=hw;obtain⟨Sm,hO⟩:=H.bR hl;cases hO with
      |map hb hg hlen hc bA=>
       rename_i b clock bC;have hE:rk c ρ F h kn es bC:=⟨hlen,hc⟩;cases hm with
       |mp bE=>
        rw[hb]at bE;cases bE;refine⟨b,rfl,_,hq b (G6 ji),?_⟩;have zc:dB h b=some (bC,clock):=by unfold dB;rw[hg]
        have jV:eK ρ F o h ρ o h (.jR n) (.rd (RQ.look b kd wH z ok) h):=.jR (.refl _) rfl hl (.inl hb) ⟨_,zc,hE.refl⟩;have hf:=qc ji 0 hE;rw[hr]at hf;cases r with
        |some v=>
         obtain⟨j,x,q1,q2,_⟩:=hf;simp only at hw;cases ok with
         |true=>exact gV.same H (by simp[RQ.run,zc,iK,q1]) (.gi (.cons q2 (.cons (.s rfl) .nil))) hw jV
         |false=>exact gV.same H (by simp[RQ.run,zc,iK,q1]) q2 hw jV
        |none=>
         simp only at hw hf;cases ok with
         |true=>exact gV.same H (by simp[RQ.run,zc,iK,hf]) (.gi (.cons (o5 gJ) (.cons (.s rfl) .nil))) hw jV
         |false=>exact gV.same H (by simp[RQ.run,zc,iK,hf]) (o5 gJ) hw jV
     ·exact hw.elim
    ·rename_i kn es op hl;split at hw
     ·rename_i ji;obtain⟨S,K0⟩:=H.ex;have hO:=K0.bR n _ hl;generalize hS:S n=Sm at hO;cases hO with
      |eC hb hg bL hc bA=>
       rename_i Sq b clock ev;cases hm with
       |mp bE=>
        rw[hb]at bE;cases bE;refine⟨b,rfl,_,hq b (G6 ji),?_⟩;have zc:dB h b=some (ev,clock):=by unfold dB;rw[hg]
        have Qa:∀{M:List (Value×TV)} {S0:Ft} {lg:VL},gj c ρ F h X.base kn S0 M ev→fo M wH=none→eK ρ F o h ρ o h lg (.rd (RQ.look b kd wH z ok) h)→K (Hf ok (cT z) false) o c lg→gV X c ρ F h o (RQ.look b kd wH z ok) K:=by
         intro M S0 lg hE zH jV hw;have hf:=hE.find ji 0;rw[zH]at hf;simp only at hf;cases ok with
         |true=>exact gV.same H (by simp[RQ.run,zc,iK,hf]) (.gi (.cons (o5 gJ) (.cons (.s rfl) .nil))) hw jV
         |false=>exact gV.same H (by simp[RQ.run,zc,iK,hf]) (o5 gJ) hw jV
        have met:∀{M:List (Value×TV)} {S0:Ft} {lg:VL} {v:TV},gj c ρ F h X.base kn S0 M ev→fo M wH=some v→(ay v).all dr=true→eK ρ F o h ρ o h lg (.rd (RQ.look b kd wH z ok) h)→K (Hf ok v true) o c lg→gV X c ρ F h o (RQ.look b kd wH z ok) K:=by
         intro M S0 lg v hE hv hp jV hw;have hf:=hE.find ji 0;rw[hv]at hf;obtain⟨j,x,S1,S2,S3,q1,q2,q3,q4,_⟩:=hf;obtain⟨hV,_⟩:=q3.OU (fun t v hv hf=>hv.c6 hf) hp;have hx:=VR.dy hV q4;cases ok with
         |true=>exact gV.same H (by simp[RQ.run,zc,iK,q1]) (.gi (.cons hx (.cons (.s rfl) .nil))) hw jV
         |false=>exact gV.same H (by simp[RQ.run,zc,iK,q1]) hx hw jV
        split at hw
        ·obtain⟨r,hr,hw⟩:=hw;have hE:gj c ρ F h X.base kn Sq es ev:=hc;have jV:eK ρ F o h ρ o h (.jR n) (.rd (RQ.look b kd wH z ok) h):=.jR (.refl _) rfl hl (.inl hb) ⟨_,zc,hE.refl fun e he t ht=>.inr (bL e he t ht)⟩;cases r with
         |none=>simp only at hw;exact Qa hE hr jV hw
         |some v=>
          simp only at hw;have hf:=hE.find ji 0;rw[hr]at hf;obtain⟨j,x,S1,S2,S3,q1,q2,q3,q4,q5⟩:=hf;refine Fo H K0 (x:=x) (y:=bif ok then .tuple #[x,.bool true]else x) (wrap:=fun v=>Hf ok v true) hw hl (by rw[hS,q2]) q3 q4 (by simp[RQ.run,zc,iK,q1]) (fun c ρ v hv=>?_) jV fun c' ρ' v' dR vZ tW=>?_
          ·cases ok with
           |true=>exact .gi (.cons hv (.cons (.s rfl) .nil))
           |false=>exact hv
          ·exact .eC (dR.trans hb) hg bL (q5 c' ρ' v' [] bL vZ tW) bA
        ·rename_i k' w;obtain⟨RL,Tb⟩:=hw;have hE:gj c ρ F h X.base kn Sq (c8 es k' w) ev:=hc;have jV:eK ρ F o h ρ o h (Hb (ay w) (.jR n)) (.rd (RQ.look b kd wH z ok) h):=by
          unfold Hb;split
          ·rename_i he;refine .jR (.refl _) rfl hl (.inl hb) ⟨_,zc,hE.refl fun e zN t ht=>?_⟩;rcases uK zN with rfl |h1
           ·exact .inl (List.all_eq_true.1 he t ht)
           ·exact .inr (bL e h1 t ht)
          ·exact .bad
         by_cases ek:wH=k'
         ·subst ek;have hv:=uX (v:=w) (es:=es) ji;have hf:=hE.find ji 0;rw[hv]at hf;obtain⟨j,x,S1,S2,S3,q1,q2,q3,q4,_⟩:=hf;exact met hE hv (RL rfl).1 jV (RL rfl).2
         ·obtain⟨r,hr,hw⟩:=Tb ek;have aX:ov wH k'=false:=by
           cases hq:ov wH k' with
           |false=>rfl
           |true=>exact absurd (HB ji (hE.kinds _ AX) hq) ek
          have:=xp (v:=w) (es:=es) aX;cases r with
          |none=>simp only at hw;exact Qa hE (this.trans hr) jV hw
          |some v=>simp only at hw;exact met hE (this.trans hr) hw.1 jV hw.2
        ·exact hw.elim
     ·exact hw.elim
    ·exact hw.elim
   ·left;split at hw
    ·rename_i ji;obtain⟨zJ,Fp⟩:=ie ji;have RM:=hm.cM.1;subst RM;refine⟨rfl,?_⟩
     have hq:∀y:Value,(bif ok then Value.tuple #[z,.bool false]else z)=y→((E.desc t).bind fun d=>(match d,Value.map none with
            | .map kt elem,.map none=>(E.desc kt).bind fun kd=>(E.zero elem).bind fun z=>aW (fV kd&&scalar wH&&dz z) (some (bif ok then .tuple #[z,.bool false]else z))
            |_,_=>none))=some y:=by
      rintro y rfl;rw[L.desc _ _ hd];simp only[Option.bind_some,L.desc _ _ hH,iJ,zJ,Fp,gJ,Bool.and_self,aW]
     cases ok with
     |true=>exact⟨_,_,hq _ rfl,.gi (.cons (o5 gJ) (.cons (.s rfl) .nil)),hw⟩
     |false=>exact⟨_,_,hq _ rfl,o5 gJ,hw⟩
    ·exact hw.elim
   ·exact hw.elim
  ·exact hw.elim
 ·exact hw.elim
end
section
variable {T E:Env} {X:Cx} {ρ:Gh} {F:Nat→Prop} {o:Ob} {c:Nat} {af:AF} {f:Fr} {h:ab} {p:Oper} {K:OK}
def Tc:Option TO→Option (Nat×List (List TV))
 |some (.arr z _ es)=>some (z,es)
 |_=>none
theorem CU (o:Ob) (m n:Nat):Tc (look (gQ o m) n)=Tc (look o n):=by
 cases hm:look o m with
 |none=>unfold gQ;rw[hm]
 |some y=>
  cases y with
  |arr z w es=>
   unfold gQ;rw[hm];simp only
   rw[dk];by_cases e:n=m
   ·subst e;rw[if_pos rfl,hm];rfl
   ·rw[if_neg e]
  |_=>unfold gQ;rw[hm]
theorem HE (o:Ob) (n:Nat):cA o (.tk n)=(Tc (look o n)).map fun p=>.sl p.1 p.2 false:=by
 show(match look o n with|some (.arr z _ es)=>some (TV.sl z es false)|_=>none)=_;cases look o n with
 |none=>rfl
 |some y=>cases y<;>rfl
theorem CV (o:Ob) (m:Nat) (t:TV):cA (gQ o m) t=cA o t:=by
 cases t with
 |tk n=>rw[HE,HE,CU]
 |k9 t v=>cases v<;>try rfl
          rename_i w;cases w<;>rfl
 |de g a k=>cases a<;>cases k<;>rfl
 |_=>rfl
theorem uY (o:Ob) (v t:TV):cA (share1 o v) t=cA o t:=by
 cases v<;>try rfl
 exact CV _ _ _
theorem sn (o:Ob) (v:TV):∀l,mQ (share1 o v) l=mQ o l
 |[]=>rfl
 |t::l=>by simp only[mQ,uY,sn o v l]
theorem HF {t t':TV} (hf:cA o t=some t'):fz t'=true:=by
 unfold cA at hf;split at hf
 ·split at hf
  ·rename_i hp;cases hf;exact hp
  ·cases hf
 ·cases hf;rfl
 ·split at hf
  ·cases hf;rfl
  ·cases hf
 ·cases hf;rfl
 ·cases hf;rfl
 ·cases hf
theorem tA:∀{l l':List TV},mQ o l=some l'→(∀t∈l',fz t=true)∧l'.length=l.length
 |[],l',hf=>by simp[mQ]at hf;subst hf;exact⟨by simp,rfl⟩
 |t::l,l',hf=>by
  unfold mQ at hf;split at hf
  ·rename_i v' hv;split at hf
   ·rename_i l2 hl;cases hf;obtain⟨h1,h2⟩:=tA hl;refine⟨fun t ht=>?_,by simp[h2]⟩;rcases List.mem_cons.1 ht with rfl |ht
    ·exact HF hv
    ·exact h1 t ht
   ·cases hf
  ·cases hf
structure mX (X:Cx) (ρ:Gh) (c:Nat) (h:ab) (F:Nat→Prop) (o:Ob) (F':Nat→Prop) (o':Ob):Prop where
 mem:Mem X ρ F' o' c h
 bf:∀t x,VR c ρ F h t x→VR c ρ F' h t x
 FF:∀b,F b→F' b
 wk:∀n y,look o n=some y→∃y',look o' n=some y'∧gz y y'
theorem mX.refl (H:Mem X ρ F o c h):mX X ρ c h F o F o:=⟨H,fun _ _ h=>h,fun _ h=>h,fun _ y hl=>⟨y,hl,gz.refl y⟩⟩
theorem mX.trans {F1 F2:Nat→Prop} {o1 o2:Ob} (A:mX X ρ c h F o F1 o1) (B:mX X ρ c h F1 o1 F2 o2):mX X ρ c h F o F2 o2:=
 ⟨B.mem,fun t x hx=>B.bf t x (A.bf t x hx),fun b hb=>B.FF b (A.FF b hb),fun n y hl=>by
  obtain⟨y1,h1,h2⟩:=A.wk n y hl;obtain⟨y2,h3,h4⟩:=B.wk n y1 h1;exact⟨y2,h3,h2.trans h4⟩⟩
theorem Fq (H:Mem X ρ F o c h) (v:TV):∃F',mX X ρ c h F o F' (share1 o v)∧∀v' x,cA o v=some v'→VR c ρ F h v x→VR c ρ F' h v' x:=by
 cases v with
 |tk n=>
  obtain⟨F',h1,h2,h3,h4⟩:=H.share n;refine⟨F',⟨h1,h2,h3,mV o n⟩,fun v' x hf hx=>?_⟩;unfold cA at hf;simp only at hf;split at hf
  ·rename_i z w es hl;cases hf;exact h4 _ _ _ _ hl hx
  ·cases hf
 |sl z es fl=>
  refine⟨F,.refl H,fun v' x hf hx=>?_⟩;simp only[cA,Option.some.injEq]at hf;subst hf;cases hx with
  |nil he=>exact .nil he
  |sl h1 h2 h3 h4 h5 h6 h7 h8 h9 Td=>exact .sl h1 h2 h3 h4 h5 (fun h=>by cases h) h7 h8 h9 Td
 |s w=>
  refine⟨F,.refl H,fun v' x hf hx=>?_⟩;unfold cA at hf;simp only at hf;split at hf
  ·cases hf;exact hx
  ·cases hf
 |k9 t w=>
  refine⟨F,.refl H,fun v' x hf hx=>?_⟩;unfold cA at hf;split at hf<;>simp_all
  all_goals(first|(obtain⟨rfl,rfl⟩:= ‹_∧_›;subst hf;exact hx)|skip)
 |de g a k=>
  refine⟨F,.refl H,fun v' x hf hx=>?_⟩;unfold cA at hf;split at hf<;>simp_all
  all_goals(first|(obtain⟨rfl,rfl,rfl⟩:= ‹_∧_∧_›;subst hf;exact hx)|skip)
 |_=>exact⟨F,.refl H,fun v' x hf hx=>by simp[cA]at hf⟩
theorem nP:∀(l:List TV) {F:Nat→Prop} {o:Ob},Mem X ρ F o c h→∃F',mX X ρ c h F o F' (shares o l)∧∀l' m,mQ o l=some l'→cX c ρ F h l m→cX c ρ F' h l' m
 |[],F,o,H=>⟨F,.refl H,fun l' m hf hm=>by simp[mQ]at hf;subst hf;exact hm⟩
 |v::l,F,o,H=>by
  obtain⟨F1,A,a⟩:=Fq H v;obtain⟨F2,B,b⟩:=nP l A.mem;refine⟨F2,A.trans B,fun l' m hf hm=>?_⟩;unfold mQ at hf;split at hf
  ·rename_i v' hv;split at hf
   ·rename_i l2 hl;cases hf;obtain⟨x,m',rfl,h1,h2⟩:=hm.aG;exact .cons (B.bf _ _ (a v' x hv h1)) (b l2 m' (by rw[sn];exact hl) (h2.sj A.bf))
   ·cases hf
  ·cases hf
theorem Ko (H:Mem X ρ F o c h) (v:TV) (ho:okV v=true):∃F',mX X ρ c h F o F' (shares o (ay v))∧∀v' x,Ha o v=some v'→VR c ρ F h v x→VR c ρ F' h v' x∧Ap v'=true:=by
 obtain⟨F',A,a⟩:=nP (ay v) H;refine⟨F',A,fun v' x hf hx=>?_⟩;have one:(∀cs,v≠ .agg cs)→VR c ρ F' h v' x∧Ap v'=true:=fun yB=>by
  have pn:ay v=[v]:=by cases v<;>first|rfl |exact absurd rfl (yB _)
  have EF:Ha o v=cA o v:=by cases v<;>first|rfl |exact absurd rfl (yB _)
  rw[EF]at hf;have fy:=HF hf;rw[pn]at a;have:=a [v'] [x] (by simp[mQ,hf]) (.cons hx .nil);refine⟨this.head,?_⟩;cases v'<;>simp[fz]at fy<;>simp[Ap,fz,fy]
 cases v with
 |agg cs=>
  obtain⟨q,rfl,h1⟩:=hx.dN;simp only[Ha]at hf;split at hf
  ·rename_i cs' hc;cases hf;refine⟨.fg (a cs' q.toList hc h1),?_⟩;simp only[Ap];exact List.all_eq_true.2 (tA hc).1
  ·cases hf
 |_=>exact one (by intro cs e;cases e)
theorem Mem.zd (H:Mem X ρ F o c h) {S:Nat→Ft} (K:MO X ρ F o c h S) {n b:Nat} {y:TO} (hl:look o n=some y) (hb:xm ρ n b):b<h.size∧hd h b∈cu (S n):=by
 rcases(K.bR n y hl).block with⟨b',o',h1,h2,h3,h4⟩|⟨b',z,len,cs,f,t0,ee,c0,t1,tS,h1,h2,h3,h4⟩|⟨z,h1⟩
 ·rcases hb with hb|⟨z,l,hb⟩<;>rw[h1]at hb<;>cases hb
  exact⟨H.wf.lt h2,by rw[h3];exact h4⟩
 ·rcases hb with hb|⟨z,l,hb⟩<;>rw[h1]at hb<;>cases hb
  exact⟨H.wf.lt h2,by rw[bG h2];exact h4⟩
 ·rcases hb with hb|⟨z,l,hb⟩<;>rw[h1]at hb<;>cases hb
theorem Mem.uZ (H:Mem X ρ F o c h) {n b:Nat} {y:TO} (hl:look o n=some y) (hb:xm ρ n b):b<h.size:=by
 obtain⟨S,K⟩:=H.ex;exact(H.zd K hl hb).1
theorem dG.alloc {F1:Nat→Prop} {o1:Ob} (H:Mem X ρ F o c h) (S:mX X ρ c h F o F1 o1) {md:Made} {hd:oG} {y:TO} {l:Loc} {v:TV} (hp:aB E af p=none) (hq:ba E af p=none) (ha:aP E af p=some (md,hd))
 (hM:Mem X (bP ρ c (some l)) F1 ((c,y)::o1) (c+1) (h.push (md.obj h.size))) (hk:∀t x,VR c ρ F1 h t x→VR (c+1) (bP ρ c (some l)) F1 (h.push (md.obj h.size)) t x)
 (hv:VR (c+1) (bP ρ c (some l)) F1 (h.push (md.obj h.size)) v (hd.val h.size)) (hK:K v ((c,y)::o1) (c+1) .alloc):dG E X ρ F o c af h p K:=by
 refine⟨0,⟨hd.val h.size,h.push (md.obj h.size),.alloc h (h.push (md.obj h.size))⟩,v,_,_,_,F1,.alloc,fun n _=>?_,hK,⟨hM,fun t x hx=>hk t x (S.bf t x hx),by rw[ab.size_push];omega,S.FF,fun b cs hb hr=>by rw[cL H.wf.le _ (H.CE hb)];exact hr⟩,hv,
  .alloc fun n y' hl _=>⟨?_,?_,fun b hb=>?_⟩⟩
 ·unfold cV;rw[hp,hq,ha]
 ·have:=H.lt hl;rw[aD,if_neg om];obtain⟨y2,q1,_⟩:=S.wk n y' hl;exact⟨y2,q1⟩
 ·have:=H.lt hl;rw[aK _ _ om]
 ·have:=H.uZ hl hb;exact⟨by rw[ab.ai,if_neg om],fun cs hr=>by rw[cL H.wf.le _ this];exact hr⟩
end
section
variable {T E:Env} {X:Cx} {ρ:Gh} {F:Nat→Prop} {o:Ob} {c:Nat} {af:AF} {f:Fr} {h:ab} {p:Oper} {K:OK}
theorem rq (H:Mem X ρ F o c h) {cs:List TV} {cv:List Value} (hc:cX c ρ F h cs cv) (hp:aB E af p=none) (hq:ba E af p=none) (ha:aP E af p=some (.cells cv,.ptr)) (hK:K (.ptr c 0) ((c,.cells cs)::o) (c+1) .alloc):dG E X ρ F o c af h p K:=by
 obtain⟨h1,h2⟩:=H.Hj hc;exact dG.alloc H (.refl H) (md:=.cells cv) (hd:=.ptr) hp hq ha h1 h2 (.ptr (aC _ _ _)) hK
theorem Kp (H:Mem X ρ F o c h) (kd:Nat) (hp:aB E af p=none) (hq:ba E af p=none) (ha:aP E af p=some (.map,.map)) (hK:K (.mp c) ((c,.map kd [])::o) (c+1) .alloc):dG E X ρ F o c af h p K:=by
 obtain⟨h1,h2⟩:=H.ML kd;exact dG.alloc H (.refl H) (md:=.map) (hd:=.map) hp hq ha h1 h2 (.mp (aC _ _ _)) hK
theorem DT {F1:Nat→Prop} {o1:Ob} (H:Mem X ρ F o c h) (S:mX X ρ c h F o F1 o1) {z cap:Nat} {es:List (List TV)} {cv:List Value} (hE:ER c ρ F1 h z es cv) (hz:0<z) (fk:es.length≤cap)
 (hp:aB E af p=none) (hq:ba E af p=none) (ha:aP E af p=some (.cells cv,.slice z es.length cap)) (hK:K (.tk c) ((c,.arr z true es)::o1) (c+1) .alloc):dG E X ρ F o c af h p K:=by
 obtain⟨h1,h2⟩:=S.mem.yW hE hz;refine dG.alloc H S (md:=.cells cv) (hd:=.slice z es.length cap) hp hq ha h1 h2 (.tk om rfl (fun b z' len hx=>?_) (fun z' hx=>?_)) hK
 ·rw[aC]at hx;cases hx;exact⟨cap,fk,rfl⟩
 ·rw[aC]at hx;cases hx
theorem ER.replicate {z:Nat} {zs:List TV} {zv:List Value} (hz:cX c ρ F h zs zv) (hl:zs.length=z) (hf:zs.all M.fz=true):∀k,ER c ρ F h z (List.replicate k zs) (aI zv k)
 |0=>.nil z
 |k+1=>by
  have ih:=ER.replicate hz hl hf k;have h1:ER c ρ F h z [zs] zv:=by
   refine⟨by rw[←hz.1,hl];simp,fun e he=>by simp at he;subst he;exact hl,fun e he t ht=>by simp at he;subst he;exact List.all_eq_true.1 hf t ht,fun i j e t v q1 q2 q3=>?_⟩;cases i with
   |zero=>simp at q1;subst q1;exact hz.2 j t v q2 (by simpa using q3)
   |succ i=>simp at q1
  exact h1.append ih
theorem ke {α:Type}:∀{n:Nat} {l xs:List α},n+xs.length≤l.length→∃r,cB l n xs=some r
 |0,l,[],_=>⟨l,by simp[cB]⟩
 |0,[],x::xs,h=>by simp at h
 |0,y::l,x::xs,h=>by
  obtain⟨r,hr⟩:=ke (n:=0) (l:=l) (xs:=xs) (by simp at h ⊢;omega);exact⟨x::r,by simp[cB,hr]⟩
 |n+1,[],xs,h=>by simp at h
 |n+1,y::l,xs,h=>by
  obtain⟨r,hr⟩:=ke (n:=n) (l:=l) (xs:=xs) (by simp at h ⊢;omega);exact⟨y::r,by simp[cB,hr]⟩
theorem u0 {α:Type}:∀{l r:List α} {n:Nat} {x:α},setAt l n x=some r→n<l.length∧r.length=l.length∧∀i,r[i]? =if i=n then some x else l[i]?
 |[],r,n,x,h=>by simp[setAt]at h
 |y::l,r,0,x,h=>by
  simp[setAt]at h;subst h;refine⟨by simp,by simp,fun i=>?_⟩;cases i<;>simp
 |y::l,r,n+1,x,h=>by
  unfold setAt at h;split at h
  ·rename_i l' hl;cases h;obtain⟨h1,h2,h3⟩:=u0 hl;refine⟨by simp;omega,by simp[h2],fun i=>?_⟩;cases i with
   |zero=>simp
   |succ i=>simp[h3 i]
  ·cases h
theorem ER.setAt {z:Nat} {es bC:List (List TV)} {cs:List Value} {l:List TV} {i:Nat} (A:ER c ρ F h z es cs) (hs:∀j,bC[j]? =if j=i then some l else es[j]?) (hlen:bC.length=es.length) (hi:i<es.length) (hl:l.length=z) (hf:∀t∈l,M.fz t=true)
 {cs':List Value} (hc:cs'.length=cs.length) (wU:∀j t v,l[j]? =some t→cs'[i*z+j]? =some v→VR c ρ F h t v) (Mf:∀k,(k<i*z∨(i+1)*z≤k)→cs'[k]? =cs[k]?):ER c ρ F h z bC cs':=by
 have key:∀j e,bC[j]? =some e→(j=i∧e=l)∨(j≠i∧es[j]? =some e):=fun j e he=>by
  rw[hs]at he;by_cases e1:j=i
  ·rw[if_pos e1]at he;cases he;exact .inl ⟨e1,rfl⟩
  ·rw[if_neg e1]at he;exact .inr ⟨e1,he⟩
 refine⟨by rw[hc,hlen,A.len],fun e he=>?_,fun e he=>?_,fun j k e t v q1 q2 q3=>?_⟩
 ·obtain⟨j,hj⟩:=List.getElem?_of_mem he;rcases key j e hj with⟨_,rfl⟩|⟨_,h1⟩
  ·exact hl
  ·exact A.each e (List.mem_of_getElem? h1)
 ·obtain⟨j,hj⟩:=List.getElem?_of_mem he;rcases key j e hj with⟨_,rfl⟩|⟨_,h1⟩
  ·exact hf
  ·exact A.fz e (List.mem_of_getElem? h1)
 ·rcases key j e q1 with⟨rfl,rfl⟩|⟨h1,h2⟩
  ·exact wU k t v q2 q3
  ·have hk:k<z:=by rw[←A.each e (List.mem_of_getElem? h2)];exact(List.getElem?_eq_some_iff.1 q2).1
   refine A.cell j k e t v h2 q2 ?_;rw[←q3];refine(Mf _ ?_).symm;rcases Nat.lt_or_gt_of_ne h1 with h3|h3
   ·left;have:(j+1)*z≤i*z:=Nat.mul_le_mul_right z h3;rw[Nat.add_mul]at this;omega
   ·right;have:(i+1)*z≤j*z:=Nat.mul_le_mul_right z h3;omega
theorem xq {n:Nat}:∀{ps:List (Nat×TV)} {o:Ob} {F:Nat→Prop} {es bC:List (List TV)} {cs:List Value} {pv:List (Nat×Value)},Mem X ρ F o c h→pR o n es ps=some bC→ER c ρ F h n es cs→Kg c ρ F h ps pv→
 ∃F' cv,mX X ρ c h F o F' (yO o ps)∧iW (fun i=>some (i*n,n)) cs pv=some cv∧ER c ρ F' h n bC cv∧bC.length=es.length
 |[],o,F,es,bC,cs,[],H,hf,hE,_=>by simp[pR]at hf;subst hf;exact⟨F,cs,.refl H,rfl,hE,rfl⟩
 |[],o,F,es,bC,cs,_::_,H,hf,hE,hq=>hq.elim
 |a::l,o,F,es,bC,cs,[],H,hf,hE,hq=>hq.elim
 |a::l,o,F,es,bC,cs,b::m,H,hf,hE,hq=>by
  obtain⟨e,hv,hr⟩:=hq;unfold pR at hf;split at hf
  ·rename_i l1 hc fy;simp only[Bool.and_eq_true,beq_iff]at hc;split at hf
   ·rename_i Qb gN;obtain⟨s1,s2,s3⟩:=u0 gN;obtain⟨F1,A,a1⟩:=nP (ay a.2) H;obtain⟨f1,f2⟩:=tA fy;have re:=a1 l1 _ fy (gU hv hc.1);have wu:l1.length=n:=by omega
    have Wk:=hE.mono A.bf;have Ll:b.2.cells.toList.length=n:=by rw[←re.1];exact wu
    have hle:a.1*n+b.2.cells.toList.length≤cs.length:=by
     rw[Ll,hE.len];have:(a.1+1)*n≤es.length*n:=Nat.mul_le_mul_right n s1;rw[Nat.add_mul]at this;omega
    obtain⟨qJ,ze⟩:=ke hle;obtain⟨t1,t2,t3⟩:=cH ze;have Qc:ER c ρ F1 h n Qb qJ:=by
     refine Wk.setAt s3 s2 s1 wu f1 t2 (fun j t v q1 q2=>?_) (fun k hk=>?_)
     ·have hj:j<l1.length:=(List.getElem?_eq_some_iff.1 q1).1;rw[t3,if_pos ⟨om,om⟩]at q2;exact re.2 j t v q1 (by rw[←q2];congr 1;omega)
     ·rw[t3,if_neg];rw[Nat.add_mul]at hk;omega
    have Te:pR (shares o (ay a.2)) n Qb l=some bC:=by
     have key:∀(o1:Ob),(∀t,cA o1 t=cA o t)→∀(l:List (Nat×TV)) (es:List (List TV)),pR o1 n es l=pR o n es l:=by
      intro o1 h1 l;have h2:∀q,mQ o1 q=mQ o q:=by
       intro q
       induction q with
       |nil=>rfl
       |cons t q ih=>simp only[mQ,h1,ih]
      induction l with
      |nil=>intro es;rfl
      |cons p l ih=>
       intro es;simp only[pR,h2,ih]
     rw[key _ (fun t=>?_)];·exact hf
     have:∀(q:List TV) (o1:Ob),cA (shares o1 q) t=cA o1 t:=by
      intro q
      induction q with
      |nil=>intro o1;rfl
      |cons v q ih=>intro o1;simp only[shares];rw[ih,uY]
     exact this _ _
    have gG:Kg c ρ F1 h l m:=by
     have:∀(l:List (Nat×TV)) (m:List (Nat×Value)),Kg c ρ F h l m→Kg c ρ F1 h l m:=by
      intro l
      induction l with
      |nil=>intro m hm;cases m<;>exact hm
      |cons p l ih=>
       intro m hm;cases m with
       |nil=>exact hm
       |cons q m=>exact⟨hm.1,A.bf _ _ hm.2.1,ih m hm.2.2⟩
     exact this l m hr
    obtain⟨F2,cv,B,b1,b2,b3⟩:=xq A.mem Te Qc gG;refine⟨F2,cv,A.trans B,?_,b2,by rw[b3,s2]⟩;obtain⟨i,x⟩:=b;simp only at e;subst e;simp only[iW,Option.bind_some];have:x.cells.size=n:=by simpa using Ll
    rw[this];simp only at ze;simp[aW,ze,b1]
   ·cases hf
  ·cases hf
end
end Go.M
end
