/-
  Part 7 of the library that the proof leans on.
-/
import Derived.Test.YtmocpiopjkmnhaaGreatDoorL6
namespace Go.M
open Go
def ZeroOk (E:Env):Prop:=∀t z,E.zero t=some z→plainV z=true
def atB (ρ:Gh) (n b:Nat):Prop:=ρ n=some (.blk b)∨∃z l,ρ n=some (.arr b z l)
def RdNow (q:RQ) (h:AHeap):Prop:=match q with
 | .cells _ b o n=>∃l,readCells h b o n=some l∧eqLs l l=true
 | .look r _ _ _ _| .len r=>∃m,mapAt h r=some m∧eqEs m.1 m.1=true
structure Nx (X:Cx) (ρ:Gh) (F:Nat→Prop) (o:Ob) (c:Nat) (h:AHeap) (ρ':Gh) (F':Nat→Prop) (o':Ob) (c':Nat) (h':AHeap):Prop where
 mem:Mem X ρ' F' o' c' h'
 keep:∀t x,VR c ρ F h t x→VR c' ρ' F' h' t x
 size:h.size≤h'.size
 FF:∀b,F b→F' b
 frz:∀b cs,F b→h.rd b=some cs→h'.rd b=some cs
def Raw (ρ:Gh) (o:Ob) (h:AHeap) (ρ':Gh) (o':Ob) (h':AHeap) (ns:List Nat):Prop:=
 ∀n y,look o n=some y→n∉ns→(∃y',look o' n=some y')∧ρ' n=ρ n∧∀b,atB ρ n b→h'.get b=h.get b∧∀cs,h.rd b=some cs→h'.rd b=some cs
def NmVal (ρ:Gh) (v:TV) (x:Value):Prop:=(∃k b,v= .mp k∧ρ k=some (.blk b)∧x= .map (some b))∨∃k q b,v= .ptr k q∧ρ k=some (.blk b)∧x= .pointer (some ⟨b,q,none⟩)
inductive LogOk (ρ:Gh) (F:Nat→Prop) (o:Ob) (h:AHeap) (ρ':Gh) (o':Ob) (h':AHeap):VL→LogE→Prop
 |pure (hr:Raw ρ o h ρ' o' h' []) (hh:h'=h):LogOk ρ F o h ρ' o' h' .pure .pure
 |alloc (hr:Raw ρ o h ρ' o' h' []):LogOk ρ F o h ρ' o' h' .alloc (.alloc h h')
 |rdF {q:RQ} (hr:Raw ρ o h ρ' o' h' []) (hh:h'=h) (hF:F q.blk) (hc:∃a b o n,q= .cells a b o n) (hn:RdNow q h):LogOk ρ F o h ρ' o' h' .rdF (.rd q h)
 |rdO {q:RQ} {n:Nat} {y:TO} (hr:Raw ρ o h ρ' o' h' []) (hh:h'=h) (hl:look o n=some y) (hb:atB ρ n q.blk) (hn:RdNow q h):LogOk ρ F o h ρ' o' h' (.rdO n) (.rd q h)
 |rdN {n p b:Nat} {v:TV} {x:Value} {y:TO} (hr:Raw ρ o h ρ' o' h' []) (hh:h'=h) (hl:look o n=some y) (hb:ρ n=some (.blk b)) (hx:NmVal ρ v x) (hrd:readCells h b p 1=some [x]):LogOk ρ F o h ρ' o' h' (.rdN n p v) (.rd (.cells false b p 1) h)
 |eff {ns:List Nat} (hr:Raw ρ o h ρ' o' h' ns):LogOk ρ F o h ρ' o' h' (.eff ns) (.eff h h')
 |effI {ns:List Nat} (hr:Raw ρ o h ρ' o' h' ns) (hh:h'=h):LogOk ρ F o h ρ' o' h' (.effI ns) (.eff h h')
 |effG (hr:Raw ρ o h ρ' o' h' []) (hG:∀b,b<h.size→h'.get b=h.get b):LogOk ρ F o h ρ' o' h' .effG (.eff h h')
 |bad {l:LogE}:LogOk ρ F o h ρ' o' h' .bad l
def Did (E:Env) (X:Cx) (ρ:Gh) (F:Nat→Prop) (o:Ob) (c:Nat) (af:AF) (h:AHeap) (p:Oper) (K:OK):Prop:=
 ∃n0 r v o' c' ρ' F' lg,(∀n,n0≤n→runOp E X.base (acall E X.base n) (aroundB X.base (aeval E X.base n)) p af h=some r)∧K v o' c' lg∧
  Nx X ρ F o c h ρ' F' o' c' r.h∧VR c' ρ' F' r.h v r.v∧LogOk ρ F o h ρ' o' r.h lg r.log
def unS:TV→Value
 | .s v=>v
 |_=>undef
def StillF (E:Env) (g:FuncId):Prop:=∀base n args h v h',acall E base n g args h=some (v,h')→h'=h
structure EnvLe (T E:Env):Prop where
 desc:∀t d,T.desc t=some d→E.desc t=some d
 size:∀t n,T.size t=some n→E.size t=some n
 bytes:∀t n,T.bytes t=some n→E.bytes t=some n
 zero:∀t z,T.zero t=some z→E.zero t=some z∧plainV z=true
 eq:∀t (a b:Array Value) z xs ys r,T.eqOk t=true→T.zero t=some z→veqK z.cells.toList xs ys=some r→a.toList=xs.map unS→b.toList=ys.map unS→E.eqOk t=true∧aeq E 100 t (.agg a) (.agg b)=some r
 tab:∀g cs,T.tab g=some cs→E.tab g=some cs
 still:∀g,T.still g=true→StillF E g
theorem TabOk.sub {T E:Env} {F:Nat→Prop} {h:AHeap} (L:EnvLe T E) (N:TabOk E F h):TabOk T F h:=fun g cs hg=>N g cs (L.tab g cs hg)
theorem cTs_len:∀(l:List Value),(cTs l).length=l.length
 |[]=>rfl
 |v::l=>by simp[cTs,cTs_len l]
theorem cTs_fz:∀{l:List Value},l.all tabV=true→∀t∈cTs l,fz t=true
 |[],_,t,ht=>by simp[cTs]at ht
 |v::l,hl,t,ht=>by
  simp only[List.all_cons,Bool.and_eq_true]at hl
  simp only[cTs,List.mem_cons]at ht
  rcases ht with rfl |ht
  ·have:=hl.1;simp only[tabV,Bool.and_eq_true]at this;exact this.2
  ·exact cTs_fz hl.2 t ht
section
variable {T E:Env} {X:Cx} {ρ:Gh} {F:Nat→Prop} {o:Ob} {c:Nat} {af:AF} {f:Fr} {h:AHeap} {p:Oper} {K:OK}
theorem Mem.objs (H:Mem X ρ F o c h) {m:Nat} {y:TO} (hl:look o m=some y):∃S,OR c ρ F h X.base m S y:=let⟨S,K⟩:=H.ex;⟨S m,K.objs m y hl⟩
theorem Nx.refl (H:Mem X ρ F o c h):Nx X ρ F o c h ρ F o c h:=⟨H,fun _ _ h=>h,Nat.le_refl _,fun _ h=>h,fun _ _ _ h=>h⟩
theorem Raw.refl (ns:List Nat):Raw ρ o h ρ o h ns:=fun _ y hl _=>⟨⟨y,hl⟩,rfl,fun _ _=>⟨rfl,fun _ h=>h⟩⟩
theorem Did.pure (H:Mem X ρ F o c h) {x:Value} {v:TV} (hp:apure E af p=some x) (hv:VR c ρ F h v x) (hK:K v o c .pure):Did E X ρ F o c af h p K:=by
 refine⟨0,⟨x,h,.pure⟩,v,o,c,ρ,F,.pure,fun n _=>?_,hK,.refl H,hv,.pure (.refl _) rfl⟩
 unfold runOp;rw[hp]
theorem Did.pureS (_:Mem X ρ F o c h) {o':Ob} {F':Nat→Prop} (H':Mem X ρ F' o' c h) (hk:∀t x,VR c ρ F h t x→VR c ρ F' h t x) (hFF:∀b,F b→F' b) (hw:∀n y,look o n=some y→∃y',look o' n=some y'∧weak y y')
 {x:Value} {v:TV} (hp:apure E af p=some x) (hv:VR c ρ F' h v x) (hK:K v o' c .pure):Did E X ρ F o c af h p K:=by
 refine⟨0,⟨x,h,.pure⟩,v,o',c,ρ,F',.pure,fun n _=>?_,hK,⟨H',hk,Nat.le_refl _,hFF,fun _ _ _ h=>h⟩,hv,.pure (fun n y hl _=>⟨let⟨y',h1,_⟩:=hw n y hl;⟨y',h1⟩,rfl,fun b _=>⟨rfl,fun _ h=>h⟩⟩) rfl⟩
 unfold runOp;rw[hp]
def vSlots (c:Nat) (ρ:Gh) (F:Nat→Prop) (h:AHeap) (f:Fr) (af:AF):Prop:=∀t,VR c ρ F h (fget f t) (af.get t)
theorem vev_rel (L:EnvLe T E) (N:TabOk T F h) (S:vSlots c ρ F h f af) {x:Operand} (hx:evOk T x=true):∃v,ev E af x=some v∧VR c ρ F h (evT T f x) v:=by
 cases x with
 |tmp t=>exact⟨_,rfl,S t⟩
 |const v=>exact⟨v,by simp only[ev,grd_some,and_true];exact hx,cT_rel hx⟩
 |func g=>exact⟨_,rfl,.clo rfl (fun i t v q=>by simp at q) rfl (fun i t v q=>by simp at q)⟩
 |global g=>
  obtain⟨cs,n3,hx⟩:∃cs,cs.all tabV=true∧T.tab g=some cs:=by
   simp only[evOk]at hx
   split at hx
   ·rename_i cs hg;exact⟨cs,hx,hg⟩
   ·cases hx
  obtain⟨n1,n2,_⟩:=N g cs hx
  refine⟨.pointer (some ⟨g,0,none⟩),by simp only[ev,Env.glob,L.tab g cs hx,Option.isSome_some,grd],?_⟩
  show VR c ρ F h (match T.tab g with|some cs=>.ep (cTs cs) 0|none=>.j) _
  rw[hx]
  have:=VR.ep (c:=c) (ρ:=ρ) (F:=F) (h:=h) (e:=cTs cs) (o:=0) (b:=g) (q:=0) (cs:=cs) n1 n2 (by rw[cTs_len];omega) (fun t ht=>cTs_fz n3 t ht) (fun j t v q1 q2=>(cTs_rel (List.all_eq_true.2 fun v hv=>by have:=List.all_eq_true.1 n3 v hv;simp only[tabV,Bool.and_eq_true]at this;exact this.1)).2 j t v q1 (by simpa using q2))
  simpa using this
theorem vevs_rel (L:EnvLe T E) (N:TabOk T F h) (S:vSlots c ρ F h f af):∀{l:List Operand},l.all (evOk T)=true→∃vs,evs E af l=some vs∧VRs c ρ F h (evTs T f l) vs
 |[],_=>⟨[],rfl,.nil⟩
 |x::l,hx=>by
  simp only[List.all_cons,Bool.and_eq_true]at hx
  obtain⟨v,h1,h2⟩:=vev_rel (E:=E) L N S hx.1
  obtain⟨vs,h3,h4⟩:=vevs_rel L N S hx.2
  exact⟨v::vs,by simp[evs,h1,h3],.cons h2 h4⟩
def PRs (c:Nat) (ρ:Gh) (F:Nat→Prop) (h:AHeap):List (Nat×TV)→List (Nat×Value)→Prop
 |[],[]=>True
 |a::l,b::m=>a.1=b.1∧VR c ρ F h a.2 b.2∧PRs c ρ F h l m
 |_,_=>False
theorem vevParts_rel (L:EnvLe T E) (N:TabOk T F h) (S:vSlots c ρ F h f af):∀{l:List (Nat×Operand)},(l.map (·.2)).all (evOk T)=true→∃vs,evParts E af l=some vs∧PRs c ρ F h (evParT T f l) vs
 |[],_=>⟨[],rfl,trivial⟩
 |(i,x)::l,hx=>by
  simp only[List.map_cons,List.all_cons,Bool.and_eq_true]at hx
  obtain⟨v,h1,h2⟩:=vev_rel (E:=E) L N S hx.1
  obtain⟨vs,h3,h4⟩:=vevParts_rel L N S hx.2
  exact⟨(i,v)::vs,by simp[evParts,h1,h3],rfl,h2,h4⟩
theorem force_iff {v:TV} {K:TV→Prop} (hf:force v K):K v∧v≠ .j:=by
 cases v<;>simp[force]at hf ⊢ <;>exact hf
theorem sameK_some {k k':IntKind} {v w:Value} (h:sameK k k' v=some w):k=k'∧v=w:=by
 cases k<;>cases k'<;>simp[sameK]at h<;>exact⟨rfl,h⟩
theorem pureV_pure (v:Value):pureV (pure v:Sem Value)=some v:=rfl
theorem pureV_int {k:IntKind} {x:Int} {v:Value} (h:pureV (pure (.int k x):Sem Value)=some v):plain1 v=true:=by
 rw[pureV_pure]at h;cases h;rfl
theorem vint_ok {op:BinOp} {k k':IntKind} {x y:Int} {v:Value} (h:vint op k k' x y=some v) (t:TypeId):pureV (binOp op t (.int k x) (.int k' y))=some v∧plain1 v=true:=by
 cases op<;>simp only[vint]at h
 case add|sub|mul|eql|neq|lss|leq|gtr|geq=>obtain⟨rfl,rfl⟩:=sameK_some h;exact⟨by simp[binOp,Op.intArith,Op.intCmp,pureV,Pure.pure],rfl⟩
 case quo|rem=>
  refine⟨h,?_⟩
  simp only[binOp]at h
  split at h
  ·simp[stuck,pureV]at h
  ·simp only[Op.intDiv]at h
   split at h
   ·have e:pureV (runtimePanic (.error "integer divide by zero"):Sem Value)=none:=rfl
    rw[e]at h;cases h
   ·exact pureV_int h
 case and|or|xor|andNot=>
  refine⟨h,?_⟩
  simp only[binOp]at h
  split at h
  ·simp[stuck,pureV]at h
  ·exact pureV_int h
 case shl|shr=>
  refine⟨h,?_⟩
  simp only[binOp,Op.shift]at h
  split at h
  ·have e:pureV (runtimePanic (.error "negative shift amount"):Sem Value)=none:=rfl
   rw[e]at h;cases h
  ·exact pureV_int h
theorem EnvLe.shape {T E:Env} (L:EnvLe T E) {t:TypeId} {s:Bool×Nat} (h:shapeT T t=some s):shapeT E t=some s:=by
 unfold shapeT at h ⊢
 simp only[Option.bind_eq_some_iff]at h ⊢
 obtain⟨d,h1,h2⟩:=h
 refine⟨d,L.desc t d h1,?_⟩
 cases ha:isAgg d with
 |false=>rw[ha]at h2;exact h2
 |true=>
  rw[ha]at h2
  simp only[cond_true,Option.bind_eq_some_iff]at h2 ⊢
  obtain⟨n,h3,h4⟩:=h2
  exact⟨n,L.size t n h3,h4⟩
theorem veqK_s:∀{zs:List Value} {xs ys:List TV} {r:Bool},veqK zs xs ys=some r→(∀t∈xs,∃v,t= .s v)∧(∀t∈ys,∃v,t= .s v)
 |[],[],[],r,_=>⟨by simp,by simp⟩
 |[],[],_::_,r,h=>by simp[veqK]at h
 |[],x::l,ys,r,h=>by simp[veqK]at h
 |z::zs,[],ys,r,h=>by simp[veqK]at h
 |z::zs,x::l,[],r,h=>by cases x<;>simp[veqK]at h
 |z::zs,x::l,y::m,r,h=>by
  cases x<;>try(simp[veqK]at h;done)
  rename_i v
  cases y<;>try(simp[veqK]at h;done)
  rename_i w
  simp only[veqK]at h
  split at h
  ·split at h
   ·rename_i hq
    obtain⟨k1,k2⟩:=veqK_s hq
    refine⟨fun t ht=>?_,fun t ht=>?_⟩
    ·rcases List.mem_cons.1 ht with rfl |h2
     ·exact⟨_,rfl⟩
     ·exact k1 t h2
    ·rcases List.mem_cons.1 ht with rfl |h2
     ·exact⟨_,rfl⟩
     ·exact k2 t h2
   ·cases h
  ·cases h
theorem VRs_s:∀{xs:List TV} {a:List Value},VRs c ρ F h xs a→(∀t∈xs,∃v,t= .s v)→a=xs.map unS
 |[],a,H,_=>by rw[H.inv_nil];rfl
 |x::l,a,H,hs=>by
  obtain⟨v,m,rfl,h1,h2⟩:=H.inv_cons
  obtain⟨w,rfl⟩:=hs x List.mem_cons_self
  rw[h1.inv_s.1,VRs_s h2 fun t ht=>hs t (List.mem_cons_of_mem _ ht)]
  rfl
def NilV:Nat→Bool→Value→Prop
 |0,true,x=>x= .pointer none
 |0,false,x=>∃a,x= .pointer (some a)
 |1,true,x=>x= .map none
 |1,false,x=>∃a,x= .map (some a)
 |2,true,x=>x= .nilFunc
 |2,false,x=>∃g a k,x= .func g a k
 |3,true,x=>x= .nilIface
 |3,false,x=>∃t v,x= .iface t v
 |4,true,x=>x= .slice none 0 0
 |4,false,x=>∃a l k,x= .slice (some a) l k
 |_,_,_=>False
theorem nilK_rel {v:TV} {x:Value} (hv:VR c ρ F h v x) {d:Nat} {b:Bool} (hb:nilK v=some (d,b)):NilV d b x:=by
 cases hv with
 |s hp=>
  unfold nilK at hb
  split at hb<;>simp_all<;>obtain⟨rfl,rfl⟩:=hb<;>simp[NilV]
 |nil he=>subst he;unfold nilK at hb;split at hb<;>simp_all<;>obtain⟨rfl,rfl⟩:=hb<;>simp[NilV]
 |sl h1 h2 h3=>
  unfold nilK at hb
  split at hb<;>simp_all
  obtain⟨rfl,rfl⟩:=hb
  exact⟨_,_,_,rfl⟩
 |ptr=>simp[nilK]at hb;obtain⟨rfl,rfl⟩:=hb;exact⟨_,rfl⟩
 |ep=>simp[nilK]at hb;obtain⟨rfl,rfl⟩:=hb;exact⟨_,rfl⟩
 |mp=>simp[nilK]at hb;obtain⟨rfl,rfl⟩:=hb;exact⟨_,rfl⟩
 |ifc=>simp[nilK]at hb;obtain⟨rfl,rfl⟩:=hb;exact⟨_,_,rfl⟩
 |clo=>simp[nilK]at hb;obtain⟨rfl,rfl⟩:=hb;exact⟨_,_,_,rfl⟩
 |_=>simp[nilK]at hb
theorem aeq_nil {E:Env} {t:TypeId} {ds:TypeDesc} {d:Nat} {p q:Bool} {a b:Value} (hd:E.desc t=some ds) (hk:descK ds=some d) (ha:NilV d p a) (hb:NilV d q b) (hpq:(p||q)=true):aeq E 100 t a b=some (p&&q):=by
 cases ds<;>simp[descK]at hk<;>subst hk<;>cases p<;>cases q<;>simp at hpq<;>simp only[NilV]at ha hb
 all_goals
  (try obtain⟨_,rfl⟩:=ha)
  (try obtain⟨_,rfl⟩:=hb)
  (try obtain⟨_,_,rfl⟩:=ha)
  (try obtain⟨_,_,rfl⟩:=hb)
  (try obtain⟨_,_,_,rfl⟩:=ha)
  (try obtain⟨_,_,_,rfl⟩:=hb)
  (try subst ha)
  (try subst hb)
  (show aeq E (99+1) t _ _=_)
  unfold aeq
  rw[hd]
  rfl
end
end Go.M
namespace Go.M
open Go
def PRes (c:Nat) (ρ:Gh) (F:Nat→Prop) (h:AHeap) (o:Ob) (canon:Option Value) (K:OK):Prop:=∃v x,canon=some x∧VR c ρ F h v x∧K v o c .pure
section
variable {T E:Env} {X:Cx} {ρ:Gh} {F:Nat→Prop} {o:Ob} {c:Nat} {af:AF} {f:Fr} {h:AHeap} {p:Oper} {K:OK}
theorem abin_other {op:BinOp} {t:TypeId} {x y:Operand} {a b:Value} {r:Bool} (hi:∀k n k' m,¬(a= .int k n∧b= .int k' m)) (hs:∀s r,¬(a= .string s∧b= .string r)) (he:eqCond E t x y a b=true) (hq:aeq E 100 t a b=some r):
 (op= .eql→abin E op t x y a b=some (.bool r))∧(op= .neq→abin E op t x y a b=some (.bool !r)):=by
 constructor
 ·rintro rfl
  unfold abin
  split
  ·exact absurd ⟨rfl,rfl⟩ (hi _ _ _ _)
  ·exact absurd ⟨rfl,rfl⟩ (hs _ _)
  ·simp[grd,he,hq]
 ·rintro rfl
  unfold abin
  split
  ·exact absurd ⟨rfl,rfl⟩ (hi _ _ _ _)
  ·exact absurd ⟨rfl,rfl⟩ (hs _ _)
  ·simp[grd,he,hq]
theorem pure1_ok {v:Option Value} (hp:pure1 v o c K) {canon:Option Value} (hc:∀x,v=some x→canon=some x):PRes c ρ F h o canon K:=by
 unfold pure1 at hp
 split at hp
 ·rename_i x
  split at hp
  ·rename_i h2;exact⟨_,_,hc x rfl,.s h2,hp⟩
  ·exact hp.elim
 ·exact hp.elim
theorem NilV.not_chan {d:Nat} {b:Bool} {n:Nat} (hv:NilV d b (.chan (some n))):False:=by
 unfold NilV at hv
 split at hv<;>simp at hv
theorem NilV.not_int {d:Nat} {b:Bool} {x:Value} (hv:NilV d b x):(∀k n,x≠ .int k n)∧(∀s,x≠ .string s)∧(∀a,x≠ .agg a)∧(x= .nilIface→d=3∧b=true):=by
 unfold NilV at hv
 split at hv
 all_goals
  (try obtain⟨_,rfl⟩:=hv)
  (try obtain⟨_,_,rfl⟩:=hv)
  (try obtain⟨_,_,_,rfl⟩:=hv)
  (try subst hv)
  (try(exact hv.elim))
  (try simp)
theorem sameK_any {k k':IntKind} {v w x:Value} (h:sameK k k' v=some x):sameK k k' w=some w:=by
 unfold sameK at h ⊢
 split at h<;>first|rfl |cases h
theorem ask_ok {p:Prop} (hw:ask p o c K) {canon:Option Value} (b:Bool) (hb:b=true↔p) (hc:canon=some (.bool b)):PRes c ρ F h o canon K:=by
 cases b with
 |true=>exact⟨_,_,hc,.s rfl,hw.1 (hb.1 rfl)⟩
 |false=>exact⟨_,_,hc,.s rfl,hw.2 fun hp=>by have:=hb.2 hp;cases this⟩
theorem askK_ok {p:Prop} {k k':IntKind} {op:BinOp} {t:TypeId} {n m:Int} (hw:askK k k' p o c K) (b:Bool) (hb:b=true↔p) (hv:vint op k k' n m=sameK k k' (.bool b)):PRes c ρ F h o (pureV (binOp op t (.int k n) (.int k' m))) K:=by
 unfold askK at hw
 split at hw
 ·rename_i hs
  exact ask_ok hw b hb ((vint_ok (hv.trans (sameK_any hs)) t).1)
 ·exact hw.elim
theorem wbin_ok (L:EnvLe T E) (H:Mem X ρ F o c h) {op:BinOp} {t:TypeId} {x y:Operand} {a b:TV} {xa xb:Value} (hw:wbin T op t x y a b o c K) (ha:VR c ρ F h a xa) (hb:VR c ρ F h b xb):PRes c ρ F h o (abin E op t x y xa xb) K:=by
 unfold wbin at hw
 split at hw
 ·rename_i k n k' m
  rw[ha.inv_s.1,hb.inv_s.1]
  show PRes c ρ F h o (pureV (binOp op t (.int k n) (.int k' m))) K
  split at hw
  ·exact askK_ok hw (n==m) (by simp) rfl
  ·exact askK_ok hw (n != m) (by simp) rfl
  ·exact askK_ok hw (decide (n<m)) (by simp) rfl
  ·exact askK_ok hw (decide (n≤m)) (by simp) rfl
  ·exact askK_ok hw (decide (n>m)) (by simp) rfl
  ·exact askK_ok hw (decide (n≥m)) (by simp) rfl
  ·exact pure1_ok hw fun v hv=>(vint_ok hv t).1
 ·rename_i s r
  rw[ha.inv_s.1,hb.inv_s.1]
  split at hw
  ·exact ask_ok hw (s.data.toList==r.data.toList) (by simp) rfl
  ·exact ask_ok hw (!(s.data.toList==r.data.toList)) (by simp) rfl
  ·exact ask_ok hw (Op.bytesLess s.data.toList r.data.toList) (by simp) rfl
  ·exact⟨_,_,(by simp only[abin];rw[grd_some];exact⟨decide_eq_true (by omega),rfl⟩),.s rfl,hw.2⟩
  ·refine pure1_ok hw fun v hv=>?_
   simp only[abin]at hv
   cases hv
 ·rename_i p q
  rw[ha.inv_s.1,hb.inv_s.1]
  split at hw
  ·rename_i hd
   have hq:aeq E 100 t (.bool p) (.bool q)=some (p==q):=by
    show aeq E (99+1) t _ _=_
    unfold aeq
    rw[L.desc _ _ hd];rfl
   obtain⟨k1,k2⟩:=abin_other (op:=op) (E:=E) (x:=x) (y:=y) (t:=t) (a:=.bool p) (b:=.bool q) (by rintro _ _ _ _ ⟨e,_⟩;cases e) (by rintro _ _ ⟨e,_⟩;cases e) rfl hq
   split at hw
   ·exact⟨_,_,k1 rfl,.s rfl,hw⟩
   ·exact⟨_,_,k2 rfl,.s rfl,hw⟩
   ·exact hw.elim
  ·exact hw.elim
 ·rename_i xs ys
  obtain⟨a',rfl,h1⟩:=ha.inv_agg
  obtain⟨b',rfl,h2⟩:=hb.inv_agg
  split at hw
  ·rename_i z he hz
   split at hw
   case h_2=>exact hw.elim
   rename_i r hr
   obtain⟨s1,s2⟩:=veqK_s hr
   obtain⟨e1,e2⟩:=L.eq t a' b' z xs ys r he hz hr (VRs_s h1 s1) (VRs_s h2 s2)
   obtain⟨k1,k2⟩:=abin_other (op:=op) (E:=E) (x:=x) (y:=y) (t:=t) (a:=.agg a') (b:=.agg b') (by rintro _ _ _ _ ⟨e,_⟩;cases e) (by rintro _ _ ⟨e,_⟩;cases e) e1 e2
   split at hw
   ·exact ask_ok hw r Iff.rfl (k1 rfl)
   ·exact ask_ok hw (!r) (by simp) (k2 rfl)
   ·exact hw.elim
  ·exact hw.elim
 ·split at hw
  ·rename_i es hq
   obtain⟨fl',rfl,hcase⟩:∃fl',b= .sl 0 [] fl'∧((∃z fl,a= .sl (z+1) es fl)∨∃n z w,a= .tk n∧look o n=some (.arr z w es)):=by
    unfold nilQ at hq
    split at hq
    ·cases hq;exact⟨_,rfl,.inl ⟨_,_,rfl⟩⟩
    ·split at hq
     ·rename_i hl;cases hq;exact⟨_,rfl,.inr ⟨_,_,_,rfl,hl⟩⟩
     ·cases hq
    ·cases hq
   have hb':xb= .slice none 0 0:=by
    cases hb with
    |nil=>rfl
    |sl _ _ hz=>omega
   subst hb'
   have main:∀{ds:TypeDesc},E.desc t=some ds→descK ds=some 4→∃r:Bool,(r=true→es=[])∧aeq E 100 t xa (.slice none 0 0)=some r∧∃a l k,xa= .slice a l k:=by
    intro ds h1 h2
    rcases hcase with⟨z,fl,rfl⟩|⟨n,z,w,rfl,hl⟩
    ·cases ha with
     |nil he=>exact⟨true,fun _=>he,aeq_nil (p:=true) (q:=true) h1 h2 rfl rfl rfl,_,_,_,rfl⟩
     |sl=>exact⟨false,(by simp),aeq_nil (p:=false) (q:=true) h1 h2 ⟨_,_,_,rfl⟩ rfl rfl,_,_,_,rfl⟩
    ·obtain⟨_,hob⟩:=H.objs hl
     cases ha with
     |tk hn hsl haa h0=>
      cases hob with
      |nil hb0 hz=>
       rcases h0 _ hb0 with rfl |⟨_,_,_,_,_,_,_,rfl⟩
       ·exact⟨true,fun _=>rfl,aeq_nil (p:=true) (q:=true) h1 h2 rfl rfl rfl,_,_,_,rfl⟩
       ·exact⟨false,(by simp),aeq_nil (p:=false) (q:=true) h1 h2 ⟨_,_,_,rfl⟩ rfl rfl,_,_,_,rfl⟩
      |arr hb0=>
       obtain⟨cap,_,rfl⟩:=haa _ _ _ hb0
       exact⟨false,(by simp),aeq_nil (p:=false) (q:=true) h1 h2 ⟨_,_,_,rfl⟩ rfl rfl,_,_,_,rfl⟩
   split at hw
   ·rename_i hd
    simp only[Option.bind_eq_some_iff]at hd
    obtain⟨ds,hd1,hd2⟩:=hd
    obtain⟨r,m1,m2,a0,l0,k0,rfl⟩:=main (L.desc _ _ hd1) hd2
    obtain⟨k1,k2⟩:=abin_other (op:=.eql) (E:=E) (x:=x) (y:=y) (t:=t) (a:=.slice a0 l0 k0) (b:=.slice none 0 0) (by rintro _ _ _ _ ⟨e,_⟩;cases e) (by rintro _ _ ⟨e,_⟩;cases e) rfl m2
    cases r with
    |true=>exact⟨_,_,k1 rfl,.s rfl,hw.1 (m1 rfl)⟩
    |false=>exact⟨_,_,k1 rfl,.s rfl,hw.2⟩
   ·rename_i hd
    simp only[Option.bind_eq_some_iff]at hd
    obtain⟨ds,hd1,hd2⟩:=hd
    obtain⟨r,m1,m2,a0,l0,k0,rfl⟩:=main (L.desc _ _ hd1) hd2
    obtain⟨k1,k2⟩:=abin_other (op:=.neq) (E:=E) (x:=x) (y:=y) (t:=t) (a:=.slice a0 l0 k0) (b:=.slice none 0 0) (by rintro _ _ _ _ ⟨e,_⟩;cases e) (by rintro _ _ ⟨e,_⟩;cases e) rfl m2
    cases r with
    |true=>exact⟨_,_,k2 rfl,.s rfl,hw.1 (m1 rfl)⟩
    |false=>exact⟨_,_,k2 rfl,.s rfl,hw.2⟩
   ·exact hw.elim
  split at hw
  ·rename_i d d1 p d2 q hd hp hq
   split at hw
   ·rename_i hc
    simp only[Bool.and_eq_true,beq_iff,Bool.or_eq_true,Bool.not_eq_true']at hc
    obtain⟨⟨⟨rfl,rfl⟩,hpq⟩,hcc⟩:=hc
    simp only[Option.bind_eq_some_iff]at hd
    obtain⟨ds,hd1,hd2⟩:=hd
    have va:=nilK_rel ha hp
    have vb:=nilK_rel hb hq
    have hae:=aeq_nil (L.desc _ _ hd1) hd2 va vb (by simpa using hpq)
    obtain⟨a1,a2,a3,a4⟩:=va.not_int
    obtain⟨b1,b2,b3,b4⟩:=vb.not_int
    have he:eqCond E t x y xa xb=true:=by
     unfold eqCond
     split
     ·obtain⟨rfl,rfl⟩:=a4 rfl
      obtain⟨_,rfl⟩:=b4 rfl
      rcases hcc with (hcc|hcc)|hcc
      ·simp at hcc
      ·rw[hcc];rfl
      ·rw[hcc];simp
     ·exact absurd rfl (a3 _)
     ·exact va.not_chan.elim
     ·exact vb.not_chan.elim
     ·rfl
    obtain⟨k1,k2⟩:=abin_other (op:=op) (E:=E) (x:=x) (y:=y) (t:=t) (a:=xa) (b:=xb) (by rintro k n _ _ ⟨e,_⟩;exact a1 k n e) (by rintro s _ ⟨e,_⟩;exact a2 s e) he hae
    split at hw
    ·exact⟨_,_,k1 rfl,.s rfl,hw⟩
    ·exact⟨_,_,k2 rfl,.s rfl,hw⟩
    ·exact hw.elim
   ·exact hw.elim
  ·exact hw.elim
theorem wp_ptr (H:Mem X ρ F o c h) {m i q:Nat} {y:TO} (hl:look o m=some y) (hy:arrO y=true) {x:Value} (hx:VR c ρ F h (.wp m i q) x):
 ∃b z l,ρ m=some (.arr b z l)∧x= .pointer (some ⟨b,i*z+q,none⟩):=by
 cases hx with
 |wp hn h1c ha h0=>
  obtain⟨S,hO⟩:=H.objs hl
  cases hO with
  |nil hb hz=>exact absurd hb (h0 _)
  |qnil hb hz=>exact absurd hb (h0 _)
  |arr hb=>exact⟨_,_,_,hb,ha _ _ _ hb⟩
  |arq hb=>exact⟨_,_,_,hb,ha _ _ _ hb⟩
  |_=>simp[arrO]at hy
def lenO:TO→Nat
 | .arr _ _ es=>es.length
 | .arq _ es _=>es.length
 |_=>0
theorem OR.tk {base m:Nat} {S:Ft} {y:TO} (hO:OR c ρ F h base m S y) (hy:arrO y=true) {x:Value} (hx:VR c ρ F h (.tk m) x):
 (lenO y=0∧ρ m=some (.nil (zOf y))∧(x= .slice none 0 0∨∃b o cs,F b∧h.rd b=some cs∧0<zOf y∧o≤cs.length∧x= .slice (some ⟨b,o,some (zOf y)⟩) 0 0))∨
 ∃b cap,ρ m=some (.arr b (zOf y) (lenO y))∧lenO y≤cap∧x= .slice (some ⟨b,0,some (zOf y)⟩) (lenO y) cap:=by
 cases hx with
 |tk hn h1c ha h0=>
  cases hO with
  |nil hb hz=>exact .inl ⟨rfl,hb,h0 _ hb⟩
  |qnil hb hz=>exact .inl ⟨rfl,hb,h0 _ hb⟩
  |arr hb=>obtain⟨cap,h1,h2⟩:=ha _ _ _ hb;exact .inr ⟨_,cap,hb,h1,h2⟩
  |arq hb=>obtain⟨cap,h1,h2⟩:=ha _ _ _ hb;exact .inr ⟨_,cap,hb,h1,h2⟩
  |_=>simp[arrO]at hy
theorem wfieldAddr_ok (L:EnvLe T E) (H:Mem X ρ F o c h) {s:TypeId} {x:TV} {fd:Nat} {xv:Value} (hw:wfieldAddr T s x fd o c K) (hx:VR c ρ F h x xv):
 PRes c ρ F h o ((E.desc s).bind fun d=>(asPtr xv).bind fun p=>(match d with
 | .struct fields=>(fields[fd]?).bind fun fl=>(E.size fl.type).bind fun n=>grd (Nat.blt 0 n) (some (.pointer (some ⟨p.1,p.2+fl.offset,none⟩)))
 |_=>none)) K:=by
 unfold wfieldAddr at hw
 split at hw
 ·rename_i fields hd
  split at hw
  ·rename_i fl hf
   split at hw
   ·rename_i n hn
    split at hw
    ·rename_i h0
     have fin:∀b q,xv=Value.pointer (some ⟨b,q,none⟩)→(((E.desc s).bind fun d=>(asPtr xv).bind fun p=>(match d with
      | .struct fields=>(fields[fd]?).bind fun fl=>(E.size fl.type).bind fun n=>grd (Nat.blt 0 n) (some (Value.pointer (some ⟨p.1,p.2+fl.offset,none⟩)))
      |_=>none))=some (Value.pointer (some ⟨b,q+fl.offset,none⟩))):=by
      rintro b q rfl
      rw[L.desc _ _ hd]
      simp only[Option.bind_some,asPtr,hf,L.size _ _ hn,h0,grd]
     split at hw
     ·cases hx with
      |ptr hb=>exact⟨_,_,fin _ _ rfl,.ptr hb,hw⟩
     ·cases hx with
      |ep h1 h2 h3 h4 h5=>exact⟨_,_,fin _ _ rfl,by rw[Nat.add_assoc];exact .ep h1 h2 h3 h4 h5,hw⟩
     ·have go:∀{m i p:Nat} {y:TO},look o m=some y→arrO y=true→VR c ρ F h (.wp m i p) xv→K (.wp m i (p+fl.offset)) o c .pure→PRes c ρ F h o ((E.desc s).bind fun d=>(asPtr xv).bind fun p=>(match d with
       | .struct fields=>(fields[fd]?).bind fun fl=>(E.size fl.type).bind fun n=>grd (Nat.blt 0 n) (some (.pointer (some ⟨p.1,p.2+fl.offset,none⟩)))
       |_=>none)) K:=by
       intro m i p y hl hy hx hw
       obtain⟨b,z,l,hb,rfl⟩:=wp_ptr H hl hy hx
       cases hx with
       |wp hn h1c ha h0=>
        refine⟨_,_,fin _ _ rfl,.wp hn rfl (fun b' z' l' hx'=>?_) h0,hw⟩
        rw[hb]at hx';cases hx';rw[Nat.add_assoc]
      split at hw
      ·rename_i hl;exact go hl rfl hx hw
      ·rename_i hl;exact go hl rfl hx hw
      ·exact hw.elim
     ·exact hw.elim
    ·exact hw.elim
   ·exact hw.elim
  ·exact hw.elim
 ·exact hw.elim
theorem ofCells_rel {agg:Bool} {l:List TV} {v:TV} (ho:ofCells agg l=some v) {m:List Value} (H:VRs c ρ F h l m):∃x,fromCells agg m=some x∧VR c ρ F h v x:=by
 unfold ofCells at ho
 split at ho
 ·cases ho;exact⟨_,rfl,.agg_of (by simpa using H)⟩
 ·cases ho
  obtain⟨x,m',rfl,h1,h2⟩:=H.inv_cons
  rw[h2.inv_nil]
  exact⟨x,rfl,h1⟩
 ·cases ho
theorem takeN_rel {n:Nat} {l r:List TV} (ht:takeN n l=some r) {m:List Value} (H:VRs c ρ F h l m):∃q,takeN n m=some q∧VRs c ρ F h r q:=by
 rw[takeN_some]at ht
 obtain⟨h1,rfl⟩:=ht
 exact⟨m.take n,by rw[takeN_some];exact⟨by rw[←H.1];exact h1,rfl⟩,H.take n⟩
theorem wfield_ok (L:EnvLe T E) {t:TypeId} {x:TV} {fd:Nat} {xv:Value} (hw:wfield T t x fd o c K) (hx:VR c ρ F h x xv):
 PRes c ρ F h o ((E.desc t).bind fun d=>(asA xv).bind fun cs=>(match d with
 | .struct fields=>(fields[fd]?).bind fun fl=>partV E fl.type cs fl.offset
 |_=>none)) K:=by
 unfold wfield at hw
 split at hw
 ·rename_i fields hd
  split at hw
  ·rename_i fl cs hf
   split at hw
   ·rename_i agg n hs
    split at hw
    ·rename_i l hl
     split at hw
     ·rename_i v hv
      obtain⟨hK,_⟩:=force_iff hw
      obtain⟨a,rfl,h1⟩:=hx.inv_agg
      obtain⟨q,h2,h3⟩:=takeN_rel hl (h1.drop fl.offset)
      obtain⟨x,h4,h5⟩:=ofCells_rel hv h3
      refine⟨v,x,?_,h5,hK⟩
      rw[L.desc _ _ hd]
      simp only[Option.bind_some,asA,hf,partV,L.shape hs,h2,h4]
     ·exact hw.elim
    ·exact hw.elim
   ·exact hw.elim
  ·exact hw.elim
 ·exact hw.elim
theorem asIT_rel {i:TV} {x:Value} {n:Int} (hi:asIT i=some n) (hx:VR c ρ F h i x):asI x=some n:=by
 unfold asIT at hi
 split at hi
 ·cases hi;rw[hx.inv_s.1];rfl
 ·cases hi
theorem windexAddr_ok (L:EnvLe T E) (H:Mem X ρ F o c h) {t:TypeId} {x i:TV} {xv iv:Value} (hw:windexAddr T t x i o c K) (hx:VR c ρ F h x xv) (hi:VR c ρ F h i iv):PRes c ρ F h o (aindexAddr E t xv iv) K:=by
 unfold windexAddr at hw
 split at hw
 ·rename_i elem i' hd hi'
  have hI:=asIT_rel hi' hi
  split at hw
  ·rename_i n hn
   have fin:∀b q z len cap,xv=Value.slice (some ⟨b,q,some z⟩) len cap→0≤i'→i'<len→aindexAddr E t xv iv=some (.pointer (some ⟨b,q+i'.toNat*n,none⟩)):=by
    rintro b q z len cap rfl h1 h2
    unfold aindexAddr
    rw[L.desc _ _ hd,hI]
    simp only[Option.bind_some,L.size _ _ hn,grd,h1,h2,decide_true,Bool.and_self]
   split at hw
   ·rename_i z es fl
    split at hw
    ·rename_i hz
     rw[beq_iff]at hz
     obtain⟨e,⟨h0,he⟩,hK⟩:=hw
     cases hx with
     |nil hes=>subst hes;simp at he
     |sl q1 q2 q3 q4 q5 q6 q7 q8 q9 q10=>
      have hlt:=(List.getElem?_eq_some_iff.1 he).1
      refine⟨_,_,fin _ _ _ _ _ rfl h0 (by omega),?_,hK⟩
      have hel:=q8 e (List.mem_of_getElem? he)
      rw[←Nat.add_zero (_+_*n)]
      refine .ep q1 q2 ?_ (q9 e (List.mem_of_getElem? he)) fun j t v r1 r2=>q10 _ j e t v he r1 (by rw[hz];exact r2)
      rw[hel,←hz]
      have:(i'.toNat+1)*z≤es.length*z:=Nat.mul_le_mul_right z hlt
      rw[Nat.add_mul]at this
      subst q4
      omega
    ·exact hw.elim
   ·rename_i m
    have go:∀{y:TO},look o m=some y→arrO y=true→zOf y=n→0≤i'→i'<lenO y→K (.wp m i'.toNat 0) o c .pure→PRes c ρ F h o (aindexAddr E t xv iv) K:=by
     intro y hl hy hz h0 h1 hK
     obtain⟨S,hO⟩:=H.objs hl
     rcases hO.tk hy hx with⟨e,_⟩|⟨b,cap,hb,_,rfl⟩
     ·rw[e]at h1;omega
     ·refine⟨_,_,fin _ _ _ _ _ rfl h0 h1,?_,hK⟩
      cases hx with
      |tk hn' h1c ha h0'=>
       refine .wp hn' rfl (fun b' z2 l2 hx'=>?_) (fun z2 hx'=>by rw[hb]at hx';cases hx')
       rw[hb]at hx';cases hx'
       rw[Nat.zero_add,Nat.add_zero,hz]
    split at hw
    ·rename_i z w es hl
     split at hw
     ·rename_i hz
      obtain⟨⟨h0,h1⟩,hK⟩:=hw
      exact go hl rfl (beq_iff.1 hz) h0 h1 hK
     ·exact hw.elim
    ·rename_i z es op hl
     split at hw
     ·rename_i hz
      obtain⟨⟨h0,h1⟩,hK⟩:=hw
      exact go hl rfl (beq_iff.1 hz) h0 h1 hK
     ·exact hw.elim
    ·exact hw.elim
   ·exact hw.elim
  ·exact hw.elim
 ·rename_i len elem i' hd hi'
  have hI:=asIT_rel hi' hi
  split at hw
  ·rename_i n hn
   obtain⟨⟨h1,h2⟩,hw⟩:=hw
   have fin:∀b q,xv=Value.pointer (some ⟨b,q,none⟩)→aindexAddr E t xv iv=some (.pointer (some ⟨b,q+i'.toNat*n,none⟩)):=by
    rintro b q rfl
    unfold aindexAddr
    rw[L.desc _ _ hd,hI]
    simp only[Option.bind_some,L.size _ _ hn,grd,h1,h2,decide_true,Bool.and_self]
   split at hw
   ·cases hx with
    |ptr hb=>exact⟨_,_,fin _ _ rfl,.ptr hb,hw⟩
   ·cases hx with
    |ep q1 q2 q3 q4 q5=>exact⟨_,_,fin _ _ rfl,by rw[Nat.add_assoc];exact .ep q1 q2 q3 q4 q5,hw⟩
   ·exact hw.elim
  ·exact hw.elim
 ·exact hw.elim
theorem windex_ok (L:EnvLe T E) {t:TypeId} {x i:TV} {xv iv:Value} (hw:windex T t x i o c K) (hx:VR c ρ F h x xv) (hi:VR c ρ F h i iv):PRes c ρ F h o (aindex E t xv iv) K:=by
 unfold windex at hw
 split at hw
 ·rename_i i' hd hi'
  have hI:=asIT_rel hi' hi
  split at hw
  ·obtain⟨b,⟨h1,h2⟩,hK⟩:=hw
   rw[hx.inv_s.1]
   refine⟨_,_,?_,.s rfl,hK⟩
   unfold aindex
   rw[L.desc _ _ hd,hI]
   simp only[Option.bind_some,grd,h1,decide_true,h2]
  ·exact hw.elim
 ·rename_i len elem i' hd hi'
  have hI:=asIT_rel hi' hi
  split at hw
  ·rename_i z agg n cs hz hs
   obtain⟨⟨h1,h2⟩,hw⟩:=hw
   split at hw
   ·rename_i l hl
    split at hw
    ·rename_i v hv
     obtain⟨hK,_⟩:=force_iff hw
     obtain⟨a,rfl,k1⟩:=hx.inv_agg
     obtain⟨q,h3,h4⟩:=takeN_rel hl (k1.drop (i'.toNat*z))
     obtain⟨x,h5,h6⟩:=ofCells_rel hv h4
     refine⟨v,x,?_,h6,hK⟩
     unfold aindex
     rw[L.desc _ _ hd,hI]
     simp only[Option.bind_some,L.size _ _ hz,grd,h1,h2,decide_true,Bool.and_self,partV,L.shape hs,h3,h5]
    ·exact hw.elim
   ·exact hw.elim
  ·exact hw.elim
 ·exact hw.elim
end
end Go.M
namespace Go.M
open Go
section
variable {T E:Env} {X:Cx} {ρ:Gh} {F:Nat→Prop} {o:Ob} {c:Nat} {af:AF} {f:Fr} {h:AHeap} {p:Oper} {K:OK}
def PSRes (X:Cx) (c:Nat) (ρ:Gh) (F:Nat→Prop) (h:AHeap) (o:Ob) (canon:Option Value) (K:OK):Prop:=
 ∃v x o' F',canon=some x∧Mem X ρ F' o' c h∧(∀t x,VR c ρ F h t x→VR c ρ F' h t x)∧(∀b,F b→F' b)∧(∀n y,look o n=some y→∃y',look o' n=some y'∧weak y y')∧VR c ρ F' h v x∧K v o' c .pure
theorem PRes.toS (H:Mem X ρ F o c h) {canon:Option Value} (R:PRes c ρ F h o canon K):PSRes X c ρ F h o canon K:=by
 obtain⟨v,x,h1,h2,h3⟩:=R
 exact⟨v,x,o,F,h1,H,fun _ _ h=>h,fun _ h=>h,fun n y hl=>⟨y,hl,weak.refl y⟩,h2,h3⟩
theorem PSRes.did {canon:Option Value} (H:Mem X ρ F o c h) (R:PSRes X c ρ F h o canon K) (hp:apure E af p=canon):Did E X ρ F o c af h p K:=by
 obtain⟨v,x,o',F',h1,h2,h3,h4,h5,h6,h7⟩:=R
 exact Did.pureS H h2 h3 h4 h5 (hp.trans h1) h6 h7
theorem weak_shareO (o:Ob) (m:Nat):∀n y,look o n=some y→∃y',look (shareO o m) n=some y'∧weak y y':=by
 intro n y hl
 unfold shareO
 split
 ·rename_i z w es hm
  rw[look_upd1]
  by_cases e:n=m
  ·subst e
   rw[if_pos rfl,hm]
   rw[hm]at hl;cases hl
   exact⟨_,rfl,rfl,rfl,fun h=>by cases h⟩
  ·rw[if_neg e];exact⟨y,hl,weak.refl y⟩
 ·exact⟨y,hl,weak.refl y⟩
theorem vbound_some {d y:Nat} {i:Int} (hi:0≤i) (hy:i≤y) (k:IntKind):boundV d y (some (.int k i))=some i.toNat:=by
 simp[boundV,grd,hi,hy]
theorem bnd_rel {d:Nat} {lo:Option TV} {lov:Option Value} {l:Int} (hb:bnd d lo=some l) (hl:(lo=none∧lov=none)∨∃y v,lo=some y∧lov=some v∧VR c ρ F h y v):
 (lov=none∧l=d)∨∃k,lov=some (.int k l):=by
 rcases hl with⟨rfl,rfl⟩|⟨y,v,rfl,rfl,hv⟩
 ·simp[bnd]at hb;exact .inl ⟨rfl,hb.symm⟩
 ·unfold bnd at hb
  split at hb
  ·rename_i he;cases he
  ·rename_i k i he
   cases he;cases hb
   rw[hv.inv_s.1]
   exact .inr ⟨k,rfl⟩
  ·cases hb
theorem boundV_rel {d y:Nat} {l:Int} {lov:Option Value} (h1:(lov=none∧l=d)∨∃k,lov=some (.int k l)) (h0:0≤l) (hy:l≤y):boundV d y lov=some l.toNat:=by
 rcases h1 with⟨rfl,rfl⟩|⟨k,rfl⟩
 ·simp[boundV]
 ·exact vbound_some h0 hy k
theorem asliceV_some {t elem:TypeId} {n z b o' len cap:Nat} {lo hi mx:Option Value} {l hh m:Nat} (hd:E.desc t=some (.slice elem)) (hn:E.size elem=some n) (hz:n=z) (hm:boundV cap len mx=some m)
 (hhi:boundV len (bif mx.isSome then m else len) hi=some hh) (hc:hi.isSome||mx.isNone) (hlo:boundV 0 hh lo=some l):
 asliceV E t (.slice (some ⟨b,o',some z⟩) len cap) lo hi mx=some (.slice (some (bif Nat.beq m l then⟨b,o',some z⟩else⟨b,o'+l*z,some z⟩)) (hh - l) (m - l)):=by
 unfold asliceV
 subst hz
 rw[hd]
 simp only[Option.bind_some,hn,hm,hhi,hlo,grd,hc]
 simp
theorem slice_part {z b oo len cap:Nat} {es:List (List TV)} {fl:Bool} (hv:VR c ρ F h (.sl z es fl) (.slice (some ⟨b,oo,some z⟩) len cap)) {l hh m:Nat} (hl:l≤hh) (hhl:hh≤es.length) (hm:hh≤m) (fl':Bool) (hfl:fl'=true→m=hh):
 VR c ρ F h (.sl z ((es.take hh).drop l) fl') (.slice (some (bif Nat.beq m l then⟨b,oo,some z⟩else⟨b,oo+l*z,some z⟩)) (hh - l) (m - l)):=by
 cases hv with
 |sl q1 q2 q3 q4 q5 q6 q7 q8 q9 q10=>
  have hlen:((es.take hh).drop l).length=hh - l:=by simp;omega
  by_cases e:m=l
  ·have e2:hh=l:=by omega
   subst e2
   subst e
   rw[show(bif Nat.beq m m then(⟨b,oo,some z⟩:Addr)else⟨b,oo+m*z,some z⟩)=⟨b,oo,some z⟩ by simp]
   refine .sl q1 q2 q3 hlen (by omega) (fun _=>rfl) (by simp;omega) (fun e he=>?_) (fun e he=>?_) fun i j e t v r1=>?_
   ·exact q8 e (List.mem_of_mem_take (List.mem_of_mem_drop he))
   ·exact q9 e (List.mem_of_mem_take (List.mem_of_mem_drop he))
   ·have:=(List.getElem?_eq_some_iff.1 r1).1;omega
  ·rw[show(bif Nat.beq m l then(⟨b,oo,some z⟩:Addr)else⟨b,oo+l*z,some z⟩)=⟨b,oo+l*z,some z⟩ by
    rw[nbeq];simp[e]]
   refine .sl q1 q2 q3 hlen (by omega) (fun h=>by rw[hfl h]) ?_ (fun e he=>?_) (fun e he=>?_) fun i j e t v r1 r2 r3=>?_
   ·have:(l+(hh - l))*z≤es.length*z:=Nat.mul_le_mul_right z (by omega)
    rw[Nat.add_mul]at this
    subst q4;omega
   ·exact q8 e (List.mem_of_mem_take (List.mem_of_mem_drop he))
   ·exact q9 e (List.mem_of_mem_take (List.mem_of_mem_drop he))
   ·rw[List.getElem?_drop,List.getElem?_take]at r1
    split at r1
    ·refine q10 (l+i) j e t v r1 r2 ?_
     rw[←r3,Nat.add_mul]
     congr 1;omega
    ·cases r1
theorem asliceV_nil {t elem n:Nat} {lo hi mx:Option Value} {l hh m:Nat} (hd:E.desc t=some (.slice elem)) (hn:E.size elem=some n) (hm:boundV 0 0 mx=some m)
 (hhi:boundV 0 (bif mx.isSome then m else 0) hi=some hh) (hc:hi.isSome||mx.isNone) (hlo:boundV 0 hh lo=some l):
 asliceV E t (.slice none 0 0) lo hi mx=some (.slice none 0 0):=by
 unfold asliceV
 rw[hd]
 simp only[Option.bind_some,hn,hm,hhi,hlo,grd,hc]
def OptR (c:Nat) (ρ:Gh) (F:Nat→Prop) (h:AHeap) (y:Option TV) (v:Option Value):Prop:=(y=none∧v=none)∨∃y' v',y=some y'∧v=some v'∧VR c ρ F h y' v'
theorem wslice_core (L:EnvLe T E) {t:TypeId} {z n l hh m:Nat} {elem:TypeId} {es:List (List TV)} {fl:Bool} {xv:Value} {lov hiv mxv:Option Value} (hd:T.desc t=some (.slice elem)) (hn:T.size elem=some n) (hz:z=n∨z=0)
 (hx:VR c ρ F h (.sl z es fl) xv) (hl:l≤hh) (hhl:hh≤es.length) (_:hh≤m) (fl':Bool) (_:fl'=true→m=hh)
 (b1:∀len cap,len=es.length→len≤cap→∃m',boundV cap len mxv=some m'∧boundV len (bif mxv.isSome then m' else len) hiv=some hh∧hh≤m'∧(fl'=true→m'=hh)) (b2:(hiv.isSome||mxv.isNone)=true) (b3:boundV 0 hh lov=some l):
 ∃x,asliceV E t xv lov hiv mxv=some x∧VR c ρ F h (.sl z ((es.take hh).drop l) fl') x:=by
 cases hx with
 |nil he=>
  subst he
  obtain⟨m',k1,k2,_,_⟩:=b1 0 0 rfl (Nat.le_refl _)
  refine⟨_,asliceV_nil (L.desc _ _ hd) (L.size _ _ hn) k1 k2 b2 b3,.nil (by simp)⟩
 |sl q1 q2 q3 q4 q5 q6 q7 q8 q9 q10=>
  have hzn:n=z:=by omega
  obtain⟨m',k1,k2,k3,k4⟩:=b1 _ _ q4.symm q5
  refine⟨_,asliceV_some (L.desc _ _ hd) (L.size _ _ hn) hzn k1 k2 b2 b3,slice_part (.sl q1 q2 q3 q4 q5 q6 q7 q8 q9 q10) hl hhl k3 fl' k4⟩
theorem esOf_rel (H:Mem X ρ F o c h) {x:TV} {z:Nat} {es:List (List TV)} (he:esOf o x=some (z,es)):∃F',Mem X ρ F' (share1 o x) c h∧(∀t v,VR c ρ F h t v→VR c ρ F' h t v)∧(∀b,F b→F' b)∧(∀n y,look o n=some y→∃y',look (share1 o x) n=some y'∧weak y y')∧
 ∀xv,VR c ρ F h x xv→∃fl,VR c ρ F' h (.sl z es fl) xv:=by
 unfold esOf at he
 split at he
 ·cases he;exact⟨F,H,fun _ _ h=>h,fun _ h=>h,fun n y hl=>⟨y,hl,weak.refl y⟩,fun xv hx=>⟨_,hx⟩⟩
 ·rename_i m
  split at he
  ·rename_i w es' hl
   cases he
   obtain⟨F',h1,h2,h3,h4⟩:=H.share m
   exact⟨F',h1,h2,h3,weak_shareO o m,fun xv hx=>⟨false,h4 _ _ _ _ hl hx⟩⟩
  ·cases he
 ·cases he
theorem wslice_ok (L:EnvLe T E) (H:Mem X ρ F o c h) {t:TypeId} {x:TV} {xv:Value} {lo hi mx:Option TV} {lov hiv mxv:Option Value} (hw:wslice T t x lo hi mx o c K) (hx:VR c ρ F h x xv) (hlo:OptR c ρ F h lo lov) (hhi:OptR c ρ F h hi hiv) (hmx:OptR c ρ F h mx mxv):
 PSRes X c ρ F h o (asliceV E t xv lov hiv mxv) K:=by
 unfold wslice at hw
 split at hw
 ·rename_i hd
  split at hw
  ·rename_i s
   split at hw
   ·rename_i hh l e1 e2
    obtain⟨⟨h1,h2,h3⟩,hK⟩:=hw
    rcases hmx with⟨_,rfl⟩|⟨_,_,e,_⟩
    ·refine PRes.toS H ⟨_,_,?_,.s rfl,hK⟩
     rw[hx.inv_s.1]
     have a1:boundV s.size s.size hiv=some hh.toNat:=boundV_rel (bnd_rel e1 hhi) (by omega) h3
     have a2:boundV 0 hh.toNat lov=some l.toNat:=boundV_rel (bnd_rel e2 hlo) h1 (by omega)
     unfold asliceV
     rw[L.desc _ _ hd]
     simp only[Option.bind_some,grd,a1,a2]
     rfl
    ·cases e
   ·exact hw.elim
  ·exact hw.elim
 ·rename_i elem hd
  split at hw
  ·rename_i n z es hn he
   obtain⟨F',k1,k2,k3,k4,k5⟩:=esOf_rel H he
   obtain⟨fl,hxs⟩:=k5 xv hx
   split at hw
   ·rename_i hz
    simp only[Bool.or_eq_true,beq_iff]at hz
    split at hw
    ·rcases hmx with⟨_,rfl⟩|⟨_,_,e,_⟩
     ·split at hw
      ·rename_i hh l e1 e2
       have plain:(0≤l∧l≤hh∧hh≤es.length)→K (.sl z ((es.take hh.toNat).drop l.toNat) false) (share1 o x) c .pure→PSRes X c ρ F h o (asliceV E t xv lov hiv none) K:=by
        rintro⟨h1,h2,h3⟩ hK
        obtain⟨x',q1,q2⟩:=wslice_core L (l:=l.toNat) (hh:=hh.toNat) (m:=hh.toNat) hd hn hz hxs (by omega) (by omega) (Nat.le_refl _) false (lov:=lov) (hiv:=hiv) (mxv:=none) (fun h=>by cases h)
         (fun len cap e3 e4=>⟨cap,rfl,by subst e3;exact boundV_rel (bnd_rel e1 hhi) (by omega) h3,by subst e3;omega,fun h=>by cases h⟩) (by simp) (boundV_rel (bnd_rel e2 hlo) h1 (by omega))
        exact⟨_,x',_,F',q1,k1,k2,k3,k4,q2,hK⟩
       split at hw
       ·split at hw
        ·obtain⟨hc,hK⟩:=hw
         split at hK
         ·rename_i hz9
          have hz9:=beq_iff.1 hz9
          subst hz9
          obtain⟨h1,h2,h3⟩:=hc
          have hz8:=hxs
          cases hz8 with
          |nil he9=>
           subst he9
           simp only[List.length_nil]at h3
           have e0:hh.toNat=0:=by simp at h3;omega
           have e9:l.toNat=0:=by omega
           have b1:=boundV_rel (y:=0) (bnd_rel e1 hhi) (by omega) (by simpa using h3)
           have b2:=boundV_rel (y:=0) (bnd_rel e2 hlo) h1 (by simp at h3;omega)
           rw[e0]at b1
           rw[e9]at b2
           exact⟨.sl 0 [] true,.slice none 0 0,_,F',asliceV_nil (L.desc _ _ hd) (L.size _ _ hn) (m:=0) (hh:=0) (l:=0) rfl b1 (by simp) b2,k1,k2,k3,k4,.nil rfl,hK⟩
          |sl q1 q2 q3=>omega
         ·exact plain hc hK
        ·rename_i n' hpq
         obtain⟨hc,hK⟩:=hw
         rcases hK with hK|hK
         ·exact plain hc hK
         obtain⟨h1,h2,h3⟩:=hc
         obtain⟨rfl,rfl,y,rfl⟩:x= .tk n'∧lo=none∧∃y,hi=some y:=by
          unfold pvQ at hpq
          split at hpq
          ·cases hpq;exact⟨rfl,rfl,_,rfl⟩
          ·cases hpq
         have hlov:lov=none:=by
          rcases hlo with⟨_,e⟩|⟨_,_,e,_⟩
          ·exact e
          ·cases e
         subst hlov
         have hl0:l=0:=by simpa[bnd]using e2.symm
         subst hl0
         obtain⟨w,hl⟩:∃w,look o n'=some (.arr z w es):=by
          unfold esOf at he
          simp only at he
          split at he
          ·rename_i w _ hl;cases he;exact⟨_,hl⟩
          ·cases he
         have a1:∀y:Nat,y=es.length→boundV y y hiv=some hh.toNat:=fun y hy=>by subst hy;exact boundV_rel (bnd_rel e1 hhi) (by omega) h3
         obtain⟨Sm,hO⟩:=H.objs hl
         have hnc:n'<c:=by cases hx with|tk hn=>exact hn
         rcases hO.tk rfl hx with⟨h0,hb,rfl |⟨b,o',cs,q1,q2,hz0,q4,rfl⟩⟩|⟨b,cap,hb,hcap,rfl⟩
         ·have h0:es.length=0:=h0
          have hh0:hh.toNat=0:=by omega
          refine⟨.pv n' hh.toNat,.slice none 0 0,o,F,asliceV_nil (L.desc _ _ hd) (L.size _ _ hn) (m:=0) (hh:=0) (l:=0) rfl (by have:=a1 0 (by omega);rwa [hh0]at this) (by simp) rfl,H,fun _ _ h=>h,fun _ h=>h,fun n y hl=>⟨y,hl,weak.refl y⟩,
           .pv hnc rfl (fun b z len e=>by rw[hb]at e;cases e) (fun _ _=>.inl rfl),hK⟩
         ·have h0:es.length=0:=h0
          have hh0:hh.toNat=0:=by omega
          have hz0:0<z:=hz0
          refine⟨.pv n' hh.toNat,_,o,F,asliceV_some (L.desc _ _ hd) (L.size _ _ hn) (z:=z) (m:=0) (hh:=0) (l:=0) (by omega) rfl (by have:=a1 0 (by omega);rwa [hh0]at this) (by simp) rfl,H,fun _ _ h=>h,fun _ h=>h,fun n y hl=>⟨y,hl,weak.refl y⟩,
           .pv hnc rfl (fun b z len e=>by rw[hb]at e;cases e) (fun z' hz'=>?_),hK⟩
          have hz2:z'=z:=by rw[hb]at hz';cases hz';rfl
          subst hz2
          exact .inr ⟨_,_,_,q1,q2,hz0,q4,rfl⟩
         ·have hz0:0<z:=by
           cases hO with
           |nil hb'=>rw[hb]at hb';cases hb'
           |arr _ _ _ _ _ hz=>exact hz
          have hb:ρ n'=some (.arr b z es.length):=hb
          have hcap:es.length≤cap:=hcap
          refine⟨.pv n' hh.toNat,_,o,F,asliceV_some (L.desc _ _ hd) (L.size _ _ hn) (z:=z) (m:=cap) (hh:=hh.toNat) (l:=0) (by omega) rfl (boundV_rel (bnd_rel e1 hhi) (by omega) h3) (by simp) rfl,H,fun _ _ h=>h,fun _ h=>h,fun n y hl=>⟨y,hl,weak.refl y⟩,
           .pv hnc rfl (fun b1 z1 len1 e=>?_) (fun _ e=>by rw[hb]at e;cases e),hK⟩
          rw[hb]at e;cases e
          exact⟨cap,by omega,by simp⟩
       ·rename_i n' hsq
        obtain⟨hc,hK⟩:=hw
        rcases hK with hK|hK
        ·exact plain hc hK
        obtain⟨h1,h2,h3⟩:=hc
        obtain⟨rfl,rfl⟩:x= .tk n'∧hi=none:=by
         unfold svQ at hsq
         split at hsq
         ·cases hsq;exact⟨rfl,rfl⟩
         ·cases hsq
        have hhiv:hiv=none:=by
         rcases hhi with⟨_,e⟩|⟨_,_,e,_⟩
         ·exact e
         ·cases e
        subst hhiv
        have hhe:hh=es.length:=by simpa[bnd]using e1.symm
        subst hhe
        obtain⟨w,hl⟩:∃w,look o n'=some (.arr z w es):=by
         unfold esOf at he
         simp only at he
         split at he
         ·rename_i w _ hl;cases he;exact⟨_,hl⟩
         ·cases he
        have b3:∀y:Nat,l≤y→boundV 0 y lov=some l.toNat:=fun y hy=>boundV_rel (bnd_rel e2 hlo) h1 hy
        obtain⟨Sm,hO⟩:=H.objs hl
        have hnc:n'<c:=by cases hx with|tk hn=>exact hn
        rcases hO.tk rfl hx with⟨h0,hb,rfl |⟨b,o',cs,_,_,hz0,_,rfl⟩⟩|⟨b,cap,hb,hcap,rfl⟩
        ·have h0:es.length=0:=h0
         have hl0:l.toNat=0:=by omega
         refine⟨.sv n' l.toNat,.slice none 0 0,o,F,asliceV_nil (L.desc _ _ hd) (L.size _ _ hn) (m:=0) (hh:=0) (l:=0) rfl rfl rfl (by have:=b3 0 (by omega);rwa [hl0]at this),H,fun _ _ h=>h,fun _ h=>h,fun n y hl=>⟨y,hl,weak.refl y⟩,
          .sv hnc rfl (fun b z len e=>by rw[hb]at e;cases e) (fun _ _=>.inl rfl),hK⟩
        ·have h0:es.length=0:=h0
         have hl0:l.toNat=0:=by omega
         have hz0:0<z:=hz0
         refine⟨.sv n' l.toNat,_,o,F,asliceV_some (L.desc _ _ hd) (L.size _ _ hn) (z:=z) (m:=0) (hh:=0) (l:=0) (by omega) rfl rfl rfl (by have:=b3 0 (by omega);rwa [hl0]at this),H,fun _ _ h=>h,fun _ h=>h,fun n y hl=>⟨y,hl,weak.refl y⟩,
          .sv hnc rfl (fun b z len e=>by rw[hb]at e;cases e) (fun _ _=>.inr ⟨_,_,_,_,rfl⟩),hK⟩
        ·have hz0:0<z:=by
          cases hO with
          |nil hb'=>rw[hb]at hb';cases hb'
          |arr _ _ _ _ _ hz=>exact hz
         have hb:ρ n'=some (.arr b z es.length):=hb
         have hcap:es.length≤cap:=hcap
         refine⟨.sv n' l.toNat,_,o,F,asliceV_some (L.desc _ _ hd) (L.size _ _ hn) (z:=z) (m:=cap) (hh:=es.length) (l:=l.toNat) (by omega) rfl rfl rfl (b3 _ (by omega)),H,fun _ _ h=>h,fun _ h=>h,fun n y hl=>⟨y,hl,weak.refl y⟩,
          .sv hnc rfl (fun b1 z1 len1 e=>?_) (fun _ e=>by rw[hb]at e;cases e),hK⟩
         rw[hb]at e;cases e
         cases hbq:Nat.beq cap l.toNat with
         |true=>
          have:=beq_iff.1 hbq
          exact⟨_,_,rfl,fun hlt=>by omega⟩
         |false=>exact⟨_,_,rfl,fun _=>Nat.zero_add _⟩
      ·exact hw.elim
     ·cases e
    ·rename_i m _
     split at hw
     ·rename_i kk hh l m' e2 e3
      obtain⟨⟨h1,h2,rfl,h3⟩,hK⟩:=hw
      rcases hmx with⟨e,_⟩|⟨y1,v1,e,rfl,hv1⟩
      ·cases e
      ·cases e
       rcases hhi with⟨e,_⟩|⟨y2,v2,e,rfl,hv2⟩
       ·cases e
       ·cases e
        have hm':∃k,v1= .int k hh:=by
         unfold asIT at e3
         split at e3
         ·cases e3;rw[hv1.inv_s.1];exact⟨_,rfl⟩
         ·cases e3
        obtain⟨k',rfl⟩:=hm'
        rw[hv2.inv_s.1]
        obtain⟨x',q1,q2⟩:=wslice_core L (l:=l.toNat) (hh:=hh.toNat) (m:=hh.toNat) hd hn hz hxs (by omega) (by omega) (Nat.le_refl _) true (lov:=lov) (hiv:=some (.int kk hh)) (mxv:=some (.int k' hh)) (fun _=>rfl)
         (fun len cap e3 e4=>⟨hh.toNat,vbound_some (by omega) (by subst e3;omega) k',vbound_some (by omega) (by simp;omega) kk,Nat.le_refl _,fun _=>rfl⟩) rfl (boundV_rel (bnd_rel e2 hlo) h1 (by omega))
        exact⟨_,x',_,F',q1,k1,k2,k3,k4,q2,hK⟩
     ·exact hw.elim
   ·exact hw.elim
  ·exact hw.elim
 ·exact hw.elim
end
end Go.M
namespace Go.M
open Go
section
variable {T E:Env} {X:Cx} {ρ:Gh} {F:Nat→Prop} {o:Ob} {c:Nat} {af:AF} {f:Fr} {h:AHeap} {p:Oper} {K:OK}
theorem one_cells {x:Value} (h:∀a,x≠ .agg a):x.cells= #[x]:=by
 cases x<;>first|rfl |exact absurd rfl (h _)
theorem plain1_noagg {x:Value} (h:plain1 x=true):∀a,x≠ .agg a:=by rintro a rfl;simp[plain1]at h
theorem cells_rel {v:TV} {x:Value} (hv:VR c ρ F h v x) (ho:okV v=true):VRs c ρ F h (cellsT v) x.cells.toList:=by
 have one:(∀a,x≠ .agg a)→cellsT v=[v]→VRs c ρ F h (cellsT v) x.cells.toList:=fun h1 h2=>by
  rw[h2,one_cells h1];exact .cons hv .nil
 cases hv with
 |j=>simp[okV,okC]at ho
 |s hp=>exact one (plain1_noagg hp) rfl
 |nil=>exact one (by rintro a e;cases e) rfl
 |sl=>exact one (by rintro a e;cases e) rfl
 |tk hn h1c ha h0=>exact one (by rintro a rfl;simp[slV]at h1c) rfl
 |ptr=>exact one (by rintro a e;cases e) rfl
 |ep=>exact one (by rintro a e;cases e) rfl
 |wp hn h1c ha h0=>exact one (by rintro a rfl;simp[ptV]at h1c) rfl
 |mp=>exact one (by rintro a e;cases e) rfl
 |bg=>exact one (by rintro a e;cases e) rfl
 |sv=>simp[okV,okC]at ho
 |pv=>simp[okV,okC]at ho
 |agg hs ha=>exact⟨by simpa[cellsT,Value.cells]using hs,fun i t v h1 h2=>ha i t v h1 (by simpa[Value.cells]using h2)⟩
 |tup=>simp[okV,okC]at ho
 |ifc=>exact one (by rintro a e;cases e) rfl
 |clo=>exact one (by rintro a e;cases e) rfl
theorem setN_rel:∀{n:Nat} {l xs r:List TV} {l' xs':List Value},setN l n xs=some r→VRs c ρ F h l l'→VRs c ρ F h xs xs'→∃r',setN l' n xs'=some r'∧VRs c ρ F h r r'
 |0,l,[],r,l',xs',hs,hl,hx=>by
  simp[setN]at hs;subst hs
  rw[hx.inv_nil]
  exact⟨l',by simp[setN],hl⟩
 |0,[],x::xs,r,l',xs',hs,hl,hx=>by simp[setN]at hs
 |0,y::l,x::xs,r,l',xs',hs,hl,hx=>by
  simp only[setN,Option.bind_eq_some_iff,Option.some.injEq]at hs
  obtain⟨q,hq,rfl⟩:=hs
  obtain⟨y',m,rfl,_,h2⟩:=hl.inv_cons
  obtain⟨x',k,rfl,h3,h4⟩:=hx.inv_cons
  obtain⟨r',h5,h6⟩:=setN_rel hq h2 h4
  exact⟨x'::r',by simp[setN,h5],.cons h3 h6⟩
 |n+1,[],xs,r,l',xs',hs,hl,hx=>by simp[setN]at hs
 |n+1,y::l,xs,r,l',xs',hs,hl,hx=>by
  simp only[setN,Option.bind_eq_some_iff,Option.some.injEq]at hs
  obtain⟨q,hq,rfl⟩:=hs
  obtain⟨y',m,rfl,h1,h2⟩:=hl.inv_cons
  obtain⟨r',h5,h6⟩:=setN_rel hq h2 hx
  exact⟨y'::r',by simp[setN,h5],.cons h1 h6⟩
theorem vfill_rel {pT pE:Nat→Option (Nat×Nat)} (hp:∀i x,pT i=some x→pE i=some x):∀{ps:List (Nat×TV)} {zs cs:List TV} {zv:List Value} {pv:List (Nat×Value)},vfill pT zs ps=some cs→VRs c ρ F h zs zv→PRs c ρ F h ps pv→
 ∃cv,fillA pE zv pv=some cv∧VRs c ρ F h cs cv
 |[],zs,cs,zv,[],hf,hz,_=>by simp[vfill]at hf;subst hf;exact⟨zv,rfl,hz⟩
 |[],zs,cs,zv,_::_,hf,hz,hq=>hq.elim
 |a::l,zs,cs,zv,[],hf,hz,hq=>hq.elim
 |a::l,zs,cs,zv,b::m,hf,hz,hq=>by
  obtain⟨e,hv,hr⟩:=hq
  unfold vfill at hf
  split at hf
  ·rename_i q n hpl
   split at hf
   ·rename_i hc
    simp only[Bool.and_eq_true,beq_iff]at hc
    have hcr:=cells_rel hv hc.1
    split at hf
    ·rename_i cs1 hset
     obtain⟨r',h1,h2⟩:=setN_rel hset hz hcr
     obtain⟨cv,h3,h4⟩:=vfill_rel hp hf h2 hr
     refine⟨cv,?_,h4⟩
     obtain⟨i,x⟩:=b
     simp only[fillA]
     simp only at e
     subst e
     rw[hp _ _ hpl]
     simp only[Option.bind_some]
     have:x.cells.size=n:=by have:=hcr.1;simp only[Array.length_toList]at this;omega
     rw[this]
     simp[grd,h1,h3]
    ·cases hf
   ·cases hf
  ·cases hf
theorem wbuild_ok (L:EnvLe T E) {t:TypeId} {ps:List (Nat×TV)} {pv:List (Nat×Value)} (hw:wbuild T t ps o c K) (hp:PRs c ρ F h ps pv):PRes c ρ F h o (abuild E t pv) K:=by
 unfold wbuild at hw
 split at hw
 ·rename_i fields z hd hz
  obtain⟨hz',hpl⟩:=L.zero _ _ hz
  split at hw
  ·rename_i zs hall hzs
   rw[Array.all_toList]at hall
   split at hw
   ·rename_i cs hf
    have hpm:∀i x,placeF T fields i=some x→placeF E fields i=some x:=fun i x hx=>by
     unfold placeF at hx ⊢
     simp only[Option.bind_eq_some_iff]at hx ⊢
     obtain⟨fd,h1,n,h2,h3⟩:=hx
     exact⟨fd,h1,n,L.size _ _ h2,h3⟩
    obtain⟨cv,h1,h2⟩:=vfill_rel hpm hf (zcells_rel hpl hzs) hp
    refine⟨_,_,?_,.agg_of (a:=cv.toArray) (by simpa using h2),hw⟩
    unfold abuild
    rw[L.desc _ _ hd,hz']
    simp only[Option.bind_some]
    have hall':(fields.all fun fd=>(E.size fd.type).isSome)=true:=by
     rw[Array.all_eq_true]at hall ⊢
     intro i hi
     have:=hall i hi
     obtain⟨n,hn⟩:=Option.isSome_iff_exists.1 this
     rw[L.size _ _ hn];rfl
    rw[hall']
    simp[grd,h1]
   ·exact hw.elim
  ·exact hw.elim
 ·rename_i len elem z hd hz
  obtain⟨hz',hpl⟩:=L.zero _ _ hz
  split at hw
  ·rename_i n zs hn hzs
   split at hw
   ·rename_i cs hf
    obtain⟨cv,h1,h2⟩:=vfill_rel (pE:=fun i=>some (i*n,n)) (fun i x hx=>hx) hf (zcells_rel hpl hzs) hp
    refine⟨_,_,?_,.agg_of (a:=cv.toArray) (by simpa using h2),hw⟩
    unfold abuild
    rw[L.desc _ _ hd,hz']
    simp only[Option.bind_some,L.size _ _ hn,h1]
   ·exact hw.elim
  ·exact hw.elim
 ·exact hw.elim
theorem aconv_mono (L:EnvLe T E) {s d:TypeId} {x v:Value} (hx:aconv T s d x=some v):aconv E s d x=some v:=by
 unfold aconv at hx ⊢
 simp only[Option.bind_eq_some_iff]at hx ⊢
 obtain⟨q,h1,dd,h2,h3⟩:=hx
 exact⟨q,L.desc _ _ h1,dd,L.desc _ _ h2,h3⟩
end
end Go.M
namespace Go.M
open Go
section
variable {T E:Env} {X:Cx} {ρ:Gh} {F:Nat→Prop} {o:Ob} {c:Nat} {af:AF} {f:Fr} {h:AHeap} {p:Oper} {K:OK}
theorem eqL1_plain {v:Value} (hp:plain1 v=true) (hc:∀r,v≠ .chan r):eqL1 v v=true:=by
 cases v<;>simp[plain1]at hp<;>first
  |(simp[eqL1];done)
  |(exact absurd rfl (hc _))
  |(rename_i a;cases a<;>simp at hp<;>simp[eqL1])
theorem eqE_refl {t:TV} {x:Value} (hv:VR c ρ F h t x) (he:eqE t=true):eqL1 x x=true:=by
 cases hv with
 |j=>simp[eqE]at he
 |s hp=>exact eqL1_plain hp (by rintro r rfl;simp[eqE]at he)
 |nil=>simp[eqL1]
 |sl=>simp[eqL1]
 |tk hn h1c ha h0=>cases x<;>simp[slV]at h1c;simp[eqL1]
 |ptr=>simp[eqL1]
 |ep=>simp[eqL1]
 |wp hn h1c ha h0=>cases x<;>simp[ptV]at h1c;simp[eqL1]
 |mp=>simp[eqL1]
 |bg=>simp[eqE]at he
 |sv=>simp[eqE]at he
 |pv=>simp[eqE]at he
 |agg=>simp[eqE]at he
 |tup=>simp[eqE]at he
 |ifc hv1=>
  rename_i t v v'
  cases v<;>simp[eqE]at he
  rename_i w
  cases w<;>simp at he
  rw[hv1.inv_s.1]
  simp[eqL1]
 |clo hs ha ht hk=>
  rename_i g x y a k
  cases x<;>simp[eqE]at he
  cases y<;>simp at he
  simp at hs ht
  simp[eqL1,←hs,←ht]
theorem eqEs_refl:∀{l:List TV} {m:List Value},VRs c ρ F h l m→l.all eqE=true→eqLs m m=true
 |[],m,H,_=>by rw[H.inv_nil];rfl
 |t::l,m,H,he=>by
  simp only[List.all_cons,Bool.and_eq_true]at he
  obtain⟨v,m',rfl,h1,h2⟩:=H.inv_cons
  simp only[eqLs,Bool.and_eq_true]
  exact⟨eqE_refl h1 he.1,eqEs_refl h2 he.2⟩
theorem rdL_ok {c1:Nat} {ρ1:Gh} {l:List TV} {m:List Value} {v:VL} {q:RQ} {ρ':Gh} {o':Ob} {h':AHeap} (H:VRs c1 ρ1 F h l m) (hok:eqLs m m=true→LogOk ρ F o h ρ' o' h' v (.rd q h)):LogOk ρ F o h ρ' o' h' (rdL l v) (.rd q h):=by
 unfold rdL
 split
 ·rename_i he;exact hok (eqEs_refl H he)
 ·exact .bad
def RRes (X:Cx) (c:Nat) (ρ:Gh) (F:Nat→Prop) (h:AHeap) (o:Ob) (q:RQ) (K:OK):Prop:=∃v x lg ρ' o' c',q.run h=some x∧Nx X ρ F o c h ρ' F o' c' h∧VR c' ρ' F h v x∧K v o' c' lg∧LogOk ρ F o h ρ' o' h lg (.rd q h)
theorem RRes.did {q:RQ} (R:RRes X c ρ F h o q K) (hp:apure E af p=none) (hq:aread E af p=some q):Did E X ρ F o c af h p K:=by
 obtain⟨v,x,lg,ρ',o',c',h1,h2,h3,h4,h5⟩:=R
 refine⟨0,⟨x,h,.rd q h⟩,v,o',c',ρ',F,lg,fun n _=>?_,h4,h2,h3,h5⟩
 unfold runOp
 rw[hp,hq]
 simp[h1]
theorem RRes.same {q:RQ} (H:Mem X ρ F o c h) {v:TV} {x:Value} {lg:VL} (h1:q.run h=some x) (h2:VR c ρ F h v x) (h3:K v o c lg) (h4:LogOk ρ F o h ρ o h lg (.rd q h)):RRes X c ρ F h o q K:=⟨v,x,lg,ρ,o,c,h1,.refl H,h2,h3,h4⟩
theorem openL_nil:∀{l:List TV} {k:Nat},(openL l k).2=[]→(openL l k).1=l
 |[],_,_=>rfl
 |t::l,k,hn=>by
  cases t<;>first|(simp only[openL]at hn ⊢;rw[openL_nil hn])|(simp[openL]at hn)
theorem setN_eq {α:Type}:∀{l xs r:List α} {p:Nat},setN l p xs=some r→r=l.take p++(xs++(l.drop p).drop xs.length)
 |l,[],r,0,h=>by simp[setN]at h;subst h;simp
 |[],x::xs,r,0,h=>by simp[setN]at h
 |y::l,x::xs,r,0,h=>by
  simp only[setN,Option.bind_eq_some_iff,Option.some.injEq]at h
  obtain⟨q,hq,rfl⟩:=h
  have:=setN_eq hq
  simp only[List.take_zero,List.nil_append,List.drop_zero]at this
  rw[this];simp
 |[],xs,r,p+1,h=>by simp[setN]at h
 |y::l,xs,r,p+1,h=>by
  simp only[setN,Option.bind_eq_some_iff,Option.some.injEq]at h
  obtain⟨q,hq,rfl⟩:=h
  rw[setN_eq hq];simp
theorem openL_len:∀(l:List TV) (k:Nat),(openL l k).1.length=l.length
 |[],_=>rfl
 |t::l,k=>by cases t<;>simp[openL,openL_len l]
theorem wopen_ok (H:Mem X ρ F o c h) {S:Nat→Ft} (K0:MO X ρ F o c h S) {agg:Bool} {n p q m b:Nat} {e:List TV} {y:TO} {put:List TV→TO} {Se:Ft} {vs:List Value} {lg:VL} (hw:wopen agg n p e o c lg put m K) (hl:look o m=some y) (hb:atB ρ m b) (hlg:lg= .rdO m∨lg= .rdN m p .j∧p=q∧ρ m=some (.blk b))
 (hc:CNs c ρ F h X.base Se e vs) (hr:n≤(e.drop p).length→M.readCells h b q n=some ((vs.drop p).take n))
 (hput:∀c' ρ' e' S',(∀t v,VR c ρ F h t v→VR c' ρ' F h t v)→ρ' m=ρ m→e'.length=e.length→CNs c' ρ' F h X.base S' e' vs→∃S0,OR c' ρ' F h X.base m S0 (put e')∧∀R,Se.Perm (S'++R)→(S m).Perm (S0++R)):
 RRes X c ρ F h o (.cells agg b q n) K:=by
 unfold wopen at hw
 split at hw
 ·exact hw.elim
 ·rename_i l ht
  rw[takeN_some]at ht
  obtain⟨t1,rfl⟩:=ht
  have hrc:=hr t1
  obtain⟨S1,S2,S3,hS,a1,a2,a3⟩:=hc.part p n
  have fzm:∀t v,VR 0 noG F h t v→fz t=true→VR c ρ F h t v:=fun t v hv hf=>hv.fzmono hf
  split at hw
  ·rename_i hn0
   split at hw
   ·rename_i v hv
    obtain⟨hK,_⟩:=force_iff hw
    obtain⟨Ss,ls,b1,b2,b3⟩:=a2.opened c
    have hl0:ls.length=0:=by rw[b2.l2,hn0];rfl
    have hV:=b3 c ρ (fun _ _ h=>h) (by omega) (fun i q hq=>by
     have:=(List.getElem?_eq_some_iff.1 hq).1;omega)
    rw[openL_nil hn0]at hV
    obtain⟨x,h6,h7⟩:=ofCells_rel hv hV
    have main:eqLs ((vs.drop p).take n) ((vs.drop p).take n)=true→LogOk ρ F o h ρ o h (nmL v lg) (.rd (.cells agg b q n) h):=by
     intro he
     have pl:LogOk ρ F o h ρ o h (.rdO m) (.rd (.cells agg b q n) h):=.rdO (.refl _) rfl hl hb ⟨_,hrc,he⟩
     rcases hlg with rfl |⟨rfl,rfl,hbl⟩
     ·exact pl
     have one:∀w,v=w→isAggT w=false→plainC w=true→(∀cs,w≠ .agg cs)→(∀y,VR c ρ F h w y→NmVal ρ w y)→LogOk ρ F o h ρ o h (.rdN m p w) (.rd (.cells agg b p n) h):=by
      rintro w rfl _ _ hna hnm
      unfold ofCells at hv
      split at hv
      ·cases hv;exact absurd rfl (hna _)
      ·rename_i l' w' heq
       cases hv
       rw[heq]at hV
       obtain⟨y1,m1,e1,hy,hm1⟩:=hV.inv_cons
       obtain rfl:=hm1.inv_nil
       have hn1:n=1:=by
        have:=congrArg List.length heq
        rw[List.length_take]at this
        simp only[List.length_cons,List.length_nil]at this
        omega
       subst hn1
       rw[e1]at hrc
       exact .rdN (.refl _) rfl hl hbl (hnm _ hy) hrc
      ·cases hv
     unfold nmL
     split
     ·rename_i m' p' v' heq
      cases heq
      split
      ·exact one _ rfl rfl rfl (by rintro cs e;cases e) fun y hy=>by cases hy with|mp hb=>exact .inl ⟨_,_,rfl,hb,rfl⟩
      ·exact one _ rfl rfl rfl (by rintro cs e;cases e) fun y hy=>by cases hy with|ptr hb=>exact .inr ⟨_,_,_,rfl,hb,rfl⟩
      ·exact pl
     ·rename_i hne;exact absurd rfl (hne _ _ _)
    exact RRes.same H (by simp[RQ.run,hrc,h6]) h7 hK (rdL_ok hV main)
   ·exact hw.elim
  ·rename_i q0 new hn0
   split at hw
   ·rename_i e' v hset hv
    obtain⟨hK,_⟩:=force_iff hw
    have hA:∀ls:List Loc,∀t v,VR c ρ F h t v→VR (c+(new.length+1)) (addG ρ c ls) F h t v:=fun ls t v=>VR.mono (by omega) (fun n l hn h1=>by rwa [addG_old _ _ hn]at h1) (fun n b h1=>by rw[addG_old _ _ (H.names _ _ h1)];exact h1) (fun _ h=>h) (fun _ _ _ h=>h)
    obtain⟨Ss,ls,b1,b2,b3⟩:=a2.opened c
    rw[hn0]at b2
    have hl1:ls.length=new.length+1:=b2.l2
    have hV:=b3 (c+(new.length+1)) (addG ρ c ls) (hA ls) (by omega) (fun i q hq=>by rw[addG_new];exact hq)
    obtain⟨x,h6,h7⟩:=ofCells_rel hv hV
    have hlen:(openL ((e.drop p).take n) c).1.length=n:=by rw[openL_len,List.length_take];omega
    have he':=setN_eq hset
    rw[hlen]at he'
    have hm0:=H.lt hl
    have hCN:CNs (c+(new.length+1)) (addG ρ c ls) F h X.base (S1++S3) e' vs:=by
     have k1:=a1.keep (c':=c+(new.length+1)) (ρ':=addG ρ c ls) (F':=F) (h':=h) (T:=fun _=>False) H.wf (fun _ _ _=>rfl) (fun _ h=>h) (fun _ _ _ h=>h) (hA ls) (fun _ _ hf=>hf.elim)
     have k3:=a3.keep (c':=c+(new.length+1)) (ρ':=addG ρ c ls) (F':=F) (h':=h) (T:=fun _=>False) H.wf (fun _ _ _=>rfl) (fun _ h=>h) (fun _ _ _ h=>h) (hA ls) (fun _ _ hf=>hf.elim)
     have:=k1.join ((CNs.ofVRs (base:=X.base) hV).join k3)
     rw[List.take_append_drop,List.take_append_drop,←he']at this
     exact this
    obtain⟨S0,hO,hP⟩:=hput _ _ e' (S1++S3) (hA ls) (addG_old _ _ hm0) (setN_some hset).2.1 hCN
    have hperm:(S m).Perm (S0++Ss.flatten):=hP _ (by
     rw[hS,←b1,List.append_assoc]
     exact List.perm_append_comm.append_left _)
    obtain⟨M,hk⟩:=H.opens K0 (y1:=put e') hl b2 hperm (fun _=>hO)
    refine⟨v,x,_,_,_,_,by simp[RQ.run,hrc,h6],⟨M,hk,Nat.le_refl _,fun _ h=>h,fun _ _ _ h=>h⟩,h7,hK,rdL_ok hV fun he=>(show offL lg= .rdO m by rcases hlg with rfl |⟨rfl,_⟩<;>rfl)▸ .rdO (fun n' y' hl' _=>⟨?_,addG_old _ _ (H.lt hl'),fun b _=>⟨rfl,fun _ h=>h⟩⟩) rfl hl hb ⟨_,hrc,he⟩⟩
    rw[look_append,look_news b2,if_pos (H.lt hl')]
    simp only
    rw[look_upd1]
    by_cases em:n'=m
    ·rw[if_pos em,hl];exact⟨_,rfl⟩
    ·rw[if_neg em];exact⟨_,hl'⟩
   ·exact hw.elim
theorem rd_row {z i p n b:Nat} {v1 v2 v3:List Value} (hr:h.rd b=some (v1++(v2++v3))) (h1:v1.length=i*z) (h2:n≤(v2.drop p).length):M.readCells h b (i*z+p) n=some ((v2.drop p).take n):=by
 unfold M.readCells
 rw[hr]
 simp only[Option.bind_some,takeN_some]
 rcases Nat.eq_zero_or_pos n with h0|h0
 ·subst h0;simp
 ·simp only[List.length_drop]at h2
  have e:(v1++(v2++v3)).drop (i*z+p)=v2.drop p++v3:=by
   rw[←h1,List.drop_append,List.drop_eq_nil_of_le (by omega),Nat.add_sub_cancel_left,List.nil_append,List.drop_append_of_le_length (by omega)]
  rw[e]
  refine⟨by rw[List.length_append,List.length_drop];omega,?_⟩
  rw[List.take_append_of_le_length (by rw[List.length_drop];omega)]
theorem wload_ok (L:EnvLe T E) (H:Mem X ρ F o c h) {t:TypeId} {a:TV} {av:Value} (hw:wload T t a o c K) (ha:VR c ρ F h a av):
 ∃q,((asPtr av).bind fun p=>(shapeT E t).bind fun s=>some (.cells s.1 p.1 p.2 s.2))=some q∧RRes X c ρ F h o q K:=by
 unfold wload at hw
 split at hw
 ·exact hw.elim
 ·rename_i agg n hs
  have hs':=L.shape hs
  obtain⟨S,K0⟩:=H.ex
  split at hw
  ·rename_i m q
   split at hw
   ·rename_i cs hl
    have hO:=K0.objs m _ hl
    generalize hS:S m=Sm at hO
    cases hO with
    |cells hb hg htt hc=>
     rename_i Sq b thr cs'
     cases ha with
     |ptr hb'=>
      rw[hb]at hb';cases hb'
      refine⟨.cells agg b q n,by simp[asPtr,hs'],wopen_ok H K0 hw hl (.inl hb) (.inr ⟨rfl,rfl,hb⟩) hc (fun hn=>?_) fun c' ρ' e' S' hm hρ hlen hCN=>⟨_,.cells (hρ.trans hb) hg htt hCN,fun R hR=>by rw[hS];exact hR.cons _⟩⟩
      unfold M.readCells
      rw[rd_of (fam_of hg hg) htt (cellsOf_get hg)]
      simp only[Option.bind_some,takeN_some,and_true]
      have:=hc.len
      simp only[List.length_drop]at hn ⊢;omega
   ·exact hw.elim
  ·rename_i e q
   split at hw
   ·rename_i l ht
    split at hw
    ·rename_i v hv
     obtain⟨hK,_⟩:=force_iff hw
     cases ha with
     |ep h1 h2 h3 h4 h5=>
      rename_i b q0 cs
      rw[takeN_some]at ht
      obtain⟨t1,rfl⟩:=ht
      simp only[List.length_drop]at t1
      have hlen:n≤(cs.drop (q0+q)).length∨n=0:=by
       simp only[List.length_drop];omega
      have hR:VRs c ρ F h ((e.drop q).take n) ((cs.drop (q0+q)).take n):=by
       refine⟨by simp;omega,fun i t v r1 r2=>?_⟩
       rw[List.getElem?_take]at r1 r2
       split at r1
       ·rename_i hlt
        rw[if_pos hlt]at r2
        rw[List.getElem?_drop]at r1 r2
        exact h5 (q+i) t v r1 (by rw[←r2];congr 1;omega)
       ·cases r1
      obtain⟨x,h6,h7⟩:=ofCells_rel hv hR
      have hrc:M.readCells h b (q0+q) n=some ((cs.drop (q0+q)).take n):=by
       unfold M.readCells
       rw[h2]
       simp only[Option.bind_some,takeN_some,and_true]
       rcases hlen with h8|h8
       ·exact h8
       ·omega
      exact⟨.cells agg b (q0+q) n,by simp[asPtr,hs'],RRes.same H (by simp[RQ.run,hrc,h6]) h7 hK (rdL_ok hR fun he=>.rdF (.refl _) rfl h1 ⟨_,_,_,_,rfl⟩ ⟨_,hrc,he⟩)⟩
    ·exact hw.elim
   ·exact hw.elim
  ·rename_i m i q
   split at hw
   ·rename_i z w es hl
    obtain⟨e,he,hw⟩:=hw
    split at hw
    ·rename_i l ht
     split at hw
     ·rename_i v hv
      obtain⟨hK,_⟩:=force_iff hw
      obtain⟨b,z',l',hb,rfl⟩:=wp_ptr H hl rfl ha
      obtain⟨Sm,hO⟩:=H.objs hl
      cases hO with
      |nil hb' hz=>rw[hb]at hb';cases hb'
      |arr hb' hg hf htt hbf hz hlen hee hfz hc hF=>
       rename_i f t0 th0 thr cs
       rw[hb]at hb';cases hb'
       have hrd:=rd_of hf htt (cellsOf_get hg)
       rw[takeN_some]at ht
       obtain⟨t1,rfl⟩:=ht
       simp only[List.length_drop]at t1
       have hez:=hee e (List.mem_of_getElem? he)
       have hi:i<es.length:=(List.getElem?_eq_some_iff.1 he).1
       have hle:(i+1)*z≤es.length*z:=Nat.mul_le_mul_right z hi
       rw[Nat.add_mul]at hle
       have hR:VRs c ρ F h ((e.drop q).take n) ((cs.drop (i*z+q)).take n):=by
        refine⟨by simp;omega,fun j t v r1 r2=>?_⟩
        rw[List.getElem?_take]at r1 r2
        split at r1
        ·rename_i hlt
         rw[if_pos hlt]at r2
         rw[List.getElem?_drop]at r1 r2
         exact hc i (q+j) e t v he r1 (by rw[←r2];congr 1;omega)
        ·cases r1
       obtain⟨x,h6,h7⟩:=ofCells_rel hv hR
       have hrc:M.readCells h b (i*z+q) n=some ((cs.drop (i*z+q)).take n):=by
        unfold M.readCells
        rw[hrd]
        simp only[Option.bind_some,takeN_some,and_true,List.length_drop]
        omega
       exact⟨.cells agg b (i*z+q) n,by simp[asPtr,hs'],RRes.same H (by simp[RQ.run,hrc,h6]) h7 hK (rdL_ok hR fun he'=>.rdO (.refl _) rfl hl (.inr ⟨_,_,hb⟩) ⟨_,hrc,he'⟩)⟩
     ·exact hw.elim
    ·exact hw.elim
   ·rename_i z es op hl
    obtain⟨b,z',l',hb,rfl⟩:=wp_ptr H hl rfl ha
    have hO:=K0.objs m _ hl
    generalize hS:S m=Sm at hO
    cases hO with
    |qnil hb' hz=>rw[hb]at hb';cases hb'
    |arq hb' hg hf htt hbf hz hlen hee hcl hop hc=>
     rename_i Sq f t0 th0 thr cs
     rw[hb]at hb';cases hb'
     have hrd:=rd_of hf htt (cellsOf_get hg)
     have fc:=flatten_cl hcl
     refine⟨.cells agg b (i*z+q) n,by simp[asPtr,hs'],?_⟩
     -- a row that is there as it is
     have row:∀e,i<es.length→e.length=z→apOp es op=es.set i e→wopen agg n q e o c (.rdO m) (fun e'=>.arq z es [(i,e')]) m K→RRes X c ρ F h o (.cells agg b (i*z+q) n) K:=by
      intro e hi he hap hw
      rw[hap]at hc
      obtain⟨S1,S2,S3,v1,v2,v3,rfl,rfl,a1,a2,a3⟩:=rows_split hee hi hc
      have e1:v1.length=i*z:=by
       have h1:=a1.len
       obtain⟨e0,he0⟩:∃e0,es[i]? =some e0:=⟨_,List.getElem?_eq_getElem hi⟩
       have:=(flatten_row hee he0).2
       rw[Nat.add_mul]at this
       rw[←h1,List.length_take];omega
      have e2:v2.length=z:=by rw[←a2.len];exact he
      refine wopen_ok H K0 hw hl (.inr ⟨_,_,hb⟩) (.inl rfl) a2 (fun hn=>rd_row hrd e1 (by simp only[List.length_drop]at hn ⊢;omega)) fun c' ρ' e' S' hm hρ hlen' hCN=>?_
      have:=rows_join hee hi (a1.conv (c':=c') (ρ':=ρ') fun t ht=>fc t (List.mem_of_mem_take ht)) hCN (a3.conv fun t ht=>fc t (List.mem_of_mem_drop (List.mem_of_mem_drop ht)))
      refine⟨_,.arq (hρ.trans hb) hg hf htt hbf hz hlen hee hcl (fun p hp=>?_) this,fun R hR=>?_⟩
      ·simp only[List.mem_singleton]at hp;subst hp;exact⟨hi,by rw[hlen'];exact he⟩
      ·rw[hS]
       refine List.Perm.cons _ ?_
       show List.Perm _ ((S1++(S'++S3))++R)
       rw[List.append_assoc,List.append_assoc]
       refine List.Perm.append_left S1 ((hR.append_right S3).trans ?_)
       rw[List.append_assoc]
       exact List.perm_append_comm.append_left _
     have rest:∀e,(apOp es op)[i]? =some e→(match takeN n (e.drop q)with
      |some l=>(match ofCells agg l,l.all plainC with
       |some v,true=>force v fun v=>K v o c (rdL l (.rdO m))
       |_,_=>False)
      |none=>False)→RRes X c ρ F h o (.cells agg b (i*z+q) n) K:=by
      intro e he2 hw
      split at hw
      ·rename_i l ht
       split at hw
       ·rename_i v hv hpl
        obtain⟨hK,_⟩:=force_iff hw
        rw[takeN_some]at ht
        obtain⟨t1,rfl⟩:=ht
        have hi:i<(apOp es op).length:=(List.getElem?_eq_some_iff.1 he2).1
        obtain⟨hal,hzs⟩:=apOp_len hee hop
        obtain⟨f1,f2⟩:=flatten_row hzs he2
        obtain⟨S1,S2,S3,_,a1,a2,a3⟩:=hc.part (i*z) z
        have e3:((apOp es op).flatten.drop (i*z)).take z=e:=f1
        rw[e3]at a2
        obtain⟨T1,T2,T3,_,b1,b2,b3⟩:=a2.part q n
        obtain⟨hV,_⟩:=b2.vrs (fun t v hv hf=>hv.fzmono hf) hpl
        have hez:=hzs e (List.mem_of_getElem? he2)
        simp only[List.length_drop]at t1
        have e4:(((cs.drop (i*z)).take z).drop q).take n=(cs.drop (i*z+q)).take n:=by
         rw[List.drop_take,List.drop_drop,List.take_take,Nat.min_eq_left (by omega)]
        rw[e4]at hV
        obtain⟨x,h6,h7⟩:=ofCells_rel hv hV
        have hrc:M.readCells h b (i*z+q) n=some ((cs.drop (i*z+q)).take n):=by
         unfold M.readCells
         rw[hrd]
         simp only[Option.bind_some,takeN_some,and_true]
         have h8:=hV.1
         rw[hal]at hi
         have hle:(i+1)*z≤es.length*z:=Nat.mul_le_mul_right z hi
         rw[Nat.add_mul]at hle
         simp only[List.length_drop];omega
        exact RRes.same H (by simp[RQ.run,hrc,h6]) h7 hK (rdL_ok hV fun he'=>.rdO (.refl _) rfl hl (.inr ⟨_,_,hb⟩) ⟨_,hrc,he'⟩)
       ·exact hw.elim
      ·exact hw.elim
     unfold welem at hw
     split at hw
     ·obtain⟨e,he,hw⟩:=hw
      have hi:=(List.getElem?_eq_some_iff.1 he).1
      exact row e hi (hee e (List.mem_of_getElem? he)) (by
       show es=es.set i e
       refine List.ext_getElem? fun k=>?_
       rw[List.getElem?_set]
       by_cases ek:i=k
       ·subst ek;rw[if_pos rfl,if_pos hi,he]
       ·rw[if_neg ek]) hw
     ·rename_i j ej
      obtain⟨o1,o2⟩:=hop (j,ej) (by simp)
      by_cases eij:i=j
      ·subst eij
       exact row ej o1 o2 rfl (hw.1 rfl)
      ·obtain⟨e,he,hw⟩:=hw.2 eij
       exact rest e (by show(es.set j ej)[i]? =some e;rw[List.getElem?_set,if_neg (fun h=>eij h.symm)];exact he) hw
     ·obtain⟨e,he,hw⟩:=hw
      exact rest e he hw
   ·exact hw.elim
  ·exact hw.elim
theorem kcode_inj {kd:TypeDesc} {k:Value} {n:Nat} (hk:kindOk kd k n=true):(∃b,kd= .bool∧k= .bool b∧n=1)∨(∃s,kd= .string∧k= .string s∧n=2)∨(∃i x,kd= .int i∧k= .int i x∧n=kIdx i):=by
 unfold kindOk at hk
 simp only[Bool.and_eq_true,beq_iff,blt_iff]at hk
 obtain⟨⟨h0,h1⟩,h2⟩:=hk
 cases kd<;>simp[kcode]at h1<;>try omega
 ·cases k<;>simp[kcodeV]at h2<;>try omega
  ·exact .inl ⟨_,rfl,rfl,h1.symm⟩
  ·rename_i i x;subst h1;cases i<;>simp[kIdx]at h2
 ·rename_i i
  cases k<;>simp[kcodeV]at h2<;>try omega
  ·subst h1;cases i<;>simp[kIdx]at h2
  ·rename_i j x
   have:i=j:=by subst h1;cases i<;>cases j<;>simp[kIdx]at h2<;>rfl
   subst this
   exact .inr (.inr ⟨_,_,rfl,rfl,h1.symm⟩)
  ·subst h1;cases i<;>simp[kIdx]at h2
 ·cases k<;>simp[kcodeV]at h2<;>try omega
  ·rename_i i x;subst h1;cases i<;>simp[kIdx]at h2
  ·exact .inr (.inl ⟨_,rfl,rfl,h1.symm⟩)
theorem kindOk_scalar {kd:TypeDesc} {k:Value} {n:Nat} (hk:kindOk kd k n=true):scalarT kd=true∧scalar k=true:=by
 rcases kcode_inj hk with⟨_,rfl,rfl,_⟩|⟨_,rfl,rfl,_⟩|⟨_,_,rfl,rfl,_⟩<;>exact⟨rfl,rfl⟩
theorem sameNow_keq {kd:TypeDesc} {k k':Value} {n:Nat} (hk:kindOk kd k n=true) (hk':kcodeV k'=n):Instr.sameNow kd k k'=some (keq k k'):=by
 rcases kcode_inj hk with⟨b,rfl,rfl,rfl⟩|⟨s,rfl,rfl,rfl⟩|⟨i,x,rfl,rfl,rfl⟩
 ·cases k'<;>simp[kcodeV]at hk'
  ·rfl
  ·rename_i j y;cases j<;>simp[kIdx]at hk'
 ·cases k'<;>simp[kcodeV]at hk'
  ·rename_i j y;cases j<;>simp[kIdx]at hk'
  ·rfl
 ·cases k'<;>simp[kcodeV]at hk'<;>try(cases i<;>simp[kIdx]at hk';done)
  rename_i j y
  have:i=j:=by cases i<;>cases j<;>simp[kIdx]at hk'<;>rfl
  subst this
  simp[Instr.sameNow,keq]
def ERs (c:Nat) (ρ:Gh) (F:Nat→Prop) (h:AHeap) (kd:Nat) (es:List (Value×TV)) (es':List MapEntry):Prop:=
 es.length=es'.length∧∀(i:Nat) e e',es[i]? =some e→es'[i]? =some e'→e'.key=e.1∧(0<kd∧kcodeV e.1=kd)∧fzV e.2=true∧VR c ρ F h e.2 e'.val
theorem ERs.inv_cons {kd:Nat} {e:Value×TV} {es:List (Value×TV)} {es':List MapEntry} (H:ERs c ρ F h kd (e::es) es'):∃e' m,es'=e'::m∧e'.key=e.1∧(0<kd∧kcodeV e.1=kd)∧fzV e.2=true∧VR c ρ F h e.2 e'.val∧ERs c ρ F h kd es m:=by
 match es',H with
 |[],H=>have:=H.1;simp at this
 |e'::m,H=>
  obtain⟨h1,h2,h3,h4⟩:=H.2 0 e e' rfl rfl
  exact⟨e',m,rfl,h1,h2,h3,h4,by simpa using H.1,fun i x x' q1 q2=>H.2 (i+1) x x' (by simpa using q1) (by simpa using q2)⟩
theorem ERs.inv_nil {kd:Nat} {es':List MapEntry} (H:ERs c ρ F h kd [] es'):es'=[]:=by have:=H.1;cases es'<;>simp_all
theorem vfindNow_rel {kd:TypeDesc} {k:Value} {n:Nat} (hk:kindOk kd k n=true):∀{es:List (Value×TV)} {es':List MapEntry} (i:Nat),ERs c ρ F h n es es'→
 (match lookM es k with
 |some v=>∃j x,Instr.findNow kd k es' i=some (some (i+j,x))∧VR c ρ F h v x∧fzV v=true∧∃e,es'[j]? =some e∧e.val=x
 |none=>Instr.findNow kd k es' i=some none)
 |[],es',i,H=>by rw[H.inv_nil];rfl
 |e::es,es',i,H=>by
  obtain⟨e',m,rfl,h1,h2,h3,h4,h5⟩:=H.inv_cons
  unfold lookM Instr.findNow
  rw[h1,sameNow_keq hk h2.2]
  cases hq:keq k e.1 with
  |true=>exact⟨0,e'.val,rfl,h4,h3,e',rfl,rfl⟩
  |false=>
   have ih:=vfindNow_rel hk (i+1) h5
   simp only
   split
   ·rename_i v hv
    rw[hv]at ih
    obtain⟨j,x,q1,q2,q3,e2,q4,q5⟩:=ih
    exact⟨j+1,x,by rw[q1];congr 3;omega,q2,q3,e2,by simpa using q4,q5⟩
   ·rename_i hv
    rw[hv]at ih
    exact ih
theorem fz_eqE {t:TV} (hf:fz t=true):eqE t=true:=by
 unfold fz at hf
 split at hf
 ·rename_i v;cases v<;>first|rfl |simp[plainE]at hf
 ·rfl
 ·rfl
 ·rfl
 ·cases hf
theorem fzV_refl {t:TV} {x:Value} (hv:VR c ρ F h t x) (hf:fzV t=true):eqL x x=true:=by
 have one:eqL1 x x=true→eqL x x=true:=fun h=>by
  unfold eqL
  split
  ·simp[eqL1]at h
  ·exact h
 unfold fzV at hf
 split at hf
 ·obtain⟨a,rfl,h1⟩:=hv.inv_agg
  exact eqEs_refl h1 (List.all_eq_true.2 fun t ht=>fz_eqE (List.all_eq_true.1 hf t ht))
 ·exact one (eqE_refl hv (fz_eqE hf))
theorem ERs.refl {kd:Nat}:∀{es:List (Value×TV)} {es':List MapEntry},ERs c ρ F h kd es es'→eqEs es' es'=true
 |[],es',H=>by rw[H.inv_nil];rfl
 |e::es,es',H=>by
  obtain⟨e',m,rfl,h1,h2,h3,h4,h5⟩:=H.inv_cons
  simp only[eqEs,Bool.and_eq_true]
  refine⟨⟨⟨?_,fzV_refl h4 h3⟩,by simp⟩,h5.refl⟩
  rw[h1]
  have:=h2.2
  cases he:e.1<;>rw[he]at this<;>simp[kcodeV]at this<;>try omega
  all_goals simp[eqL,eqL1]
theorem bytes_eq {a b:ByteArray}:(a==b)=true↔a=b:=by
 cases a;cases b
 show(Array.instBEq.beq _ _)=true↔_
 simp
theorem keq_eq {kd:TypeDesc} {k k':Value} {n:Nat} (hk:kindOk kd k n=true) (hk':kcodeV k'=n) (h:keq k k'=true):k=k':=by
 rcases kcode_inj hk with⟨b,rfl,rfl,rfl⟩|⟨s,rfl,rfl,rfl⟩|⟨i,x,rfl,rfl,rfl⟩
 ·cases k'<;>simp[kcodeV]at hk'
  ·simpa[keq]using h
  ·rename_i j y;cases j<;>simp[kIdx]at hk'
 ·cases k'<;>simp[kcodeV]at hk'
  ·rename_i j y;cases j<;>simp[kIdx]at hk'
  ·simp only[keq]at h;rw[bytes_eq.1 h]
 ·cases k'<;>simp[kcodeV]at hk'<;>try(cases i<;>simp[kIdx]at hk';done)
  rename_i j y
  have:i=j:=by cases i<;>cases j<;>simp[kIdx]at hk'<;>rfl
  subst this
  simpa[keq]using h
theorem keq_refl {kd:TypeDesc} {k:Value} {n:Nat} (hk:kindOk kd k n=true):keq k k=true:=by
 rcases kcode_inj hk with⟨b,rfl,rfl,rfl⟩|⟨s,rfl,rfl,rfl⟩|⟨i,x,rfl,rfl,rfl⟩<;>simp[keq,bytes_eq]
theorem keq_cong {a b c:Value} (h:keq a b=true):keq c b=keq c a:=by
 unfold keq at h
 split at h
 ·have:=eq_of_beq h;subst this;cases c<;>rfl
 ·have:=eq_of_beq h;subst this;cases c<;>rfl
 ·have:=bytes_eq.1 h;subst this;cases c<;>rfl
 ·cases h
theorem ENs.find {base:Nat} {kd:TypeDesc} {k:Value} {n:Nat} (hk:kindOk kd k n=true):∀{M:List (Value×TV)} {ev:List MapEntry} {S:Ft} (i:Nat),ENs c ρ F h base n S M ev→
 (match lookM M k with
 |some v=>∃j x S1 S2 S3,Instr.findNow kd k ev i=some (some (i+j,x))∧S=S1++(S2++S3)∧CNs c ρ F h base S2 (cellsT v) x.cells.toList∧isAggT v=isAggV x∧
  ∀c' ρ' v' S2',(∀e∈M,∀t∈cellsT e.2,clT t=true)→CNs c' ρ' F h base S2' (cellsT v') x.cells.toList→isAggT v'=isAggV x→ENs c' ρ' F h base n (S1++(S2'++S3)) (putM M k v') ev
 |none=>Instr.findNow kd k ev i=some none)
 |[],ev,S,i,H=>by cases H;rfl
 |e::es,ev,S,i,H=>by
  cases H with
  |cons hkey hkd ha hv hl=>
   rename_i Sa Sb e' m
   unfold lookM Instr.findNow
   rw[hkey,sameNow_keq hk hkd.2]
   cases hq:keq k e.1 with
   |true=>
    refine⟨0,e'.val,[],Sa,Sb,rfl,rfl,hv,ha,fun c' ρ' v' S2' hcl hv' ha'=>?_⟩
    unfold putM
    rw[hq]
    have:=keq_eq hk hkd.2 hq
    subst this
    have:=ENs.cons (e:=(e.1,v')) hkey hkd ha' hv' (hl.conv (c':=c') (ρ':=ρ') fun e he=>hcl e (List.mem_cons_of_mem _ he))
    exact this
   |false=>
    have ih:=ENs.find hk (i+1) hl
    simp only
    split
    ·rename_i v hv2
     rw[hv2]at ih
     obtain⟨j,x,S1,S2,S3,q1,q2,q3,q4,q5⟩:=ih
     refine⟨j+1,x,Sa++S1,S2,S3,by rw[q1];congr 3;omega,by rw[q2,List.append_assoc],q3,q4,fun c' ρ' v' S2' hcl hv' ha'=>?_⟩
     unfold putM
     rw[hq,List.append_assoc]
     exact .cons hkey hkd ha (hv.conv (hcl e List.mem_cons_self)) (q5 c' ρ' v' S2' (fun e he=>hcl e (List.mem_cons_of_mem _ he)) hv' ha')
    ·rename_i hv2
     rw[hv2]at ih
     exact ih
theorem VR.ofCells {v:TV} {x:Value} (H:VRs c ρ F h (cellsT v) x.cells.toList) (ha:isAggT v=isAggV x):VR c ρ F h v x:=by
 cases v with
 |agg cs=>
  cases x<;>simp[isAggT,isAggV]at ha
  exact .agg_of H
 |_=>
  have hx:x.cells= #[x]:=by cases x<;>first|rfl |simp[isAggT,isAggV]at ha
  rw[hx]at H
  exact H.head
theorem ofCells_cells {b:Bool} {l:List TV} {v:TV} {x:Value} (ho:ofCells b l=some v) (H:VRs c ρ F h l x.cells.toList) (ha:b=isAggV x):cellsT v=l∧isAggT v=b∧VR c ρ F h v x:=by
 unfold ofCells at ho
 split at ho
 ·cases ho
  refine⟨rfl,rfl,?_⟩
  cases x<;>simp[isAggV]at ha
  exact .agg_of H
 ·cases ho
  have hx:x.cells= #[x]:=by cases x<;>first|rfl |simp[isAggV]at ha
  rw[hx]at H
  have hv:=H.head
  have hn:∀cs,v≠ .agg cs:=by
   rintro cs rfl
   obtain⟨a,rfl,_⟩:=hv.inv_agg
   simp[isAggV]at ha
  refine⟨?_,?_,hv⟩
  ·cases v<;>first|rfl |exact absurd rfl (hn _)
  ·cases v<;>first|rfl |exact absurd rfl (hn _)
 ·cases ho
theorem clT_eqL1 {base:Nat} {S:Ft} {t:TV} {x:Value} (H:CR F h base S (.c t x)):eqL1 x x=true:=by
 cases H with
 |fz hf hv=>exact eqE_refl hv (fz_eqE hf)
 |own hl hv=>
  rename_i y l
  cases y with
  |cells cs=>exact eqE_refl hv rfl
  |map kd es=>exact eqE_refl hv rfl
  |maq kd es op=>exact eqE_refl hv rfl
  |arr z w es=>exact eqE_refl hv rfl
  |arq z es op=>exact eqE_refl hv rfl
  |bag ks=>cases hv;simp[eqL1]
theorem CNs.eqLs {base:Nat} {S:Ft} {l:List TV} {m:List Value} (H:CNs c ρ F h base S l m):(∀t∈l,eqE t=true∨clT t=true)→eqLs m m=true:=by
 induction H with
 |nil=>intro _;rfl
 |vr hv _ ih=>
  rename_i t v l m _
  intro hc
  simp only[M.eqLs,Bool.and_eq_true]
  refine⟨?_,ih fun t ht=>hc t (List.mem_cons_of_mem _ ht)⟩
  rcases hc t List.mem_cons_self with h1|h1
  ·exact eqE_refl hv h1
  ·unfold clT at h1
   split at h1
   ·cases hv
   ·exact eqE_refl hv (fz_eqE h1)
 |cl hv _ ih=>
  intro hc
  simp only[M.eqLs,Bool.and_eq_true]
  exact⟨clT_eqL1 hv,ih fun t ht=>hc t (List.mem_cons_of_mem _ ht)⟩
theorem eqL_cells {x:Value} (h:eqLs x.cells.toList x.cells.toList=true):eqL x x=true:=by
 cases x with
 |agg a=>exact h
 |_=>simpa[eqL,eqLs,Value.cells]using h
theorem ENs.refl {base kd:Nat} {S:Ft} {l:List (Value×TV)} {m:List MapEntry} (H:ENs c ρ F h base kd S l m):(∀e∈l,∀t∈cellsT e.2,eqE t=true∨clT t=true)→eqEs m m=true:=by
 induction H with
 |nil=>intro _;rfl
 |cons hk hkd ha hv _ ih=>
  rename_i e e' l m _
  intro hc
  simp only[eqEs,Bool.and_eq_true]
  refine⟨⟨⟨?_,eqL_cells (hv.eqLs (hc _ List.mem_cons_self))⟩,by simp⟩,ih fun e he=>hc e (List.mem_cons_of_mem _ he)⟩
  rw[hk]
  have:=hkd.2
  cases he:e.1<;>rw[he]at this<;>simp[kcodeV]at this<;>try omega
  all_goals simp[eqL,eqL1]
theorem lookM_put {k k':Value} {v:TV} (hne:keq k k'=false):∀{es:List (Value×TV)},lookM (putM es k' v) k=lookM es k
 |[]=>by simp[putM,lookM,hne]
 |e::es=>by
  unfold putM
  cases hq:keq k' e.1 with
  |true=>
   have h2:keq k e.1=false:=(keq_cong hq).trans hne
   simp[lookM,hne,h2]
  |false=>
   simp only[lookM]
   rw[lookM_put hne]
theorem ENs.kinds {base kd:Nat} {S:Ft} {l:List (Value×TV)} {m:List MapEntry} (H:ENs c ρ F h base kd S l m):∀e∈l,kcodeV e.1=kd:=by
 induction H with
 |nil=>simp
 |cons hk hkd ha hv _ ih=>
  intro e he
  rcases List.mem_cons.1 he with rfl |he
  ·exact hkd.2
  ·exact ih e he
theorem putM_has {k:Value} {v:TV}:∀{es:List (Value×TV)},(k,v)∈putM es k v
 |[]=>by simp[putM]
 |e::es=>by
  unfold putM
  cases keq k e.1 with
  |true=>simp
  |false=>exact List.mem_cons_of_mem _ putM_has
theorem lookM_self {kd:TypeDesc} {k:Value} {n:Nat} {v:TV} (hk:kindOk kd k n=true):∀{es:List (Value×TV)},lookM (putM es k v) k=some v
 |[]=>by simp[putM,lookM,keq_refl hk]
 |e::es=>by
  unfold putM
  cases hq:keq k e.1 with
  |true=>simp[lookM,keq_refl hk]
  |false=>simp[lookM,hq,lookM_self hk]
theorem wopenV_ok (H:Mem X ρ F o c h) {S:Nat→Ft} (K0:MO X ρ F o c h S) {v:TV} {x y:Value} {m b:Nat} {yo:TO} {S1 S2 S3:Ft} {put:TV→TO} {q:RQ} {wrap:TV→TV} (hw:wopenV v o c (.rdO m) put m fun v o c lg=>K (wrap v) o c lg)
 (hl:look o m=some yo) (hS:S m=(b,true)::(S1++(S2++S3))) (hc:CNs c ρ F h X.base S2 (cellsT v) x.cells.toList) (ha:isAggT v=isAggV x) (hrun:q.run h=some y) (hwr:∀c ρ v,VR c ρ F h v x→VR c ρ F h (wrap v) y)
 (hlog:LogOk ρ F o h ρ o h (.rdO m) (.rd q h))
 (hput:∀c' ρ' v',ρ' m=ρ m→CNs c' ρ' F h X.base [] (cellsT v') x.cells.toList→isAggT v'=isAggV x→OR c' ρ' F h X.base m ((b,true)::(S1++S3)) (put v')):
 RRes X c ρ F h o q K:=by
 unfold wopenV at hw
 split at hw
 ·rename_i hn0
  obtain⟨Ss,ls,b1,b2,b3⟩:=hc.opened c
  have hl0:ls.length=0:=by rw[b2.l2,hn0];rfl
  have hV:=b3 c ρ (fun _ _ h=>h) (by omega) (fun i q hq=>by
   have:=(List.getElem?_eq_some_iff.1 hq).1;omega)
  rw[openL_nil hn0]at hV
  exact RRes.same H hrun (hwr _ _ _ (VR.ofCells hV ha)) hw hlog
 ·rename_i q0 new hn0
  split at hw
  ·rename_i v' hv
   have hA:∀ls:List Loc,∀t v,VR c ρ F h t v→VR (c+(new.length+1)) (addG ρ c ls) F h t v:=fun ls t v=>VR.mono (by omega) (fun n l hn h1=>by rwa [addG_old _ _ hn]at h1) (fun n b h1=>by rw[addG_old _ _ (H.names _ _ h1)];exact h1) (fun _ h=>h) (fun _ _ _ h=>h)
   obtain⟨Ss,ls,b1,b2,b3⟩:=hc.opened c
   rw[hn0]at b2
   have hl1:ls.length=new.length+1:=b2.l2
   have hV:=b3 (c+(new.length+1)) (addG ρ c ls) (hA ls) (by omega) (fun i q hq=>by rw[addG_new];exact hq)
   obtain⟨e1,e2,e3⟩:=ofCells_cells hv hV ha
   have hperm:(S m).Perm (((b,true)::(S1++S3))++Ss.flatten):=by
    rw[hS,←b1]
    refine List.Perm.cons _ ?_
    show List.Perm _ ((S1++S3)++S2)
    rw[List.append_assoc]
    exact List.perm_append_comm.append_left _
   obtain⟨M,hk⟩:=H.opens K0 (y1:=put v') hl b2 hperm (fun _=>hput _ _ v' (addG_old _ _ (H.lt hl)) (by rw[e1];exact CNs.ofVRs hV) (e2.trans ha))
   cases hlog with
   |rdO hr hh hl2 hb2 hn2=>
    refine⟨_,_,_,_,_,_,hrun,⟨M,hk,Nat.le_refl _,fun _ h=>h,fun _ _ _ h=>h⟩,hwr _ _ _ e3,hw,.rdO (fun n' y' hl' _=>⟨?_,addG_old _ _ (H.lt hl'),fun b _=>⟨rfl,fun _ h=>h⟩⟩) rfl hl hb2 hn2⟩
    rw[look_append,look_news b2,if_pos (H.lt hl')]
    simp only
    rw[look_upd1]
    by_cases em:n'=m
    ·rw[if_pos em,hl];exact⟨_,rfl⟩
    ·rw[if_neg em];exact⟨_,hl'⟩
  ·exact hw.elim
theorem wlookup_ok (L:EnvLe T E) (H:Mem X ρ F o c h) {t:TypeId} {m k:TV} {ok:Bool} {mv kv:Value} (hw:wlookup T t m k ok o c K) (hm:VR c ρ F h m mv) (hk:VR c ρ F h k kv):
 (mv= .map none∧PRes c ρ F h o ((E.desc t).bind fun d=>(match(generalizing:=false) d,mv with
  | .map kt elem,.map none=>(E.desc kt).bind fun kd=>(E.zero elem).bind fun z=>grd (scalarT kd&&scalar kv&&plainV z) (some (bif ok then .tuple #[z,.bool false]else z))
  |_,_=>none)) K)∨
 (∃r,mv= .map (some r)∧∃q,((E.desc t).bind fun d=>(match(generalizing:=false) d,mv with
  | .map kt elem,.map (some r)=>(E.desc kt).bind fun kd=>(E.zero elem).bind fun z=>grd (scalarT kd&&scalar kv&&plainV z) (some (RQ.look r kd kv z ok))
  |_,_=>none))=some q∧RRes X c ρ F h o q K):=by
 unfold wlookup at hw
 split at hw
 ·rename_i kt elem hd
  split at hw
  ·rename_i kd z kv' hkd hz
   obtain⟨hz',hpl⟩:=L.zero _ _ hz
   rw[hk.inv_s.1]
   have hq:∀b,kindOk kd kv' (kcode kd)=true→((E.desc t).bind fun d=>(match(generalizing:=false) d,Value.map (some b)with
    | .map kt elem,.map (some r)=>(E.desc kt).bind fun kd=>(E.zero elem).bind fun z=>grd (scalarT kd&&scalar kv'&&plainV z) (some (RQ.look r kd kv' z ok))
    |_,_=>none))=some (RQ.look b kd kv' z ok):=by
    intro b hko
    obtain⟨hs1,hs2⟩:=kindOk_scalar hko
    rw[L.desc _ _ hd]
    simp only[Option.bind_some,L.desc _ _ hkd,hz',hs1,hs2,hpl,Bool.and_self,grd]
   have hkk:∀{n},kindOk kd kv' n=true→kindOk kd kv' (kcode kd)=true:=fun {n} h=>by
    have h0:=h
    unfold kindOk at h0 ⊢
    simp only[Bool.and_eq_true,beq_iff]at h0 ⊢
    obtain⟨⟨q1,q2⟩,q3⟩:=h0
    subst q2
    exact⟨⟨q1,trivial⟩,q3⟩
   split at hw
   ·rename_i n
    right
    split at hw
    ·rename_i kn es hl
     split at hw
     ·rename_i hko
      obtain⟨r,hr,hw⟩:=hw
      obtain⟨Sm,hO⟩:=H.objs hl
      cases hO with
      |map hb hg hlen hc hst=>
       rename_i b clock es'
       have hE:ERs c ρ F h kn es es':=⟨hlen,hc⟩
       cases hm with
       |mp hb'=>
        rw[hb]at hb';cases hb'
        refine⟨b,rfl,_,hq b (hkk hko),?_⟩
        have hma:mapAt h b=some (es',clock):=by unfold mapAt;rw[hg]
        have hlog:LogOk ρ F o h ρ o h (.rdO n) (.rd (RQ.look b kd kv' z ok) h):=.rdO (.refl _) rfl hl (.inl hb) ⟨_,hma,hE.refl⟩
        have hf:=vfindNow_rel hko 0 hE
        rw[hr]at hf
        cases r with
        |some v=>
         obtain⟨j,x,q1,q2,_⟩:=hf
         simp only at hw
         cases ok with
         |true=>exact RRes.same H (by simp[RQ.run,hma,lookIn,q1]) (.tup_of (.cons q2 (.cons (.s rfl) .nil))) hw hlog
         |false=>exact RRes.same H (by simp[RQ.run,hma,lookIn,q1]) q2 hw hlog
        |none=>
         simp only at hw hf
         cases ok with
         |true=>exact RRes.same H (by simp[RQ.run,hma,lookIn,hf]) (.tup_of (.cons (cT_rel hpl) (.cons (.s rfl) .nil))) hw hlog
         |false=>exact RRes.same H (by simp[RQ.run,hma,lookIn,hf]) (cT_rel hpl) hw hlog
     ·exact hw.elim
    ·rename_i kn es op hl
     split at hw
     ·rename_i hko
      obtain⟨S,K0⟩:=H.ex
      have hO:=K0.objs n _ hl
      generalize hS:S n=Sm at hO
      cases hO with
      |maq hb hg hcl hc hst=>
       rename_i Sq b clock ev
       cases hm with
       |mp hb'=>
        rw[hb]at hb';cases hb'
        refine⟨b,rfl,_,hq b (hkk hko),?_⟩
        have hma:mapAt h b=some (ev,clock):=by unfold mapAt;rw[hg]
        have miss:∀{M:List (Value×TV)} {S0:Ft} {lg:VL},ENs c ρ F h X.base kn S0 M ev→lookM M kv'=none→LogOk ρ F o h ρ o h lg (.rd (RQ.look b kd kv' z ok) h)→K (okT ok (cT z) false) o c lg→RRes X c ρ F h o (RQ.look b kd kv' z ok) K:=by
         intro M S0 lg hE hno hlog hw
         have hf:=hE.find hko 0
         rw[hno]at hf
         simp only at hf
         cases ok with
         |true=>exact RRes.same H (by simp[RQ.run,hma,lookIn,hf]) (.tup_of (.cons (cT_rel hpl) (.cons (.s rfl) .nil))) hw hlog
         |false=>exact RRes.same H (by simp[RQ.run,hma,lookIn,hf]) (cT_rel hpl) hw hlog
        have met:∀{M:List (Value×TV)} {S0:Ft} {lg:VL} {v:TV},ENs c ρ F h X.base kn S0 M ev→lookM M kv'=some v→(cellsT v).all plainC=true→LogOk ρ F o h ρ o h lg (.rd (RQ.look b kd kv' z ok) h)→K (okT ok v true) o c lg→RRes X c ρ F h o (RQ.look b kd kv' z ok) K:=by
         intro M S0 lg v hE hv hp hlog hw
         have hf:=hE.find hko 0
         rw[hv]at hf
         obtain⟨j,x,S1,S2,S3,q1,q2,q3,q4,_⟩:=hf
         obtain⟨hV,_⟩:=q3.vrs (fun t v hv hf=>hv.fzmono hf) hp
         have hx:=VR.ofCells hV q4
         cases ok with
         |true=>exact RRes.same H (by simp[RQ.run,hma,lookIn,q1]) (.tup_of (.cons hx (.cons (.s rfl) .nil))) hw hlog
         |false=>exact RRes.same H (by simp[RQ.run,hma,lookIn,q1]) hx hw hlog
        split at hw
        ·obtain⟨r,hr,hw⟩:=hw
         have hE:ENs c ρ F h X.base kn Sq es ev:=hc
         have hlog:LogOk ρ F o h ρ o h (.rdO n) (.rd (RQ.look b kd kv' z ok) h):=.rdO (.refl _) rfl hl (.inl hb) ⟨_,hma,hE.refl fun e he t ht=>.inr (hcl e he t ht)⟩
         cases r with
         |none=>simp only at hw;exact miss hE hr hlog hw
         |some v=>
          simp only at hw
          have hf:=hE.find hko 0
          rw[hr]at hf
          obtain⟨j,x,S1,S2,S3,q1,q2,q3,q4,q5⟩:=hf
          refine wopenV_ok H K0 (x:=x) (y:=bif ok then .tuple #[x,.bool true]else x) (wrap:=fun v=>okT ok v true) hw hl (by rw[hS,q2]) q3 q4 (by simp[RQ.run,hma,lookIn,q1]) (fun c ρ v hv=>?_) hlog fun c' ρ' v' hρ hv' ha'=>?_
          ·cases ok with
           |true=>exact .tup_of (.cons hv (.cons (.s rfl) .nil))
           |false=>exact hv
          ·exact .maq (hρ.trans hb) hg hcl (q5 c' ρ' v' [] hcl hv' ha') hst
        ·rename_i k' w
         obtain⟨hw1,hw2⟩:=hw
         have hE:ENs c ρ F h X.base kn Sq (putM es k' w) ev:=hc
         have hlog:LogOk ρ F o h ρ o h (rdL (cellsT w) (.rdO n)) (.rd (RQ.look b kd kv' z ok) h):=by
          unfold rdL
          split
          ·rename_i he
           refine .rdO (.refl _) rfl hl (.inl hb) ⟨_,hma,hE.refl fun e he' t ht=>?_⟩
           rcases putM_mem he' with rfl |h1
           ·exact .inl (List.all_eq_true.1 he t ht)
           ·exact .inr (hcl e h1 t ht)
          ·exact .bad
         by_cases ek:kv'=k'
         ·subst ek
          have hv:=lookM_self (v:=w) (es:=es) hko
          have hf:=hE.find hko 0
          rw[hv]at hf
          obtain⟨j,x,S1,S2,S3,q1,q2,q3,q4,_⟩:=hf
          exact met hE hv (hw1 rfl).1 hlog (hw1 rfl).2
         ·obtain⟨r,hr,hw⟩:=hw2 ek
          have hne:keq kv' k'=false:=by
           cases hq:keq kv' k' with
           |false=>rfl
           |true=>exact absurd (keq_eq hko (hE.kinds _ putM_has) hq) ek
          have:=lookM_put (v:=w) (es:=es) hne
          cases r with
          |none=>simp only at hw;exact miss hE (this.trans hr) hlog hw
          |some v=>simp only at hw;exact met hE (this.trans hr) hw.1 hlog hw.2
        ·exact hw.elim
     ·exact hw.elim
    ·exact hw.elim
   ·left
    split at hw
    ·rename_i hko
     obtain⟨hs1,hs2⟩:=kindOk_scalar hko
     have hmv:=hm.inv_s.1
     subst hmv
     refine⟨rfl,?_⟩
     have hq:∀y:Value,(bif ok then Value.tuple #[z,.bool false]else z)=y→((E.desc t).bind fun d=>(match d,Value.map none with
            | .map kt elem,.map none=>(E.desc kt).bind fun kd=>(E.zero elem).bind fun z=>grd (scalarT kd&&scalar kv'&&plainV z) (some (bif ok then .tuple #[z,.bool false]else z))
            |_,_=>none))=some y:=by
      rintro y rfl
      rw[L.desc _ _ hd]
      simp only[Option.bind_some,L.desc _ _ hkd,hz',hs1,hs2,hpl,Bool.and_self,grd]
     cases ok with
     |true=>exact⟨_,_,hq _ rfl,.tup_of (.cons (cT_rel hpl) (.cons (.s rfl) .nil)),hw⟩
     |false=>exact⟨_,_,hq _ rfl,cT_rel hpl,hw⟩
    ·exact hw.elim
   ·exact hw.elim
  ·exact hw.elim
 ·exact hw.elim
end
end Go.M
namespace Go.M
open Go
section
variable {T E:Env} {X:Cx} {ρ:Gh} {F:Nat→Prop} {o:Ob} {c:Nat} {af:AF} {f:Fr} {h:AHeap} {p:Oper} {K:OK}
def esA:Option TO→Option (Nat×List (List TV))
 |some (.arr z _ es)=>some (z,es)
 |_=>none
theorem esA_shareO (o:Ob) (m n:Nat):esA (look (shareO o m) n)=esA (look o n):=by
 cases hm:look o m with
 |none=>unfold shareO;rw[hm]
 |some y=>
  cases y with
  |arr z w es=>
   unfold shareO;rw[hm]
   simp only
   rw[look_upd1]
   by_cases e:n=m
   ·subst e;rw[if_pos rfl,hm];rfl
   ·rw[if_neg e]
  |_=>unfold shareO;rw[hm]
theorem frz_tk (o:Ob) (n:Nat):frz o (.tk n)=(esA (look o n)).map fun p=>.sl p.1 p.2 false:=by
 show(match look o n with|some (.arr z _ es)=>some (TV.sl z es false)|_=>none)=_
 cases look o n with
 |none=>rfl
 |some y=>cases y<;>rfl
theorem frz_shareO (o:Ob) (m:Nat) (t:TV):frz (shareO o m) t=frz o t:=by
 cases t with
 |tk n=>rw[frz_tk,frz_tk,esA_shareO]
 |ifc t v=>cases v<;>try rfl
           rename_i w;cases w<;>rfl
 |clo g a k=>cases a<;>cases k<;>rfl
 |_=>rfl
theorem frz_share1 (o:Ob) (v t:TV):frz (share1 o v) t=frz o t:=by
 cases v<;>try rfl
 exact frz_shareO _ _ _
theorem frzs_share1 (o:Ob) (v:TV):∀l,frzs (share1 o v) l=frzs o l
 |[]=>rfl
 |t::l=>by simp only[frzs,frz_share1,frzs_share1 o v l]
theorem frz_fz {t t':TV} (hf:frz o t=some t'):fz t'=true:=by
 unfold frz at hf
 split at hf
 ·split at hf
  ·rename_i hp;cases hf;exact hp
  ·cases hf
 ·cases hf;rfl
 ·split at hf
  ·cases hf;rfl
  ·cases hf
 ·cases hf;rfl
 ·cases hf;rfl
 ·cases hf
theorem frzs_fz:∀{l l':List TV},frzs o l=some l'→(∀t∈l',fz t=true)∧l'.length=l.length
 |[],l',hf=>by simp[frzs]at hf;subst hf;exact⟨by simp,rfl⟩
 |t::l,l',hf=>by
  unfold frzs at hf
  split at hf
  ·rename_i v' hv
   split at hf
   ·rename_i l2 hl
    cases hf
    obtain⟨h1,h2⟩:=frzs_fz hl
    refine⟨fun t ht=>?_,by simp[h2]⟩
    rcases List.mem_cons.1 ht with rfl |ht
    ·exact frz_fz hv
    ·exact h1 t ht
   ·cases hf
  ·cases hf
structure ShOk (X:Cx) (ρ:Gh) (c:Nat) (h:AHeap) (F:Nat→Prop) (o:Ob) (F':Nat→Prop) (o':Ob):Prop where
 mem:Mem X ρ F' o' c h
 keep:∀t x,VR c ρ F h t x→VR c ρ F' h t x
 FF:∀b,F b→F' b
 wk:∀n y,look o n=some y→∃y',look o' n=some y'∧weak y y'
theorem ShOk.refl (H:Mem X ρ F o c h):ShOk X ρ c h F o F o:=⟨H,fun _ _ h=>h,fun _ h=>h,fun _ y hl=>⟨y,hl,weak.refl y⟩⟩
theorem ShOk.trans {F1 F2:Nat→Prop} {o1 o2:Ob} (A:ShOk X ρ c h F o F1 o1) (B:ShOk X ρ c h F1 o1 F2 o2):ShOk X ρ c h F o F2 o2:=
 ⟨B.mem,fun t x hx=>B.keep t x (A.keep t x hx),fun b hb=>B.FF b (A.FF b hb),fun n y hl=>by
  obtain⟨y1,h1,h2⟩:=A.wk n y hl
  obtain⟨y2,h3,h4⟩:=B.wk n y1 h1
  exact⟨y2,h3,h2.trans h4⟩⟩
theorem share1_ok (H:Mem X ρ F o c h) (v:TV):∃F',ShOk X ρ c h F o F' (share1 o v)∧∀v' x,frz o v=some v'→VR c ρ F h v x→VR c ρ F' h v' x:=by
 cases v with
 |tk n=>
  obtain⟨F',h1,h2,h3,h4⟩:=H.share n
  refine⟨F',⟨h1,h2,h3,weak_shareO o n⟩,fun v' x hf hx=>?_⟩
  unfold frz at hf
  simp only at hf
  split at hf
  ·rename_i z w es hl;cases hf;exact h4 _ _ _ _ hl hx
  ·cases hf
 |sl z es fl=>
  refine⟨F,.refl H,fun v' x hf hx=>?_⟩
  simp only[frz,Option.some.injEq]at hf
  subst hf
  cases hx with
  |nil he=>exact .nil he
  |sl h1 h2 h3 h4 h5 h6 h7 h8 h9 h10=>exact .sl h1 h2 h3 h4 h5 (fun h=>by cases h) h7 h8 h9 h10
 |s w=>
  refine⟨F,.refl H,fun v' x hf hx=>?_⟩
  unfold frz at hf
  simp only at hf
  split at hf
  ·cases hf;exact hx
  ·cases hf
 |ifc t w=>
  refine⟨F,.refl H,fun v' x hf hx=>?_⟩
  unfold frz at hf
  split at hf<;>simp_all
  all_goals(first|(obtain⟨rfl,rfl⟩:= ‹_∧_›;subst hf;exact hx)|skip)
 |clo g a k=>
  refine⟨F,.refl H,fun v' x hf hx=>?_⟩
  unfold frz at hf
  split at hf<;>simp_all
  all_goals(first|(obtain⟨rfl,rfl,rfl⟩:= ‹_∧_∧_›;subst hf;exact hx)|skip)
 |_=>exact⟨F,.refl H,fun v' x hf hx=>by simp[frz]at hf⟩
theorem shares_ok:∀(l:List TV) {F:Nat→Prop} {o:Ob},Mem X ρ F o c h→∃F',ShOk X ρ c h F o F' (shares o l)∧∀l' m,frzs o l=some l'→VRs c ρ F h l m→VRs c ρ F' h l' m
 |[],F,o,H=>⟨F,.refl H,fun l' m hf hm=>by simp[frzs]at hf;subst hf;exact hm⟩
 |v::l,F,o,H=>by
  obtain⟨F1,A,a⟩:=share1_ok H v
  obtain⟨F2,B,b⟩:=shares_ok l A.mem
  refine⟨F2,A.trans B,fun l' m hf hm=>?_⟩
  unfold frzs at hf
  split at hf
  ·rename_i v' hv
   split at hf
   ·rename_i l2 hl
    cases hf
    obtain⟨x,m',rfl,h1,h2⟩:=hm.inv_cons
    exact .cons (B.keep _ _ (a v' x hv h1)) (b l2 m' (by rw[frzs_share1];exact hl) (h2.mono' A.keep))
   ·cases hf
  ·cases hf
theorem frzV_ok (H:Mem X ρ F o c h) (v:TV) (ho:okV v=true):∃F',ShOk X ρ c h F o F' (shares o (cellsT v))∧∀v' x,frzV o v=some v'→VR c ρ F h v x→VR c ρ F' h v' x∧fzV v'=true:=by
 obtain⟨F',A,a⟩:=shares_ok (cellsT v) H
 refine⟨F',A,fun v' x hf hx=>?_⟩
 have one:(∀cs,v≠ .agg cs)→VR c ρ F' h v' x∧fzV v'=true:=fun hna=>by
  have hv1:cellsT v=[v]:=by cases v<;>first|rfl |exact absurd rfl (hna _)
  have hv2:frzV o v=frz o v:=by cases v<;>first|rfl |exact absurd rfl (hna _)
  rw[hv2]at hf
  have hfz:=frz_fz hf
  rw[hv1]at a
  have:=a [v'] [x] (by simp[frzs,hf]) (.cons hx .nil)
  refine⟨this.head,?_⟩
  cases v'<;>simp[fz]at hfz<;>simp[fzV,fz,hfz]
 cases v with
 |agg cs=>
  obtain⟨q,rfl,h1⟩:=hx.inv_agg
  simp only[frzV]at hf
  split at hf
  ·rename_i cs' hc
   cases hf
   refine⟨.agg_of (a cs' q.toList hc h1),?_⟩
   simp only[fzV]
   exact List.all_eq_true.2 (frzs_fz hc).1
  ·cases hf
 |_=>exact one (by intro cs e;cases e)
theorem Mem.atB_hd (H:Mem X ρ F o c h) {S:Nat→Ft} (K:MO X ρ F o c h S) {n b:Nat} {y:TO} (hl:look o n=some y) (hb:atB ρ n b):b<h.size∧hd h b∈hds (S n):=by
 rcases(K.objs n y hl).block with⟨b',o',h1,h2,h3,h4⟩|⟨b',z,len,cs,f,t0,th0,c0,t1,th1,h1,h2,h3,h4⟩|⟨z,h1⟩
 ·rcases hb with hb|⟨z,l,hb⟩<;>rw[h1]at hb<;>cases hb
  exact⟨H.wf.lt h2,by rw[h3];exact h4⟩
 ·rcases hb with hb|⟨z,l,hb⟩<;>rw[h1]at hb<;>cases hb
  exact⟨H.wf.lt h2,by rw[hd_get h2];exact h4⟩
 ·rcases hb with hb|⟨z,l,hb⟩<;>rw[h1]at hb<;>cases hb
theorem Mem.atB_lt (H:Mem X ρ F o c h) {n b:Nat} {y:TO} (hl:look o n=some y) (hb:atB ρ n b):b<h.size:=by
 obtain⟨S,K⟩:=H.ex
 exact(H.atB_hd K hl hb).1
theorem Did.alloc {F1:Nat→Prop} {o1:Ob} (H:Mem X ρ F o c h) (S:ShOk X ρ c h F o F1 o1) {md:Made} {hd:Hold} {y:TO} {l:Loc} {v:TV} (hp:apure E af p=none) (hq:aread E af p=none) (ha:aalloc E af p=some (md,hd))
 (hM:Mem X (updG ρ c (some l)) F1 ((c,y)::o1) (c+1) (h.push (md.obj h.size))) (hk:∀t x,VR c ρ F1 h t x→VR (c+1) (updG ρ c (some l)) F1 (h.push (md.obj h.size)) t x)
 (hv:VR (c+1) (updG ρ c (some l)) F1 (h.push (md.obj h.size)) v (hd.val h.size)) (hK:K v ((c,y)::o1) (c+1) .alloc):Did E X ρ F o c af h p K:=by
 refine⟨0,⟨hd.val h.size,h.push (md.obj h.size),.alloc h (h.push (md.obj h.size))⟩,v,_,_,_,F1,.alloc,fun n _=>?_,hK,⟨hM,fun t x hx=>hk t x (S.keep t x hx),by rw[AHeap.size_push];omega,S.FF,fun b cs hb hr=>by rw[rd_push H.wf.le _ (H.Flt hb)];exact hr⟩,hv,
  .alloc fun n y' hl _=>⟨?_,?_,fun b hb=>?_⟩⟩
 ·unfold runOp;rw[hp,hq,ha]
 ·have:=H.lt hl
  rw[look_cons,if_neg (by omega)]
  obtain⟨y2,q1,_⟩:=S.wk n y' hl
  exact⟨y2,q1⟩
 ·have:=H.lt hl
  rw[updG_ne _ _ (by omega)]
 ·have:=H.atB_lt hl hb
  exact⟨by rw[AHeap.get_push,if_neg (by omega)],fun cs hr=>by rw[rd_push H.wf.le _ this];exact hr⟩
end
end Go.M
namespace Go.M
open Go
section
variable {T E:Env} {X:Cx} {ρ:Gh} {F:Nat→Prop} {o:Ob} {c:Nat} {af:AF} {f:Fr} {h:AHeap} {p:Oper} {K:OK}
theorem cells_did (H:Mem X ρ F o c h) {cs:List TV} {cv:List Value} (hc:VRs c ρ F h cs cv) (hp:apure E af p=none) (hq:aread E af p=none) (ha:aalloc E af p=some (.cells cv,.ptr)) (hK:K (.ptr c 0) ((c,.cells cs)::o) (c+1) .alloc):Did E X ρ F o c af h p K:=by
 obtain⟨h1,h2⟩:=H.newCells hc
 exact Did.alloc H (.refl H) (md:=.cells cv) (hd:=.ptr) hp hq ha h1 h2 (.ptr (updG_self _ _ _)) hK
theorem map_did (H:Mem X ρ F o c h) (kd:Nat) (hp:apure E af p=none) (hq:aread E af p=none) (ha:aalloc E af p=some (.map,.map)) (hK:K (.mp c) ((c,.map kd [])::o) (c+1) .alloc):Did E X ρ F o c af h p K:=by
 obtain⟨h1,h2⟩:=H.newMap kd
 exact Did.alloc H (.refl H) (md:=.map) (hd:=.map) hp hq ha h1 h2 (.mp (updG_self _ _ _)) hK
theorem arr_did {F1:Nat→Prop} {o1:Ob} (H:Mem X ρ F o c h) (S:ShOk X ρ c h F o F1 o1) {z cap:Nat} {es:List (List TV)} {cv:List Value} (hE:ER c ρ F1 h z es cv) (hz:0<z) (hcap:es.length≤cap)
 (hp:apure E af p=none) (hq:aread E af p=none) (ha:aalloc E af p=some (.cells cv,.slice z es.length cap)) (hK:K (.tk c) ((c,.arr z true es)::o1) (c+1) .alloc):Did E X ρ F o c af h p K:=by
 obtain⟨h1,h2⟩:=S.mem.newArr hE hz
 refine Did.alloc H S (md:=.cells cv) (hd:=.slice z es.length cap) hp hq ha h1 h2 (.tk (by omega) rfl (fun b z' len hx=>?_) (fun z' hx=>?_)) hK
 ·rw[updG_self]at hx;cases hx;exact⟨cap,hcap,rfl⟩
 ·rw[updG_self]at hx;cases hx
theorem ER.replicate {z:Nat} {zs:List TV} {zv:List Value} (hz:VRs c ρ F h zs zv) (hl:zs.length=z) (hf:zs.all M.fz=true):∀k,ER c ρ F h z (List.replicate k zs) (repeatL zv k)
 |0=>.nil z
 |k+1=>by
  have ih:=ER.replicate hz hl hf k
  have h1:ER c ρ F h z [zs] zv:=by
   refine⟨by rw[←hz.1,hl];simp,fun e he=>by simp at he;subst he;exact hl,fun e he t ht=>by simp at he;subst he;exact List.all_eq_true.1 hf t ht,fun i j e t v q1 q2 q3=>?_⟩
   cases i with
   |zero=>simp at q1;subst q1;exact hz.2 j t v q2 (by simpa using q3)
   |succ i=>simp at q1
  exact h1.append ih
theorem setN_ex {α:Type}:∀{n:Nat} {l xs:List α},n+xs.length≤l.length→∃r,setN l n xs=some r
 |0,l,[],_=>⟨l,by simp[setN]⟩
 |0,[],x::xs,h=>by simp at h
 |0,y::l,x::xs,h=>by
  obtain⟨r,hr⟩:=setN_ex (n:=0) (l:=l) (xs:=xs) (by simp at h ⊢;omega)
  exact⟨x::r,by simp[setN,hr]⟩
 |n+1,[],xs,h=>by simp at h
 |n+1,y::l,xs,h=>by
  obtain⟨r,hr⟩:=setN_ex (n:=n) (l:=l) (xs:=xs) (by simp at h ⊢;omega)
  exact⟨y::r,by simp[setN,hr]⟩
theorem setAt_some {α:Type}:∀{l r:List α} {n:Nat} {x:α},setAt l n x=some r→n<l.length∧r.length=l.length∧∀i,r[i]? =if i=n then some x else l[i]?
 |[],r,n,x,h=>by simp[setAt]at h
 |y::l,r,0,x,h=>by
  simp[setAt]at h;subst h
  refine⟨by simp,by simp,fun i=>?_⟩
  cases i<;>simp
 |y::l,r,n+1,x,h=>by
  unfold setAt at h
  split at h
  ·rename_i l' hl
   cases h
   obtain⟨h1,h2,h3⟩:=setAt_some hl
   refine⟨by simp;omega,by simp[h2],fun i=>?_⟩
   cases i with
   |zero=>simp
   |succ i=>simp[h3 i]
  ·cases h
theorem ER.setAt {z:Nat} {es es':List (List TV)} {cs:List Value} {l:List TV} {i:Nat} (A:ER c ρ F h z es cs) (hs:∀j,es'[j]? =if j=i then some l else es[j]?) (hlen:es'.length=es.length) (hi:i<es.length) (hl:l.length=z) (hf:∀t∈l,M.fz t=true)
 {cs':List Value} (hc:cs'.length=cs.length) (hin:∀j t v,l[j]? =some t→cs'[i*z+j]? =some v→VR c ρ F h t v) (hout:∀k,(k<i*z∨(i+1)*z≤k)→cs'[k]? =cs[k]?):ER c ρ F h z es' cs':=by
 have key:∀j e,es'[j]? =some e→(j=i∧e=l)∨(j≠i∧es[j]? =some e):=fun j e he=>by
  rw[hs]at he
  by_cases e1:j=i
  ·rw[if_pos e1]at he;cases he;exact .inl ⟨e1,rfl⟩
  ·rw[if_neg e1]at he;exact .inr ⟨e1,he⟩
 refine⟨by rw[hc,hlen,A.len],fun e he=>?_,fun e he=>?_,fun j k e t v q1 q2 q3=>?_⟩
 ·obtain⟨j,hj⟩:=List.getElem?_of_mem he
  rcases key j e hj with⟨_,rfl⟩|⟨_,h1⟩
  ·exact hl
  ·exact A.each e (List.mem_of_getElem? h1)
 ·obtain⟨j,hj⟩:=List.getElem?_of_mem he
  rcases key j e hj with⟨_,rfl⟩|⟨_,h1⟩
  ·exact hf
  ·exact A.fz e (List.mem_of_getElem? h1)
 ·rcases key j e q1 with⟨rfl,rfl⟩|⟨h1,h2⟩
  ·exact hin k t v q2 q3
  ·have hk:k<z:=by rw[←A.each e (List.mem_of_getElem? h2)];exact(List.getElem?_eq_some_iff.1 q2).1
   refine A.cell j k e t v h2 q2 ?_
   rw[←q3]
   refine(hout _ ?_).symm
   rcases Nat.lt_or_gt_of_ne h1 with h3|h3
   ·left
    have:(j+1)*z≤i*z:=Nat.mul_le_mul_right z h3
    rw[Nat.add_mul]at this;omega
   ·right
    have:(i+1)*z≤j*z:=Nat.mul_le_mul_right z h3
    omega
theorem fillS_rel {n:Nat}:∀{ps:List (Nat×TV)} {o:Ob} {F:Nat→Prop} {es es':List (List TV)} {cs:List Value} {pv:List (Nat×Value)},Mem X ρ F o c h→fillS o n es ps=some es'→ER c ρ F h n es cs→PRs c ρ F h ps pv→
 ∃F' cv,ShOk X ρ c h F o F' (sharesP o ps)∧fillA (fun i=>some (i*n,n)) cs pv=some cv∧ER c ρ F' h n es' cv∧es'.length=es.length
 |[],o,F,es,es',cs,[],H,hf,hE,_=>by simp[fillS]at hf;subst hf;exact⟨F,cs,.refl H,rfl,hE,rfl⟩
 |[],o,F,es,es',cs,_::_,H,hf,hE,hq=>hq.elim
 |a::l,o,F,es,es',cs,[],H,hf,hE,hq=>hq.elim
 |a::l,o,F,es,es',cs,b::m,H,hf,hE,hq=>by
  obtain⟨e,hv,hr⟩:=hq
  unfold fillS at hf
  split at hf
  ·rename_i l1 hc hfz
   simp only[Bool.and_eq_true,beq_iff]at hc
   split at hf
   ·rename_i es1 hset
    obtain⟨s1,s2,s3⟩:=setAt_some hset
    obtain⟨F1,A,a1⟩:=shares_ok (cellsT a.2) H
    obtain⟨f1,f2⟩:=frzs_fz hfz
    have hcr:=a1 l1 _ hfz (cells_rel hv hc.1)
    have hl1:l1.length=n:=by omega
    have hE1:=hE.mono A.keep
    have hvl:b.2.cells.toList.length=n:=by rw[←hcr.1];exact hl1
    have hle:a.1*n+b.2.cells.toList.length≤cs.length:=by
     rw[hvl,hE.len]
     have:(a.1+1)*n≤es.length*n:=Nat.mul_le_mul_right n s1
     rw[Nat.add_mul]at this;omega
    obtain⟨cs1,hcs1⟩:=setN_ex hle
    obtain⟨t1,t2,t3⟩:=setN_some hcs1
    have hE2:ER c ρ F1 h n es1 cs1:=by
     refine hE1.setAt s3 s2 s1 hl1 f1 t2 (fun j t v q1 q2=>?_) (fun k hk=>?_)
     ·have hj:j<l1.length:=(List.getElem?_eq_some_iff.1 q1).1
      rw[t3,if_pos ⟨by omega,by omega⟩]at q2
      exact hcr.2 j t v q1 (by rw[←q2];congr 1;omega)
     ·rw[t3,if_neg]
      rw[Nat.add_mul]at hk;omega
    have hfz2:fillS (shares o (cellsT a.2)) n es1 l=some es':=by
     have key:∀(o1:Ob),(∀t,frz o1 t=frz o t)→∀(l:List (Nat×TV)) (es:List (List TV)),fillS o1 n es l=fillS o n es l:=by
      intro o1 h1 l
      have h2:∀q,frzs o1 q=frzs o q:=by
       intro q
       induction q with
       |nil=>rfl
       |cons t q ih=>simp only[frzs,h1,ih]
      induction l with
      |nil=>intro es;rfl
      |cons p l ih=>
       intro es
       simp only[fillS,h2,ih]
     rw[key _ (fun t=>?_)];·exact hf
     have:∀(q:List TV) (o1:Ob),frz (shares o1 q) t=frz o1 t:=by
      intro q
      induction q with
      |nil=>intro o1;rfl
      |cons v q ih=>intro o1;simp only[shares];rw[ih,frz_share1]
     exact this _ _
    have hr1:PRs c ρ F1 h l m:=by
     have:∀(l:List (Nat×TV)) (m:List (Nat×Value)),PRs c ρ F h l m→PRs c ρ F1 h l m:=by
      intro l
      induction l with
      |nil=>intro m hm;cases m<;>exact hm
      |cons p l ih=>
       intro m hm
       cases m with
       |nil=>exact hm
       |cons q m=>exact⟨hm.1,A.keep _ _ hm.2.1,ih m hm.2.2⟩
     exact this l m hr
    obtain⟨F2,cv,B,b1,b2,b3⟩:=fillS_rel A.mem hfz2 hE2 hr1
    refine⟨F2,cv,A.trans B,?_,b2,by rw[b3,s2]⟩
    obtain⟨i,x⟩:=b
    simp only at e
    subst e
    simp only[fillA,Option.bind_some]
    have:x.cells.size=n:=by simpa using hvl
    rw[this]
    simp only at hcs1
    simp[grd,hcs1,b1]
   ·cases hf
  ·cases hf
end
end Go.M
