/-
  Part 12 of the library that the proof leans on.
-/
import Derived.Test.YtjeejiegdkojdaaGreatDoorL10
import Derived.Test.YtjeejiegdkojdaaGreatDoorL11
import Derived.Shelf.SlIterI.Nil
import Derived.KernelRfl
import Derived.Test.YtjeejiegdkojdaaGreatDoorL9
namespace Go.M
open Go
def ag9 (l:List Nat):FuncId→List Value→ab→Option (Value×ab):=fun g args h=>match mQ g l,args with
 |true,[]=>some (.bool true,h)
 |_,_=>none
end Go.M
namespace Go.M
open Go Go.RowKit Go.Maps Go.Sort Go.Shelf Go.Proofs
theorem mergeSort_perm {l l':List Int} (h:l.Perm l'):l.mergeSort (fun x y=>decide (x≤y))=l'.mergeSort (fun x y=>decide (x≤y)):=by
 have tr:∀a b c:Int,decide (a≤b)=true→decide (b≤c)=true→decide (a≤c)=true:=fun a b c h1 h2=>by simp only[decide_eq_true_eq]at*;omega
 have to:∀a b:Int,(decide (a≤b)||decide (b≤a))=true:=fun a b=>by simp only[Bool.or_eq_true,decide_eq_true_eq];omega
 refine List.Perm.eq_of_pairwise (le:=fun a b=>decide (a≤b)=true) (fun a b _ _ h1 h2=>?_) (List.pairwise_mergeSort tr to l) (List.pairwise_mergeSort tr to l') (((List.mergeSort_perm l _).trans h).trans (List.mergeSort_perm l' _).symm);simp only[decide_eq_true_eq]at h1 h2;omega
end Go.M
namespace Go.M
open Go Go.RowKit
theorem Ld {P:Program} {F:Fence} (hF:gO F) {n:Nat} {f:FuncId} {args:Array Value} {w:World} {R:Ending→World→Prop} (h:Calls P f args w R):CallsIn F n P f args w R:=by
 have e:Machine.fenced P F=Machine.fenced P Fence.wide:=funext fun m=>propext ⟨fun _=>fenced_wide P m,fun _ g hg=>⟨fun ha=>(by rw[hF.dead]at ha;cases ha),Or.inl (hF.fn _),fun f _=>hF.fn f,fun d hd=>(by rw[hF.depth]at hd;cases hd)⟩⟩;have h2:=callsIn_wide (n:=n).2 h;refine⟨hF.fn f,fun cs _=>?_⟩;rw[e];exact h2.2 cs (room_wide _)
def UT:List MapEntry→Option (List Int)
 |[]=>some []
 |e::l=>match e.key,UT l with
  | .int .i64 n,some ks=>some (n::ks)
  |_,_=>none
def pA (h:ab) (b:Nat):Option (Option Nat):=match h.get b with
 |some (.cells [.map mb] f cA aQ)=>bF (Nat.beq f b&&Nat.beq cA b&&Nat.ble aQ b) (some mb)
 |_=>none
instance (ev:List MapEntry) (clock:Nat):Decidable (vo ev clock):=inferInstanceAs (Decidable (_∧_))
def aaG (ks:List Int):Prop:=ks.length≤1099511627776∧(∀x∈ks,IntKind.i64.min≤x∧x≤IntKind.i64.max)∧ks.Nodup
instance (ks:List Int):Decidable (aaG ks):=inferInstanceAs (Decidable (_∧_∧_))
def OY (h:ab):Option Nat→Option (List Int)
 |none=>some []
 |some r=>match h.get r with
  |some (.map ev clock)=>(UT ev).bind fun ks=>bF (decide (vo ev clock)&&decide (aaG ks)) (some ks)
  |_=>none
def eI (ks:List Int):List Int:=ks.mergeSort fun x y=>decide (x≤y)
def aaH (h:ab) (ks:List Int):Value×ab:=match ks with
 |[]=>(.slice none 0 0,h)
 |_::_=>(.slice (some ⟨h.size,0,some 1⟩) ks.length (ks.length+1),h.push (.cells ((eI ks).map (.int .i64)) h.size h.size 0))
def R9 (WO:List Nat) (args:List Value) (h:ab):Option (Value×ab):=match args with
 |[.func (.func k) a c]=>(match a.toList,c.toList with
  |[],[.pointer (some ⟨b,0,none⟩)]=>bF (mQ k WO) ((pA h b).bind fun mb=>(OY h mb).bind fun ks=>some (aaH h ks))
  |_,_=>none)
 |_=>none
theorem ET {h:ab} {b:Nat} {mb:Option Nat} (hb:pA h b=some mb):∃aQ,h.get b=some (.cells [.map mb] b b aQ)∧aQ≤b:=by
 unfold pA at hb;split at hb
 ·rename_i mb' f cA aQ hg;simp only[ai,Bool.and_eq_true,beq_iff,aG,Option.some.injEq]at hb;obtain⟨⟨⟨rfl,rfl⟩,ht⟩,rfl⟩:=hb;exact⟨aQ,hg,ht⟩
 ·cases hb
theorem cB.born {μ:bn} {ev ev':List MapEntry} (h:cB μ ev ev'):ev'.map (·.born)=ev.map (·.born):=by
 induction h with
 |nil=>rfl
 |cons _ _ hb _ ih=>simp[hb,ih]
def adZ (l:List Nat) (gs:List (Nat×List Nat)):FuncId→List Value→ab→Option (Value×ab):=fun g args h=>match mQ g l with
 |true=>(match args with|[]=>some (.bool true,h)|_=>none)
 |false=>match look gs g with
  |some WO=>R9 WO args h
  |none=>none
section
variable {E:Env}
theorem AS (ks:List Int):(eI ks).length=ks.length:=by simp[eI]
end
end Go.M
namespace Go.M
open Go
theorem az {b:Bool} {A B:Prop} (hA:b=true→A) (hB:b=false→B):(match(generalizing:=false) b with|true=>A|false=>B):=by
 cases b with
 |true=>exact hA rfl
 |false=>exact hB rfl
theorem aA {b:Bool} {A B:Prop} (hA:b=false→A) (hB:b=true→B):(match(generalizing:=false) !b with|true=>A|false=>B):=by
 cases b with
 |true=>exact hB rfl
 |false=>exact hA rfl
@[reducible] def RR (r0:TV) (c0:Nat) (o0:Ob):TV→Ob→Nat→Prop:=fun r o c=>r=r0∧c=c0∧o=o0
theorem aK {a b:Bool} (h:a=b):Value.bool a=Value.bool b:=congrArg _ h
theorem sZ {α:Type} {enc:α→List TV} {l:List α} {n:Nat} {K:List TV→Prop} (h:n<l.length) (hK:K (enc l[n])):∃e,(0≤(n:Int)∧(l.map enc)[(n:Int).toNat]? =some e)∧K e:=
 ⟨enc l[n],⟨om,by simp[h]⟩,hK⟩
theorem wrap_small (n:Nat) (h:n≤1099511627776):IntKind.i64.wrap ((n:Int)+1)=((n+1:Nat):Int):=by
 rw[IntWalk.i64_in _ om];rfl
theorem vF {α:Type} {f:α→List TV} {l:List α} {i:Nat}:((i:Int)<(((l.map f).length:Nat):Int))↔i<l.length:=by simp
theorem flx:∀b:Bool,(!b||b)=true
 |true=>rfl
 |false=>rfl
theorem Lz.int {k:IntKind} {a b:Int} (h:a=b):Lz (Value.int k a) (Value.int k b):=.of (congrArg _ h)
theorem Lz.wrap {n:Nat} (h:n≤1099511627776):Lz (Value.int .i64 (IntKind.i64.wrap ((n:Int)+1))) (Value.int .i64 ((n+1:Nat):Int)):=.of (congrArg _ (wrap_small n h))
def WQ:List Nat:=[0,1,2,3,4,5,6,7,8,9,10,11,12,13,14,15,16,17,18,19,20,21,22,23,24,25,26,27,28,29,30,31,32,33,34,35,36,37,38,39,40]
def CQ (n:Nat) (K:Nat→Prop) (l:List Nat):Prop:=@List.rec Nat (fun _=>Prop) (K n) (fun k _ ih=>match Nat.beq n k with|true=>K k|false=>ih) l
theorem yC (n:Nat) (K:Nat→Prop):∀l,CQ n K l=K n
 |[]=>rfl
 |k::l=>by
  show(match Nat.beq n k with|true=>K k|false=>CQ n K l)=K n;cases h:Nat.beq n k with
  |true=>rw[beq_iff.1 h]
  |false=>exact yC n K l
def aZ (n:Nat) (K:Nat→Prop):Prop:=CQ n K WQ
theorem c6 (n:Nat):aZ n=fun K=>K n:=by funext K;exact yC n K _
def j9 (v:TV) (K:TV→Prop):Prop:=match v with
 | .j=>K .j
 | .s v=>K (.s v)
 | .sl z es fl=>aZ z fun z=>K (.sl z es fl)
 | .tk n=>aZ n fun n=>K (.tk n)
 | .ptr n o=>aZ n fun n=>aZ o fun o=>K (.ptr n o)
 | .ep e o=>aZ o fun o=>K (.ep e o)
 | .wp n i o=>aZ n fun n=>aZ o fun o=>K (.wp n i o)
 | .mp n=>aZ n fun n=>K (.mp n)
 | .bg n len=>aZ n fun n=>K (.bg n len)
 | .sv n i=>aZ n fun n=>K (.sv n i)
 | .pv n k=>aZ n fun n=>K (.pv n k)
 | .agg cs=>K (.agg cs)
 | .dF cs=>K (.dF cs)
 | .nq t v=>K (.nq t v)
 | .cH g a c=>K (.cH g a c)
 | .own y=>K (.own y)
theorem mW (v:TV):j9 v=fun K=>K v:=by funext K;cases v<;>simp[j9,c6]
def ib (F:TV→(TV→Prop)→Prop) (l:List TV):(List TV→Prop)→Prop:=@List.rec TV (fun _=>(List TV→Prop)→Prop) (fun K=>K []) (fun v _ ih K=>F v fun v=>ih fun l=>K (v::l)) l
theorem im {F:TV→(TV→Prop)→Prop} (hF:∀v,F v=fun K=>K v):∀l,ib F l=fun K=>K l
 |[]=>rfl
 |v::l=>by
  have ih:=im hF l
  funext K
  show F v (fun v=>ib F l fun l=>K (v::l))=K (v::l);rw[hF,ih]
def pB (v:TV) (K:TV→Prop):Prop:=match v with
 | .j=>K .j
 | .s v=>K (.s v)
 | .sl z es fl=>aZ z fun z=>K (.sl z es fl)
 | .tk n=>aZ n fun n=>K (.tk n)
 | .ptr n o=>aZ n fun n=>aZ o fun o=>K (.ptr n o)
 | .ep e o=>aZ o fun o=>K (.ep e o)
 | .wp n i o=>aZ n fun n=>aZ o fun o=>K (.wp n i o)
 | .mp n=>aZ n fun n=>K (.mp n)
 | .bg n len=>aZ n fun n=>K (.bg n len)
 | .sv n i=>aZ n fun n=>K (.sv n i)
 | .pv n k=>aZ n fun n=>K (.pv n k)
 | .agg cs=>ib j9 cs fun cs=>K (.agg cs)
 | .dF cs=>K (.dF cs)
 | .nq t v=>K (.nq t v)
 | .cH g a c=>ib j9 a fun a=>ib j9 c fun c=>K (.cH g a c)
 | .own y=>K (.own y)
theorem ql (v:TV):pB v=fun K=>K v:=by funext K;cases v<;>simp[pB,c6,im mW]
def k8 (v:TV) (K:TV→Prop):Prop:=match v with
 | .j=>K .j
 | .s v=>K (.s v)
 | .sl z es fl=>aZ z fun z=>K (.sl z es fl)
 | .tk n=>aZ n fun n=>K (.tk n)
 | .ptr n o=>aZ n fun n=>aZ o fun o=>K (.ptr n o)
 | .ep e o=>aZ o fun o=>K (.ep e o)
 | .wp n i o=>aZ n fun n=>aZ o fun o=>K (.wp n i o)
 | .mp n=>aZ n fun n=>K (.mp n)
 | .bg n len=>aZ n fun n=>K (.bg n len)
 | .sv n i=>aZ n fun n=>K (.sv n i)
 | .pv n k=>aZ n fun n=>K (.pv n k)
 | .agg cs=>ib j9 cs fun cs=>K (.agg cs)
 | .dF cs=>ib pB cs fun cs=>K (.dF cs)
 | .nq t v=>pB v fun v=>K (.nq t v)
 | .cH g a c=>ib j9 a fun a=>ib j9 c fun c=>K (.cH g a c)
 | .own y=>K (.own y)
theorem Le (v:TV):k8 v=fun K=>K v:=by funext K;cases v<;>simp[k8,c6,im mW,im ql,ql]
def HF (q:List (Nat×List TV)):(List (Nat×List TV)→Prop)→Prop:=@List.rec (Nat×List TV) (fun _=>(List (Nat×List TV)→Prop)→Prop) (fun K=>K []) (fun p _ ih K=>ib j9 p.2 fun x=>ih fun l=>K ((p.1,x)::l)) q
theorem AT:∀q,HF q=fun K=>K q
 |[]=>rfl
 |p::q=>by
  have ih:=AT q
  funext K
  show ib j9 p.2 (fun x=>HF q fun l=>K ((p.1,x)::l))=K (p::q);rw[im mW,ih]
def CT (q:List (Value×TV)):(List (Value×TV)→Prop)→Prop:=@List.rec (Value×TV) (fun _=>(List (Value×TV)→Prop)→Prop) (fun K=>K []) (fun p _ ih K=>pB p.2 fun x=>ih fun l=>K ((p.1,x)::l)) q
theorem uH:∀q,CT q=fun K=>K q
 |[]=>rfl
 |p::q=>by
  have ih:=uH q
  funext K
  show pB p.2 (fun x=>CT q fun l=>K ((p.1,x)::l))=K (p::q);rw[ql,ih]
def pC (x:TO) (K:TO→Prop):Prop:=match x with
 | .cells cs=>ib j9 cs fun cs=>K (.cells cs)
 | .map kd es=>aZ kd fun kd=>K (.map kd es)
 | .arr z w es=>aZ z fun z=>match w with|true=>K (.arr z true es)|false=>K (.arr z false es)
 | .bx z es op=>aZ z fun z=>HF op fun op=>K (.bx z es op)
 | .eL kd es op=>aZ kd fun kd=>CT op fun op=>K (.eL kd es op)
 | .gZ ks=>K (.gZ ks)
theorem Lf (x:TO):pC x=fun K=>K x:=by
 funext K
 cases x with
 |cells cs=>simp[pC,im mW]
 |map kd es=>simp[pC,c6]
 |arr z w es=>cases w<;>simp[pC,c6]
 |bx z es op=>simp[pC,c6,AT]
 |eL kd es op=>simp[pC,c6,uH]
 |gZ ks=>rfl
def od (o:Ob):(Ob→Prop)→Prop:=@List.rec (Nat×TO) (fun _=>(Ob→Prop)→Prop) (fun K=>K []) (fun p _ ih K=>aZ p.1 fun n=>pC p.2 fun x=>ih fun l=>K ((n,x)::l)) o
theorem uI:∀o,od o=fun K=>K o
 |[]=>rfl
 |p::o=>by
  have ih:=uI o
  funext K
  show aZ p.1 (fun n=>pC p.2 fun x=>od o fun l=>K ((n,x)::l))=K (p::o);rw[c6,Lf,ih]
def CU (q:List (Nat×List TV)):(List (Nat×List TV)→Prop)→Prop:=@List.rec (Nat×List TV) (fun _=>(List (Nat×List TV)→Prop)→Prop) (fun K=>K []) (fun p _ ih K=>aZ p.1 fun k=>ib pB p.2 fun x=>ih fun l=>K ((k,x)::l)) q
theorem yD:∀q,CU q=fun K=>K q
 |[]=>rfl
 |p::q=>by
  have ih:=yD q
  funext K
  show aZ p.1 (fun k=>ib pB p.2 fun x=>CU q fun l=>K ((k,x)::l))=K (p::q);rw[c6,im ql,ih]
def lN (x:TO) (K:TO→Prop):Prop:=match x with
 | .cells cs=>ib j9 cs fun cs=>K (.cells cs)
 | .map kd es=>aZ kd fun kd=>K (.map kd es)
 | .arr z w es=>aZ z fun z=>match w with|true=>K (.arr z true es)|false=>K (.arr z false es)
 | .bx z es op=>aZ z fun z=>CU op fun op=>K (.bx z es op)
 | .eL kd es op=>aZ kd fun kd=>CT op fun op=>K (.eL kd es op)
 | .gZ ks=>K (.gZ ks)
theorem HG (x:TO):lN x=fun K=>K x:=by
 funext K
 cases x with
 |cells cs=>simp[lN,im mW]
 |map kd es=>simp[lN,c6]
 |arr z w es=>cases w<;>simp[lN,c6]
 |bx z es op=>simp[lN,c6,yD]
 |eL kd es op=>simp[lN,c6,uH]
 |gZ ks=>rfl
def OZ (o:Ob):(Ob→Prop)→Prop:=@List.rec (Nat×TO) (fun _=>(Ob→Prop)→Prop) (fun K=>K []) (fun p l _ K=>aZ p.1 fun n=>lN p.2 fun x=>od l fun l=>K ((n,x)::l)) o
theorem Lg:∀o,OZ o=fun K=>K o
 |[]=>rfl
 |p::o=>by
  funext K
  show aZ p.1 (fun n=>lN p.2 fun x=>od o fun l=>K ((n,x)::l))=K (p::o);rw[c6,HG,uI]
def strict (l:VL) (v:TV) (o:Ob) (c:Nat) (K:TV→Ob→Nat→Prop):Prop:=match l with
 | .pure=>k8 v fun v=>K v o c
 | .alloc=>k8 v fun v=>OZ o fun o=>aZ c fun c=>K v o c
 | .IY=>k8 v fun v=>K v o c
 | .lu _=>k8 v fun v=>od o fun o=>aZ c fun c=>K v o c
 | .zI _ _ _=>k8 v fun v=>od o fun o=>aZ c fun c=>K v o c
 | .du _=>k8 v fun v=>od o fun o=>aZ c fun c=>K v o c
 | .oD _=>k8 v fun v=>od o fun o=>aZ c fun c=>K v o c
 | .oE=>k8 v fun v=>od o fun o=>aZ c fun c=>K v o c
 | .bad=>k8 v fun v=>K v o c
theorem AU (l:VL) (v:TV) (o:Ob) (c:Nat):strict l v o c=fun K=>K v o c:=by
 funext K;cases l<;>simp[strict,Le,uI,Lg,c6]
def yE (E:Env) (vc:MU) (n:Nat) (ops:List Oper) (l:List Oper):Fr→Ob→Nat→RK→Prop:=
 @List.rec Oper (fun _=>Fr→Ob→Nat→RK→Prop) (fun f o c K=>K f o c)
  (fun p _ ih f o c K=>po ops p f
   (Uv E vc p.op f o c fun v o' c' l=>strict l v o' c' fun v o' c'=>sG p.dst n v f fun f'=>ih f' o' c' K)
   (sG p.dst n (.dF []) f fun f'=>ih f' o c K)) l
theorem O0 (E:Env) (vc:MU) (n:Nat) (ops:List Oper):∀(l:List Oper) f o c K,yE E vc n ops l f o c K=D7 E vc n ops l f o c K:=by
 intro l
 induction l with
 |nil=>intro f o c K;rfl
 |cons p rest ih=>
  intro f o c K;have e:(fun f' o' c' (K:RK)=>yE E vc n ops rest f' o' c' K)=fun f' o' c' K=>D7 E vc n ops rest f' o' c' K:=by funext a b d e;exact ih a b d e
  show po ops p f (Uv E vc p.op f o c fun v o' c' l=>strict l v o' c' fun v o' c'=>sG p.dst n v f fun f'=>(fun f' o' c' (K:RK)=>yE E vc n ops rest f' o' c' K) f' o' c' K) (sG p.dst n (.dF []) f fun f'=>(fun f' o' c' (K:RK)=>yE E vc n ops rest f' o' c' K) f' o c K)=_;rw[e];simp only[AU];rfl
def rT (E:Env) (vc:MU) (n:Nat) (ops:List Oper) (l:List Oper):Fr→Ob→Nat→List VN→(List VN→RK)→Prop:=
 @List.rec Oper (fun _=>Fr→Ob→Nat→List VN→(List VN→RK)→Prop) (fun f o c lg K=>K lg f o c)
  (fun p _ ih f o c lg K=>po ops p f
   (Uv E vc p.op f o c fun v o' c' l=>strict l v o' c' fun v o' c'=>sG p.dst n v f fun f'=>ih f' o' c' (lg++[(l,o)]) K)
   (sG p.dst n (.dF []) f fun f'=>ih f' o c (lg++[(.pure,o)]) K)) l
theorem Lh (E:Env) (vc:MU) (n:Nat) (ops:List Oper):∀(l:List Oper) f o c lg K,rT E vc n ops l f o c lg K=sH E vc n ops l f o c lg K:=by
 intro l
 induction l with
 |nil=>intro f o c lg K;rfl
 |cons p rest ih=>
  intro f o c lg K;have e:(fun f' o' c' lg (K:List VN→RK)=>rT E vc n ops rest f' o' c' lg K)=fun f' o' c' lg K=>sH E vc n ops rest f' o' c' lg K:=by funext a b d g e;exact ih a b d g e
  show po ops p f (Uv E vc p.op f o c fun v o' c' l=>strict l v o' c' fun v o' c'=>sG p.dst n v f fun f'=>(fun f' o' c' lg (K:List VN→RK)=>rT E vc n ops rest f' o' c' lg K) f' o' c' (lg++[(l,o)]) K) (sG p.dst n (.dF []) f fun f'=>(fun f' o' c' lg (K:List VN→RK)=>rT E vc n ops rest f' o' c' lg K) f' o c (lg++[(.pure,o)]) K)=_;rw[e];simp only[AU];rfl
structure AV (b:Bool) (K:Prop):Prop where
 ok:b=true
 go:K
theorem O1 (b:Bool) (K:Prop):AV b K=(match(generalizing:=false) b with|true=>K|false=>False):=by
 cases b with
 |true=>exact propext ⟨fun h=>h.go,fun h=>⟨rfl,h⟩⟩
 |false=>exact propext (Iff.intro (fun h=>by cases h.ok) (fun h=>False.elim h))
abbrev WP:=Fr→Ob→Nat→CK→Prop
def EU (E:Env) (vc:MU) (n c0:Nat) (dM:List Nat) (code:Code):WP:=
 @Code.rec (fun _=>WP)
  (fun f o c Q=>Q .normal f o c)
  (fun _ ops draw f o c Q=>(match draw with
  |false=>yE E vc n ops.toList ops.toList f o c fun f' o' c'=>Q .normal f' o' c'
  |true=>AV (mG ops.toList&&j5 n ops.toList) (rT E vc n ops.toList ops.toList f o c [] fun lg f' o' c'=>AV (fG (db ops.toList []) o' 0 lg) (Q .normal f' o' c'))))
  (fun _ _ iha ihb f o c Q=>iha f o c fun ex f' o' c'=>(match ex with
  | .normal=>ihb f' o' c' Q
  | .exit id=>Q (.exit id) f' o' c'
  | .ret=>Q .ret f' o' c'))
  (fun q _ _ iht ihe f o c Q=>(match rJ E q with
  |false=>False
  |true=>(match l9 E f q with
   | .s (.bool b)=>(match b with
    |true=>iht f o c Q
    |false=>ihe f o c Q)
   |_=>False)))
  (fun id _ ih f o c Q=>(match mQ id dM with
  |false=>ih f o c fun ex f' o' c'=>(match ex with
   | .exit nk=>(match Nat.beq nk id with
    |true=>Q .normal f' o' c'
    |false=>Q (.exit nk) f' o' c')
   | .normal=>Q .normal f' o' c'
   | .ret=>Q .ret f' o' c')
  |true=>∃MV:RK,(ih f o c fun ex f' o' c'=>(match ex with
   | .exit nk=>(match Nat.beq nk id with
    |true=>jj c0 f' o' c' MV
    |false=>Q (.exit nk) f' o' c')
   | .normal=>jj c0 f' o' c' MV
   | .ret=>Q .ret f' o' c'))∧∀f' o' c',MV f' o' c'→Q .normal f' o' c'))
  (fun _ ih f o c Q=>(match mQ 999999 dM with
  |false=>∃Inv:Nat→Fr→Ob→Nat→Prop,(∃k,jj c0 f o c (Inv k))∧
   ∀k f1 o1 c1,Inv k f1 o1 c1→ih f1 o1 c1 fun ex f' o' c'=>(match ex with
    | .normal=>∃k',jj c0 f' o' c' (Inv k')∧k'<k
    | .exit id=>Q (.exit id) f' o' c'
    | .ret=>Q .ret f' o' c')
  |true=>An (fun f o c Q=>ih f o c Q) 64 f o c Q))
  (fun _ _ _ _ _ _ _ _ _ _=>False)
  (fun id f o c Q=>Q (.exit id) f o c)
  (fun _ _ _ _ _ _=>False)
  (fun _ _ _ _ _=>False)
  (fun _ _ _ _ _=>False)
  (fun f o c Q=>Q .ret f o c)
  (fun _ _ _ _ _=>False) code
theorem WR (E:Env) (vc:MU) (n c0:Nat) (dM:List Nat):∀(code:Code) f o c Q,EU E vc n c0 dM code f o c Q=wp E vc n c0 dM code f o c Q:=by
 intro code
 induction code with
 |region id ops draw=>
  intro f o c Q;have e1:(fun K=>yE E vc n ops.toList ops.toList f o c K)=fun K=>D7 E vc n ops.toList ops.toList f o c K:=by funext K;exact O0 ..
  have e2:(fun lg K=>rT E vc n ops.toList ops.toList f o c lg K)=fun lg K=>sH E vc n ops.toList ops.toList f o c lg K:=by funext lg K;exact Lh ..
  show(match draw with
  |false=>(fun K=>yE E vc n ops.toList ops.toList f o c K) fun f' o' c'=>Q .normal f' o' c'
  |true=>AV (mG ops.toList&&j5 n ops.toList) ((fun lg K=>rT E vc n ops.toList ops.toList f o c lg K) [] fun lg f' o' c'=>AV (fG (db ops.toList []) o' 0 lg) (Q .normal f' o' c')))=_
  rw[e1,e2];simp only[O1];cases draw<;>rfl
 |seq a b iha ihb=>
  intro f o c Q;have e1:(fun f o c Q=>EU E vc n c0 dM a f o c Q)=fun f o c Q=>wp E vc n c0 dM a f o c Q:=by funext f o c Q;exact iha ..
  have e2:(fun f o c Q=>EU E vc n c0 dM b f o c Q)=fun f o c Q=>wp E vc n c0 dM b f o c Q:=by funext f o c Q;exact ihb ..
  show((fun f o c Q=>EU E vc n c0 dM a f o c Q) f o c fun ex f' o' c'=>(match ex with
  | .normal=>(fun f o c Q=>EU E vc n c0 dM b f o c Q) f' o' c' Q
  | .exit id=>Q (.exit id) f' o' c'
  | .ret=>Q .ret f' o' c'))=_
  rw[e1,e2];rfl
 |cond q t e iht ihe=>
  intro f o c Q;have e1:(fun f o c Q=>EU E vc n c0 dM t f o c Q)=fun f o c Q=>wp E vc n c0 dM t f o c Q:=by funext f o c Q;exact iht ..
  have e2:(fun f o c Q=>EU E vc n c0 dM e f o c Q)=fun f o c Q=>wp E vc n c0 dM e f o c Q:=by funext f o c Q;exact ihe ..
  show(match rJ E q with
  |false=>False
  |true=>(match l9 E f q with
   | .s (.bool b)=>(match b with
    |true=>(fun f o c Q=>EU E vc n c0 dM t f o c Q) f o c Q
    |false=>(fun f o c Q=>EU E vc n c0 dM e f o c Q) f o c Q)
   |_=>False))=_
  rw[e1,e2];rfl
 |block id b ih=>
  intro f o c Q;have e1:(fun f o c Q=>EU E vc n c0 dM b f o c Q)=fun f o c Q=>wp E vc n c0 dM b f o c Q:=by funext f o c Q;exact ih ..
  show(match mQ id dM with
  |false=>(fun f o c Q=>EU E vc n c0 dM b f o c Q) f o c fun ex f' o' c'=>(match ex with
   | .exit nk=>(match Nat.beq nk id with
    |true=>Q .normal f' o' c'
    |false=>Q (.exit nk) f' o' c')
   | .normal=>Q .normal f' o' c'
   | .ret=>Q .ret f' o' c')
  |true=>∃MV:RK,((fun f o c Q=>EU E vc n c0 dM b f o c Q) f o c fun ex f' o' c'=>(match ex with
   | .exit nk=>(match Nat.beq nk id with
    |true=>jj c0 f' o' c' MV
    |false=>Q (.exit nk) f' o' c')
   | .normal=>jj c0 f' o' c' MV
   | .ret=>Q .ret f' o' c'))∧∀f' o' c',MV f' o' c'→Q .normal f' o' c')=_
  rw[e1];rfl
 |loop b ih=>
  intro f o c Q;have e1:(fun f o c Q=>EU E vc n c0 dM b f o c Q)=fun f o c Q=>wp E vc n c0 dM b f o c Q:=by funext f o c Q;exact ih ..
  show(match mQ 999999 dM with
  |false=>∃Inv:Nat→Fr→Ob→Nat→Prop,(∃k,jj c0 f o c (Inv k))∧
   ∀k f1 o1 c1,Inv k f1 o1 c1→(fun f o c Q=>EU E vc n c0 dM b f o c Q) f1 o1 c1 fun ex f' o' c'=>(match ex with
    | .normal=>∃k',jj c0 f' o' c' (Inv k')∧k'<k
    | .exit id=>Q (.exit id) f' o' c'
    | .ret=>Q .ret f' o' c')
  |true=>An (fun f o c Q=>EU E vc n c0 dM b f o c Q) 64 f o c Q)=_
  rw[e1];rfl
 |_=>intros;rfl
theorem VC.bE {E T:Env} (L:cm T E) {g:FuncId} {fn:Func} {code:Code} {c0:Nat} {args:List TV} {o0:Ob} {R:TV→Ob→Nat→Prop} (hf:E.func g=some fn) (ho:∀b a,E.tS b g a=fun _=>none) (hb:fn.body=some code) (hlen:Nat.ble args.length fn.ntmps=true)
 (dM:List Nat) (hw:EU T (VC E) fn.ntmps c0 dM code (sI 0 args) o0 c0 (NZ T c0 fn.results.toList R)):VC E g c0 args o0 R:=
 VC.enter L hf ho hb hlen dM (by rw[←WR];exact hw)
theorem D1 {b:Bool} {K:Prop} (k:K) (h:b=true:=by kernel_rfl):AV b K:=⟨h,k⟩
theorem LF {p:Prop} (h:p:=by first|with_reducible exact Lz.rfl|exact Lw.rfl|exact Lz.wrap om|(unfold goInt;with_reducible exact Lz.rfl)|exact flx _):p:=h
theorem cR {r0:TV} {c0:Nat} {o0:Ob} {Q:TV→Ob→Nat→Prop} (h:Q r0 o0 c0):∀r o c,RR r0 c0 o0 r o c→Q r o c:=by
 rintro r o c ⟨rfl,rfl,rfl⟩;exact h
theorem t3 {a b c:Prop} (h1:a:=by(repeat' first|with_reducible exact Lz.rfl|exact Lw.rfl|exact Lz.wrap om|(unfold goInt;with_reducible exact Lz.rfl)|exact flx _|constructor)) (h2:b:=by(repeat' first|with_reducible exact Lz.rfl|exact Lw.rfl|exact Lz.wrap om|(unfold goInt;with_reducible exact Lz.rfl)|exact flx _|constructor)) (h3:c:=by rfl):a∧b∧c:=⟨h1,h2,h3⟩
end Go.M
namespace Go.M
open Go Go.Proofs
theorem UU:IntKind.i64.wrap (0+1)=1:=rfl
theorem WS:IntKind.i64.wrap (1+1)=2:=rfl
theorem WT:IntKind.i64.wrap (2+1)=3:=rfl
theorem WU:IntKind.i64.wrap (3+1)=4:=rfl
theorem WV:IntKind.i64.wrap (4+1)=5:=rfl
theorem WW:IntKind.i64.wrap (5+1)=6:=rfl
theorem WX:IntKind.i64.wrap (6+1)=7:=rfl
theorem WY:IntKind.i64.wrap (7+1)=8:=rfl
theorem WZ:IntKind.i64.wrap (8+1)=9:=rfl
theorem W2:IntKind.i64.wrap (9+1)=10:=rfl
theorem W4:IntKind.i64.wrap (10+1)=11:=rfl
theorem W5:IntKind.i64.wrap (11+1)=12:=rfl
theorem W6:IntKind.i64.wrap (12+1)=13:=rfl
theorem W7:IntKind.i64.wrap (13+1)=14:=rfl
theorem W8:IntKind.i64.wrap (14+1)=15:=rfl
theorem rn {p q:Prop} (k:q) (h:q→p:=by(intro hq;(repeat(first|(refine⟨by first|decide+kernel|(dsimp only;decide+kernel),?_⟩;have bq:=True.intro;clear bq;((conv=>whnf)<;>repeat(with_reducible refine D1 ?_)<;>conv=>whnf))|(refine⟨_,rfl,?_⟩;have bq:=True.intro;clear bq;((conv=>whnf)<;>repeat(with_reducible refine D1 ?_)<;>conv=>whnf))|((try(first|rw[UU]|rw[WS]|rw[WT]|rw[WU]|rw[WV]|rw[WW]|rw[WX]|rw[WY]|rw[WZ]|rw[W2]|rw[W4]|rw[W5]|rw[W6]|rw[W7]|rw[W8]));first|(refine⟨fun h_=>?_,fun h_=>absurd (by first|decide+kernel|rfl |(dsimp only;decide+kernel)) h_⟩;clear h_;((conv=>whnf)<;>repeat(with_reducible refine D1 ?_)<;>conv=>whnf))|(refine⟨fun h_=>absurd h_ (by first|decide+kernel|(dsimp only;decide+kernel)),fun h_=>?_⟩;clear h_;((conv=>whnf)<;>repeat(with_reducible refine D1 ?_)<;>conv=>whnf)))));exact hq)):p:=h k
theorem wh {p q:Prop} (k:q) (h:q→p:=by(intro hq;((conv=>whnf)<;>repeat(with_reducible refine D1 ?_)<;>conv=>whnf);exact hq)):p:=h k
theorem sp {p a b:Prop} (ha:a) (hb:b) (h:a→b→p:=by(intro x y;first|exact⟨x,y⟩|exact aA x y|exact az x y)):p:=h ha hb
theorem tq {p:Prop} (h:p:=by(repeat' first|exact LF|constructor)):p:=h
theorem cw {r0:TV} {c0:Nat} {o0:Ob} {Q:TV→Ob→Nat→Prop} {q:Prop} (k:q) (h:q→Q r0 o0 c0:=by(intro hq;((conv=>whnf)<;>repeat(with_reducible refine D1 ?_)<;>conv=>whnf);exact hq)):∀r o c,RR r0 c0 o0 r o c→Q r o c:=cR (h k)
theorem en {E T:Env} (L:cm T E) (fn:Func) {g:FuncId} {c0:Nat} {args:List TV} {o0:Ob} {R:TV→Ob→Nat→Prop} {code:Code} {q:Prop} (k:q) (hf:E.func g=some fn:=by kernel_rfl) (ho:∀b a,E.tS b g a=fun _=>none:=by exact fun _ _=>rfl) (hb:fn.body=some code:=by rfl) (hlen:Nat.ble args.length fn.ntmps=true:=by rfl)
 (hw:q→EU T (VC E) fn.ntmps c0 [] code (sI 0 args) o0 c0 (NZ T c0 fn.results.toList R):=by(intro hq;((conv=>whnf)<;>repeat(with_reducible refine D1 ?_)<;>conv=>whnf);exact hq)):VC E g c0 args o0 R:=VC.bE L hf ho hb hlen [] (hw k)
theorem tx {a b c q:Prop} (k:q) (h1:q→a:=by(intro hq;repeat' first|(clear hq;exact LF)|constructor|exact hq)) (h2:q→b:=by(intro hq;repeat' first|(clear hq;exact LF)|constructor|exact hq)) (h3:c:=by rfl):a∧b∧c:=⟨h1 k,h2 k,h3⟩
end Go.M
namespace Go.M
open Go Go.RowKit
def ad1 (val:List Value→List Int→Option Value) (args:List Value) (h:ab):Option (Value×ab):=match args.reverse with
 | .slice (some ⟨b,0,some 1⟩) len cap::rp=>(match h.get b with
  |some (.gZ cs)=>bF (Nat.beq len cs.length&&Nat.ble len cap&&Nat.blt 0 len&&rp.all scalar) ((val rp.reverse cs).bind fun v=>some (v,h))
  |_=>none)
 |_=>none
section
variable {E:Env}
end
end Go.M
namespace Go.M
open Go Go.RowKit Go.Maps Go.Sort Go.Shelf Go.Proofs
def ad2 (h:ab) (ks:List Int):Value×ab:=match ks with
 |[]=>(.slice none 0 0,h)
 |_::_=>(.slice (some ⟨h.size,0,some 1⟩) ks.length (ks.length+1),h.push (.gZ ks))
def O2 (WO:List Nat) (args:List Value) (h:ab):Option (Value×ab):=match args with
 |[.func (.func k) a c]=>(match a.toList,c.toList with
  |[],[.pointer (some ⟨b,0,none⟩)]=>bF (mQ k WO) ((pA h b).bind fun mb=>(OY h mb).bind fun ks=>some (ad2 h ks))
  |_,_=>none)
 |_=>none
end Go.M
namespace Go.M
open Go Go.RowKit
section
variable {X:Cx} {ρ:Gh} {F:Nat→Prop} {o:Ob} {c:Nat} {h:ab}
end
section
variable {E:Env}
end
abbrev ad3:=List Value→List Int→Option Value
def aha (l:List Nat) (gs cs:List (Nat×List Nat)) (bs:List (Nat×ad3)):FuncId→List Value→ab→Option (Value×ab):=fun g args h=>match look cs g with
 |some WO=>O2 WO args h
 |none=>match look bs g with
  |some val=>ad1 val args h
  |none=>adZ l gs g args h
end Go.M
namespace Go.M
open Go
abbrev mu:=List (Nat×List Value)
def mw (P:Program) (l:mu) (tS:FuncId→List Value→ab→Option (Value×ab)):Env:={ij P tS with wg:=look l}
theorem rU (P:Program) (l:mu) (tS:FuncId→List Value→ab→Option (Value×ab)):bu P (mw P l tS):=
 let h:=Ut P tS
 ⟨h.desc,h.size,h.bytes,h.zero,h.qR,h.func⟩
def aaI (v v':Value):Prop:=(B9 v=false∧v'=v)∨(B9 v=true∧isIf v')
def yF (l:mu) (W:World):Prop:=∀g cs,look l g=some cs→∃c e fr,W.heap[g]? =some (.cells c e fr)∧cs.length≤c.size∧∀(i:Nat) v,cs[i]? =some v→∃v',c[i]? =some v'∧aaI v v'
def s6 (l:mu):Nat→ab
 |0=>wV
 |n+1=>(s6 l n).push (.cells (match look l n with|some cs=>cs|none=>[]) n (n+1) 0)
def W9 (l:mu) (n:Nat) (W:World):bn:=fun g=>match look l g,W.heap[g]?,Nat.blt g n with
 |some _,some (.cells c _ _),true=>some ⟨g,0,c.size⟩
 |_,_,_=>none
def qN (l:mu) (n:Nat):Bool:=l.all fun p=>Nat.blt p.1 n&&p.2.all (fun v=>B8 v||B9 v)&&(match look l p.1 with|some cs=>gu cs p.2|none=>false)
def HH (l:mu) (h:ab):Bool:=l.all fun p=>match h.rd p.1,look l p.1 with|some cs,some cs'=>gu cs cs'|_,_=>false
section
variable {P:Program} {l:mu} {n:Nat} {W:World}
theorem ft:∀n,(s6 l n).size=n
 |0=>rfl
 |n+1=>by rw[s6,ab.size_push,ft n]
theorem mX:∀n b,(s6 l n).get b=if b<n then some (.cells (match look l b with|some cs=>cs|none=>[]) b (b+1) 0)else none
 |0,b=>by simp;rfl
 |n+1,b=>by
  rw[s6,ab.aq,ft n,mX n b];by_cases e:b=n
  ·subst e;simp
  ·rw[if_neg e];by_cases h:b<n
   ·rw[if_pos h,if_pos om]
   ·rw[if_neg h,if_neg om]
theorem s7 {α:Type} {l:List (Nat×α)} {g:Nat} {x:α} (h:look l g=some x):(g,x)∈l:=by
 induction l with
 |nil=>simp[look]at h
 |cons p l ih=>
  unfold look at h;split at h
  ·rename_i hb;cases h;rw[beq_iff]at hb;subst hb;exact List.mem_cons_self
  ·exact List.mem_cons_of_mem _ (ih h)
theorem s8 (hB:qN l n=true) {g:Nat} {cs:List Value} (h:look l g=some cs):g<n∧cs.all (fun v=>B8 v||B9 v)=true:=by
 have:=List.all_eq_true.1 hB _ (s7 h);simp only[Bool.and_eq_true,aS]at this;exact⟨this.1.1,this.1.2⟩
theorem vG {v:Value} (h:B8 v=true):aC v=true:=by
 unfold B8 at h;simp only[Bool.and_eq_true]at h;exact h.1
theorem arT (hB:qN l n=true) (hW:yF l W):AR W (W9 l n W) (s6 l n):=by
 have key:∀{b m},W9 l n W b=some m→∃cs c e fr,look l b=some cs∧W.heap[b]? =some (.cells c e fr)∧b<n∧m=⟨b,0,c.size⟩:=by
  intro b m h;unfold W9 at h;split at h
  ·rename_i cs c e fr h1 h2 h3;cases h;exact⟨cs,c,e,fr,h1,h2,aS.1 h3,rfl⟩
  ·cases h
 refine⟨fun b hb=>?_,fun b hb=>?_,fun b m hb=>?_,fun b m hb=>?_⟩
 ·rw[ft]at hb;rw[mX,if_neg om]
 ·rw[ft]at hb;rw[mX,if_pos hb];exact⟨_,rfl⟩
 ·obtain⟨cs,c,e,fr,h1,h2,h3,rfl⟩:=key hb;rw[ft];exact h3
 ·obtain⟨cs,c,e,fr,h1,h2,h3,rfl⟩:=key hb;obtain⟨c',e',MR,q1,q2,q3⟩:=hW b cs h1;rw[h2]at q1;cases q1;refine⟨cs,c,e,fr,by rw[mX,if_pos h3,h1],h2,rfl,by simpa using q2,fun i v hv=>?_⟩;obtain⟨v',k1,k2⟩:=q3 i v hv;refine⟨v',by simpa using k1,?_⟩;have ht:=List.all_eq_true.1 (s8 hB h1).2 v (List.mem_of_getElem? hv);simp only[Bool.or_eq_true]at ht;rcases k2 with⟨ho,rfl⟩|⟨ho,hi⟩
  ·rcases ht with ht|ht
   ·exact .lit (vG ht)
   ·rw[ho]at ht;cases ht
  ·cases v<;>simp[B9]at ho;rename_i r;cases r with
   |none=>simp at ho
   |some n=>exact .BH hi
theorem EV (hB:qN l n=true) (hW:yF l W) {E:Env} (hE:E.wg=look l) (g:Nat) (hg:E.dc g=true):∃m,W9 l n W g=some m∧m.r=g∧m.s=0:=by
 unfold Env.dc at hg;rw[hE,Option.isSome_iff_exists]at hg;obtain⟨cs,h1⟩:=hg;obtain⟨c,e,fr,q1,q2,q3⟩:=hW g cs h1;refine⟨⟨g,0,c.size⟩,?_,rfl,rfl⟩;unfold W9;rw[h1,q1,aS.2 (s8 hB h1).1]
theorem EW {E:Env} (hE:E.wg=look l) {base B:Nat} {μ:bn} {h:ab} {w:World} (H:bh E base B μ h w) (hB:qN l n=true) (ht:HH l h=true):yF l w:=by
 intro g cs hg;obtain⟨m,q1,q2,q3⟩:=H.dc g (by unfold Env.dc;rw[hE,hg];rfl);have:=List.all_eq_true.1 ht _ (s7 hg);simp only[hg]at this;split at this
 ·rename_i ua cs2 hr e;cases e;have ec:=pY this;subst ec;obtain⟨c,e,fr,k1,k2,k3,_,k5⟩:=H.read q1 hr;rw[q2]at k1;rw[q3]at k3 k5;refine⟨c,e,fr,k1,om,fun i v hv=>?_⟩;obtain⟨v',p1,p2⟩:=k5 i v hv;refine⟨v',by simpa using p1,?_⟩;have ht:=List.all_eq_true.1 (s8 hB hg).2 v (List.mem_of_getElem? hv);simp only[Bool.or_eq_true]at ht;rcases ht with ht|ht
  ·have hp:=vG ht;refine .inl ⟨?_,?_⟩
   ·cases v<;>simp[B9];rename_i r;cases r<;>simp[aC]at hp ⊢
   ·cases p2 with
    |lit h=>rfl
    |_=>simp[aC]at hp
  ·refine .inr ⟨ht,?_⟩;cases v<;>simp[B9]at ht;rename_i r;cases r with
   |none=>simp at ht
   |some n=>
    cases p2 with
    |lit h=>simp[aC]at h
    |BH h=>exact h
 ·cases this
theorem Lj {E:Env} (hE:E.wg=look l) {F:Nat→Prop} {h:ab} (hB:qN l n=true) (N:kW E F h):HH l h=true:=by
 refine List.all_eq_true.2 fun p hp=>?_;have:=List.all_eq_true.1 hB p hp;simp only[Bool.and_eq_true]at this;have h3:=this.2;split at h3
 ·rename_i cs hl;obtain⟨_,n2,_⟩:=N p.1 cs (by rw[hE];exact hl);rw[n2,hl];have e:=pY h3;rw[e]at h3 ⊢;exact h3
 ·cases h3
def HI (P:Program) (l:mu) (g:FuncId):Prop:=∀(W:World) (F:Fence) (n:Nat),yF l W→gO F→CallsIn F n P g #[] W fun e W'=>e= .returned (.bool true)∧Go.RowKit.Below W.heap.size W W'
noncomputable def kA (P:Program) (l:mu) (fs bs ps:List Nat) (n:Nat):FuncId→List Value→ab→Option (Value×ab):=fun g args h=>
 match fs.contains g with
 |true=>EP (mw P l jJ) n g args h
 |false=>match bs.contains g with
  |true=>CN (mw P l jJ) n g args h
  |false=>match ps.contains g with
   |true=>CO (mw P l jJ) n g args h
   |false=>none
theorem qm {base B:Nat}:iJ P (mw P l jJ) base B:=fun μ h w g args args' v h' hr=>by
 have:(none:Option (Value×ab))=some (v,h'):=hr;cases this
theorem HJ (hm:P.follows .mixedOrders=true) (fs bs ps:List Nat) (n base B:Nat):iJ P (mw P l (kA P l fs bs ps n)) base B:=by
 intro μ h w g args args' v h' hc hr H F k hF;have lx:kA P l fs bs ps n g args h=some (v,h'):=hc;unfold kA at lx;split at lx
 ·exact OX (E:=mw P l (kA P l fs bs ps n)) (rU P l jJ) (fun _ _=>qm) hm (fun _ hg=>hg) n μ h w g args args' v h' lx hr H F k hF
 ·split at lx
  ·exact K9 (E:=mw P l (kA P l fs bs ps n)) (rU P l jJ) (fun _ _=>qm) hm (fun _ hg=>hg) n μ h w g args args' v h' lx hr H F k hF
  ·split at lx
   ·exact Lc (E:=mw P l (kA P l fs bs ps n)) (rU P l jJ) (fun _ _=>qm) hm (fun _ hg=>hg) n μ h w g args args' v h' lx hr H F k hF
   ·cases lx
theorem AR.UW {E:Env} {jz μ:bn} {h:ab} (A:AR W μ h) (hle:jz.le μ) (hg:∀g,E.dc g=true→∃m,jz g=some m∧m.r=g∧m.s=0):bh E h.size W.heap.size μ h W:=
 let H:=AR.oZ (E:=ij default jJ) A (fun _=>rfl)
 ⟨H.gh,H.high,H.obj,H.own,H.alias,H.dr,fun g h=>let⟨m,q1,q2⟩:=hg g h;⟨m,hle _ _ q1,q2⟩,H.low,H.l5,H.wf,H.root⟩
theorem Lk (hm:P.follows .mixedOrders=true) (hB:qN l n=true) {fs bs ps:List Nat} {m k:Nat} {g:FuncId}
 (hr:xq (fK (mw P l (kA P l fs bs ps m)) n k g [] (s6 l n))=true):HI P l g:=by
 intro W F j hW hF;obtain⟨h',hr⟩:=zH hr;have A:=arT hB hW;have H:bh (mw P l (kA P l fs bs ps m)) n W.heap.size (W9 l n W) (s6 l n) W:=by
  have:=A.UW (E:=mw P l (kA P l fs bs ps m)) (bn.le_refl _) (EV hB hW rfl)
  rwa [ft]at this
 have:=xp (rU P l _) (HJ hm fs bs ps m n W.heap.size) hm k (W9 l n W) (s6 l n) W g [] #[] (.bool true) h' hr .nil H F j hF;refine this.mono ?_;rintro e W' ⟨v',aU,rfl,hv,S⟩;have e:=hv.ax rfl;subst e;refine⟨rfl,S.grow.os,S.grow.tape,S.grow.output,S.grow.size,fun k hk=>S.grow.bl k hk fun b mt hb _=>?_⟩;have:=A.gh b mt hb
 rwa [ft]at this
def vZ (l:mu) (aw:List Nat) (rest:FuncId→List Value→ab→Option (Value×ab)):FuncId→List Value→ab→Option (Value×ab):=fun g args h=>
 match mQ g aw,args,HH l h with
 |true,[],true=>some (.bool true,h)
 |_,_,_=>rest g args h
theorem Sc {aw:List Nat} {rest:FuncId→List Value→ab→Option (Value×ab)} (hB:qN l n=true) (ha:∀g∈aw,HI P l g) (hr:∀base B,iJ P (ij P rest) base B) (base B:Nat):iJ P (mw P l (vZ l aw rest)) base B:=by
 intro μ h w g args args' v h' hc hv H F k hF;have lx:vZ l aw rest g args h=some (v,h'):=hc;unfold vZ at lx;split at lx
 ·rename_i h1 h2;cases lx;have:args'= #[]:=by
   have:=hv.length;simpa using this.symm
  subst this;refine(ha g (ym h1) w F k (EW (E:=mw P l (vZ l aw rest)) rfl H hB h2) hF).mono ?_;rintro e W' ⟨rfl,hb⟩;exact⟨_,μ,rfl,.lit rfl,⟨H.ext hb.size fun r hr=>hb.block r hr,⟨hb.tape,hb.os,hb.output,hb.size,fun r hr _=>hb.block r hr⟩,μ.le_refl,fun b m h0 h1=>(by rw[h0]at h1;cases h1),fun _ _ _=>rfl,Nat.le_refl _⟩⟩
 ·have H2:bh (ij P rest) base B μ h w:=⟨H.gh,H.high,H.obj,H.own,H.alias,H.dr,fun g hg=>by simp[Env.dc,ij]at hg,H.low,H.l5,H.wf,H.root⟩
  exact(hr base B μ h w g _ args' v h' lx hv H2 F k hF).mono fun e w' ⟨v',aU,h1,h2,h3⟩=>
   ⟨v',aU,h1,h2,⟨h3.rel.gh,h3.rel.high,h3.rel.obj,h3.rel.own,h3.rel.alias,h3.rel.dr,fun g hg=>let⟨m,q1,q2⟩:=H.dc g hg;⟨m,h3.le _ _ q1,q2⟩,h3.rel.low,h3.rel.l5,h3.rel.wf,h3.rel.root⟩,h3.grow,h3.le,h3.new,h3.Gy,h3.fL⟩
end
section
open Go.ChangeShapes Go.WideShapes
variable {H:Type} {enc:TypeId×Value→H} {P:Program} {W:World} {base:Nat} {held:Bool}
theorem Ll {l:mu} {n:Nat} {E:Env} {g:FuncId} {Jo:List vC} {ts:List TypeId} {args:Array Value} {ds:List (DataW H)} {ps:List MemPlace} {base':Nat} {r:Reach} (hE:bu P E) (hO:∀base B,iJ P E base B) (hm:P.follows .mixedOrders=true)
 (hT:E.wg=look l) (hBT:qN l n=true) (hWT:yF l W)
 (hB:AK P ts Jo=true) (hD:DataW.TrodAll enc P W base (fun _=>true) held ts args.toList ds ps) (hv:∀(j:Nat) t v,ts[j]? =some t→args[j]? =some v→Value.okWide P W r base' t v)
 (hc:∀AJ,EM Jo AJ→VC E g 0 AJ [] fun r _ _=>r= .s (.bool true)):Calls P g args W fun e W'=>e= .returned (.bool true)∧Go.RowKit.Below W.heap.size W W':=by
 obtain⟨μ,h,AJ,WM,A,hle,zt,f,r,x⟩:=AL hB hD (fun j t v a b=>hv j t v a (by simpa using b)) _ _ (arT hBT hWT);have hN:kW E (· <h.size) h:=fun g cs hg=>by
  rw[hT]at hg;obtain⟨h1,h2⟩:=s8 hBT hg;have hs:=zt.1;rw[ft]at hs;refine⟨om,A.rd (cs:=cs) ?_,trivial⟩;rw[zt.2 g (by rw[ft];exact h1),mX,if_pos h1,hg]
 obtain⟨k,v,h',ρ',F',r',o',c',h1,rfl,h3,h4⟩:=hc AJ f h.size um _ h _ WM hN A.mem (AR.mo) r;obtain⟨rfl,_⟩:=h4.dj;have:=xp hE (hO h.size W.heap.size) hm k μ h W g WM args _ h' h1 x (A.UW hle (EV hBT hWT hT)) Fence.wide 0 gO.wide;refine(callsIn_wide.1 (this.mono ?_));rintro e W' ⟨v',aU,rfl,hv,S⟩;have e:=hv.ax rfl;subst e;exact⟨rfl,S.grow.os,S.grow.tape,S.grow.output,S.grow.size,fun k hk=>S.grow.bl k hk fun b m hb _=>A.gh b m hb⟩
end
section
variable {E:Env} {base:Nat}
end
section
variable {α:Type}
def oe (k:IntKind) (f:α→TV) (e:Int×α):Value×TV:=(.int k e.1,f e.2)
def dm:List (Int×α)→Int→Option α
 |[],_=>none
 |e::es,n=>if n=e.1 then some e.2 else dm es n
def iQ:List (Int×α)→Int→α→List (Int×α)
 |[],n,v=>[(n,v)]
 |e::es,n,v=>if n=e.1 then(n,v)::es else e::iQ es n v
@[reducible] def cM (es:List (Int×α)):List Int:=es.map (·.1)
theorem UX {k k':IntKind} {f:α→TV} {e:Int×α} {n:Int}:qI (.int k' n) (oe k f e).1=decide (n=e.1):=by
 rw[Bool.eq_iff_iff];simp[qI,oe]
theorem s9 (k k':IntKind) (f:α→TV) (n:Int):∀es:List (Int×α),gQ (es.map (oe k f)) (.int k' n)=(dm es n).map f
 |[]=>rfl
 |e::es=>by
  rw[List.map_cons];unfold gQ dm;rw[UX];by_cases he:n=e.1
  ·simp[he,oe]
  ·simp[he,s9 k k' f n es]
theorem HK (k:IntKind) (f:α→TV) (n:Int) (v:α):∀es:List (Int×α),dG (es.map (oe k f)) (.int k n) (f v)=(iQ es n v).map (oe k f)
 |[]=>rfl
 |e::es=>by
  rw[List.map_cons];unfold dG iQ;rw[UX];by_cases he:n=e.1
  ·simp[he,oe]
  ·simp[he,HK k f n v es]
theorem Sd (k:IntKind) (f:α→TV) (es:List (Int×α)):(es.map (oe k f)).map (·.1)=(cM es).map (.int k):=by
 simp[oe,cM,Function.comp_def]
theorem jq {n:Int} {v:α}:∀{es:List (Int×α)},cM (iQ es n v)=if n∈cM es then cM es else cM es++[n]
 |[]=>rfl
 |e::es=>by
  have ih:=jq (n:=n) (v:=v) (es:=es);unfold iQ;by_cases he:n=e.1
  ·simp[he]
  ·simp only[he,if_false,cM,List.map_cons,List.mem_cons,false_or]at ih ⊢;rw[ih];split<;>simp
theorem yG {n:Int} {v:α} {es:List (Int×α)} (h:(cM es).Nodup):(cM (iQ es n v)).Nodup:=by
 rw[jq];split
 ·exact h
 ·rename_i hn;rw[List.nodup_append];exact⟨h,by simp,fun a ha b hb=>by simp at hb;subst hb;rintro rfl;exact hn ha⟩
theorem rV {n:Int}:∀{es:List (Int×α)},dm es n=none↔n∉cM es
 |[]=>by simp[dm]
 |e::es=>by
  have ih:=rV (n:=n) (es:=es);unfold dm;by_cases he:n=e.1
  ·simp[he]
  ·simp only[he,if_false,cM,List.map_cons,List.mem_cons,false_or]at ih ⊢;exact ih
theorem mY {n m:Int} {v:α}:∀{es:List (Int×α)},dm (iQ es n v) m=if m=n then some v else dm es m
 |[]=>by simp[iQ,dm]
 |e::es=>by
  have ih:=mY (n:=n) (m:=m) (v:=v) (es:=es);unfold iQ;by_cases he:n=e.1
  ·simp only[he,if_true,dm];by_cases hm:m=e.1<;>simp[hm]
  ·simp only[he,if_false,dm,ih];by_cases hm:m=e.1
   ·rw[if_pos hm,if_pos hm,if_neg];rintro rfl;exact he hm
   ·rw[if_neg hm,if_neg hm]
end
end Go.M
