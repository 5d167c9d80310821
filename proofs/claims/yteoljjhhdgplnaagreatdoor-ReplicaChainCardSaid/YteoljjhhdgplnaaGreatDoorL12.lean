/-
  Part 12 of the library that the proof leans on.
-/
import Derived.Test.YteoljjhhdgplnaaGreatDoorL10
import Derived.Test.YteoljjhhdgplnaaGreatDoorL11
import Derived.Shelf.SlIterI.Nil
import Derived.KernelRfl
import Derived.Test.YteoljjhhdgplnaaGreatDoorL9
namespace Go.M
open Go
def aeC (l:List Nat):FuncId→List Value→ab→Option (Value×ab):=fun g args h=>match mr g l,args with
 |true,[]=>some (.bool true,h)
 |_,_=>none
end Go.M
namespace Go.M
open Go Go.RowKit Go.Maps Go.Sort Go.Shelf Go.Proofs
theorem mergeSort_perm {l l':List Int} (h:l.Perm l'):l.mergeSort (fun x y=>decide (x≤y))=l'.mergeSort (fun x y=>decide (x≤y)):=by
 have tr:∀a b c:Int,decide (a≤b)=true→decide (b≤c)=true→decide (a≤c)=true:=fun a b c h1 h2=>by simp only[decide_eq_true_eq]at*;omega
 have to:∀a b:Int,(decide (a≤b)||decide (b≤a))=true:=fun a b=>by simp only[Bool.or_eq_true,decide_eq_true_eq];omega
 refine List.Perm.eq_of_pairwise (le:=fun a b=>decide (a≤b)=true) (fun a b _ _ h1 h2=>?_) (List.pairwise_mergeSort tr to l) (List.pairwise_mergeSort tr to l') (((List.mergeSort_perm l _).trans h).trans (List.mergeSort_perm l' _).symm);simp only[decide_eq_true_eq]at h1 h2;omega
end Go.M
namespace Go.M
open Go Go.RowKit
def Sj:List MapEntry→Option (List Int)
 |[]=>some []
 |e::l=>match e.key,Sj l with
  | .int .i64 n,some ks=>some (n::ks)
  |_,_=>none
def oZ (h:ab) (b:Nat):Option (Option Nat):=match h.get b with
 |some (.cells [.map mb] f cO aO)=>bC (Nat.beq f b&&Nat.beq cO b&&Nat.ble aO b) (some mb)
 |_=>none
instance (ev:List MapEntry) (clock:Nat):Decidable (uH ev clock):=inferInstanceAs (Decidable (_∧_))
def X5 (ks:List Int):Prop:=ks.length≤1099511627776∧(∀x∈ks,IntKind.i64.min≤x∧x≤IntKind.i64.max)∧ks.Nodup
instance (ks:List Int):Decidable (X5 ks):=inferInstanceAs (Decidable (_∧_∧_))
def MI (h:ab):Option Nat→Option (List Int)
 |none=>some []
 |some r=>match h.get r with
  |some (.map ev clock)=>(Sj ev).bind fun ks=>bC (decide (uH ev clock)&&decide (X5 ks)) (some ks)
  |_=>none
def cz (ks:List Int):List Int:=ks.mergeSort fun x y=>decide (x≤y)
def X6 (h:ab) (ks:List Int):Value×ab:=match ks with
 |[]=>(.slice none 0 0,h)
 |_::_=>(.slice (some ⟨h.size,0,some 1⟩) ks.length (ks.length+1),h.push (.cells ((cz ks).map (.int .i64)) h.size h.size 0))
def P8 (Ut:List Nat) (args:List Value) (h:ab):Option (Value×ab):=match args with
 |[.func (.func k) a c]=>(match a.toList,c.toList with
  |[],[.pointer (some ⟨b,0,none⟩)]=>bC (mr k Ut) ((oZ h b).bind fun mb=>(MI h mb).bind fun ks=>some (X6 h ks))
  |_,_=>none)
 |_=>none
theorem DI {h:ab} {b:Nat} {mb:Option Nat} (hb:oZ h b=some mb):∃aO,h.get b=some (.cells [.map mb] b b aO)∧aO≤b:=by
 unfold oZ at hb;split at hb
 ·rename_i mb' f cO aO hg;simp only[aj,Bool.and_eq_true,beq_iff,aG,Option.some.injEq]at hb;obtain⟨⟨⟨rfl,rfl⟩,ht⟩,rfl⟩:=hb;exact⟨aO,hg,ht⟩
 ·cases hb
theorem cD.born {μ:bn} {ev ev':List MapEntry} (h:cD μ ev ev'):ev'.map (·.born)=ev.map (·.born):=by
 induction h with
 |nil=>rfl
 |cons _ _ hb _ ih=>simp[hb,ih]
def abf (l:List Nat) (gs:List (Nat×List Nat)):FuncId→List Value→ab→Option (Value×ab):=fun g args h=>match mr g l with
 |true=>(match args with|[]=>some (.bool true,h)|_=>none)
 |false=>match look gs g with
  |some Ut=>P8 Ut args h
  |none=>none
section
variable {E:Env}
theorem zZ (ks:List Int):(cz ks).length=ks.length:=by simp[cz]
end
end Go.M
namespace Go.M
open Go
theorem a9 {b:Bool} {A B:Prop} (hA:b=true→A) (hB:b=false→B):(match(generalizing:=false) b with|true=>A|false=>B):=by
 cases b with
 |true=>exact hA rfl
 |false=>exact hB rfl
theorem ba {b:Bool} {A B:Prop} (hA:b=false→A) (hB:b=true→B):(match(generalizing:=false) !b with|true=>A|false=>B):=by
 cases b with
 |true=>exact hB rfl
 |false=>exact hA rfl
@[reducible] def RR (r0:TV) (c0:Nat) (o0:Ob):TV→Ob→Nat→Prop:=fun r o c=>r=r0∧c=c0∧o=o0
theorem aT {a b:Bool} (h:a=b):Value.bool a=Value.bool b:=congrArg _ h
theorem lW {α:Type} {enc:α→List TV} {l:List α} {n:Nat} {K:List TV→Prop} (h:n<l.length) (hK:K (enc l[n])):∃e,(0≤(n:Int)∧(l.map enc)[(n:Int).toNat]? =some e)∧K e:=
 ⟨enc l[n],⟨om,by simp[h]⟩,hK⟩
theorem wrap_small (n:Nat) (h:n≤1099511627776):IntKind.i64.wrap ((n:Int)+1)=((n+1:Nat):Int):=by
 rw[IntWalk.i64_in _ om];rfl
theorem o5 {α:Type} {f:α→List TV} {l:List α} {i:Nat}:((i:Int)<(((l.map f).length:Nat):Int))↔i<l.length:=by simp
theorem flx:∀b:Bool,(!b||b)=true
 |true=>rfl
 |false=>rfl
theorem Lz.int {k:IntKind} {a b:Int} (h:a=b):Lz (Value.int k a) (Value.int k b):=.of (congrArg _ h)
theorem Lz.wrap {n:Nat} (h:n≤1099511627776):Lz (Value.int .i64 (IntKind.i64.wrap ((n:Int)+1))) (Value.int .i64 ((n+1:Nat):Int)):=.of (congrArg _ (wrap_small n h))
def Uu:List Nat:=[0,1,2,3,4,5,6,7,8,9,10,11,12,13,14,15,16,17,18,19,20,21,22,23,24,25,26,27,28,29,30,31,32,33,34,35,36,37,38,39,40]
def BN (n:Nat) (K:Nat→Prop) (l:List Nat):Prop:=@List.rec Nat (fun _=>Prop) (K n) (fun k _ ih=>match Nat.beq n k with|true=>K k|false=>ih) l
theorem xC (n:Nat) (K:Nat→Prop):∀l,BN n K l=K n
 |[]=>rfl
 |k::l=>by
  show(match Nat.beq n k with|true=>K k|false=>BN n K l)=K n;cases h:Nat.beq n k with
  |true=>rw[beq_iff.1 h]
  |false=>exact xC n K l
def aX (n:Nat) (K:Nat→Prop):Prop:=BN n K Uu
theorem cV (n:Nat):aX n=fun K=>K n:=by funext K;exact xC n K _
def jR (v:TV) (K:TV→Prop):Prop:=match v with
 | .j=>K .j
 | .s v=>K (.s v)
 | .sl z es fl=>aX z fun z=>K (.sl z es fl)
 | .tk n=>aX n fun n=>K (.tk n)
 | .ptr n o=>aX n fun n=>aX o fun o=>K (.ptr n o)
 | .ep e o=>aX o fun o=>K (.ep e o)
 | .wp n i o=>aX n fun n=>aX o fun o=>K (.wp n i o)
 | .mp n=>aX n fun n=>K (.mp n)
 | .bg n len=>aX n fun n=>K (.bg n len)
 | .sv n i=>aX n fun n=>K (.sv n i)
 | .pv n k=>aX n fun n=>K (.pv n k)
 | .agg cs=>K (.agg cs)
 | .cY cs=>K (.cY cs)
 | .mT t v=>K (.mT t v)
 | .dc g a c=>K (.dc g a c)
 | .own y=>K (.own y)
theorem mB (v:TV):jR v=fun K=>K v:=by funext K;cases v<;>simp[jR,cV]
def gX (F:TV→(TV→Prop)→Prop) (l:List TV):(List TV→Prop)→Prop:=@List.rec TV (fun _=>(List TV→Prop)→Prop) (fun K=>K []) (fun v _ ih K=>F v fun v=>ih fun l=>K (v::l)) l
theorem g6 {F:TV→(TV→Prop)→Prop} (hF:∀v,F v=fun K=>K v):∀l,gX F l=fun K=>K l
 |[]=>rfl
 |v::l=>by
  have ih:=g6 hF l
  funext K
  show F v (fun v=>gX F l fun l=>K (v::l))=K (v::l);rw[hF,ih]
def o6 (v:TV) (K:TV→Prop):Prop:=match v with
 | .j=>K .j
 | .s v=>K (.s v)
 | .sl z es fl=>aX z fun z=>K (.sl z es fl)
 | .tk n=>aX n fun n=>K (.tk n)
 | .ptr n o=>aX n fun n=>aX o fun o=>K (.ptr n o)
 | .ep e o=>aX o fun o=>K (.ep e o)
 | .wp n i o=>aX n fun n=>aX o fun o=>K (.wp n i o)
 | .mp n=>aX n fun n=>K (.mp n)
 | .bg n len=>aX n fun n=>K (.bg n len)
 | .sv n i=>aX n fun n=>K (.sv n i)
 | .pv n k=>aX n fun n=>K (.pv n k)
 | .agg cs=>gX jR cs fun cs=>K (.agg cs)
 | .cY cs=>K (.cY cs)
 | .mT t v=>K (.mT t v)
 | .dc g a c=>gX jR a fun a=>gX jR c fun c=>K (.dc g a c)
 | .own y=>K (.own y)
theorem pP (v:TV):o6 v=fun K=>K v:=by funext K;cases v<;>simp[o6,cV,g6 mB]
def kI (v:TV) (K:TV→Prop):Prop:=match v with
 | .j=>K .j
 | .s v=>K (.s v)
 | .sl z es fl=>aX z fun z=>K (.sl z es fl)
 | .tk n=>aX n fun n=>K (.tk n)
 | .ptr n o=>aX n fun n=>aX o fun o=>K (.ptr n o)
 | .ep e o=>aX o fun o=>K (.ep e o)
 | .wp n i o=>aX n fun n=>aX o fun o=>K (.wp n i o)
 | .mp n=>aX n fun n=>K (.mp n)
 | .bg n len=>aX n fun n=>K (.bg n len)
 | .sv n i=>aX n fun n=>K (.sv n i)
 | .pv n k=>aX n fun n=>K (.pv n k)
 | .agg cs=>gX jR cs fun cs=>K (.agg cs)
 | .cY cs=>gX o6 cs fun cs=>K (.cY cs)
 | .mT t v=>o6 v fun v=>K (.mT t v)
 | .dc g a c=>gX jR a fun a=>gX jR c fun c=>K (.dc g a c)
 | .own y=>K (.own y)
theorem JD (v:TV):kI v=fun K=>K v:=by funext K;cases v<;>simp[kI,cV,g6 mB,g6 pP,pP]
def FZ (q:List (Nat×List TV)):(List (Nat×List TV)→Prop)→Prop:=@List.rec (Nat×List TV) (fun _=>(List (Nat×List TV)→Prop)→Prop) (fun K=>K []) (fun p _ ih K=>gX jR p.2 fun x=>ih fun l=>K ((p.1,x)::l)) q
theorem z5:∀q,FZ q=fun K=>K q
 |[]=>rfl
 |p::q=>by
  have ih:=z5 q
  funext K
  show gX jR p.2 (fun x=>FZ q fun l=>K ((p.1,x)::l))=K (p::q);rw[g6 mB,ih]
def BO (q:List (Value×TV)):(List (Value×TV)→Prop)→Prop:=@List.rec (Value×TV) (fun _=>(List (Value×TV)→Prop)→Prop) (fun K=>K []) (fun p _ ih K=>o6 p.2 fun x=>ih fun l=>K ((p.1,x)::l)) q
theorem tT:∀q,BO q=fun K=>K q
 |[]=>rfl
 |p::q=>by
  have ih:=tT q
  funext K
  show o6 p.2 (fun x=>BO q fun l=>K ((p.1,x)::l))=K (p::q);rw[pP,ih]
def o7 (x:TO) (K:TO→Prop):Prop:=match x with
 | .cells cs=>gX jR cs fun cs=>K (.cells cs)
 | .map kd es=>aX kd fun kd=>K (.map kd es)
 | .arr z w es=>aX z fun z=>match w with|true=>K (.arr z true es)|false=>K (.arr z false es)
 | .bV z es op=>aX z fun z=>FZ op fun op=>K (.bV z es op)
 | .eT kd es op=>aX kd fun kd=>BO op fun op=>K (.eT kd es op)
 | .gO ks=>K (.gO ks)
theorem JE (x:TO):o7 x=fun K=>K x:=by
 funext K
 cases x with
 |cells cs=>simp[o7,g6 mB]
 |map kd es=>simp[o7,cV]
 |arr z w es=>cases w<;>simp[o7,cV]
 |bV z es op=>simp[o7,cV,z5]
 |eT kd es op=>simp[o7,cV,tT]
 |gO ks=>rfl
def nE (o:Ob):(Ob→Prop)→Prop:=@List.rec (Nat×TO) (fun _=>(Ob→Prop)→Prop) (fun K=>K []) (fun p _ ih K=>aX p.1 fun n=>o7 p.2 fun x=>ih fun l=>K ((n,x)::l)) o
theorem tU:∀o,nE o=fun K=>K o
 |[]=>rfl
 |p::o=>by
  have ih:=tU o
  funext K
  show aX p.1 (fun n=>o7 p.2 fun x=>nE o fun l=>K ((n,x)::l))=K (p::o);rw[cV,JE,ih]
def BP (q:List (Nat×List TV)):(List (Nat×List TV)→Prop)→Prop:=@List.rec (Nat×List TV) (fun _=>(List (Nat×List TV)→Prop)→Prop) (fun K=>K []) (fun p _ ih K=>aX p.1 fun k=>gX o6 p.2 fun x=>ih fun l=>K ((k,x)::l)) q
theorem xD:∀q,BP q=fun K=>K q
 |[]=>rfl
 |p::q=>by
  have ih:=xD q
  funext K
  show aX p.1 (fun k=>gX o6 p.2 fun x=>BP q fun l=>K ((k,x)::l))=K (p::q);rw[cV,g6 pP,ih]
def lz (x:TO) (K:TO→Prop):Prop:=match x with
 | .cells cs=>gX jR cs fun cs=>K (.cells cs)
 | .map kd es=>aX kd fun kd=>K (.map kd es)
 | .arr z w es=>aX z fun z=>match w with|true=>K (.arr z true es)|false=>K (.arr z false es)
 | .bV z es op=>aX z fun z=>BP op fun op=>K (.bV z es op)
 | .eT kd es op=>aX kd fun kd=>BO op fun op=>K (.eT kd es op)
 | .gO ks=>K (.gO ks)
theorem F4 (x:TO):lz x=fun K=>K x:=by
 funext K
 cases x with
 |cells cs=>simp[lz,g6 mB]
 |map kd es=>simp[lz,cV]
 |arr z w es=>cases w<;>simp[lz,cV]
 |bV z es op=>simp[lz,cV,xD]
 |eT kd es op=>simp[lz,cV,tT]
 |gO ks=>rfl
def MJ (o:Ob):(Ob→Prop)→Prop:=@List.rec (Nat×TO) (fun _=>(Ob→Prop)→Prop) (fun K=>K []) (fun p l _ K=>aX p.1 fun n=>lz p.2 fun x=>nE l fun l=>K ((n,x)::l)) o
theorem JF:∀o,MJ o=fun K=>K o
 |[]=>rfl
 |p::o=>by
  funext K
  show aX p.1 (fun n=>lz p.2 fun x=>nE o fun l=>K ((n,x)::l))=K (p::o);rw[cV,F4,tU]
def strict (l:VL) (v:TV) (o:Ob) (c:Nat) (K:TV→Ob→Nat→Prop):Prop:=match l with
 | .pure=>kI v fun v=>K v o c
 | .alloc=>kI v fun v=>MJ o fun o=>aX c fun c=>K v o c
 | .Hj=>kI v fun v=>K v o c
 | .kS _=>kI v fun v=>nE o fun o=>aX c fun c=>K v o c
 | .yR _ _ _=>kI v fun v=>nE o fun o=>aX c fun c=>K v o c
 | .dp _=>kI v fun v=>nE o fun o=>aX c fun c=>K v o c
 | .n9 _=>kI v fun v=>nE o fun o=>aX c fun c=>K v o c
 | .oc=>kI v fun v=>nE o fun o=>aX c fun c=>K v o c
 | .bad=>kI v fun v=>K v o c
theorem z6 (l:VL) (v:TV) (o:Ob) (c:Nat):strict l v o c=fun K=>K v o c:=by
 funext K;cases l<;>simp[strict,JD,tU,JF,cV]
def xE (E:Env) (vc:KP) (n:Nat) (ops:List Oper) (l:List Oper):Fr→Ob→Nat→RK→Prop:=
 @List.rec Oper (fun _=>Fr→Ob→Nat→RK→Prop) (fun f o c K=>K f o c)
  (fun p _ ih f o c K=>oS ops p f
   (RL E vc p.op f o c fun v o' c' l=>strict l v o' c' fun v o' c'=>rZ p.dst n v f fun f'=>ih f' o' c' K)
   (rZ p.dst n (.cY []) f fun f'=>ih f' o c K)) l
theorem MK (E:Env) (vc:KP) (n:Nat) (ops:List Oper):∀(l:List Oper) f o c K,xE E vc n ops l f o c K=C1 E vc n ops l f o c K:=by
 intro l
 induction l with
 |nil=>intro f o c K;rfl
 |cons p rest ih=>
  intro f o c K;have e:(fun f' o' c' (K:RK)=>xE E vc n ops rest f' o' c' K)=fun f' o' c' K=>C1 E vc n ops rest f' o' c' K:=by funext a b d e;exact ih a b d e
  show oS ops p f (RL E vc p.op f o c fun v o' c' l=>strict l v o' c' fun v o' c'=>rZ p.dst n v f fun f'=>(fun f' o' c' (K:RK)=>xE E vc n ops rest f' o' c' K) f' o' c' K) (rZ p.dst n (.cY []) f fun f'=>(fun f' o' c' (K:RK)=>xE E vc n ops rest f' o' c' K) f' o c K)=_;rw[e];simp only[z6];rfl
def qW (E:Env) (vc:KP) (n:Nat) (ops:List Oper) (l:List Oper):Fr→Ob→Nat→List VN→(List VN→RK)→Prop:=
 @List.rec Oper (fun _=>Fr→Ob→Nat→List VN→(List VN→RK)→Prop) (fun f o c lg K=>K lg f o c)
  (fun p _ ih f o c lg K=>oS ops p f
   (RL E vc p.op f o c fun v o' c' l=>strict l v o' c' fun v o' c'=>rZ p.dst n v f fun f'=>ih f' o' c' (lg++[(l,o)]) K)
   (rZ p.dst n (.cY []) f fun f'=>ih f' o c (lg++[(.pure,o)]) K)) l
theorem JG (E:Env) (vc:KP) (n:Nat) (ops:List Oper):∀(l:List Oper) f o c lg K,qW E vc n ops l f o c lg K=r7 E vc n ops l f o c lg K:=by
 intro l
 induction l with
 |nil=>intro f o c lg K;rfl
 |cons p rest ih=>
  intro f o c lg K;have e:(fun f' o' c' lg (K:List VN→RK)=>qW E vc n ops rest f' o' c' lg K)=fun f' o' c' lg K=>r7 E vc n ops rest f' o' c' lg K:=by funext a b d g e;exact ih a b d g e
  show oS ops p f (RL E vc p.op f o c fun v o' c' l=>strict l v o' c' fun v o' c'=>rZ p.dst n v f fun f'=>(fun f' o' c' lg (K:List VN→RK)=>qW E vc n ops rest f' o' c' lg K) f' o' c' (lg++[(l,o)]) K) (rZ p.dst n (.cY []) f fun f'=>(fun f' o' c' lg (K:List VN→RK)=>qW E vc n ops rest f' o' c' lg K) f' o c (lg++[(.pure,o)]) K)=_;rw[e];simp only[z6];rfl
structure z7 (b:Bool) (K:Prop):Prop where
 ok:b=true
 go:K
theorem ML (b:Bool) (K:Prop):z7 b K=(match(generalizing:=false) b with|true=>K|false=>False):=by
 cases b with
 |true=>exact propext ⟨fun h=>h.go,fun h=>⟨rfl,h⟩⟩
 |false=>exact propext (Iff.intro (fun h=>by cases h.ok) (fun h=>False.elim h))
abbrev WP:=Fr→Ob→Nat→CK→Prop
def DJ (E:Env) (vc:KP) (n c0:Nat) (dK:List Nat) (code:Code):WP:=
 @Code.rec (fun _=>WP)
  (fun f o c Q=>Q .normal f o c)
  (fun _ ops draw f o c Q=>(match draw with
  |false=>xE E vc n ops.toList ops.toList f o c fun f' o' c'=>Q .normal f' o' c'
  |true=>z7 (l7 ops.toList&&jO n ops.toList) (qW E vc n ops.toList ops.toList f o c [] fun lg f' o' c'=>z7 (fy (c8 ops.toList []) o' 0 lg) (Q .normal f' o' c'))))
  (fun _ _ XS XT f o c Q=>XS f o c fun ex f' o' c'=>(match ex with
  | .normal=>XT f' o' c' Q
  | .exit id=>Q (.exit id) f' o' c'
  | .ret=>Q .ret f' o' c'))
  (fun q _ _ XU XV f o c Q=>(match qO E q with
  |false=>False
  |true=>(match lN E f q with
   | .s (.bool b)=>(match b with
    |true=>XU f o c Q
    |false=>XV f o c Q)
   |_=>False)))
  (fun id _ ih f o c Q=>(match mr id dK with
  |false=>ih f o c fun ex f' o' c'=>(match ex with
   | .exit mS=>(match Nat.beq mS id with
    |true=>Q .normal f' o' c'
    |false=>Q (.exit mS) f' o' c')
   | .normal=>Q .normal f' o' c'
   | .ret=>Q .ret f' o' c')
  |true=>∃KQ:RK,(ih f o c fun ex f' o' c'=>(match ex with
   | .exit mS=>(match Nat.beq mS id with
    |true=>iX c0 f' o' c' KQ
    |false=>Q (.exit mS) f' o' c')
   | .normal=>iX c0 f' o' c' KQ
   | .ret=>Q .ret f' o' c'))∧∀f' o' c',KQ f' o' c'→Q .normal f' o' c'))
  (fun _ ih f o c Q=>(match mr 999999 dK with
  |false=>∃Inv:Nat→Fr→Ob→Nat→Prop,(∃k,iX c0 f o c (Inv k))∧
   ∀k f1 o1 c1,Inv k f1 o1 c1→ih f1 o1 c1 fun ex f' o' c'=>(match ex with
    | .normal=>∃k',iX c0 f' o' c' (Inv k')∧k'<k
    | .exit id=>Q (.exit id) f' o' c'
    | .ret=>Q .ret f' o' c')
  |true=>zw (fun f o c Q=>ih f o c Q) 64 f o c Q))
  (fun _ _ _ _ _ _ _ _ _ _=>False)
  (fun id f o c Q=>Q (.exit id) f o c)
  (fun _ _ _ _ _ _=>False)
  (fun _ _ _ _ _=>False)
  (fun _ _ _ _ _=>False)
  (fun f o c Q=>Q .ret f o c)
  (fun _ _ _ _ _=>False) code
theorem Uv (E:Env) (vc:KP) (n c0:Nat) (dK:List Nat):∀(code:Code) f o c Q,DJ E vc n c0 dK code f o c Q=wp E vc n c0 dK code f o c Q:=by
 intro code
 induction code with
 |region id ops draw=>
  intro f o c Q;have e1:(fun K=>xE E vc n ops.toList ops.toList f o c K)=fun K=>C1 E vc n ops.toList ops.toList f o c K:=by funext K;exact MK ..
  have e2:(fun lg K=>qW E vc n ops.toList ops.toList f o c lg K)=fun lg K=>r7 E vc n ops.toList ops.toList f o c lg K:=by funext lg K;exact JG ..
  show(match draw with
  |false=>(fun K=>xE E vc n ops.toList ops.toList f o c K) fun f' o' c'=>Q .normal f' o' c'
  |true=>z7 (l7 ops.toList&&jO n ops.toList) ((fun lg K=>qW E vc n ops.toList ops.toList f o c lg K) [] fun lg f' o' c'=>z7 (fy (c8 ops.toList []) o' 0 lg) (Q .normal f' o' c')))=_
  rw[e1,e2];simp only[ML];cases draw<;>rfl
 |seq a b XS XT=>
  intro f o c Q;have e1:(fun f o c Q=>DJ E vc n c0 dK a f o c Q)=fun f o c Q=>wp E vc n c0 dK a f o c Q:=by funext f o c Q;exact XS ..
  have e2:(fun f o c Q=>DJ E vc n c0 dK b f o c Q)=fun f o c Q=>wp E vc n c0 dK b f o c Q:=by funext f o c Q;exact XT ..
  show((fun f o c Q=>DJ E vc n c0 dK a f o c Q) f o c fun ex f' o' c'=>(match ex with
  | .normal=>(fun f o c Q=>DJ E vc n c0 dK b f o c Q) f' o' c' Q
  | .exit id=>Q (.exit id) f' o' c'
  | .ret=>Q .ret f' o' c'))=_
  rw[e1,e2];rfl
 |cond q t e XU XV=>
  intro f o c Q;have e1:(fun f o c Q=>DJ E vc n c0 dK t f o c Q)=fun f o c Q=>wp E vc n c0 dK t f o c Q:=by funext f o c Q;exact XU ..
  have e2:(fun f o c Q=>DJ E vc n c0 dK e f o c Q)=fun f o c Q=>wp E vc n c0 dK e f o c Q:=by funext f o c Q;exact XV ..
  show(match qO E q with
  |false=>False
  |true=>(match lN E f q with
   | .s (.bool b)=>(match b with
    |true=>(fun f o c Q=>DJ E vc n c0 dK t f o c Q) f o c Q
    |false=>(fun f o c Q=>DJ E vc n c0 dK e f o c Q) f o c Q)
   |_=>False))=_
  rw[e1,e2];rfl
 |block id b ih=>
  intro f o c Q;have e1:(fun f o c Q=>DJ E vc n c0 dK b f o c Q)=fun f o c Q=>wp E vc n c0 dK b f o c Q:=by funext f o c Q;exact ih ..
  show(match mr id dK with
  |false=>(fun f o c Q=>DJ E vc n c0 dK b f o c Q) f o c fun ex f' o' c'=>(match ex with
   | .exit mS=>(match Nat.beq mS id with
    |true=>Q .normal f' o' c'
    |false=>Q (.exit mS) f' o' c')
   | .normal=>Q .normal f' o' c'
   | .ret=>Q .ret f' o' c')
  |true=>∃KQ:RK,((fun f o c Q=>DJ E vc n c0 dK b f o c Q) f o c fun ex f' o' c'=>(match ex with
   | .exit mS=>(match Nat.beq mS id with
    |true=>iX c0 f' o' c' KQ
    |false=>Q (.exit mS) f' o' c')
   | .normal=>iX c0 f' o' c' KQ
   | .ret=>Q .ret f' o' c'))∧∀f' o' c',KQ f' o' c'→Q .normal f' o' c')=_
  rw[e1];rfl
 |loop b ih=>
  intro f o c Q;have e1:(fun f o c Q=>DJ E vc n c0 dK b f o c Q)=fun f o c Q=>wp E vc n c0 dK b f o c Q:=by funext f o c Q;exact ih ..
  show(match mr 999999 dK with
  |false=>∃Inv:Nat→Fr→Ob→Nat→Prop,(∃k,iX c0 f o c (Inv k))∧
   ∀k f1 o1 c1,Inv k f1 o1 c1→(fun f o c Q=>DJ E vc n c0 dK b f o c Q) f1 o1 c1 fun ex f' o' c'=>(match ex with
    | .normal=>∃k',iX c0 f' o' c' (Inv k')∧k'<k
    | .exit id=>Q (.exit id) f' o' c'
    | .ret=>Q .ret f' o' c')
  |true=>zw (fun f o c Q=>DJ E vc n c0 dK b f o c Q) 64 f o c Q)=_
  rw[e1];rfl
 |_=>intros;rfl
theorem VC.dM {E T:Env} (L:ck T E) {g:FuncId} {fn:Func} {code:Code} {c0:Nat} {args:List TV} {o0:Ob} {R:TV→Ob→Nat→Prop} (hf:E.func g=some fn) (ho:∀b a,E.uZ b g a=fun _=>none) (hb:fn.body=some code) (hlen:Nat.ble args.length fn.ntmps=true)
 (dK:List Nat) (hw:DJ T (VC E) fn.ntmps c0 dK code (r8 0 args) o0 c0 (LP T c0 fn.results.toList R)):VC E g c0 args o0 R:=
 VC.enter L hf ho hb hlen dK (by rw[←Uv];exact hw)
theorem D1 {b:Bool} {K:Prop} (k:K) (h:b=true:=by kernel_rfl):z7 b K:=⟨h,k⟩
theorem LF {p:Prop} (h:p:=by first|with_reducible exact Lz.rfl|exact Lw.rfl|exact Lz.wrap om|(unfold goInt;with_reducible exact Lz.rfl)|exact flx _):p:=h
theorem cR {r0:TV} {c0:Nat} {o0:Ob} {Q:TV→Ob→Nat→Prop} (h:Q r0 o0 c0):∀r o c,RR r0 c0 o0 r o c→Q r o c:=by
 rintro r o c ⟨rfl,rfl,rfl⟩;exact h
theorem t3 {a b c:Prop} (h1:a:=by(repeat' first|with_reducible exact Lz.rfl|exact Lw.rfl|exact Lz.wrap om|(unfold goInt;with_reducible exact Lz.rfl)|exact flx _|constructor)) (h2:b:=by(repeat' first|with_reducible exact Lz.rfl|exact Lw.rfl|exact Lz.wrap om|(unfold goInt;with_reducible exact Lz.rfl)|exact flx _|constructor)) (h3:c:=by rfl):a∧b∧c:=⟨h1,h2,h3⟩
end Go.M
namespace Go.M
open Go Go.Proofs
theorem X7:IntKind.i64.wrap (0+1)=1:=rfl
theorem Zn:IntKind.i64.wrap (1+1)=2:=rfl
theorem Zo:IntKind.i64.wrap (2+1)=3:=rfl
theorem Zp:IntKind.i64.wrap (3+1)=4:=rfl
theorem Zq:IntKind.i64.wrap (4+1)=5:=rfl
theorem Zr:IntKind.i64.wrap (5+1)=6:=rfl
theorem Zs:IntKind.i64.wrap (6+1)=7:=rfl
theorem Zt:IntKind.i64.wrap (7+1)=8:=rfl
theorem Zu:IntKind.i64.wrap (8+1)=9:=rfl
theorem Zv:IntKind.i64.wrap (9+1)=10:=rfl
theorem Zw:IntKind.i64.wrap (10+1)=11:=rfl
theorem Zx:IntKind.i64.wrap (11+1)=12:=rfl
theorem Zy:IntKind.i64.wrap (12+1)=13:=rfl
theorem Zz:IntKind.i64.wrap (13+1)=14:=rfl
theorem ZA:IntKind.i64.wrap (14+1)=15:=rfl
theorem rn {p q:Prop} (k:q) (h:q→p:=by(intro hq;(repeat(first|(refine⟨by first|decide+kernel|(dsimp only;decide+kernel),?_⟩;have eo:=True.intro;clear eo;((conv=>whnf)<;>repeat(with_reducible refine D1 ?_)<;>conv=>whnf))|(refine⟨_,rfl,?_⟩;have eo:=True.intro;clear eo;((conv=>whnf)<;>repeat(with_reducible refine D1 ?_)<;>conv=>whnf))|((try(first|rw[X7]|rw[Zn]|rw[Zo]|rw[Zp]|rw[Zq]|rw[Zr]|rw[Zs]|rw[Zt]|rw[Zu]|rw[Zv]|rw[Zw]|rw[Zx]|rw[Zy]|rw[Zz]|rw[ZA]));first|(refine⟨fun h_=>?_,fun h_=>absurd (by first|decide+kernel|rfl |(dsimp only;decide+kernel)) h_⟩;clear h_;((conv=>whnf)<;>repeat(with_reducible refine D1 ?_)<;>conv=>whnf))|(refine⟨fun h_=>absurd h_ (by first|decide+kernel|(dsimp only;decide+kernel)),fun h_=>?_⟩;clear h_;((conv=>whnf)<;>repeat(with_reducible refine D1 ?_)<;>conv=>whnf)))));exact hq)):p:=h k
theorem wh {p q:Prop} (k:q) (h:q→p:=by(intro hq;((conv=>whnf)<;>repeat(with_reducible refine D1 ?_)<;>conv=>whnf);exact hq)):p:=h k
theorem sp {p a b:Prop} (ha:a) (hb:b) (h:a→b→p:=by(intro x y;first|exact⟨x,y⟩|exact ba x y|exact a9 x y)):p:=h ha hb
theorem tq {p:Prop} (h:p:=by(repeat' first|exact LF|constructor)):p:=h
theorem cw {r0:TV} {c0:Nat} {o0:Ob} {Q:TV→Ob→Nat→Prop} {q:Prop} (k:q) (h:q→Q r0 o0 c0:=by(intro hq;((conv=>whnf)<;>repeat(with_reducible refine D1 ?_)<;>conv=>whnf);exact hq)):∀r o c,RR r0 c0 o0 r o c→Q r o c:=cR (h k)
theorem en {E T:Env} (L:ck T E) (fn:Func) {g:FuncId} {c0:Nat} {args:List TV} {o0:Ob} {R:TV→Ob→Nat→Prop} {code:Code} {q:Prop} (k:q) (hf:E.func g=some fn:=by kernel_rfl) (ho:∀b a,E.uZ b g a=fun _=>none:=by exact fun _ _=>rfl) (hb:fn.body=some code:=by rfl) (hlen:Nat.ble args.length fn.ntmps=true:=by rfl)
 (hw:q→DJ T (VC E) fn.ntmps c0 [] code (r8 0 args) o0 c0 (LP T c0 fn.results.toList R):=by(intro hq;((conv=>whnf)<;>repeat(with_reducible refine D1 ?_)<;>conv=>whnf);exact hq)):VC E g c0 args o0 R:=VC.dM L hf ho hb hlen [] (hw k)
theorem tx {a b c q:Prop} (k:q) (h1:q→a:=by(intro hq;repeat' first|(clear hq;exact LF)|constructor|exact hq)) (h2:q→b:=by(intro hq;repeat' first|(clear hq;exact LF)|constructor|exact hq)) (h3:c:=by rfl):a∧b∧c:=⟨h1 k,h2 k,h3⟩
end Go.M
namespace Go.M
open Go Go.RowKit
def abh (val:List Value→List Int→Option Value) (args:List Value) (h:ab):Option (Value×ab):=match args.reverse with
 | .slice (some ⟨b,0,some 1⟩) len cap::rp=>(match h.get b with
  |some (.gO cs)=>bC (Nat.beq len cs.length&&Nat.ble len cap&&Nat.blt 0 len&&rp.all scalar) ((val rp.reverse cs).bind fun v=>some (v,h))
  |_=>none)
 |_=>none
section
variable {E:Env}
end
end Go.M
namespace Go.M
open Go Go.RowKit Go.Maps Go.Sort Go.Shelf Go.Proofs
def abi (h:ab) (ks:List Int):Value×ab:=match ks with
 |[]=>(.slice none 0 0,h)
 |_::_=>(.slice (some ⟨h.size,0,some 1⟩) ks.length (ks.length+1),h.push (.gO ks))
def MN (Ut:List Nat) (args:List Value) (h:ab):Option (Value×ab):=match args with
 |[.func (.func k) a c]=>(match a.toList,c.toList with
  |[],[.pointer (some ⟨b,0,none⟩)]=>bC (mr k Ut) ((oZ h b).bind fun mb=>(MI h mb).bind fun ks=>some (abi h ks))
  |_,_=>none)
 |_=>none
end Go.M
namespace Go.M
open Go Go.RowKit
section
variable {X:Cx} {ρ:Gh} {F:Nat→Prop} {o:Ob} {c:Nat} {h:ab}
end
section
variable {E:Env}
end
abbrev abj:=List Value→List Int→Option Value
def aeD (l:List Nat) (gs cs:List (Nat×List Nat)) (bs:List (Nat×abj)):FuncId→List Value→ab→Option (Value×ab):=fun g args h=>match look cs g with
 |some Ut=>MN Ut args h
 |none=>match look bs g with
  |some val=>abh val args h
  |none=>abf l gs g args h
end Go.M
namespace Go.M
open Go
abbrev o8:=List (Nat×List Value)
def kJ (P:Program) (l:o8) (uZ:FuncId→List Value→ab→Option (Value×ab)):Env:={iS P uZ with vl:=look l}
theorem qX (P:Program) (l:o8) (uZ:FuncId→List Value→ab→Option (Value×ab)):bw P (kJ P l uZ):=
 let h:=W5 P uZ
 ⟨h.desc,h.size,h.bytes,h.zero,h.rF,h.func⟩
def X8 (v v':Value):Prop:=(Be v=false∧v'=v)∨(Be v=true∧isIf v')
def xF (l:o8) (W:World):Prop:=∀g cs,look l g=some cs→∃c e fr,W.heap[g]? =some (.cells c e fr)∧cs.length≤c.size∧∀(i:Nat) v,cs[i]? =some v→∃v',c[i]? =some v'∧X8 v v'
def sy (l:o8):Nat→ab
 |0=>vR
 |n+1=>(sy l n).push (.cells (match look l n with|some cs=>cs|none=>[]) n (n+1) 0)
def Uw (l:o8) (n:Nat) (W:World):bn:=fun g=>match look l g,W.heap[g]?,Nat.blt g n with
 |some _,some (.cells c _ _),true=>some ⟨g,0,c.size⟩
 |_,_,_=>none
def qn (l:o8) (n:Nat):Bool:=l.all fun p=>Nat.blt p.1 n&&p.2.all (fun v=>Bd v||Be v)&&(match look l p.1 with|some cs=>fZ cs p.2|none=>false)
def F5 (l:o8) (h:ab):Bool:=l.all fun p=>match h.rd p.1,look l p.1 with|some cs,some cs'=>fZ cs cs'|_,_=>false
section
variable {P:Program} {l:o8} {n:Nat} {W:World}
theorem fm:∀n,(sy l n).size=n
 |0=>rfl
 |n+1=>by rw[sy,ab.size_push,fm n]
theorem mC:∀n b,(sy l n).get b=if b<n then some (.cells (match look l b with|some cs=>cs|none=>[]) b (b+1) 0)else none
 |0,b=>by simp;rfl
 |n+1,b=>by
  rw[sy,ab.ao,fm n,mC n b];by_cases e:b=n
  ·subst e;simp
  ·rw[if_neg e];by_cases h:b<n
   ·rw[if_pos h,if_pos om]
   ·rw[if_neg h,if_neg om]
theorem sC {α:Type} {l:List (Nat×α)} {g:Nat} {x:α} (h:look l g=some x):(g,x)∈l:=by
 induction l with
 |nil=>simp[look]at h
 |cons p l ih=>
  unfold look at h;split at h
  ·rename_i hb;cases h;rw[beq_iff]at hb;subst hb;exact List.mem_cons_self
  ·exact List.mem_cons_of_mem _ (ih h)
theorem sD (hB:qn l n=true) {g:Nat} {cs:List Value} (h:look l g=some cs):g<n∧cs.all (fun v=>Bd v||Be v)=true:=by
 have:=List.all_eq_true.1 hB _ (sC h);simp only[Bool.and_eq_true,aR]at this;exact⟨this.1.1,this.1.2⟩
theorem uU {v:Value} (h:Bd v=true):ay v=true:=by
 unfold Bd at h;simp only[Bool.and_eq_true]at h;exact h.1
theorem arT (hB:qn l n=true) (hW:xF l W):AR W (Uw l n W) (sy l n):=by
 have key:∀{b m},Uw l n W b=some m→∃cs c e fr,look l b=some cs∧W.heap[b]? =some (.cells c e fr)∧b<n∧m=⟨b,0,c.size⟩:=by
  intro b m h;unfold Uw at h;split at h
  ·rename_i cs c e fr h1 h2 h3;cases h;exact⟨cs,c,e,fr,h1,h2,aR.1 h3,rfl⟩
  ·cases h
 refine⟨fun b hb=>?_,fun b hb=>?_,fun b m hb=>?_,fun b m hb=>?_⟩
 ·rw[fm]at hb;rw[mC,if_neg om]
 ·rw[fm]at hb;rw[mC,if_pos hb];exact⟨_,rfl⟩
 ·obtain⟨cs,c,e,fr,h1,h2,h3,rfl⟩:=key hb;rw[fm];exact h3
 ·obtain⟨cs,c,e,fr,h1,h2,h3,rfl⟩:=key hb;obtain⟨c',e',KM,q1,q2,q3⟩:=hW b cs h1;rw[h2]at q1;cases q1;refine⟨cs,c,e,fr,by rw[mC,if_pos h3,h1],h2,rfl,by simpa using q2,fun i v hv=>?_⟩;obtain⟨v',k1,k2⟩:=q3 i v hv;refine⟨v',by simpa using k1,?_⟩;have ht:=List.all_eq_true.1 (sD hB h1).2 v (List.mem_of_getElem? hv);simp only[Bool.or_eq_true]at ht;rcases k2 with⟨ho,rfl⟩|⟨ho,hi⟩
  ·rcases ht with ht|ht
   ·exact .lit (uU ht)
   ·rw[ho]at ht;cases ht
  ·cases v<;>simp[Be]at ho;rename_i r;cases r with
   |none=>simp at ho
   |some n=>exact .AH hi
theorem DK (hB:qn l n=true) (hW:xF l W) {E:Env} (hE:E.vl=look l) (g:Nat) (hg:E.dv g=true):∃m,Uw l n W g=some m∧m.r=g∧m.s=0:=by
 unfold Env.dv at hg;rw[hE,Option.isSome_iff_exists]at hg;obtain⟨cs,h1⟩:=hg;obtain⟨c,e,fr,q1,q2,q3⟩:=hW g cs h1;refine⟨⟨g,0,c.size⟩,?_,rfl,rfl⟩;unfold Uw;rw[h1,q1,aR.2 (sD hB h1).1]
theorem DL {E:Env} (hE:E.vl=look l) {base B:Nat} {μ:bn} {h:ab} {w:World} (H:bf E base B μ h w) (hB:qn l n=true) (ht:F5 l h=true):xF l w:=by
 intro g cs hg;obtain⟨m,q1,q2,q3⟩:=H.dv g (by unfold Env.dv;rw[hE,hg];rfl);have:=List.all_eq_true.1 ht _ (sC hg);simp only[hg]at this;split at this
 ·rename_i ta cs2 hr e;cases e;have ec:=pB this;subst ec;obtain⟨c,e,fr,k1,k2,k3,_,k5⟩:=H.read q1 hr;rw[q2]at k1;rw[q3]at k3 k5;refine⟨c,e,fr,k1,om,fun i v hv=>?_⟩;obtain⟨v',p1,p2⟩:=k5 i v hv;refine⟨v',by simpa using p1,?_⟩;have ht:=List.all_eq_true.1 (sD hB hg).2 v (List.mem_of_getElem? hv);simp only[Bool.or_eq_true]at ht;rcases ht with ht|ht
  ·have hp:=uU ht;refine .inl ⟨?_,?_⟩
   ·cases v<;>simp[Be];rename_i r;cases r<;>simp[ay]at hp ⊢
   ·cases p2 with
    |lit h=>rfl
    |_=>simp[ay]at hp
  ·refine .inr ⟨ht,?_⟩;cases v<;>simp[Be]at ht;rename_i r;cases r with
   |none=>simp at ht
   |some n=>
    cases p2 with
    |lit h=>simp[ay]at h
    |AH h=>exact h
 ·cases this
theorem JH {E:Env} (hE:E.vl=look l) {F:Nat→Prop} {h:ab} (hB:qn l n=true) (N:kE E F h):F5 l h=true:=by
 refine List.all_eq_true.2 fun p hp=>?_;have:=List.all_eq_true.1 hB p hp;simp only[Bool.and_eq_true]at this;have h3:=this.2;split at h3
 ·rename_i cs hl;obtain⟨_,n2,_⟩:=N p.1 cs (by rw[hE];exact hl);rw[n2,hl];have e:=pB h3;rw[e]at h3 ⊢;exact h3
 ·cases h3
def F6 (P:Program) (l:o8) (g:FuncId):Prop:=∀(W:World) (F:Fence) (n:Nat),xF l W→gV F→CallsIn F n P g #[] W fun e W'=>e= .returned (.bool true)∧Go.RowKit.Below W.heap.size W W'
noncomputable def kb (P:Program) (l:o8) (fs bs ps:List Nat) (n:Nat):FuncId→List Value→ab→Option (Value×ab):=fun g args h=>
 match fs.contains g with
 |true=>DH (kJ P l lh) n g args h
 |false=>match bs.contains g with
  |true=>BK (kJ P l lh) n g args h
  |false=>match ps.contains g with
   |true=>BL (kJ P l lh) n g args h
   |false=>none
theorem pQ {base B:Nat}:jy P (kJ P l lh) base B:=fun μ h w g args args' v h' hr=>by
 have:(none:Option (Value×ab))=some (v,h'):=hr;cases this
theorem Ga (hm:P.follows .mixedOrders=true) (fs bs ps:List Nat) (n base B:Nat):jy P (kJ P l (kb P l fs bs ps n)) base B:=by
 intro μ h w g args args' v h' hc hr H F k hF;have l4:kb P l fs bs ps n g args h=some (v,h'):=hc;unfold kb at l4;split at l4
 ·exact MH (E:=kJ P l (kb P l fs bs ps n)) (qX P l lh) (fun _ _=>pQ) hm (fun _ hg=>hg) n μ h w g args args' v h' l4 hr H F k hF
 ·split at l4
  ·exact Jz (E:=kJ P l (kb P l fs bs ps n)) (qX P l lh) (fun _ _=>pQ) hm (fun _ hg=>hg) n μ h w g args args' v h' l4 hr H F k hF
  ·split at l4
   ·exact JC (E:=kJ P l (kb P l fs bs ps n)) (qX P l lh) (fun _ _=>pQ) hm (fun _ hg=>hg) n μ h w g args args' v h' l4 hr H F k hF
   ·cases l4
theorem AR.Sl {E:Env} {jk μ:bn} {h:ab} (A:AR W μ h) (hle:jk.le μ) (hg:∀g,E.dv g=true→∃m,jk g=some m∧m.r=g∧m.s=0):bf E h.size W.heap.size μ h W:=
 let H:=AR.rH (E:=iS default lh) A (fun _=>rfl)
 ⟨H.gg,H.high,H.obj,H.own,H.alias,H.dA,fun g h=>let⟨m,q1,q2⟩:=hg g h;⟨m,hle _ _ q1,q2⟩,H.low,H.l8,H.wf,H.root⟩
theorem JI (hm:P.follows .mixedOrders=true) (hB:qn l n=true) {fs bs ps:List Nat} {m k:Nat} {g:FuncId}
 (hr:wx (fJ (kJ P l (kb P l fs bs ps m)) n k g [] (sy l n))=true):F6 P l g:=by
 intro W F j hW hF;obtain⟨h',hr⟩:=yQ hr;have A:=arT hB hW;have H:bf (kJ P l (kb P l fs bs ps m)) n W.heap.size (Uw l n W) (sy l n) W:=by
  have:=A.Sl (E:=kJ P l (kb P l fs bs ps m)) (bn.le_refl _) (DK hB hW rfl)
  rwa [fm]at this
 have:=wv (qX P l _) (Ga hm fs bs ps m n W.heap.size) hm k (Uw l n W) (sy l n) W g [] #[] (.bool true) h' hr .nil H F j hF;refine this.mono ?_;rintro e W' ⟨v',aS,rfl,hv,S⟩;have e:=hv.ar rfl;subst e;refine⟨rfl,S.grow.os,S.grow.tape,S.grow.output,S.grow.size,fun k hk=>S.grow.bk k hk fun b mt hb _=>?_⟩;have:=A.gg b mt hb
 rwa [fm]at this
def xG (l:o8) (aw:List Nat) (rest:FuncId→List Value→ab→Option (Value×ab)):FuncId→List Value→ab→Option (Value×ab):=fun g args h=>
 match mr g aw,args,F5 l h with
 |true,[],true=>some (.bool true,h)
 |_,_,_=>rest g args h
theorem P9 {aw:List Nat} {rest:FuncId→List Value→ab→Option (Value×ab)} (hB:qn l n=true) (ha:∀g∈aw,F6 P l g) (hr:∀base B,jy P (iS P rest) base B) (base B:Nat):jy P (kJ P l (xG l aw rest)) base B:=by
 intro μ h w g args args' v h' hc hv H F k hF;have l4:xG l aw rest g args h=some (v,h'):=hc;unfold xG at l4;split at l4
 ·rename_i h1 h2;cases l4;have:args'= #[]:=by
   have:=hv.length;simpa using this.symm
  subst this;refine(ha g (xo h1) w F k (DL (E:=kJ P l (xG l aw rest)) rfl H hB h2) hF).mono ?_;rintro e W' ⟨rfl,hb⟩;exact⟨_,μ,rfl,.lit rfl,⟨H.ext hb.size fun r hr=>hb.block r hr,⟨hb.tape,hb.os,hb.output,hb.size,fun r hr _=>hb.block r hr⟩,μ.le_refl,fun b m h0 h1=>(by rw[h0]at h1;cases h1),fun _ _ _=>rfl,Nat.le_refl _⟩⟩
 ·have H2:bf (iS P rest) base B μ h w:=⟨H.gg,H.high,H.obj,H.own,H.alias,H.dA,fun g hg=>by simp[Env.dv,iS]at hg,H.low,H.l8,H.wf,H.root⟩
  exact(hr base B μ h w g _ args' v h' l4 hv H2 F k hF).mono fun e w' ⟨v',aS,h1,h2,h3⟩=>
   ⟨v',aS,h1,h2,⟨h3.rel.gg,h3.rel.high,h3.rel.obj,h3.rel.own,h3.rel.alias,h3.rel.dA,fun g hg=>let⟨m,q1,q2⟩:=H.dv g hg;⟨m,h3.le _ _ q1,q2⟩,h3.rel.low,h3.rel.l8,h3.rel.wf,h3.rel.root⟩,h3.grow,h3.le,h3.new,h3.GZ,h3.fG⟩
theorem VC.Ux {aw:List Nat} {rest:FuncId→List Value→ab→Option (Value×ab)} {g:FuncId} {c0:Nat} {o0:Ob} (hB:qn l n=true) (hf:((kJ P l (xG l aw rest)).func g).isSome=true) (hg:mr g aw=true):
 VC (kJ P l (xG l aw rest)) g c0 [] o0 (fun r o c=>r= .s (.bool true)∧o=o0∧c=c0):=by
 intro base ρ F h S eE hN hM hO hA;obtain⟨fn,hf⟩:=Option.isSome_iff_exists.1 hf;obtain rfl:=hA.bK;have ho:(kJ P l (xG l aw rest)).uZ base g [] h=some (.bool true,h):=by
  show xG l aw rest g [] h=_;unfold xG;rw[hg,JH (E:=kJ P l (xG l aw rest)) rfl hB hN]
 refine⟨0,.bool true,h,ρ,F,.s (.bool true),o0,c0,?_,⟨rfl,rfl,rfl⟩,hM,.s rfl⟩;unfold fJ gT;rw[hf];simp only[Option.bind_some,ho]
end
section
open Go.ChangeShapes Go.WideShapes
variable {H:Type} {enc:TypeId×Value→H} {P:Program} {W:World} {base:Nat} {held:Bool}
theorem JJ {l:o8} {n:Nat} {E:Env} {g:FuncId} {HV:List uR} {ts:List TypeId} {args:Array Value} {ds:List (DataW H)} {ps:List MemPlace} {base':Nat} {r:Reach} (hE:bw P E) (hO:∀base B,jy P E base B) (hm:P.follows .mixedOrders=true)
 (hT:E.vl=look l) (hBT:qn l n=true) (hWT:xF l W)
 (hB:zR P ts HV=true) (hD:DataW.TrodAll enc P W base (fun _=>true) held ts args.toList ds ps) (hv:∀(j:Nat) t v,ts[j]? =some t→args[j]? =some v→Value.okWide P W r base' t v)
 (hc:∀zQ,DE HV zQ→VC E g 0 zQ [] fun r _ _=>r= .s (.bool true)):Calls P g args W fun e W'=>e= .returned (.bool true)∧Go.RowKit.Below W.heap.size W W':=by
 obtain⟨μ,h,zQ,Up,A,hle,yA,f,r,x⟩:=zS hB hD (fun j t v a b=>hv j t v a (by simpa using b)) _ _ (arT hBT hWT);have hN:kE E (· <h.size) h:=fun g cs hg=>by
  rw[hT]at hg;obtain⟨h1,h2⟩:=sD hBT hg;have hs:=yA.1;rw[fm]at hs;refine⟨om,A.rd (cs:=cs) ?_,trivial⟩;rw[yA.2 g (by rw[fm];exact h1),mC,if_pos h1,hg]
 obtain⟨k,v,h',ρ',F',r',o',c',h1,rfl,h3,h4⟩:=hc zQ f h.size tB _ h _ Up hN A.mem (AR.mo) r;obtain⟨rfl,_⟩:=h4.dF;have:=wv hE (hO h.size W.heap.size) hm k μ h W g Up args _ h' h1 x (A.Sl hle (DK hBT hWT hT)) Fence.wide 0 gV.wide;refine(callsIn_wide.1 (this.mono ?_));rintro e W' ⟨v',aS,rfl,hv,S⟩;have e:=hv.ar rfl;subst e;exact⟨rfl,S.grow.os,S.grow.tape,S.grow.output,S.grow.size,fun k hk=>S.grow.bk k hk fun b m hb _=>A.gg b m hb⟩
end
section
variable {E:Env} {base:Nat}
end
section
variable {α:Type}
def nF (k:IntKind) (f:α→TV) (e:Int×α):Value×TV:=(.int k e.1,f e.2)
def dP:List (Int×α)→Int→Option α
 |[],_=>none
 |e::es,n=>if n=e.1 then some e.2 else dP es n
def iA:List (Int×α)→Int→α→List (Int×α)
 |[],n,v=>[(n,v)]
 |e::es,n,v=>if n=e.1 then(n,v)::es else e::iA es n v
@[reducible] def bN (es:List (Int×α)):List Int:=es.map (·.1)
theorem So {k k':IntKind} {f:α→TV} {e:Int×α} {n:Int}:qg (.int k' n) (nF k f e).1=decide (n=e.1):=by
 rw[Bool.eq_iff_iff];simp[qg,nF]
theorem sE (k k':IntKind) (f:α→TV) (n:Int):∀es:List (Int×α),gH (es.map (nF k f)) (.int k' n)=(dP es n).map f
 |[]=>rfl
 |e::es=>by
  rw[List.map_cons];unfold gH dP;rw[So];by_cases he:n=e.1
  ·simp[he,nF]
  ·simp[he,sE k k' f n es]
theorem Gb (k:IntKind) (f:α→TV) (n:Int) (v:α):∀es:List (Int×α),dE (es.map (nF k f)) (.int k n) (f v)=(iA es n v).map (nF k f)
 |[]=>rfl
 |e::es=>by
  rw[List.map_cons];unfold dE iA;rw[So];by_cases he:n=e.1
  ·simp[he,nF]
  ·simp[he,Gb k f n v es]
theorem Qa (k:IntKind) (f:α→TV) (es:List (Int×α)):(es.map (nF k f)).map (·.1)=(bN es).map (.int k):=by
 simp[nF,bN,Function.comp_def]
theorem jd {n:Int} {v:α}:∀{es:List (Int×α)},bN (iA es n v)=if n∈bN es then bN es else bN es++[n]
 |[]=>rfl
 |e::es=>by
  have ih:=jd (n:=n) (v:=v) (es:=es);unfold iA;by_cases he:n=e.1
  ·simp[he]
  ·simp only[he,if_false,bN,List.map_cons,List.mem_cons,false_or]at ih ⊢;rw[ih];split<;>simp
theorem xI {n:Int} {v:α} {es:List (Int×α)} (h:(bN es).Nodup):(bN (iA es n v)).Nodup:=by
 rw[jd];split
 ·exact h
 ·rename_i hn;rw[List.nodup_append];exact⟨h,by simp,fun a ha b hb=>by simp at hb;subst hb;rintro rfl;exact hn ha⟩
theorem qY {n:Int}:∀{es:List (Int×α)},dP es n=none↔n∉bN es
 |[]=>by simp[dP]
 |e::es=>by
  have ih:=qY (n:=n) (es:=es);unfold dP;by_cases he:n=e.1
  ·simp[he]
  ·simp only[he,if_false,bN,List.map_cons,List.mem_cons,false_or]at ih ⊢;exact ih
theorem mD {n m:Int} {v:α}:∀{es:List (Int×α)},dP (iA es n v) m=if m=n then some v else dP es m
 |[]=>by simp[iA,dP]
 |e::es=>by
  have ih:=mD (n:=n) (m:=m) (v:=v) (es:=es);unfold iA;by_cases he:n=e.1
  ·simp only[he,if_true,dP];by_cases hm:m=e.1<;>simp[hm]
  ·simp only[he,if_false,dP,ih];by_cases hm:m=e.1
   ·rw[if_pos hm,if_pos hm,if_neg];rintro rfl;exact he hm
   ·rw[if_neg hm,if_neg hm]
end
end Go.M
