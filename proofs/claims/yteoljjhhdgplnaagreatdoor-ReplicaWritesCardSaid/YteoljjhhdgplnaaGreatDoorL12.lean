/-
  Part 12 of the library that the proof leans on.
-/
import Derived.Test.YteoljjhhdgplnaaGreatDoorL10
import Derived.Test.YteoljjhhdgplnaaGreatDoorL11
import Derived.Shelf.SlIterI.Nil
import Derived.KernelRfl
import Derived.Test.YteoljjhhdgplnaaGreatDoorL9
namespace Go.M
open Go
def ac0 (l:List Nat):FuncId→List Value→ah→Option (Value×ah):=fun g args h=>match kO g l,args with
 |true,[]=>some (.bool true,h)
 |_,_=>none
end Go.M
namespace Go.M
open Go Go.RowKit Go.Maps Go.Sort Go.Shelf Go.Proofs
theorem mergeSort_perm {l l':List Int} (h:l.Perm l'):l.mergeSort (fun x y=>decide (x≤y))=l'.mergeSort (fun x y=>decide (x≤y)):=by
 have tr:∀a b c:Int,decide (a≤b)=true→decide (b≤c)=true→decide (a≤c)=true:=fun a b c h1 h2=>by simp only[decide_eq_true_eq]at*;omega
 have to:∀a b:Int,(decide (a≤b)||decide (b≤a))=true:=fun a b=>by simp only[Bool.or_eq_true,decide_eq_true_eq];omega
 refine List.Perm.eq_of_pairwise (le:=fun a b=>decide (a≤b)=true) (fun a b _ _ h1 h2=>?_) (List.pairwise_mergeSort tr to l) (List.pairwise_mergeSort tr to l') (((List.mergeSort_perm l _).trans h).trans (List.mergeSort_perm l' _).symm);simp only[decide_eq_true_eq]at h1 h2;omega
end Go.M
namespace Go.M
open Go Go.RowKit
def Qy:List MapEntry→Option (List Int)
 |[]=>some []
 |e::l=>match e.key,Qy l with
  | .int .i64 n,some ks=>some (n::ks)
  |_,_=>none
def ni (h:ah) (b:Nat):Option (Option Nat):=match h.get b with
 |some (.cells [.map mb] f cu aF)=>bp (Nat.beq f b&&Nat.beq cu b&&Nat.ble aF b) (some mb)
 |_=>none
instance (ev:List MapEntry) (clock:Nat):Decidable (sN ev clock):=inferInstanceAs (Decidable (_∧_))
def Wp (ks:List Int):Prop:=ks.length≤1099511627776∧(∀x∈ks,IntKind.i64.min≤x∧x≤IntKind.i64.max)∧ks.Nodup
instance (ks:List Int):Decidable (Wp ks):=inferInstanceAs (Decidable (_∧_∧_))
def KR (h:ah):Option Nat→Option (List Int)
 |none=>some []
 |some r=>match h.get r with
  |some (.map ev clock)=>(Qy ev).bind fun ks=>bp (decide (sN ev clock)&&decide (Wp ks)) (some ks)
  |_=>none
def b7 (ks:List Int):List Int:=ks.mergeSort fun x y=>decide (x≤y)
def Wq (h:ah) (ks:List Int):Value×ah:=match ks with
 |[]=>(.slice none 0 0,h)
 |_::_=>(.slice (some ⟨h.size,0,some 1⟩) ks.length (ks.length+1),h.push (.cells ((b7 ks).map (.int .i64)) h.size h.size 0))
def Ov (SC:List Nat) (args:List Value) (h:ah):Option (Value×ah):=match args with
 |[.func (.func k) a c]=>(match a.toList,c.toList with
  |[],[.pointer (some ⟨b,0,none⟩)]=>bp (kO k SC) ((ni h b).bind fun mb=>(KR h mb).bind fun ks=>some (Wq h ks))
  |_,_=>none)
 |_=>none
theorem B0 {h:ah} {b:Nat} {mb:Option Nat} (hb:ni h b=some mb):∃aF,h.get b=some (.cells [.map mb] b b aF)∧aF≤b:=by
 unfold ni at hb;split at hb
 ·rename_i mb' f cu aF hg;simp only[aj,Bool.and_eq_true,beq_iff,az,Option.some.injEq]at hb;obtain⟨⟨⟨rfl,rfl⟩,ht⟩,rfl⟩:=hb;exact⟨aF,hg,ht⟩
 ·cases hb
theorem b9.born {μ:ba} {ev ev':List MapEntry} (h:b9 μ ev ev'):ev'.map (·.born)=ev.map (·.born):=by
 induction h with
 |nil=>rfl
 |cons _ _ hb _ ih=>simp[hb,ih]
def ZQ (l:List Nat) (gs:List (Nat×List Nat)):FuncId→List Value→ah→Option (Value×ah):=fun g args h=>match kO g l with
 |true=>(match args with|[]=>some (.bool true,h)|_=>none)
 |false=>match look gs g with
  |some SC=>Ov SC args h
  |none=>none
section
variable {E:Env}
theorem xZ (ks:List Int):(b7 ks).length=ks.length:=by simp[b7]
end
end Go.M
namespace Go.M
open Go
theorem aY {b:Bool} {A B:Prop} (hA:b=true→A) (hB:b=false→B):(match(generalizing:=false) b with|true=>A|false=>B):=by
 cases b with
 |true=>exact hA rfl
 |false=>exact hB rfl
theorem aZ {b:Bool} {A B:Prop} (hA:b=false→A) (hB:b=true→B):(match(generalizing:=false) !b with|true=>A|false=>B):=by
 cases b with
 |true=>exact hB rfl
 |false=>exact hA rfl
@[reducible] def RR (r0:TV) (c0:Nat) (o0:Ob):TV→Ob→Nat→Prop:=fun r o c=>r=r0∧c=c0∧o=o0
theorem aL {a b:Bool} (h:a=b):Value.bool a=Value.bool b:=congrArg _ h
theorem mB {α:Type} {enc:α→List TV} {l:List α} {n:Nat} {K:List TV→Prop} (h:n<l.length) (hK:K (enc l[n])):∃e,(0≤(n:Int)∧(l.map enc)[(n:Int).toNat]? =some e)∧K e:=
 ⟨enc l[n],⟨om,by simp[h]⟩,hK⟩
theorem wrap_small (n:Nat) (h:n≤1099511627776):IntKind.i64.wrap ((n:Int)+1)=((n+1:Nat):Int):=by
 rw[IntWalk.i64_in _ om];rfl
theorem KS {α:Type} {f:α→List TV} {l:List α} {i:Nat}:((i:Int)<(((l.map f).length:Nat):Int))↔i<l.length:=by simp
theorem ZR:∀b:Bool,(!b||b)=true
 |true=>rfl
 |false=>rfl
theorem Lz.int {k:IntKind} {a b:Int} (h:a=b):Lz (Value.int k a) (Value.int k b):=.of (congrArg _ h)
theorem Lz.wrap {n:Nat} (h:n≤1099511627776):Lz (Value.int .i64 (IntKind.i64.wrap ((n:Int)+1))) (Value.int .i64 ((n+1:Nat):Int)):=.of (congrArg _ (wrap_small n h))
def SD:List Nat:=[0,1,2,3,4,5,6,7,8,9,10,11,12,13,14,15,16,17,18,19,20,21,22,23,24,25,26,27,28,29,30,31,32,33,34,35,36,37,38,39,40]
def Aa (n:Nat) (K:Nat→Prop) (l:List Nat):Prop:=@List.rec Nat (fun _=>Prop) (K n) (fun k _ ih=>match Nat.beq n k with|true=>K k|false=>ih) l
theorem vE (n:Nat) (K:Nat→Prop):∀l,Aa n K l=K n
 |[]=>rfl
 |k::l=>by
  show(match Nat.beq n k with|true=>K k|false=>Aa n K l)=K n;cases h:Nat.beq n k with
  |true=>rw[beq_iff.1 h]
  |false=>exact vE n K l
def aP (n:Nat) (K:Nat→Prop):Prop:=Aa n K SD
theorem cD (n:Nat):aP n=fun K=>K n:=by funext K;exact vE n K _
def iP (v:TV) (K:TV→Prop):Prop:=match v with
 | .j=>K .j
 | .s v=>K (.s v)
 | .sl z es fl=>aP z fun z=>K (.sl z es fl)
 | .tk n=>aP n fun n=>K (.tk n)
 | .ptr n o=>aP n fun n=>aP o fun o=>K (.ptr n o)
 | .ep e o=>aP o fun o=>K (.ep e o)
 | .wp n i o=>aP n fun n=>aP o fun o=>K (.wp n i o)
 | .mp n=>aP n fun n=>K (.mp n)
 | .bg n len=>aP n fun n=>K (.bg n len)
 | .sv n i=>aP n fun n=>K (.sv n i)
 | .pv n k=>aP n fun n=>K (.pv n k)
 | .agg cs=>K (.agg cs)
 | .dg cs=>K (.dg cs)
 | .lr t v=>K (.lr t v)
 | .cJ g a c=>K (.cJ g a c)
 | .own y=>K (.own y)
theorem kU (v:TV):iP v=fun K=>K v:=by funext K;cases v<;>simp[iP,cD]
def fU (F:TV→(TV→Prop)→Prop) (l:List TV):(List TV→Prop)→Prop:=@List.rec TV (fun _=>(List TV→Prop)→Prop) (fun K=>K []) (fun v _ ih K=>F v fun v=>ih fun l=>K (v::l)) l
theorem gd {F:TV→(TV→Prop)→Prop} (hF:∀v,F v=fun K=>K v):∀l,fU F l=fun K=>K l
 |[]=>rfl
 |v::l=>by
  have ih:=gd hF l
  funext K
  show F v (fun v=>fU F l fun l=>K (v::l))=K (v::l);rw[hF,ih]
def nj (v:TV) (K:TV→Prop):Prop:=match v with
 | .j=>K .j
 | .s v=>K (.s v)
 | .sl z es fl=>aP z fun z=>K (.sl z es fl)
 | .tk n=>aP n fun n=>K (.tk n)
 | .ptr n o=>aP n fun n=>aP o fun o=>K (.ptr n o)
 | .ep e o=>aP o fun o=>K (.ep e o)
 | .wp n i o=>aP n fun n=>aP o fun o=>K (.wp n i o)
 | .mp n=>aP n fun n=>K (.mp n)
 | .bg n len=>aP n fun n=>K (.bg n len)
 | .sv n i=>aP n fun n=>K (.sv n i)
 | .pv n k=>aP n fun n=>K (.pv n k)
 | .agg cs=>fU iP cs fun cs=>K (.agg cs)
 | .dg cs=>K (.dg cs)
 | .lr t v=>K (.lr t v)
 | .cJ g a c=>fU iP a fun a=>fU iP c fun c=>K (.cJ g a c)
 | .own y=>K (.own y)
theorem oc (v:TV):nj v=fun K=>K v:=by funext K;cases v<;>simp[nj,cD,gd kU]
def jE (v:TV) (K:TV→Prop):Prop:=match v with
 | .j=>K .j
 | .s v=>K (.s v)
 | .sl z es fl=>aP z fun z=>K (.sl z es fl)
 | .tk n=>aP n fun n=>K (.tk n)
 | .ptr n o=>aP n fun n=>aP o fun o=>K (.ptr n o)
 | .ep e o=>aP o fun o=>K (.ep e o)
 | .wp n i o=>aP n fun n=>aP o fun o=>K (.wp n i o)
 | .mp n=>aP n fun n=>K (.mp n)
 | .bg n len=>aP n fun n=>K (.bg n len)
 | .sv n i=>aP n fun n=>K (.sv n i)
 | .pv n k=>aP n fun n=>K (.pv n k)
 | .agg cs=>fU iP cs fun cs=>K (.agg cs)
 | .dg cs=>fU nj cs fun cs=>K (.dg cs)
 | .lr t v=>nj v fun v=>K (.lr t v)
 | .cJ g a c=>fU iP a fun a=>fU iP c fun c=>K (.cJ g a c)
 | .own y=>K (.own y)
theorem HE (v:TV):jE v=fun K=>K v:=by funext K;cases v<;>simp[jE,cD,gd kU,gd oc,oc]
def DY (q:List (Nat×List TV)):(List (Nat×List TV)→Prop)→Prop:=@List.rec (Nat×List TV) (fun _=>(List (Nat×List TV)→Prop)→Prop) (fun K=>K []) (fun p _ ih K=>fU iP p.2 fun x=>ih fun l=>K ((p.1,x)::l)) q
theorem ya:∀q,DY q=fun K=>K q
 |[]=>rfl
 |p::q=>by
  have ih:=ya q
  funext K
  show fU iP p.2 (fun x=>DY q fun l=>K ((p.1,x)::l))=K (p::q);rw[gd kU,ih]
def Ab (q:List (Value×TV)):(List (Value×TV)→Prop)→Prop:=@List.rec (Value×TV) (fun _=>(List (Value×TV)→Prop)→Prop) (fun K=>K []) (fun p _ ih K=>nj p.2 fun x=>ih fun l=>K ((p.1,x)::l)) q
theorem rT:∀q,Ab q=fun K=>K q
 |[]=>rfl
 |p::q=>by
  have ih:=rT q
  funext K
  show nj p.2 (fun x=>Ab q fun l=>K ((p.1,x)::l))=K (p::q);rw[oc,ih]
def nk (x:TO) (K:TO→Prop):Prop:=match x with
 | .cells cs=>fU iP cs fun cs=>K (.cells cs)
 | .map kd es=>aP kd fun kd=>K (.map kd es)
 | .arr z w es=>aP z fun z=>match w with|true=>K (.arr z true es)|false=>K (.arr z false es)
 | .bZ z es op=>aP z fun z=>DY op fun op=>K (.bZ z es op)
 | .dY kd es op=>aP kd fun kd=>Ab op fun op=>K (.dY kd es op)
 | .fM ks=>K (.fM ks)
theorem HF (x:TO):nk x=fun K=>K x:=by
 funext K
 cases x with
 |cells cs=>simp[nk,gd kU]
 |map kd es=>simp[nk,cD]
 |arr z w es=>cases w<;>simp[nk,cD]
 |bZ z es op=>simp[nk,cD,ya]
 |dY kd es op=>simp[nk,cD,rT]
 |fM ks=>rfl
def lY (o:Ob):(Ob→Prop)→Prop:=@List.rec (Nat×TO) (fun _=>(Ob→Prop)→Prop) (fun K=>K []) (fun p _ ih K=>aP p.1 fun n=>nk p.2 fun x=>ih fun l=>K ((n,x)::l)) o
theorem rU:∀o,lY o=fun K=>K o
 |[]=>rfl
 |p::o=>by
  have ih:=rU o
  funext K
  show aP p.1 (fun n=>nk p.2 fun x=>lY o fun l=>K ((n,x)::l))=K (p::o);rw[cD,HF,ih]
def Ac (q:List (Nat×List TV)):(List (Nat×List TV)→Prop)→Prop:=@List.rec (Nat×List TV) (fun _=>(List (Nat×List TV)→Prop)→Prop) (fun K=>K []) (fun p _ ih K=>aP p.1 fun k=>fU nj p.2 fun x=>ih fun l=>K ((k,x)::l)) q
theorem vF:∀q,Ac q=fun K=>K q
 |[]=>rfl
 |p::q=>by
  have ih:=vF q
  funext K
  show aP p.1 (fun k=>fU nj p.2 fun x=>Ac q fun l=>K ((k,x)::l))=K (p::q);rw[cD,gd oc,ih]
def j6 (x:TO) (K:TO→Prop):Prop:=match x with
 | .cells cs=>fU iP cs fun cs=>K (.cells cs)
 | .map kd es=>aP kd fun kd=>K (.map kd es)
 | .arr z w es=>aP z fun z=>match w with|true=>K (.arr z true es)|false=>K (.arr z false es)
 | .bZ z es op=>aP z fun z=>Ac op fun op=>K (.bZ z es op)
 | .dY kd es op=>aP kd fun kd=>Ab op fun op=>K (.dY kd es op)
 | .fM ks=>K (.fM ks)
theorem DZ (x:TO):j6 x=fun K=>K x:=by
 funext K
 cases x with
 |cells cs=>simp[j6,gd kU]
 |map kd es=>simp[j6,cD]
 |arr z w es=>cases w<;>simp[j6,cD]
 |bZ z es op=>simp[j6,cD,vF]
 |dY kd es op=>simp[j6,cD,rT]
 |fM ks=>rfl
def KT (o:Ob):(Ob→Prop)→Prop:=@List.rec (Nat×TO) (fun _=>(Ob→Prop)→Prop) (fun K=>K []) (fun p l _ K=>aP p.1 fun n=>j6 p.2 fun x=>lY l fun l=>K ((n,x)::l)) o
theorem HG:∀o,KT o=fun K=>K o
 |[]=>rfl
 |p::o=>by
  funext K
  show aP p.1 (fun n=>j6 p.2 fun x=>lY o fun l=>K ((n,x)::l))=K (p::o);rw[cD,DZ,rU]
def strict (l:VL) (v:TV) (o:Ob) (c:Nat) (K:TV→Ob→Nat→Prop):Prop:=match l with
 | .pure=>jE v fun v=>K v o c
 | .alloc=>jE v fun v=>KT o fun o=>aP c fun c=>K v o c
 | .Ff=>jE v fun v=>K v o c
 | .jK _=>jE v fun v=>lY o fun o=>aP c fun c=>K v o c
 | .wN _ _ _=>jE v fun v=>lY o fun o=>aP c fun c=>K v o c
 | .cU _=>jE v fun v=>lY o fun o=>aP c fun c=>K v o c
 | .mu _=>jE v fun v=>lY o fun o=>aP c fun c=>K v o c
 | .mw=>jE v fun v=>lY o fun o=>aP c fun c=>K v o c
 | .bad=>jE v fun v=>K v o c
theorem yb (l:VL) (v:TV) (o:Ob) (c:Nat):strict l v o c=fun K=>K v o c:=by
 funext K;cases l<;>simp[strict,HE,rU,HG,cD]
def vG (E:Env) (vc:Ja) (n:Nat) (ops:List Oper) (l:List Oper):Fr→Ob→Nat→RK→Prop:=
 @List.rec Oper (fun _=>Fr→Ob→Nat→RK→Prop) (fun f o c K=>K f o c)
  (fun p _ ih f o c K=>mZ ops p f
   (Qf E vc p.op f o c fun v o' c' l=>strict l v o' c' fun v o' c'=>p9 p.dst n v f fun f'=>ih f' o' c' K)
   (p9 p.dst n (.dg []) f fun f'=>ih f' o c K)) l
theorem KU (E:Env) (vc:Ja) (n:Nat) (ops:List Oper):∀(l:List Oper) f o c K,vG E vc n ops l f o c K=Bi E vc n ops l f o c K:=by
 intro l
 induction l with
 |nil=>intro f o c K;rfl
 |cons p rest ih=>
  intro f o c K;have e:(fun f' o' c' (K:RK)=>vG E vc n ops rest f' o' c' K)=fun f' o' c' K=>Bi E vc n ops rest f' o' c' K:=by funext a b d e;exact ih a b d e
  show mZ ops p f (Qf E vc p.op f o c fun v o' c' l=>strict l v o' c' fun v o' c'=>p9 p.dst n v f fun f'=>(fun f' o' c' (K:RK)=>vG E vc n ops rest f' o' c' K) f' o' c' K) (p9 p.dst n (.dg []) f fun f'=>(fun f' o' c' (K:RK)=>vG E vc n ops rest f' o' c' K) f' o c K)=_;rw[e];simp only[yb];rfl
def pr (E:Env) (vc:Ja) (n:Nat) (ops:List Oper) (l:List Oper):Fr→Ob→Nat→List VN→(List VN→RK)→Prop:=
 @List.rec Oper (fun _=>Fr→Ob→Nat→List VN→(List VN→RK)→Prop) (fun f o c lg K=>K lg f o c)
  (fun p _ ih f o c lg K=>mZ ops p f
   (Qf E vc p.op f o c fun v o' c' l=>strict l v o' c' fun v o' c'=>p9 p.dst n v f fun f'=>ih f' o' c' (lg++[(l,o)]) K)
   (p9 p.dst n (.dg []) f fun f'=>ih f' o c (lg++[(.pure,o)]) K)) l
theorem HH (E:Env) (vc:Ja) (n:Nat) (ops:List Oper):∀(l:List Oper) f o c lg K,pr E vc n ops l f o c lg K=qa E vc n ops l f o c lg K:=by
 intro l
 induction l with
 |nil=>intro f o c lg K;rfl
 |cons p rest ih=>
  intro f o c lg K;have e:(fun f' o' c' lg (K:List VN→RK)=>pr E vc n ops rest f' o' c' lg K)=fun f' o' c' lg K=>qa E vc n ops rest f' o' c' lg K:=by funext a b d g e;exact ih a b d g e
  show mZ ops p f (Qf E vc p.op f o c fun v o' c' l=>strict l v o' c' fun v o' c'=>p9 p.dst n v f fun f'=>(fun f' o' c' lg (K:List VN→RK)=>pr E vc n ops rest f' o' c' lg K) f' o' c' (lg++[(l,o)]) K) (p9 p.dst n (.dg []) f fun f'=>(fun f' o' c' lg (K:List VN→RK)=>pr E vc n ops rest f' o' c' lg K) f' o c (lg++[(.pure,o)]) K)=_;rw[e];simp only[yb];rfl
structure yc (b:Bool) (K:Prop):Prop where
 ok:b=true
 go:K
theorem KW (b:Bool) (K:Prop):yc b K=(match(generalizing:=false) b with|true=>K|false=>False):=by
 cases b with
 |true=>exact propext ⟨fun h=>h.go,fun h=>⟨rfl,h⟩⟩
 |false=>exact propext (Iff.intro (fun h=>by cases h.ok) (fun h=>False.elim h))
abbrev WP:=Fr→Ob→Nat→CK→Prop
def B2 (E:Env) (vc:Ja) (n c0:Nat) (dk:List Nat) (code:Code):WP:=
 @Code.rec (fun _=>WP)
  (fun f o c Q=>Q .normal f o c)
  (fun _ ops draw f o c Q=>(match draw with
  |false=>vG E vc n ops.toList ops.toList f o c fun f' o' c'=>Q .normal f' o' c'
  |true=>yc (kE ops.toList&&iM n ops.toList) (pr E vc n ops.toList ops.toList f o c [] fun lg f' o' c'=>yc (eQ (cI ops.toList []) o' 0 lg) (Q .normal f' o' c'))))
  (fun _ _ Wa Wb f o c Q=>Wa f o c fun ex f' o' c'=>(match ex with
  | .normal=>Wb f' o' c' Q
  | .exit id=>Q (.exit id) f' o' c'
  | .ret=>Q .ret f' o' c'))
  (fun q _ _ Wc We f o c Q=>(match ph E q with
  |false=>False
  |true=>(match kj E f q with
   | .s (.bool b)=>(match b with
    |true=>Wc f o c Q
    |false=>We f o c Q)
   |_=>False)))
  (fun id _ ih f o c Q=>(match kO id dk with
  |false=>ih f o c fun ex f' o' c'=>(match ex with
   | .exit lh=>(match Nat.beq lh id with
    |true=>Q .normal f' o' c'
    |false=>Q (.exit lh) f' o' c')
   | .normal=>Q .normal f' o' c'
   | .ret=>Q .ret f' o' c')
  |true=>∃Jb:RK,(ih f o c fun ex f' o' c'=>(match ex with
   | .exit lh=>(match Nat.beq lh id with
    |true=>g6 c0 f' o' c' Jb
    |false=>Q (.exit lh) f' o' c')
   | .normal=>g6 c0 f' o' c' Jb
   | .ret=>Q .ret f' o' c'))∧∀f' o' c',Jb f' o' c'→Q .normal f' o' c'))
  (fun _ ih f o c Q=>(match kO 999999 dk with
  |false=>∃Inv:Nat→Fr→Ob→Nat→Prop,(∃k,g6 c0 f o c (Inv k))∧
   ∀k f1 o1 c1,Inv k f1 o1 c1→ih f1 o1 c1 fun ex f' o' c'=>(match ex with
    | .normal=>∃k',g6 c0 f' o' c' (Inv k')∧k'<k
    | .exit id=>Q (.exit id) f' o' c'
    | .ret=>Q .ret f' o' c')
  |true=>xw (fun f o c Q=>ih f o c Q) 64 f o c Q))
  (fun _ _ _ _ _ _ _ _ _ _=>False)
  (fun id f o c Q=>Q (.exit id) f o c)
  (fun _ _ _ _ _ _=>False)
  (fun _ _ _ _ _=>False)
  (fun _ _ _ _ _=>False)
  (fun f o c Q=>Q .ret f o c)
  (fun _ _ _ _ _=>False) code
theorem SE (E:Env) (vc:Ja) (n c0:Nat) (dk:List Nat):∀(code:Code) f o c Q,B2 E vc n c0 dk code f o c Q=wp E vc n c0 dk code f o c Q:=by
 intro code
 induction code with
 |region id ops draw=>
  intro f o c Q;have e1:(fun K=>vG E vc n ops.toList ops.toList f o c K)=fun K=>Bi E vc n ops.toList ops.toList f o c K:=by funext K;exact KU ..
  have e2:(fun lg K=>pr E vc n ops.toList ops.toList f o c lg K)=fun lg K=>qa E vc n ops.toList ops.toList f o c lg K:=by funext lg K;exact HH ..
  show(match draw with
  |false=>(fun K=>vG E vc n ops.toList ops.toList f o c K) fun f' o' c'=>Q .normal f' o' c'
  |true=>yc (kE ops.toList&&iM n ops.toList) ((fun lg K=>pr E vc n ops.toList ops.toList f o c lg K) [] fun lg f' o' c'=>yc (eQ (cI ops.toList []) o' 0 lg) (Q .normal f' o' c')))=_
  rw[e1,e2];simp only[KW];cases draw<;>rfl
 |seq a b Wa Wb=>
  intro f o c Q;have e1:(fun f o c Q=>B2 E vc n c0 dk a f o c Q)=fun f o c Q=>wp E vc n c0 dk a f o c Q:=by funext f o c Q;exact Wa ..
  have e2:(fun f o c Q=>B2 E vc n c0 dk b f o c Q)=fun f o c Q=>wp E vc n c0 dk b f o c Q:=by funext f o c Q;exact Wb ..
  show((fun f o c Q=>B2 E vc n c0 dk a f o c Q) f o c fun ex f' o' c'=>(match ex with
  | .normal=>(fun f o c Q=>B2 E vc n c0 dk b f o c Q) f' o' c' Q
  | .exit id=>Q (.exit id) f' o' c'
  | .ret=>Q .ret f' o' c'))=_
  rw[e1,e2];rfl
 |cond q t e Wc We=>
  intro f o c Q;have e1:(fun f o c Q=>B2 E vc n c0 dk t f o c Q)=fun f o c Q=>wp E vc n c0 dk t f o c Q:=by funext f o c Q;exact Wc ..
  have e2:(fun f o c Q=>B2 E vc n c0 dk e f o c Q)=fun f o c Q=>wp E vc n c0 dk e f o c Q:=by funext f o c Q;exact We ..
  show(match ph E q with
  |false=>False
  |true=>(match kj E f q with
   | .s (.bool b)=>(match b with
    |true=>(fun f o c Q=>B2 E vc n c0 dk t f o c Q) f o c Q
    |false=>(fun f o c Q=>B2 E vc n c0 dk e f o c Q) f o c Q)
   |_=>False))=_
  rw[e1,e2];rfl
 |block id b ih=>
  intro f o c Q;have e1:(fun f o c Q=>B2 E vc n c0 dk b f o c Q)=fun f o c Q=>wp E vc n c0 dk b f o c Q:=by funext f o c Q;exact ih ..
  show(match kO id dk with
  |false=>(fun f o c Q=>B2 E vc n c0 dk b f o c Q) f o c fun ex f' o' c'=>(match ex with
   | .exit lh=>(match Nat.beq lh id with
    |true=>Q .normal f' o' c'
    |false=>Q (.exit lh) f' o' c')
   | .normal=>Q .normal f' o' c'
   | .ret=>Q .ret f' o' c')
  |true=>∃Jb:RK,((fun f o c Q=>B2 E vc n c0 dk b f o c Q) f o c fun ex f' o' c'=>(match ex with
   | .exit lh=>(match Nat.beq lh id with
    |true=>g6 c0 f' o' c' Jb
    |false=>Q (.exit lh) f' o' c')
   | .normal=>g6 c0 f' o' c' Jb
   | .ret=>Q .ret f' o' c'))∧∀f' o' c',Jb f' o' c'→Q .normal f' o' c')=_
  rw[e1];rfl
 |loop b ih=>
  intro f o c Q;have e1:(fun f o c Q=>B2 E vc n c0 dk b f o c Q)=fun f o c Q=>wp E vc n c0 dk b f o c Q:=by funext f o c Q;exact ih ..
  show(match kO 999999 dk with
  |false=>∃Inv:Nat→Fr→Ob→Nat→Prop,(∃k,g6 c0 f o c (Inv k))∧
   ∀k f1 o1 c1,Inv k f1 o1 c1→(fun f o c Q=>B2 E vc n c0 dk b f o c Q) f1 o1 c1 fun ex f' o' c'=>(match ex with
    | .normal=>∃k',g6 c0 f' o' c' (Inv k')∧k'<k
    | .exit id=>Q (.exit id) f' o' c'
    | .ret=>Q .ret f' o' c')
  |true=>xw (fun f o c Q=>B2 E vc n c0 dk b f o c Q) 64 f o c Q)=_
  rw[e1];rfl
 |_=>intros;rfl
theorem VC.dp {E T:Env} (L:bR T E) {g:FuncId} {fn:Func} {code:Code} {c0:Nat} {args:List TV} {o0:Ob} {R:TV→Ob→Nat→Prop} (hf:E.func g=some fn) (ho:∀b a,E.tc b g a=fun _=>none) (hb:fn.body=some code) (hlen:Nat.ble args.length fn.ntmps=true)
 (dk:List Nat) (hw:B2 T (VC E) fn.ntmps c0 dk code (qd 0 args) o0 c0 (J0 T c0 fn.results.toList R)):VC E g c0 args o0 R:=
 VC.enter L hf ho hb hlen dk (by rw[←SE];exact hw)
theorem D1 {b:Bool} {K:Prop} (k:K) (h:b=true:=by kernel_rfl):yc b K:=⟨h,k⟩
theorem LF {p:Prop} (h:p:=by first|with_reducible exact Lz.rfl|exact Lw.rfl|exact Lz.wrap om|(unfold goInt;with_reducible exact Lz.rfl)|exact ZR _):p:=h
theorem cR {r0:TV} {c0:Nat} {o0:Ob} {Q:TV→Ob→Nat→Prop} (h:Q r0 o0 c0):∀r o c,RR r0 c0 o0 r o c→Q r o c:=by
 rintro r o c ⟨rfl,rfl,rfl⟩;exact h
theorem t3 {a b c:Prop} (h1:a:=by(repeat' first|with_reducible exact Lz.rfl|exact Lw.rfl|exact Lz.wrap om|(unfold goInt;with_reducible exact Lz.rfl)|exact ZR _|constructor)) (h2:b:=by(repeat' first|with_reducible exact Lz.rfl|exact Lw.rfl|exact Lz.wrap om|(unfold goInt;with_reducible exact Lz.rfl)|exact ZR _|constructor)) (h3:c:=by rfl):a∧b∧c:=⟨h1,h2,h3⟩
end Go.M
namespace Go.M
open Go Go.Proofs
theorem Wr:IntKind.i64.wrap (0+1)=1:=rfl
theorem XN:IntKind.i64.wrap (1+1)=2:=rfl
theorem XO:IntKind.i64.wrap (2+1)=3:=rfl
theorem XP:IntKind.i64.wrap (3+1)=4:=rfl
theorem XQ:IntKind.i64.wrap (4+1)=5:=rfl
theorem XR:IntKind.i64.wrap (5+1)=6:=rfl
theorem XS:IntKind.i64.wrap (6+1)=7:=rfl
theorem XT:IntKind.i64.wrap (7+1)=8:=rfl
theorem XU:IntKind.i64.wrap (8+1)=9:=rfl
theorem XV:IntKind.i64.wrap (9+1)=10:=rfl
theorem XW:IntKind.i64.wrap (10+1)=11:=rfl
theorem XX:IntKind.i64.wrap (11+1)=12:=rfl
theorem XY:IntKind.i64.wrap (12+1)=13:=rfl
theorem XZ:IntKind.i64.wrap (13+1)=14:=rfl
theorem X0:IntKind.i64.wrap (14+1)=15:=rfl
theorem rn {p q:Prop} (k:q) (h:q→p:=by(intro hq;(repeat(first|(refine⟨by first|decide+kernel|(dsimp only;decide+kernel),?_⟩;have eN:=True.intro;clear eN;((conv=>whnf)<;>repeat(with_reducible refine D1 ?_)<;>conv=>whnf))|(refine⟨_,rfl,?_⟩;have eN:=True.intro;clear eN;((conv=>whnf)<;>repeat(with_reducible refine D1 ?_)<;>conv=>whnf))|((try(first|rw[Wr]|rw[XN]|rw[XO]|rw[XP]|rw[XQ]|rw[XR]|rw[XS]|rw[XT]|rw[XU]|rw[XV]|rw[XW]|rw[XX]|rw[XY]|rw[XZ]|rw[X0]));first|(refine⟨fun h_=>?_,fun h_=>absurd (by first|decide+kernel|rfl |(dsimp only;decide+kernel)) h_⟩;clear h_;((conv=>whnf)<;>repeat(with_reducible refine D1 ?_)<;>conv=>whnf))|(refine⟨fun h_=>absurd h_ (by first|decide+kernel|(dsimp only;decide+kernel)),fun h_=>?_⟩;clear h_;((conv=>whnf)<;>repeat(with_reducible refine D1 ?_)<;>conv=>whnf)))));exact hq)):p:=h k
theorem wh {p q:Prop} (k:q) (h:q→p:=by(intro hq;((conv=>whnf)<;>repeat(with_reducible refine D1 ?_)<;>conv=>whnf);exact hq)):p:=h k
theorem sp {p a b:Prop} (ha:a) (hb:b) (h:a→b→p:=by(intro x y;first|exact⟨x,y⟩|exact aZ x y|exact aY x y)):p:=h ha hb
theorem tq {p:Prop} (h:p:=by(repeat' first|exact LF|constructor)):p:=h
theorem cw {r0:TV} {c0:Nat} {o0:Ob} {Q:TV→Ob→Nat→Prop} {q:Prop} (k:q) (h:q→Q r0 o0 c0:=by(intro hq;((conv=>whnf)<;>repeat(with_reducible refine D1 ?_)<;>conv=>whnf);exact hq)):∀r o c,RR r0 c0 o0 r o c→Q r o c:=cR (h k)
theorem en {E T:Env} (L:bR T E) (fn:Func) {g:FuncId} {c0:Nat} {args:List TV} {o0:Ob} {R:TV→Ob→Nat→Prop} {code:Code} {q:Prop} (k:q) (hf:E.func g=some fn:=by kernel_rfl) (ho:∀b a,E.tc b g a=fun _=>none:=by exact fun _ _=>rfl) (hb:fn.body=some code:=by rfl) (hlen:Nat.ble args.length fn.ntmps=true:=by rfl)
 (hw:q→B2 T (VC E) fn.ntmps c0 [] code (qd 0 args) o0 c0 (J0 T c0 fn.results.toList R):=by(intro hq;((conv=>whnf)<;>repeat(with_reducible refine D1 ?_)<;>conv=>whnf);exact hq)):VC E g c0 args o0 R:=VC.dp L hf ho hb hlen [] (hw k)
theorem tx {a b c q:Prop} (k:q) (h1:q→a:=by(intro hq;repeat' first|(clear hq;exact LF)|constructor|exact hq)) (h2:q→b:=by(intro hq;repeat' first|(clear hq;exact LF)|constructor|exact hq)) (h3:c:=by rfl):a∧b∧c:=⟨h1 k,h2 k,h3⟩
end Go.M
namespace Go.M
open Go Go.RowKit
def ZS (val:List Value→List Int→Option Value) (args:List Value) (h:ah):Option (Value×ah):=match args.reverse with
 | .slice (some ⟨b,0,some 1⟩) len cap::rp=>(match h.get b with
  |some (.fM cs)=>bp (Nat.beq len cs.length&&Nat.ble len cap&&Nat.blt 0 len&&rp.all scalar) ((val rp.reverse cs).bind fun v=>some (v,h))
  |_=>none)
 |_=>none
section
variable {E:Env}
end
end Go.M
namespace Go.M
open Go Go.RowKit Go.Maps Go.Sort Go.Shelf Go.Proofs
def ZT (h:ah) (ks:List Int):Value×ah:=match ks with
 |[]=>(.slice none 0 0,h)
 |_::_=>(.slice (some ⟨h.size,0,some 1⟩) ks.length (ks.length+1),h.push (.fM ks))
def KX (SC:List Nat) (args:List Value) (h:ah):Option (Value×ah):=match args with
 |[.func (.func k) a c]=>(match a.toList,c.toList with
  |[],[.pointer (some ⟨b,0,none⟩)]=>bp (kO k SC) ((ni h b).bind fun mb=>(KR h mb).bind fun ks=>some (ZT h ks))
  |_,_=>none)
 |_=>none
end Go.M
namespace Go.M
open Go Go.RowKit
section
variable {X:Cx} {ρ:Gh} {F:Nat→Prop} {o:Ob} {c:Nat} {h:ah}
end
section
variable {E:Env}
end
abbrev ZU:=List Value→List Int→Option Value
def ac1 (l:List Nat) (gs cs:List (Nat×List Nat)) (bs:List (Nat×ZU)):FuncId→List Value→ah→Option (Value×ah):=fun g args h=>match look cs g with
 |some SC=>KX SC args h
 |none=>match look bs g with
  |some val=>ZS val args h
  |none=>ZQ l gs g args h
end Go.M
namespace Go.M
open Go
abbrev np:=List (Nat×List Value)
def jF (P:Program) (l:np) (tc:FuncId→List Value→ah→Option (Value×ah)):Env:={gW P tc with tF:=look l}
theorem pt (P:Program) (l:np) (tc:FuncId→List Value→ah→Option (Value×ah)):bl P (jF P l tc):=
 let h:=Vk P tc
 ⟨h.desc,h.size,h.bytes,h.zero,h.pI,h.func⟩
def Ws (v v':Value):Prop:=(zu v=false∧v'=v)∨(zu v=true∧isIf v')
def vH (l:np) (W:World):Prop:=∀g cs,look l g=some cs→∃c e fr,W.heap[g]? =some (.cells c e fr)∧cs.length≤c.size∧∀(i:Nat) v,cs[i]? =some v→∃v',c[i]? =some v'∧Ws v v'
def qz (l:np):Nat→ah
 |0=>ud
 |n+1=>(qz l n).push (.cells (match look l n with|some cs=>cs|none=>[]) n (n+1) 0)
def SF (l:np) (n:Nat) (W:World):ba:=fun g=>match look l g,W.heap[g]?,Nat.blt g n with
 |some _,some (.cells c _ _),true=>some ⟨g,0,c.size⟩
 |_,_,_=>none
def oM (l:np) (n:Nat):Bool:=l.all fun p=>Nat.blt p.1 n&&p.2.all (fun v=>zt v||zu v)&&(match look l p.1 with|some cs=>fw cs p.2|none=>false)
def D0 (l:np) (h:ah):Bool:=l.all fun p=>match h.rd p.1,look l p.1 with|some cs,some cs'=>fw cs cs'|_,_=>false
section
variable {P:Program} {l:np} {n:Nat} {W:World}
theorem eE:∀n,(qz l n).size=n
 |0=>rfl
 |n+1=>by rw[qz,ah.size_push,eE n]
theorem kV:∀n b,(qz l n).get b=if b<n then some (.cells (match look l b with|some cs=>cs|none=>[]) b (b+1) 0)else none
 |0,b=>by simp;rfl
 |n+1,b=>by
  rw[qz,ah.ak,eE n,kV n b];by_cases e:b=n
  ·subst e;simp
  ·rw[if_neg e];by_cases h:b<n
   ·rw[if_pos h,if_pos om]
   ·rw[if_neg h,if_neg om]
theorem qA {α:Type} {l:List (Nat×α)} {g:Nat} {x:α} (h:look l g=some x):(g,x)∈l:=by
 induction l with
 |nil=>simp[look]at h
 |cons p l ih=>
  unfold look at h;split at h
  ·rename_i hb;cases h;rw[beq_iff]at hb;subst hb;exact List.mem_cons_self
  ·exact List.mem_cons_of_mem _ (ih h)
theorem qB (hB:oM l n=true) {g:Nat} {cs:List Value} (h:look l g=some cs):g<n∧cs.all (fun v=>zt v||zu v)=true:=by
 have:=List.all_eq_true.1 hB _ (qA h);simp only[Bool.and_eq_true,aI]at this;exact⟨this.1.1,this.1.2⟩
theorem s6 {v:Value} (h:zt v=true):ar v=true:=by
 unfold zt at h;simp only[Bool.and_eq_true]at h;exact h.1
theorem arT (hB:oM l n=true) (hW:vH l W):AR W (SF l n W) (qz l n):=by
 have key:∀{b m},SF l n W b=some m→∃cs c e fr,look l b=some cs∧W.heap[b]? =some (.cells c e fr)∧b<n∧m=⟨b,0,c.size⟩:=by
  intro b m h;unfold SF at h;split at h
  ·rename_i cs c e fr h1 h2 h3;cases h;exact⟨cs,c,e,fr,h1,h2,aI.1 h3,rfl⟩
  ·cases h
 refine⟨fun b hb=>?_,fun b hb=>?_,fun b m hb=>?_,fun b m hb=>?_⟩
 ·rw[eE]at hb;rw[kV,if_neg om]
 ·rw[eE]at hb;rw[kV,if_pos hb];exact⟨_,rfl⟩
 ·obtain⟨cs,c,e,fr,h1,h2,h3,rfl⟩:=key hb;rw[eE];exact h3
 ·obtain⟨cs,c,e,fr,h1,h2,h3,rfl⟩:=key hb;obtain⟨c',e',I8,q1,q2,q3⟩:=hW b cs h1;rw[h2]at q1;cases q1;refine⟨cs,c,e,fr,by rw[kV,if_pos h3,h1],h2,rfl,by simpa using q2,fun i v hv=>?_⟩;obtain⟨v',k1,k2⟩:=q3 i v hv;refine⟨v',by simpa using k1,?_⟩;have ht:=List.all_eq_true.1 (qB hB h1).2 v (List.mem_of_getElem? hv);simp only[Bool.or_eq_true]at ht;rcases k2 with⟨ho,rfl⟩|⟨ho,hi⟩
  ·rcases ht with ht|ht
   ·exact .lit (s6 ht)
   ·rw[ho]at ht;cases ht
  ·cases v<;>simp[zu]at ho;rename_i r;cases r with
   |none=>simp at ho
   |some n=>exact .yV hi
theorem B3 (hB:oM l n=true) (hW:vH l W) {E:Env} (hE:E.tF=look l) (g:Nat) (hg:E.cW g=true):∃m,SF l n W g=some m∧m.r=g∧m.s=0:=by
 unfold Env.cW at hg;rw[hE,Option.isSome_iff_exists]at hg;obtain⟨cs,h1⟩:=hg;obtain⟨c,e,fr,q1,q2,q3⟩:=hW g cs h1;refine⟨⟨g,0,c.size⟩,?_,rfl,rfl⟩;unfold SF;rw[h1,q1,aI.2 (qB hB h1).1]
theorem B4 {E:Env} (hE:E.tF=look l) {base B:Nat} {μ:ba} {h:ah} {w:World} (H:aX E base B μ h w) (hB:oM l n=true) (ht:D0 l h=true):vH l w:=by
 intro g cs hg;obtain⟨m,q1,q2,q3⟩:=H.cW g (by unfold Env.cW;rw[hE,hg];rfl);have:=List.all_eq_true.1 ht _ (qA hg);simp only[hg]at this;split at this
 ·rename_i qV cs2 hr e;cases e;have ec:=nO this;subst ec;obtain⟨c,e,fr,k1,k2,k3,_,k5⟩:=H.read q1 hr;rw[q2]at k1;rw[q3]at k3 k5;refine⟨c,e,fr,k1,om,fun i v hv=>?_⟩;obtain⟨v',p1,p2⟩:=k5 i v hv;refine⟨v',by simpa using p1,?_⟩;have ht:=List.all_eq_true.1 (qB hB hg).2 v (List.mem_of_getElem? hv);simp only[Bool.or_eq_true]at ht;rcases ht with ht|ht
  ·have hp:=s6 ht;refine .inl ⟨?_,?_⟩
   ·cases v<;>simp[zu];rename_i r;cases r<;>simp[ar]at hp ⊢
   ·cases p2 with
    |lit h=>rfl
    |_=>simp[ar]at hp
  ·refine .inr ⟨ht,?_⟩;cases v<;>simp[zu]at ht;rename_i r;cases r with
   |none=>simp at ht
   |some n=>
    cases p2 with
    |lit h=>simp[ar]at h
    |yV h=>exact h
 ·cases this
theorem HI {E:Env} (hE:E.tF=look l) {F:Nat→Prop} {h:ah} (hB:oM l n=true) (N:jA E F h):D0 l h=true:=by
 refine List.all_eq_true.2 fun p hp=>?_;have:=List.all_eq_true.1 hB p hp;simp only[Bool.and_eq_true]at this;have h3:=this.2;split at h3
 ·rename_i cs hl;obtain⟨_,n2,_⟩:=N p.1 cs (by rw[hE];exact hl);rw[n2,hl];have e:=nO h3;rw[e]at h3 ⊢;exact h3
 ·cases h3
def D2 (P:Program) (l:np) (g:FuncId):Prop:=∀(W:World) (F:Fence) (n:Nat),vH l W→fT F→CallsIn F n P g #[] W fun e W'=>e= .returned (.bool true)∧Go.RowKit.Below W.heap.size W W'
noncomputable def je (P:Program) (l:np) (fs bs ps:List Nat) (n:Nat):FuncId→List Value→ah→Option (Value×ah):=fun g args h=>
 match fs.contains g with
 |true=>BZ (jF P l jX) n g args h
 |false=>match bs.contains g with
  |true=>z7 (jF P l jX) n g args h
  |false=>match ps.contains g with
   |true=>z8 (jF P l jX) n g args h
   |false=>none
theorem od {base B:Nat}:iy P (jF P l jX) base B:=fun μ h w g args args' v h' hr=>by
 have:(none:Option (Value×ah))=some (v,h'):=hr;cases this
theorem D3 (hm:P.follows .mixedOrders=true) (fs bs ps:List Nat) (n base B:Nat):iy P (jF P l (je P l fs bs ps n)) base B:=by
 intro μ h w g args args' v h' hc hr H F k hF;have kB:je P l fs bs ps n g args h=some (v,h'):=hc;unfold je at kB;split at kB
 ·exact KQ (E:=jF P l (je P l fs bs ps n)) (pt P l jX) (fun _ _=>od) hm (fun _ hg=>hg) n μ h w g args args' v h' kB hr H F k hF
 ·split at kB
  ·exact HA (E:=jF P l (je P l fs bs ps n)) (pt P l jX) (fun _ _=>od) hm (fun _ hg=>hg) n μ h w g args args' v h' kB hr H F k hF
  ·split at kB
   ·exact HD (E:=jF P l (je P l fs bs ps n)) (pt P l jX) (fun _ _=>od) hm (fun _ hg=>hg) n μ h w g args args' v h' kB hr H F k hF
   ·cases kB
theorem AR.Qz {E:Env} {ic μ:ba} {h:ah} (A:AR W μ h) (hle:ic.le μ) (hg:∀g,E.cW g=true→∃m,ic g=some m∧m.r=g∧m.s=0):aX E h.size W.heap.size μ h W:=
 let H:=AR.pK (E:=gW default jX) A (fun _=>rfl)
 ⟨H.fy,H.high,H.obj,H.own,H.alias,H.c8,fun g h=>let⟨m,q1,q2⟩:=hg g h;⟨m,hle _ _ q1,q2⟩,H.low,H.lq,H.wf,H.root⟩
theorem HJ (hm:P.follows .mixedOrders=true) (hB:oM l n=true) {fs bs ps:List Nat} {m k:Nat} {g:FuncId}
 (hr:uG (e6 (jF P l (je P l fs bs ps m)) n k g [] (qz l n))=true):D2 P l g:=by
 intro W F j hW hF;obtain⟨h',hr⟩:=wM hr;have A:=arT hB hW;have H:aX (jF P l (je P l fs bs ps m)) n W.heap.size (SF l n W) (qz l n) W:=by
  have:=A.Qz (E:=jF P l (je P l fs bs ps m)) (ba.le_refl _) (B3 hB hW rfl)
  rwa [eE]at this
 have:=uF (pt P l _) (D3 hm fs bs ps m n W.heap.size) hm k (SF l n W) (qz l n) W g [] #[] (.bool true) h' hr .nil H F j hF;refine this.mono ?_;rintro e W' ⟨v',aK,rfl,hv,S⟩;have e:=hv.ao rfl;subst e;refine⟨rfl,S.grow.os,S.grow.tape,S.grow.output,S.grow.size,fun k hk=>S.grow.bd k hk fun b mt hb _=>?_⟩;have:=A.fy b mt hb
 rwa [eE]at this
def vI (l:np) (aw:List Nat) (rest:FuncId→List Value→ah→Option (Value×ah)):FuncId→List Value→ah→Option (Value×ah):=fun g args h=>
 match kO g aw,args,D0 l h with
 |true,[],true=>some (.bool true,h)
 |_,_,_=>rest g args h
theorem Ow {aw:List Nat} {rest:FuncId→List Value→ah→Option (Value×ah)} (hB:oM l n=true) (ha:∀g∈aw,D2 P l g) (hr:∀base B,iy P (gW P rest) base B) (base B:Nat):iy P (jF P l (vI l aw rest)) base B:=by
 intro μ h w g args args' v h' hc hv H F k hF;have kB:vI l aw rest g args h=some (v,h'):=hc;unfold vI at kB;split at kB
 ·rename_i h1 h2;cases kB;have:args'= #[]:=by
   have:=hv.length;simpa using this.symm
  subst this;refine(ha g (vt h1) w F k (B4 (E:=jF P l (vI l aw rest)) rfl H hB h2) hF).mono ?_;rintro e W' ⟨rfl,hb⟩;exact⟨_,μ,rfl,.lit rfl,⟨H.ext hb.size fun r hr=>hb.block r hr,⟨hb.tape,hb.os,hb.output,hb.size,fun r hr _=>hb.block r hr⟩,μ.le_refl,fun b m h0 h1=>(by rw[h0]at h1;cases h1),fun _ _ _=>rfl,Nat.le_refl _⟩⟩
 ·have H2:aX (gW P rest) base B μ h w:=⟨H.fy,H.high,H.obj,H.own,H.alias,H.c8,fun g hg=>by simp[Env.cW,gW]at hg,H.low,H.lq,H.wf,H.root⟩
  exact(hr base B μ h w g _ args' v h' kB hv H2 F k hF).mono fun e w' ⟨v',aK,h1,h2,h3⟩=>
   ⟨v',aK,h1,h2,⟨h3.rel.fy,h3.rel.high,h3.rel.obj,h3.rel.own,h3.rel.alias,h3.rel.c8,fun g hg=>let⟨m,q1,q2⟩:=H.cW g hg;⟨m,h3.le _ _ q1,q2⟩,h3.rel.low,h3.rel.lq,h3.rel.wf,h3.rel.root⟩,h3.grow,h3.le,h3.new,h3.ET,h3.eY⟩
theorem VC.SG {aw:List Nat} {rest:FuncId→List Value→ah→Option (Value×ah)} {g:FuncId} {c0:Nat} {o0:Ob} (hB:oM l n=true) (hf:((jF P l (vI l aw rest)).func g).isSome=true) (hg:kO g aw=true):
 VC (jF P l (vI l aw rest)) g c0 [] o0 (fun r o c=>r= .s (.bool true)∧o=o0∧c=c0):=by
 intro base ρ F h S dJ hN hM hO hA;obtain⟨fn,hf⟩:=Option.isSome_iff_exists.1 hf;obtain rfl:=hA.bz;have ho:(jF P l (vI l aw rest)).tc base g [] h=some (.bool true,h):=by
  show vI l aw rest g [] h=_;unfold vI;rw[hg,HI (E:=jF P l (vI l aw rest)) rfl hB hN]
 refine⟨0,.bool true,h,ρ,F,.s (.bool true),o0,c0,?_,⟨rfl,rfl,rfl⟩,hM,.s rfl⟩;unfold e6 fR;rw[hf];simp only[Option.bind_some,ho]
end
section
open Go.ChangeShapes Go.WideShapes
variable {H:Type} {enc:TypeId×Value→H} {P:Program} {W:World} {base:Nat} {held:Bool}
theorem HK {l:np} {n:Nat} {E:Env} {g:FuncId} {FK:List sX} {ts:List TypeId} {args:Array Value} {ds:List (DataW H)} {ps:List MemPlace} {base':Nat} {r:Reach} (hE:bl P E) (hO:∀base B,iy P E base B) (hm:P.follows .mixedOrders=true)
 (hT:E.tF=look l) (ZV:oM l n=true) (hWT:vH l W)
 (hB:xS P ts FK=true) (hD:DataW.TrodAll enc P W base (fun _=>true) held ts args.toList ds ps) (hv:∀(j:Nat) t v,ts[j]? =some t→args[j]? =some v→Value.okWide P W r base' t v)
 (hc:∀xR,BW FK xR→VC E g 0 xR [] fun r _ _=>r= .s (.bool true)):Calls P g args W fun e W'=>e= .returned (.bool true)∧Go.RowKit.Below W.heap.size W W':=by
 obtain⟨μ,h,xR,Sy,A,hle,wv,f,r,x⟩:=xT hB hD (fun j t v a b=>hv j t v a (by simpa using b)) _ _ (arT ZV hWT);have hN:jA E (· <h.size) h:=fun g cs hg=>by
  rw[hT]at hg;obtain⟨h1,h2⟩:=qB ZV hg;have hs:=wv.1;rw[eE]at hs;refine⟨om,A.rd (cs:=cs) ?_,trivial⟩;rw[wv.2 g (by rw[eE];exact h1),kV,if_pos h1,hg]
 obtain⟨k,v,h',ρ',F',r',o',c',h1,rfl,h3,h4⟩:=hc xR f h.size rA _ h _ Sy hN A.mem (AR.mo) r;obtain⟨rfl,_⟩:=h4.de;have:=uF hE (hO h.size W.heap.size) hm k μ h W g Sy args _ h' h1 x (A.Qz hle (B3 ZV hWT hT)) Fence.wide 0 fT.wide;refine(callsIn_wide.1 (this.mono ?_));rintro e W' ⟨v',aK,rfl,hv,S⟩;have e:=hv.ao rfl;subst e;exact⟨rfl,S.grow.os,S.grow.tape,S.grow.output,S.grow.size,fun k hk=>S.grow.bd k hk fun b m hb _=>A.fy b m hb⟩
end
section
variable {E:Env} {base:Nat}
end
section
variable {α:Type}
def lZ (k:IntKind) (f:α→TV) (e:Int×α):Value×TV:=(.int k e.1,f e.2)
def eu:List (Int×α)→Int→Option α
 |[],_=>none
 |e::es,n=>if n=e.1 then some e.2 else eu es n
def ov:List (Int×α)→Int→α→List (Int×α)
 |[],n,v=>[(n,v)]
 |e::es,n,v=>if n=e.1 then(n,v)::es else e::ov es n v
@[reducible] def fu (es:List (Int×α)):List Int:=es.map (·.1)
theorem QA {k k':IntKind} {f:α→TV} {e:Int×α} {n:Int}:oG (.int k' n) (lZ k f e).1=decide (n=e.1):=by
 rw[Bool.eq_iff_iff];simp[oG,lZ]
theorem qC (k k':IntKind) (f:α→TV) (n:Int):∀es:List (Int×α),fI (es.map (lZ k f)) (.int k' n)=(eu es n).map f
 |[]=>rfl
 |e::es=>by
  rw[List.map_cons];unfold fI eu;rw[QA];by_cases he:n=e.1
  ·simp[he,lZ]
  ·simp[he,qC k k' f n es]
theorem D4 (k:IntKind) (f:α→TV) (n:Int) (v:α):∀es:List (Int×α),dc (es.map (lZ k f)) (.int k n) (f v)=(ov es n v).map (lZ k f)
 |[]=>rfl
 |e::es=>by
  rw[List.map_cons];unfold dc ov;rw[QA];by_cases he:n=e.1
  ·simp[he,lZ]
  ·simp[he,D4 k f n v es]
theorem Ox (k:IntKind) (f:α→TV) (es:List (Int×α)):(es.map (lZ k f)).map (·.1)=(fu es).map (.int k):=by
 simp[lZ,fu,Function.comp_def]
theorem yd {n m:Int} {v:α}:∀{es:List (Int×α)},eu (ov es n v) m=if m=n then some v else eu es m
 |[]=>by simp[ov,eu]
 |e::es=>by
  have ih:=yd (n:=n) (m:=m) (v:=v) (es:=es);unfold ov;by_cases he:n=e.1
  ·simp only[he,if_true,eu];by_cases hm:m=e.1<;>simp[hm]
  ·simp only[he,if_false,eu,ih];by_cases hm:m=e.1
   ·rw[if_pos hm,if_pos hm,if_neg];rintro rfl;exact he hm
   ·rw[if_neg hm,if_neg hm]
end
end Go.M
