/-
  Part 12 of the library that the proof leans on.
-/
import Derived.Test.YteoljjhhdgplnaaGreatDoorL10
import Derived.Test.YteoljjhhdgplnaaGreatDoorL11
import Derived.Shelf.SlIterI.Nil
import Derived.KernelRfl
import Derived.Test.YteoljjhhdgplnaaGreatDoorL9
namespace Go.M
open Go
def amM (l:List Nat):FuncId→List Value→ah→Option (Value×ah):=fun g args h=>match ot g l,args with
 |true,[]=>some (.bool true,h)
 |_,_=>none
end Go.M
namespace Go.M
open Go Go.RowKit Go.Maps Go.Sort Go.Shelf Go.Proofs
theorem mergeSort_perm {l l':List Int} (h:l.Perm l'):l.mergeSort (fun x y=>decide (x≤y))=l'.mergeSort (fun x y=>decide (x≤y)):=by
 have tr:∀a b c:Int,decide (a≤b)=true→decide (b≤c)=true→decide (a≤c)=true:=fun a b c h1 h2=>by simp only[decide_eq_true_eq]at*;omega
 have to:∀a b:Int,(decide (a≤b)||decide (b≤a))=true:=fun a b=>by simp only[Bool.or_eq_true,decide_eq_true_eq];omega
 refine List.Perm.eq_of_pairwise (le:=fun a b=>decide (a≤b)=true) (fun a b _ _ h1 h2=>?_) (List.pairwise_mergeSort tr to l) (List.pairwise_mergeSort tr to l') (((List.mergeSort_perm l _).trans h).trans (List.mergeSort_perm l' _).symm);simp only[decide_eq_true_eq]at h1 h2;omega
end Go.M
namespace Go.M
open Go Go.RowKit
def YY:List MapEntry→Option (List Int)
 |[]=>some []
 |e::l=>match e.key,YY l with
  | .int .i64 n,some ks=>some (n::ks)
  |_,_=>none
def qP (h:ah) (b:Nat):Option (Option Nat):=match h.get b with
 |some (.cells [.map mb] f dj aS)=>bL (Nat.beq f b&&Nat.beq dj b&&Nat.ble aS b) (some mb)
 |_=>none
instance (ev:List MapEntry) (clock:Nat):Decidable (xT ev clock):=inferInstanceAs (Decidable (_∧_))
def ae4 (ks:List Int):Prop:=ks.length≤1099511627776∧(∀x∈ks,IntKind.i64.min≤x∧x≤IntKind.i64.max)∧ks.Nodup
instance (ks:List Int):Decidable (ae4 ks):=inferInstanceAs (Decidable (_∧_∧_))
def Sr (h:ah):Option Nat→Option (List Int)
 |none=>some []
 |some r=>match h.get r with
  |some (.map ev clock)=>(YY ev).bind fun ks=>bL (decide (xT ev clock)&&decide (ae4 ks)) (some ks)
  |_=>none
def dy (ks:List Int):List Int:=ks.mergeSort fun x y=>decide (x≤y)
def ae5 (h:ah) (ks:List Int):Value×ah:=match ks with
 |[]=>(.slice none 0 0,h)
 |_::_=>(.slice (some ⟨h.size,0,some 1⟩) ks.length (ks.length+1),h.push (.cells ((dy ks).map (.int .i64)) h.size h.size 0))
def Wq (its:List Nat) (args:List Value) (h:ah):Option (Value×ah):=match args with
 |[.func (.func k) a c]=>(match a.toList,c.toList with
  |[],[.pointer (some ⟨b,0,none⟩)]=>bL (ot k its) ((qP h b).bind fun mb=>(Sr h mb).bind fun ks=>some (ae5 h ks))
  |_,_=>none)
 |_=>none
theorem Ip {h:ah} {b:Nat} {mb:Option Nat} (hb:qP h b=some mb):∃aS,h.get b=some (.cells [.map mb] b b aS)∧aS≤b:=by
 unfold qP at hb;split at hb
 ·rename_i mb' f dj aS hg;simp only[aj,Bool.and_eq_true,beq_iff,aL,Option.some.injEq]at hb;obtain⟨⟨⟨rfl,rfl⟩,ht⟩,rfl⟩:=hb;exact⟨aS,hg,ht⟩
 ·cases hb
theorem cZ.born {μ:bD} {ev ev':List MapEntry} (h:cZ μ ev ev'):ev'.map (·.born)=ev.map (·.born):=by
 induction h with
 |nil=>rfl
 |cons _ _ hb _ ih=>simp[hb,ih]
def ajc (l:List Nat) (gs:List (Nat×List Nat)):FuncId→List Value→ah→Option (Value×ah):=fun g args h=>match ot g l with
 |true=>(match args with|[]=>some (.bool true,h)|_=>none)
 |false=>match look gs g with
  |some its=>Wq its args h
  |none=>none
section
variable {E:Env}
theorem Dq (ks:List Int):(dy ks).length=ks.length:=by simp[dy]
end
end Go.M
namespace Go.M
open Go
theorem aT {b:Bool} {A B:Prop} (hA:b=true→A) (hB:b=false→B):(match(generalizing:=false) b with|true=>A|false=>B):=by
 cases b with
 |true=>exact hA rfl
 |false=>exact hB rfl
theorem aU {b:Bool} {A B:Prop} (hA:b=false→A) (hB:b=true→B):(match(generalizing:=false) !b with|true=>A|false=>B):=by
 cases b with
 |true=>exact hB rfl
 |false=>exact hA rfl
@[reducible] def RR (r0:TV) (c0:Nat) (o0:Ob):TV→Ob→Nat→Prop:=fun r o c=>r=r0∧c=c0∧o=o0
theorem aX {a b:Bool} (h:a=b):Value.bool a=Value.bool b:=congrArg _ h
theorem oB {α:Type} {enc:α→List TV} {l:List α} {n:Nat} {K:List TV→Prop} (h:n<l.length) (hK:K (enc l[n])):∃e,(0≤(n:Int)∧(l.map enc)[(n:Int).toNat]? =some e)∧K e:=
 ⟨enc l[n],⟨om,by simp[h]⟩,hK⟩
theorem wrap_small (n:Nat) (h:n≤1099511627776):IntKind.i64.wrap ((n:Int)+1)=((n+1:Nat):Int):=by
 rw[IntWalk.i64_in _ om];rfl
theorem Iq {α:Type} {f:α→List TV} {l:List α} {i:Nat}:((i:Int)<(((l.map f).length:Nat):Int))↔i<l.length:=by simp
theorem flx:∀b:Bool,(!b||b)=true
 |true=>rfl
 |false=>rfl
theorem Lz.int {k:IntKind} {a b:Int} (h:a=b):Lz (Value.int k a) (Value.int k b):=.of (congrArg _ h)
theorem Lz.wrap {n:Nat} (h:n≤1099511627776):Lz (Value.int .i64 (IntKind.i64.wrap ((n:Int)+1))) (Value.int .i64 ((n+1:Nat):Int)):=.of (congrArg _ (wrap_small n h))
def aaF:List Nat:=[0,1,2,3,4,5,6,7,8,9,10,11,12,13,14,15,16,17,18,19,20,21,22,23,24,25,26,27,28,29,30,31,32,33,34,35,36,37,38,39,40]
def Fu (n:Nat) (K:Nat→Prop) (l:List Nat):Prop:=@List.rec Nat (fun _=>Prop) (K n) (fun k _ ih=>match Nat.beq n k with|true=>K k|false=>ih) l
theorem A7 (n:Nat) (K:Nat→Prop):∀l,Fu n K l=K n
 |[]=>rfl
 |k::l=>by
  show(match Nat.beq n k with|true=>K k|false=>Fu n K l)=K n;cases h:Nat.beq n k with
  |true=>rw[beq_iff.1 h]
  |false=>exact A7 n K l
def bl (n:Nat) (K:Nat→Prop):Prop:=Fu n K aaF
theorem dv (n:Nat):bl n=fun K=>K n:=by funext K;exact A7 n K _
def kB (v:TV) (K:TV→Prop):Prop:=match v with
 | .j=>K .j
 | .s v=>K (.s v)
 | .sl z es fl=>bl z fun z=>K (.sl z es fl)
 | .tk n=>bl n fun n=>K (.tk n)
 | .ptr n o=>bl n fun n=>bl o fun o=>K (.ptr n o)
 | .ep e o=>bl o fun o=>K (.ep e o)
 | .wp n i o=>bl n fun n=>bl o fun o=>K (.wp n i o)
 | .mp n=>bl n fun n=>K (.mp n)
 | .bg n len=>bl n fun n=>K (.bg n len)
 | .sv n i=>bl n fun n=>K (.sv n i)
 | .pv n k=>bl n fun n=>K (.pv n k)
 | .agg cs=>K (.agg cs)
 | .cB cs=>K (.cB cs)
 | .oP t v=>K (.oP t v)
 | .dg g a c=>K (.dg g a c)
 | .own y=>K (.own y)
theorem oC (v:TV):kB v=fun K=>K v:=by funext K;cases v<;>simp[kB,dv]
def iK (F:TV→(TV→Prop)→Prop) (l:List TV):(List TV→Prop)→Prop:=@List.rec TV (fun _=>(List TV→Prop)→Prop) (fun K=>K []) (fun v _ ih K=>F v fun v=>ih fun l=>K (v::l)) l
theorem iS {F:TV→(TV→Prop)→Prop} (hF:∀v,F v=fun K=>K v):∀l,iK F l=fun K=>K l
 |[]=>rfl
 |v::l=>by
  have ih:=iS hF l
  funext K
  show F v (fun v=>iK F l fun l=>K (v::l))=K (v::l);rw[hF,ih]
def qQ (v:TV) (K:TV→Prop):Prop:=match v with
 | .j=>K .j
 | .s v=>K (.s v)
 | .sl z es fl=>bl z fun z=>K (.sl z es fl)
 | .tk n=>bl n fun n=>K (.tk n)
 | .ptr n o=>bl n fun n=>bl o fun o=>K (.ptr n o)
 | .ep e o=>bl o fun o=>K (.ep e o)
 | .wp n i o=>bl n fun n=>bl o fun o=>K (.wp n i o)
 | .mp n=>bl n fun n=>K (.mp n)
 | .bg n len=>bl n fun n=>K (.bg n len)
 | .sv n i=>bl n fun n=>K (.sv n i)
 | .pv n k=>bl n fun n=>K (.pv n k)
 | .agg cs=>iK kB cs fun cs=>K (.agg cs)
 | .cB cs=>K (.cB cs)
 | .oP t v=>K (.oP t v)
 | .dg g a c=>iK kB a fun a=>iK kB c fun c=>K (.dg g a c)
 | .own y=>K (.own y)
theorem sn (v:TV):qQ v=fun K=>K v:=by funext K;cases v<;>simp[qQ,dv,iS oC]
def lV (v:TV) (K:TV→Prop):Prop:=match v with
 | .j=>K .j
 | .s v=>K (.s v)
 | .sl z es fl=>bl z fun z=>K (.sl z es fl)
 | .tk n=>bl n fun n=>K (.tk n)
 | .ptr n o=>bl n fun n=>bl o fun o=>K (.ptr n o)
 | .ep e o=>bl o fun o=>K (.ep e o)
 | .wp n i o=>bl n fun n=>bl o fun o=>K (.wp n i o)
 | .mp n=>bl n fun n=>K (.mp n)
 | .bg n len=>bl n fun n=>K (.bg n len)
 | .sv n i=>bl n fun n=>K (.sv n i)
 | .pv n k=>bl n fun n=>K (.pv n k)
 | .agg cs=>iK kB cs fun cs=>K (.agg cs)
 | .cB cs=>iK qQ cs fun cs=>K (.cB cs)
 | .oP t v=>qQ v fun v=>K (.oP t v)
 | .dg g a c=>iK kB a fun a=>iK kB c fun c=>K (.dg g a c)
 | .own y=>K (.own y)
theorem OP (v:TV):lV v=fun K=>K v:=by funext K;cases v<;>simp[lV,dv,iS oC,iS sn,sn]
def KQ (q:List (Nat×List TV)):(List (Nat×List TV)→Prop)→Prop:=@List.rec (Nat×List TV) (fun _=>(List (Nat×List TV)→Prop)→Prop) (fun K=>K []) (fun p _ ih K=>iK kB p.2 fun x=>ih fun l=>K ((p.1,x)::l)) q
theorem Dr:∀q,KQ q=fun K=>K q
 |[]=>rfl
 |p::q=>by
  have ih:=Dr q
  funext K
  show iK kB p.2 (fun x=>KQ q fun l=>K ((p.1,x)::l))=K (p::q);rw[iS oC,ih]
def Fv (q:List (Value×TV)):(List (Value×TV)→Prop)→Prop:=@List.rec (Value×TV) (fun _=>(List (Value×TV)→Prop)→Prop) (fun K=>K []) (fun p _ ih K=>qQ p.2 fun x=>ih fun l=>K ((p.1,x)::l)) q
theorem wX:∀q,Fv q=fun K=>K q
 |[]=>rfl
 |p::q=>by
  have ih:=wX q
  funext K
  show qQ p.2 (fun x=>Fv q fun l=>K ((p.1,x)::l))=K (p::q);rw[sn,ih]
def qR (x:TO) (K:TO→Prop):Prop:=match x with
 | .cells cs=>iK kB cs fun cs=>K (.cells cs)
 | .map kd es=>bl kd fun kd=>K (.map kd es)
 | .arr z w es=>bl z fun z=>match w with|true=>K (.arr z true es)|false=>K (.arr z false es)
 | .cF z es op=>bl z fun z=>KQ op fun op=>K (.cF z es op)
 | .fp kd es op=>bl kd fun kd=>Fv op fun op=>K (.fp kd es op)
 | .iA ks=>K (.iA ks)
theorem OQ (x:TO):qR x=fun K=>K x:=by
 funext K
 cases x with
 |cells cs=>simp[qR,iS oC]
 |map kd es=>simp[qR,dv]
 |arr z w es=>cases w<;>simp[qR,dv]
 |cF z es op=>simp[qR,dv,Dr]
 |fp kd es op=>simp[qR,dv,wX]
 |iA ks=>rfl
def py (o:Ob):(Ob→Prop)→Prop:=@List.rec (Nat×TO) (fun _=>(Ob→Prop)→Prop) (fun K=>K []) (fun p _ ih K=>bl p.1 fun n=>qR p.2 fun x=>ih fun l=>K ((n,x)::l)) o
theorem wY:∀o,py o=fun K=>K o
 |[]=>rfl
 |p::o=>by
  have ih:=wY o
  funext K
  show bl p.1 (fun n=>qR p.2 fun x=>py o fun l=>K ((n,x)::l))=K (p::o);rw[dv,OQ,ih]
def Fw (q:List (Nat×List TV)):(List (Nat×List TV)→Prop)→Prop:=@List.rec (Nat×List TV) (fun _=>(List (Nat×List TV)→Prop)→Prop) (fun K=>K []) (fun p _ ih K=>bl p.1 fun k=>iK qQ p.2 fun x=>ih fun l=>K ((k,x)::l)) q
theorem A8:∀q,Fw q=fun K=>K q
 |[]=>rfl
 |p::q=>by
  have ih:=A8 q
  funext K
  show bl p.1 (fun k=>iK qQ p.2 fun x=>Fw q fun l=>K ((k,x)::l))=K (p::q);rw[dv,iS sn,ih]
def mS (x:TO) (K:TO→Prop):Prop:=match x with
 | .cells cs=>iK kB cs fun cs=>K (.cells cs)
 | .map kd es=>bl kd fun kd=>K (.map kd es)
 | .arr z w es=>bl z fun z=>match w with|true=>K (.arr z true es)|false=>K (.arr z false es)
 | .cF z es op=>bl z fun z=>Fw op fun op=>K (.cF z es op)
 | .fp kd es op=>bl kd fun kd=>Fv op fun op=>K (.fp kd es op)
 | .iA ks=>K (.iA ks)
theorem KR (x:TO):mS x=fun K=>K x:=by
 funext K
 cases x with
 |cells cs=>simp[mS,iS oC]
 |map kd es=>simp[mS,dv]
 |arr z w es=>cases w<;>simp[mS,dv]
 |cF z es op=>simp[mS,dv,A8]
 |fp kd es op=>simp[mS,dv,wX]
 |iA ks=>rfl
def Su (o:Ob):(Ob→Prop)→Prop:=@List.rec (Nat×TO) (fun _=>(Ob→Prop)→Prop) (fun K=>K []) (fun p l _ K=>bl p.1 fun n=>mS p.2 fun x=>py l fun l=>K ((n,x)::l)) o
theorem OS:∀o,Su o=fun K=>K o
 |[]=>rfl
 |p::o=>by
  funext K
  show bl p.1 (fun n=>mS p.2 fun x=>py o fun l=>K ((n,x)::l))=K (p::o);rw[dv,KR,wY]
def strict (l:VL) (v:TV) (o:Ob) (c:Nat) (K:TV→Ob→Nat→Prop):Prop:=match l with
 | .pure=>lV v fun v=>K v o c
 | .alloc=>lV v fun v=>Su o fun o=>bl c fun c=>K v o c
 | .Mk=>lV v fun v=>K v o c
 | .mi _=>lV v fun v=>py o fun o=>bl c fun c=>K v o c
 | .vg _ _ _=>lV v fun v=>py o fun o=>bl c fun c=>K v o c
 | .dI _=>lV v fun v=>py o fun o=>bl c fun c=>K v o c
 | .pY _=>lV v fun v=>py o fun o=>bl c fun c=>K v o c
 | .pZ=>lV v fun v=>py o fun o=>bl c fun c=>K v o c
 | .bad=>lV v fun v=>K v o c
theorem Ds (l:VL) (v:TV) (o:Ob) (c:Nat):strict l v o c=fun K=>K v o c:=by
 funext K;cases l<;>simp[strict,OP,wY,OS,dv]
def A9 (E:Env) (vc:Ql) (n:Nat) (ops:List Oper) (l:List Oper):Fr→Ob→Nat→RK→Prop:=
 @List.rec Oper (fun _=>Fr→Ob→Nat→RK→Prop) (fun f o c K=>K f o c)
  (fun p _ ih f o c K=>qx ops p f
   (YF E vc p.op f o c fun v o' c' l=>strict l v o' c' fun v o' c'=>vk p.dst n v f fun f'=>ih f' o' c' K)
   (vk p.dst n (.cB []) f fun f'=>ih f' o c K)) l
theorem Sv (E:Env) (vc:Ql) (n:Nat) (ops:List Oper):∀(l:List Oper) f o c K,A9 E vc n ops l f o c K=An E vc n ops l f o c K:=by
 intro l
 induction l with
 |nil=>intro f o c K;rfl
 |cons p rest ih=>
  intro f o c K;have e:(fun f' o' c' (K:RK)=>A9 E vc n ops rest f' o' c' K)=fun f' o' c' K=>An E vc n ops rest f' o' c' K:=by funext a b d e;exact ih a b d e
  show qx ops p f (YF E vc p.op f o c fun v o' c' l=>strict l v o' c' fun v o' c'=>vk p.dst n v f fun f'=>(fun f' o' c' (K:RK)=>A9 E vc n ops rest f' o' c' K) f' o' c' K) (vk p.dst n (.cB []) f fun f'=>(fun f' o' c' (K:RK)=>A9 E vc n ops rest f' o' c' K) f' o c K)=_;rw[e];simp only[Ds];rfl
def uw (E:Env) (vc:Ql) (n:Nat) (ops:List Oper) (l:List Oper):Fr→Ob→Nat→List VN→(List VN→RK)→Prop:=
 @List.rec Oper (fun _=>Fr→Ob→Nat→List VN→(List VN→RK)→Prop) (fun f o c lg K=>K lg f o c)
  (fun p _ ih f o c lg K=>qx ops p f
   (YF E vc p.op f o c fun v o' c' l=>strict l v o' c' fun v o' c'=>vk p.dst n v f fun f'=>ih f' o' c' (lg++[(l,o)]) K)
   (vk p.dst n (.cB []) f fun f'=>ih f' o c (lg++[(.pure,o)]) K)) l
theorem OT (E:Env) (vc:Ql) (n:Nat) (ops:List Oper):∀(l:List Oper) f o c lg K,uw E vc n ops l f o c lg K=vl E vc n ops l f o c lg K:=by
 intro l
 induction l with
 |nil=>intro f o c lg K;rfl
 |cons p rest ih=>
  intro f o c lg K;have e:(fun f' o' c' lg (K:List VN→RK)=>uw E vc n ops rest f' o' c' lg K)=fun f' o' c' lg K=>vl E vc n ops rest f' o' c' lg K:=by funext a b d g e;exact ih a b d g e
  show qx ops p f (YF E vc p.op f o c fun v o' c' l=>strict l v o' c' fun v o' c'=>vk p.dst n v f fun f'=>(fun f' o' c' lg (K:List VN→RK)=>uw E vc n ops rest f' o' c' lg K) f' o' c' (lg++[(l,o)]) K) (vk p.dst n (.cB []) f fun f'=>(fun f' o' c' lg (K:List VN→RK)=>uw E vc n ops rest f' o' c' lg K) f' o c (lg++[(.pure,o)]) K)=_;rw[e];simp only[Ds];rfl
structure Dt (b:Bool) (K:Prop):Prop where
 ok:b=true
 go:K
theorem Sw (b:Bool) (K:Prop):Dt b K=(match(generalizing:=false) b with|true=>K|false=>False):=by
 cases b with
 |true=>exact propext ⟨fun h=>h.go,fun h=>⟨rfl,h⟩⟩
 |false=>exact propext (Iff.intro (fun h=>by cases h.ok) (fun h=>False.elim h))
abbrev WP:=Fr→Ob→Nat→CK→Prop
def ux (E:Env) (vc:Ql) (n c0:Nat) (c9:List Nat) (code:Code):WP:=
 @Code.rec (fun _=>WP)
  (fun f o c Q=>Q .normal f o c)
  (fun _ ops draw f o c Q=>(match draw with
  |false=>A9 E vc n ops.toList ops.toList f o c fun f' o' c'=>Q .normal f' o' c'
  |true=>Dt (n9 ops.toList&&ky n ops.toList) (uw E vc n ops.toList ops.toList f o c [] fun lg f' o' c'=>Dt (gm (dC ops.toList []) o' 0 lg) (Q .normal f' o' c'))))
  (fun _ _ iha ihb f o c Q=>iha f o c fun ex f' o' c'=>(match ex with
  | .normal=>ihb f' o' c' Q
  | .exit id=>Q (.exit id) f' o' c'
  | .ret=>Q .ret f' o' c'))
  (fun q _ _ iht ihe f o c Q=>(match ui E q with
  |false=>False
  |true=>(match nq E f q with
   | .s (.bool b)=>(match b with
    |true=>iht f o c Q
    |false=>ihe f o c Q)
   |_=>False)))
  (fun id _ ih f o c Q=>(match ot id c9 with
  |false=>ih f o c fun ex f' o' c'=>(match ex with
   | .exit nU=>(match Nat.beq nU id with
    |true=>Q .normal f' o' c'
    |false=>Q (.exit nU) f' o' c')
   | .normal=>Q .normal f' o' c'
   | .ret=>Q .ret f' o' c')
  |true=>∃Qm:RK,(ih f o c fun ex f' o' c'=>(match ex with
   | .exit nU=>(match Nat.beq nU id with
    |true=>jM c0 f' o' c' Qm
    |false=>Q (.exit nU) f' o' c')
   | .normal=>jM c0 f' o' c' Qm
   | .ret=>Q .ret f' o' c'))∧∀f' o' c',Qm f' o' c'→Q .normal f' o' c'))
  (fun _ ih f o c Q=>(match ot 999999 c9 with
  |false=>∃Inv:Nat→Fr→Ob→Nat→Prop,(∃k,jM c0 f o c (Inv k))∧
   ∀k f1 o1 c1,Inv k f1 o1 c1→ih f1 o1 c1 fun ex f' o' c'=>(match ex with
    | .normal=>∃k',jM c0 f' o' c' (Inv k')∧k'<k
    | .exit id=>Q (.exit id) f' o' c'
    | .ret=>Q .ret f' o' c')
  |true=>CV (fun f o c Q=>ih f o c Q) 64 f o c Q))
  (fun _ _ _ _ _ _ _ _ _ _=>False)
  (fun id f o c Q=>Q (.exit id) f o c)
  (fun _ _ _ _ _ _=>False)
  (fun _ _ _ _ _=>False)
  (fun _ _ _ _ _=>False)
  (fun f o c Q=>Q .ret f o c)
  (fun _ _ _ _ _=>False) code
theorem Ba (E:Env) (vc:Ql) (n c0:Nat) (c9:List Nat):∀(code:Code) f o c Q,ux E vc n c0 c9 code f o c Q=wp E vc n c0 c9 code f o c Q:=by
 intro code
 induction code with
 |region id ops draw=>
  intro f o c Q;have e1:(fun K=>A9 E vc n ops.toList ops.toList f o c K)=fun K=>An E vc n ops.toList ops.toList f o c K:=by funext K;exact Sv ..
  have e2:(fun lg K=>uw E vc n ops.toList ops.toList f o c lg K)=fun lg K=>vl E vc n ops.toList ops.toList f o c lg K:=by funext lg K;exact OT ..
  show(match draw with
  |false=>(fun K=>A9 E vc n ops.toList ops.toList f o c K) fun f' o' c'=>Q .normal f' o' c'
  |true=>Dt (n9 ops.toList&&ky n ops.toList) ((fun lg K=>uw E vc n ops.toList ops.toList f o c lg K) [] fun lg f' o' c'=>Dt (gm (dC ops.toList []) o' 0 lg) (Q .normal f' o' c')))=_
  rw[e1,e2];simp only[Sw];cases draw<;>rfl
 |seq a b iha ihb=>
  intro f o c Q;have e1:(fun f o c Q=>ux E vc n c0 c9 a f o c Q)=fun f o c Q=>wp E vc n c0 c9 a f o c Q:=by funext f o c Q;exact iha ..
  have e2:(fun f o c Q=>ux E vc n c0 c9 b f o c Q)=fun f o c Q=>wp E vc n c0 c9 b f o c Q:=by funext f o c Q;exact ihb ..
  show((fun f o c Q=>ux E vc n c0 c9 a f o c Q) f o c fun ex f' o' c'=>(match ex with
  | .normal=>(fun f o c Q=>ux E vc n c0 c9 b f o c Q) f' o' c' Q
  | .exit id=>Q (.exit id) f' o' c'
  | .ret=>Q .ret f' o' c'))=_
  rw[e1,e2];rfl
 |cond q t e iht ihe=>
  intro f o c Q;have e1:(fun f o c Q=>ux E vc n c0 c9 t f o c Q)=fun f o c Q=>wp E vc n c0 c9 t f o c Q:=by funext f o c Q;exact iht ..
  have e2:(fun f o c Q=>ux E vc n c0 c9 e f o c Q)=fun f o c Q=>wp E vc n c0 c9 e f o c Q:=by funext f o c Q;exact ihe ..
  show(match ui E q with
  |false=>False
  |true=>(match nq E f q with
   | .s (.bool b)=>(match b with
    |true=>(fun f o c Q=>ux E vc n c0 c9 t f o c Q) f o c Q
    |false=>(fun f o c Q=>ux E vc n c0 c9 e f o c Q) f o c Q)
   |_=>False))=_
  rw[e1,e2];rfl
 |block id b ih=>
  intro f o c Q;have e1:(fun f o c Q=>ux E vc n c0 c9 b f o c Q)=fun f o c Q=>wp E vc n c0 c9 b f o c Q:=by funext f o c Q;exact ih ..
  show(match ot id c9 with
  |false=>(fun f o c Q=>ux E vc n c0 c9 b f o c Q) f o c fun ex f' o' c'=>(match ex with
   | .exit nU=>(match Nat.beq nU id with
    |true=>Q .normal f' o' c'
    |false=>Q (.exit nU) f' o' c')
   | .normal=>Q .normal f' o' c'
   | .ret=>Q .ret f' o' c')
  |true=>∃Qm:RK,((fun f o c Q=>ux E vc n c0 c9 b f o c Q) f o c fun ex f' o' c'=>(match ex with
   | .exit nU=>(match Nat.beq nU id with
    |true=>jM c0 f' o' c' Qm
    |false=>Q (.exit nU) f' o' c')
   | .normal=>jM c0 f' o' c' Qm
   | .ret=>Q .ret f' o' c'))∧∀f' o' c',Qm f' o' c'→Q .normal f' o' c')=_
  rw[e1];rfl
 |loop b ih=>
  intro f o c Q;have e1:(fun f o c Q=>ux E vc n c0 c9 b f o c Q)=fun f o c Q=>wp E vc n c0 c9 b f o c Q:=by funext f o c Q;exact ih ..
  show(match ot 999999 c9 with
  |false=>∃Inv:Nat→Fr→Ob→Nat→Prop,(∃k,jM c0 f o c (Inv k))∧
   ∀k f1 o1 c1,Inv k f1 o1 c1→(fun f o c Q=>ux E vc n c0 c9 b f o c Q) f1 o1 c1 fun ex f' o' c'=>(match ex with
    | .normal=>∃k',jM c0 f' o' c' (Inv k')∧k'<k
    | .exit id=>Q (.exit id) f' o' c'
    | .ret=>Q .ret f' o' c')
  |true=>CV (fun f o c Q=>ux E vc n c0 c9 b f o c Q) 64 f o c Q)=_
  rw[e1];rfl
 |_=>intros;rfl
theorem VC.cQ {E T:Env} (L:cm T E) {g:FuncId} {fn:Func} {code:Code} {c0:Nat} {args:List TV} {o0:Ob} {R:TV→Ob→Nat→Prop} (hf:E.func g=some fn) (ho:∀b a,E.v9 b g a=fun _=>none) (hb:fn.body=some code) (hlen:Nat.ble args.length fn.ntmps=true)
 (c9:List Nat) (hw:ux T (VC E) fn.ntmps c0 c9 code (tj 0 args) o0 c0 (He T c0 fn.results.toList R)):VC E g c0 args o0 R:=
 VC.enter L hf ho hb hlen c9 (by rw[←Ba];exact hw)
theorem D1 {b:Bool} {K:Prop} (k:K) (h:b=true:=by kernel_rfl):Dt b K:=⟨h,k⟩
theorem LF {p:Prop} (h:p:=by first|with_reducible exact Lz.rfl|exact Lw.rfl|exact Lz.wrap om|(unfold goInt;with_reducible exact Lz.rfl)|exact flx _):p:=h
theorem cR {r0:TV} {c0:Nat} {o0:Ob} {Q:TV→Ob→Nat→Prop} (h:Q r0 o0 c0):∀r o c,RR r0 c0 o0 r o c→Q r o c:=by
 rintro r o c ⟨rfl,rfl,rfl⟩;exact h
theorem t3 {a b c:Prop} (h1:a:=by(repeat' first|with_reducible exact Lz.rfl|exact Lw.rfl|exact Lz.wrap om|(unfold goInt;with_reducible exact Lz.rfl)|exact flx _|constructor)) (h2:b:=by(repeat' first|with_reducible exact Lz.rfl|exact Lw.rfl|exact Lz.wrap om|(unfold goInt;with_reducible exact Lz.rfl)|exact flx _|constructor)) (h3:c:=by rfl):a∧b∧c:=⟨h1,h2,h3⟩
end Go.M
namespace Go.M
open Go Go.Proofs
theorem wr0:IntKind.i64.wrap (0+1)=1:=rfl
theorem wr1:IntKind.i64.wrap (1+1)=2:=rfl
theorem wr2:IntKind.i64.wrap (2+1)=3:=rfl
theorem wr3:IntKind.i64.wrap (3+1)=4:=rfl
theorem wr4:IntKind.i64.wrap (4+1)=5:=rfl
theorem wr5:IntKind.i64.wrap (5+1)=6:=rfl
theorem wr6:IntKind.i64.wrap (6+1)=7:=rfl
theorem wr7:IntKind.i64.wrap (7+1)=8:=rfl
theorem wr8:IntKind.i64.wrap (8+1)=9:=rfl
theorem wr9:IntKind.i64.wrap (9+1)=10:=rfl
theorem wrA:IntKind.i64.wrap (10+1)=11:=rfl
theorem wrB:IntKind.i64.wrap (11+1)=12:=rfl
theorem wrC:IntKind.i64.wrap (12+1)=13:=rfl
theorem wrD:IntKind.i64.wrap (13+1)=14:=rfl
theorem wrE:IntKind.i64.wrap (14+1)=15:=rfl
theorem rn {p q:Prop} (k:q) (h:q→p:=by(intro hq;(repeat(first|(refine⟨by first|decide+kernel|(dsimp only;decide+kernel),?_⟩;have dw:=True.intro;clear dw;((conv=>whnf)<;>repeat(with_reducible refine D1 ?_)<;>conv=>whnf))|(refine⟨_,rfl,?_⟩;have dw:=True.intro;clear dw;((conv=>whnf)<;>repeat(with_reducible refine D1 ?_)<;>conv=>whnf))|((try(first|rw[wr0]|rw[wr1]|rw[wr2]|rw[wr3]|rw[wr4]|rw[wr5]|rw[wr6]|rw[wr7]|rw[wr8]|rw[wr9]|rw[wrA]|rw[wrB]|rw[wrC]|rw[wrD]|rw[wrE]));first|(refine⟨fun h_=>?_,fun h_=>absurd (by first|decide+kernel|rfl |(dsimp only;decide+kernel)) h_⟩;clear h_;((conv=>whnf)<;>repeat(with_reducible refine D1 ?_)<;>conv=>whnf))|(refine⟨fun h_=>absurd h_ (by first|decide+kernel|(dsimp only;decide+kernel)),fun h_=>?_⟩;clear h_;((conv=>whnf)<;>repeat(with_reducible refine D1 ?_)<;>conv=>whnf)))));exact hq)):p:=h k
theorem wh {p q:Prop} (k:q) (h:q→p:=by(intro hq;((conv=>whnf)<;>repeat(with_reducible refine D1 ?_)<;>conv=>whnf);exact hq)):p:=h k
theorem sp {p a b:Prop} (ha:a) (hb:b) (h:a→b→p:=by(intro x y;first|exact⟨x,y⟩|exact aU x y|exact aT x y)):p:=h ha hb
theorem tq {p:Prop} (h:p:=by(repeat' first|exact LF|constructor)):p:=h
theorem cw {r0:TV} {c0:Nat} {o0:Ob} {Q:TV→Ob→Nat→Prop} {q:Prop} (k:q) (h:q→Q r0 o0 c0:=by(intro hq;((conv=>whnf)<;>repeat(with_reducible refine D1 ?_)<;>conv=>whnf);exact hq)):∀r o c,RR r0 c0 o0 r o c→Q r o c:=cR (h k)
theorem en {E T:Env} (L:cm T E) (fn:Func) {g:FuncId} {c0:Nat} {args:List TV} {o0:Ob} {R:TV→Ob→Nat→Prop} {code:Code} {q:Prop} (k:q) (hf:E.func g=some fn:=by kernel_rfl) (ho:∀b a,E.v9 b g a=fun _=>none:=by exact fun _ _=>rfl) (hb:fn.body=some code:=by rfl) (hlen:Nat.ble args.length fn.ntmps=true:=by rfl)
 (hw:q→ux T (VC E) fn.ntmps c0 [] code (tj 0 args) o0 c0 (He T c0 fn.results.toList R):=by(intro hq;((conv=>whnf)<;>repeat(with_reducible refine D1 ?_)<;>conv=>whnf);exact hq)):VC E g c0 args o0 R:=VC.cQ L hf ho hb hlen [] (hw k)
theorem tx {a b c q:Prop} (k:q) (h1:q→a:=by(intro hq;repeat' first|(clear hq;exact LF)|constructor|exact hq)) (h2:q→b:=by(intro hq;repeat' first|(clear hq;exact LF)|constructor|exact hq)) (h3:c:=by rfl):a∧b∧c:=⟨h1 k,h2 k,h3⟩
end Go.M
namespace Go.M
open Go Go.RowKit
def aje (val:List Value→List Int→Option Value) (args:List Value) (h:ah):Option (Value×ah):=match args.reverse with
 | .slice (some ⟨b,0,some 1⟩) len cap::rp=>(match h.get b with
  |some (.iA cs)=>bL (Nat.beq len cs.length&&Nat.ble len cap&&Nat.blt 0 len&&rp.all scalar) ((val rp.reverse cs).bind fun v=>some (v,h))
  |_=>none)
 |_=>none
section
variable {E:Env}
end
end Go.M
namespace Go.M
open Go Go.RowKit Go.Maps Go.Sort Go.Shelf Go.Proofs
def ajf (h:ah) (ks:List Int):Value×ah:=match ks with
 |[]=>(.slice none 0 0,h)
 |_::_=>(.slice (some ⟨h.size,0,some 1⟩) ks.length (ks.length+1),h.push (.iA ks))
def Sx (its:List Nat) (args:List Value) (h:ah):Option (Value×ah):=match args with
 |[.func (.func k) a c]=>(match a.toList,c.toList with
  |[],[.pointer (some ⟨b,0,none⟩)]=>bL (ot k its) ((qP h b).bind fun mb=>(Sr h mb).bind fun ks=>some (ajf h ks))
  |_,_=>none)
 |_=>none
end Go.M
namespace Go.M
open Go Go.RowKit
section
variable {X:Cx} {ρ:Gh} {F:Nat→Prop} {o:Ob} {c:Nat} {h:ah}
end
section
variable {E:Env}
end
abbrev ajg:=List Value→List Int→Option Value
def amN (l:List Nat) (gs cs:List (Nat×List Nat)) (bs:List (Nat×ajg)):FuncId→List Value→ah→Option (Value×ah):=fun g args h=>match look cs g with
 |some its=>Sx its args h
 |none=>match look bs g with
  |some val=>aje val args h
  |none=>ajc l gs g args h
end Go.M
namespace Go.M
open Go
abbrev qS:=List (Nat×List Value)
def lW (P:Program) (l:qS) (v9:FuncId→List Value→ah→Option (Value×ah)):Env:={jG P v9 with y5:=look l}
theorem uy (P:Program) (l:qS) (v9:FuncId→List Value→ah→Option (Value×ah)):bK P (lW P l v9):=
 let h:=ad8 P v9
 ⟨h.desc,h.size,h.bytes,h.zero,h.uQ,h.func⟩
def afk (v v':Value):Prop:=(EK v=false∧v'=v)∨(EK v=true∧isIf v')
def Bb (l:qS) (W:World):Prop:=∀g cs,look l g=some cs→∃c e fr,W.heap[g]? =some (.cells c e fr)∧cs.length≤c.size∧∀(i:Nat) v,cs[i]? =some v→∃v',c[i]? =some v'∧afk v v'
def vJ (l:qS):Nat→ah
 |0=>zI
 |n+1=>(vJ l n).push (.cells (match look l n with|some cs=>cs|none=>[]) n (n+1) 0)
def muT (l:qS) (n:Nat) (W:World):bD:=fun g=>match look l g,W.heap[g]?,Nat.blt g n with
 |some _,some (.cells c _ _),true=>some ⟨g,0,c.size⟩
 |_,_,_=>none
def tz (l:qS) (n:Nat):Bool:=l.all fun p=>Nat.blt p.1 n&&p.2.all (fun v=>EJ v||EK v)&&(match look l p.1 with|some cs=>gZ cs p.2|none=>false)
def KS (l:qS) (h:ah):Bool:=l.all fun p=>match h.rd p.1,look l p.1 with|some cs,some cs'=>gZ cs cs'|_,_=>false
section
variable {P:Program} {l:qS} {n:Nat} {W:World}
theorem fP:∀n,(vJ l n).size=n
 |0=>rfl
 |n+1=>by rw[vJ,ah.size_push,fP n]
theorem oD:∀n b,(vJ l n).get b=if b<n then some (.cells (match look l b with|some cs=>cs|none=>[]) b (b+1) 0)else none
 |0,b=>by simp;rfl
 |n+1,b=>by
  rw[vJ,ah.al,fP n,oD n b];by_cases e:b=n
  ·subst e;simp
  ·rw[if_neg e];by_cases h:b<n
   ·rw[if_pos h,if_pos om]
   ·rw[if_neg h,if_neg om]
theorem vK {α:Type} {l:List (Nat×α)} {g:Nat} {x:α} (h:look l g=some x):(g,x)∈l:=by
 induction l with
 |nil=>simp[look]at h
 |cons p l ih=>
  unfold look at h;split at h
  ·rename_i hb;cases h;rw[beq_iff]at hb;subst hb;exact List.mem_cons_self
  ·exact List.mem_cons_of_mem _ (ih h)
theorem vL (hB:tz l n=true) {g:Nat} {cs:List Value} (h:look l g=some cs):g<n∧cs.all (fun v=>EJ v||EK v)=true:=by
 have:=List.all_eq_true.1 hB _ (vK h);simp only[Bool.and_eq_true,bc]at this;exact⟨this.1.1,this.1.2⟩
theorem yl {v:Value} (h:EJ v=true):ay v=true:=by
 unfold EJ at h;simp only[Bool.and_eq_true]at h;exact h.1
theorem arT (hB:tz l n=true) (hW:Bb l W):AR W (muT l n W) (vJ l n):=by
 have key:∀{b m},muT l n W b=some m→∃cs c e fr,look l b=some cs∧W.heap[b]? =some (.cells c e fr)∧b<n∧m=⟨b,0,c.size⟩:=by
  intro b m h;unfold muT at h;split at h
  ·rename_i cs c e fr h1 h2 h3;cases h;exact⟨cs,c,e,fr,h1,h2,bc.1 h3,rfl⟩
  ·cases h
 refine⟨fun b hb=>?_,fun b hb=>?_,fun b m hb=>?_,fun b m hb=>?_⟩
 ·rw[fP]at hb;rw[oD,if_neg om]
 ·rw[fP]at hb;rw[oD,if_pos hb];exact⟨_,rfl⟩
 ·obtain⟨cs,c,e,fr,h1,h2,h3,rfl⟩:=key hb;rw[fP];exact h3
 ·obtain⟨cs,c,e,fr,h1,h2,h3,rfl⟩:=key hb;obtain⟨c',e',Qj,q1,q2,q3⟩:=hW b cs h1;rw[h2]at q1;cases q1;refine⟨cs,c,e,fr,by rw[oD,if_pos h3,h1],h2,rfl,by simpa using q2,fun i v hv=>?_⟩;obtain⟨v',k1,k2⟩:=q3 i v hv;refine⟨v',by simpa using k1,?_⟩;have ht:=List.all_eq_true.1 (vL hB h1).2 v (List.mem_of_getElem? hv);simp only[Bool.or_eq_true]at ht;rcases k2 with⟨ho,rfl⟩|⟨ho,hi⟩
  ·rcases ht with ht|ht
   ·exact .lit (yl ht)
   ·rw[ho]at ht;cases ht
  ·cases v<;>simp[EK]at ho;rename_i r;cases r with
   |none=>simp at ho
   |some n=>exact .Eg hi
theorem Ir (hB:tz l n=true) (hW:Bb l W) {E:Env} (hE:E.y5=look l) (g:Nat) (hg:E.dN g=true):∃m,muT l n W g=some m∧m.r=g∧m.s=0:=by
 unfold Env.dN at hg;rw[hE,Option.isSome_iff_exists]at hg;obtain⟨cs,h1⟩:=hg;obtain⟨c,e,fr,q1,q2,q3⟩:=hW g cs h1;refine⟨⟨g,0,c.size⟩,?_,rfl,rfl⟩;unfold muT;rw[h1,q1,bc.2 (vL hB h1).1]
theorem Is {E:Env} (hE:E.y5=look l) {base B:Nat} {μ:bD} {h:ah} {w:World} (H:bB E base B μ h w) (hB:tz l n=true) (ht:KS l h=true):Bb l w:=by
 intro g cs hg;obtain⟨m,q1,q2,q3⟩:=H.dN g (by unfold Env.dN;rw[hE,hg];rfl);have:=List.all_eq_true.1 ht _ (vK hg);simp only[hg]at this;split at this
 ·rename_i wi cs2 hr e;cases e;have ec:=r8 this;subst ec;obtain⟨c,e,fr,k1,k2,k3,_,k5⟩:=H.read q1 hr;rw[q2]at k1;rw[q3]at k3 k5;refine⟨c,e,fr,k1,om,fun i v hv=>?_⟩;obtain⟨v',p1,p2⟩:=k5 i v hv;refine⟨v',by simpa using p1,?_⟩;have ht:=List.all_eq_true.1 (vL hB hg).2 v (List.mem_of_getElem? hv);simp only[Bool.or_eq_true]at ht;rcases ht with ht|ht
  ·have hp:=yl ht;refine .inl ⟨?_,?_⟩
   ·cases v<;>simp[EK];rename_i r;cases r<;>simp[ay]at hp ⊢
   ·cases p2 with
    |lit h=>rfl
    |_=>simp[ay]at hp
  ·refine .inr ⟨ht,?_⟩;cases v<;>simp[EK]at ht;rename_i r;cases r with
   |none=>simp at ht
   |some n=>
    cases p2 with
    |lit h=>simp[ay]at h
    |Eg h=>exact h
 ·cases this
theorem OU {E:Env} (hE:E.y5=look l) {F:Nat→Prop} {h:ah} (hB:tz l n=true) (N:lR E F h):KS l h=true:=by
 refine List.all_eq_true.2 fun p hp=>?_;have:=List.all_eq_true.1 hB p hp;simp only[Bool.and_eq_true]at this;have h3:=this.2;split at h3
 ·rename_i cs hl;obtain⟨_,n2,_⟩:=N p.1 cs (by rw[hE];exact hl);rw[n2,hl];have e:=r8 h3;rw[e]at h3 ⊢;exact h3
 ·cases h3
def KT (P:Program) (l:qS) (g:FuncId):Prop:=∀(W:World) (F:Fence) (n:Nat),Bb l W→iH F→CallsIn F n P g #[] W fun e W'=>e= .returned (.bool true)∧Go.RowKit.Below W.heap.size W W'
noncomputable def kW (P:Program) (l:qS) (fs bs ps:List Nat) (n:Nat):FuncId→List Value→ah→Option (Value×ah):=fun g args h=>
 match fs.contains g with
 |true=>Io (lW P l mN) n g args h
 |false=>match bs.contains g with
  |true=>Fp (lW P l mN) n g args h
  |false=>match ps.contains g with
   |true=>Fq (lW P l mN) n g args h
   |false=>none
theorem so {base B:Nat}:kf P (lW P l mN) base B:=fun μ h w g args args' v h' hr=>by
 have:(none:Option (Value×ah))=some (v,h'):=hr;cases this
theorem KU (hm:P.follows .mixedOrders=true) (fs bs ps:List Nat) (n base B:Nat):kf P (lW P l (kW P l fs bs ps n)) base B:=by
 intro μ h w g args args' v h' hc hr H F k hF;have nW:kW P l fs bs ps n g args h=some (v,h'):=hc;unfold kW at nW;split at nW
 ·exact Sp (E:=lW P l (kW P l fs bs ps n)) (uy P l mN) (fun _ _=>so) hm (fun _ hg=>hg) n μ h w g args args' v h' nW hr H F k hF
 ·split at nW
  ·exact OJ (E:=lW P l (kW P l fs bs ps n)) (uy P l mN) (fun _ _=>so) hm (fun _ hg=>hg) n μ h w g args args' v h' nW hr H F k hF
  ·split at nW
   ·exact OO (E:=lW P l (kW P l fs bs ps n)) (uy P l mN) (fun _ _=>so) hm (fun _ hg=>hg) n μ h w g args args' v h' nW hr H F k hF
   ·cases nW
theorem AR.YZ {E:Env} {j4 μ:bD} {h:ah} (A:AR W μ h) (hle:j4.le μ) (hg:∀g,E.dN g=true→∃m,j4 g=some m∧m.r=g∧m.s=0):bB E h.size W.heap.size μ h W:=
 let H:=AR.uS (E:=jG default mN) A (fun _=>rfl)
 ⟨H.g8,H.high,H.obj,H.own,H.alias,H.dQ,fun g h=>let⟨m,q1,q2⟩:=hg g h;⟨m,hle _ _ q1,q2⟩,H.low,H.mF,H.wf,H.root⟩
theorem OV (hm:P.follows .mixedOrders=true) (hB:tz l n=true) {fs bs ps:List Nat} {m k:Nat} {g:FuncId}
 (hr:Ad (fW (lW P l (kW P l fs bs ps m)) n k g [] (vJ l n))=true):KT P l g:=by
 intro W F j hW hF;obtain⟨h',hr⟩:=B5 hr;have A:=arT hB hW;have H:bB (lW P l (kW P l fs bs ps m)) n W.heap.size (muT l n W) (vJ l n) W:=by
  have:=A.YZ (E:=lW P l (kW P l fs bs ps m)) (bD.le_refl _) (Ir hB hW rfl)
  rwa [fP]at this
 have:=Ac (uy P l _) (KU hm fs bs ps m n W.heap.size) hm k (muT l n W) (vJ l n) W g [] #[] (.bool true) h' hr .nil H F j hF;refine this.mono ?_;rintro e W' ⟨v',bd,rfl,hv,S⟩;have e:=hv.ar rfl;subst e;refine⟨rfl,S.grow.os,S.grow.tape,S.grow.output,S.grow.size,fun k hk=>S.grow.bx k hk fun b mt hb _=>?_⟩;have:=A.g8 b mt hb
 rwa [fP]at this
def Bc (l:qS) (aw:List Nat) (rest:FuncId→List Value→ah→Option (Value×ah)):FuncId→List Value→ah→Option (Value×ah):=fun g args h=>
 match ot g aw,args,KS l h with
 |true,[],true=>some (.bool true,h)
 |_,_,_=>rest g args h
theorem Wr {aw:List Nat} {rest:FuncId→List Value→ah→Option (Value×ah)} (hB:tz l n=true) (ha:∀g∈aw,KT P l g) (hr:∀base B,kf P (jG P rest) base B) (base B:Nat):kf P (lW P l (Bc l aw rest)) base B:=by
 intro μ h w g args args' v h' hc hv H F k hF;have nW:Bc l aw rest g args h=some (v,h'):=hc;unfold Bc at nW;split at nW
 ·rename_i h1 h2;cases nW;have:args'= #[]:=by
   have:=hv.length;simpa using this.symm
  subst this;refine(ha g (AV h1) w F k (Is (E:=lW P l (Bc l aw rest)) rfl H hB h2) hF).mono ?_;rintro e W' ⟨rfl,hb⟩;exact⟨_,μ,rfl,.lit rfl,⟨H.ext hb.size fun r hr=>hb.block r hr,⟨hb.tape,hb.os,hb.output,hb.size,fun r hr _=>hb.block r hr⟩,μ.le_refl,fun b m h0 h1=>(by rw[h0]at h1;cases h1),fun _ _ _=>rfl,Nat.le_refl _⟩⟩
 ·have H2:bB (jG P rest) base B μ h w:=⟨H.g8,H.high,H.obj,H.own,H.alias,H.dQ,fun g hg=>by simp[Env.dN,jG]at hg,H.low,H.mF,H.wf,H.root⟩
  exact(hr base B μ h w g _ args' v h' nW hv H2 F k hF).mono fun e w' ⟨v',bd,h1,h2,h3⟩=>
   ⟨v',bd,h1,h2,⟨h3.rel.g8,h3.rel.high,h3.rel.obj,h3.rel.own,h3.rel.alias,h3.rel.dQ,fun g hg=>let⟨m,q1,q2⟩:=H.dN g hg;⟨m,h3.le _ _ q1,q2⟩,h3.rel.low,h3.rel.mF,h3.rel.wf,h3.rel.root⟩,h3.grow,h3.le,h3.new,h3.L3,h3.fq⟩
theorem VC.aaH {aw:List Nat} {rest:FuncId→List Value→ah→Option (Value×ah)} {g:FuncId} {c0:Nat} {o0:Ob} (hB:tz l n=true) (hf:((lW P l (Bc l aw rest)).func g).isSome=true) (hg:ot g aw=true):
 VC (lW P l (Bc l aw rest)) g c0 [] o0 (fun r o c=>r= .s (.bool true)∧o=o0∧c=c0):=by
 intro base ρ F h S dW hN hM hO hA;obtain⟨fn,hf⟩:=Option.isSome_iff_exists.1 hf;obtain rfl:=hA.bU;have ho:(lW P l (Bc l aw rest)).v9 base g [] h=some (.bool true,h):=by
  show Bc l aw rest g [] h=_;unfold Bc;rw[hg,OU (E:=lW P l (Bc l aw rest)) rfl hB hN]
 refine⟨0,.bool true,h,ρ,F,.s (.bool true),o0,c0,?_,⟨rfl,rfl,rfl⟩,hM,.s rfl⟩;unfold fW eE;rw[hf];simp only[Option.bind_some,ho]
end
section
open Go.ChangeShapes Go.WideShapes
variable {H:Type} {enc:TypeId×Value→H} {P:Program} {W:World} {base:Nat} {held:Bool}
theorem OW {l:qS} {n:Nat} {E:Env} {g:FuncId} {MN:List ye} {ts:List TypeId} {args:Array Value} {ds:List (DataW H)} {ps:List MemPlace} {base':Nat} {r:Reach} (hE:bK P E) (hO:∀base B,kf P E base B) (hm:P.follows .mixedOrders=true)
 (hT:E.y5=look l) (hBT:tz l n=true) (hWT:Bb l W)
 (hB:Di P ts MN=true) (hD:DataW.TrodAll enc P W base (fun _=>true) held ts args.toList ds ps) (hv:∀(j:Nat) t v,ts[j]? =some t→args[j]? =some v→Value.okWide P W r base' t v)
 (hc:∀Dh,Ik MN Dh→VC E g 0 Dh [] fun r _ _=>r= .s (.bool true)):Calls P g args W fun e W'=>e= .returned (.bool true)∧Go.RowKit.Below W.heap.size W W':=by
 obtain⟨μ,h,Dh,vs0,A,hle,BQ,f,r,x⟩:=Dj hB hD (fun j t v a b=>hv j t v a (by simpa using b)) _ _ (arT hBT hWT);have hN:lR E (· <h.size) h:=fun g cs hg=>by
  rw[hT]at hg;obtain⟨h1,h2⟩:=vL hBT hg;have hs:=BQ.1;rw[fP]at hs;refine⟨om,A.rd (cs:=cs) ?_,trivial⟩;rw[BQ.2 g (by rw[fP];exact h1),oD,if_pos h1,hg]
 obtain⟨k,v,h',ρ',F',r',o',c',h1,rfl,h3,h4⟩:=hc Dh f h.size wD _ h _ vs0 hN A.mem (AR.mo) r;obtain⟨rfl,_⟩:=h4.dV;have:=Ac hE (hO h.size W.heap.size) hm k μ h W g vs0 args _ h' h1 x (A.YZ hle (Ir hBT hWT hT)) Fence.wide 0 iH.wide;refine(callsIn_wide.1 (this.mono ?_));rintro e W' ⟨v',bd,rfl,hv,S⟩;have e:=hv.ar rfl;subst e;exact⟨rfl,S.grow.os,S.grow.tape,S.grow.output,S.grow.size,fun k hk=>S.grow.bx k hk fun b m hb _=>A.g8 b m hb⟩
end
section
variable {E:Env} {base:Nat}
end
section
variable {α:Type}
def pz (k:IntKind) (f:α→TV) (e:Int×α):Value×TV:=(.int k e.1,f e.2)
def eS:List (Int×α)→Int→Option α
 |[],_=>none
 |e::es,n=>if n=e.1 then some e.2 else eS es n
def qT:List (Int×α)→Int→α→List (Int×α)
 |[],n,v=>[(n,v)]
 |e::es,n,v=>if n=e.1 then(n,v)::es else e::qT es n v
@[reducible] def iT (es:List (Int×α)):List Int:=es.map (·.1)
theorem Y0 {k k':IntKind} {f:α→TV} {e:Int×α} {n:Int}:tf (.int k' n) (pz k f e).1=decide (n=e.1):=by
 rw[Bool.eq_iff_iff];simp[tf,pz]
theorem vM (k k':IntKind) (f:α→TV) (n:Int):∀es:List (Int×α),im (es.map (pz k f)) (.int k' n)=(eS es n).map f
 |[]=>rfl
 |e::es=>by
  rw[List.map_cons];unfold im eS;rw[Y0];by_cases he:n=e.1
  ·simp[he,pz]
  ·simp[he,vM k k' f n es]
theorem KW (k:IntKind) (f:α→TV) (n:Int) (v:α):∀es:List (Int×α),dU (es.map (pz k f)) (.int k n) (f v)=(qT es n v).map (pz k f)
 |[]=>rfl
 |e::es=>by
  rw[List.map_cons];unfold dU qT;rw[Y0];by_cases he:n=e.1
  ·simp[he,pz]
  ·simp[he,KW k f n v es]
theorem Ws (k:IntKind) (f:α→TV) (es:List (Int×α)):(es.map (pz k f)).map (·.1)=(iT es).map (.int k):=by
 simp[pz,iT,Function.comp_def]
theorem wZ {n m:Int} {v:α}:∀{es:List (Int×α)},eS (qT es n v) m=if m=n then some v else eS es m
 |[]=>by simp[qT,eS]
 |e::es=>by
  have ih:=wZ (n:=n) (m:=m) (v:=v) (es:=es);unfold qT;by_cases he:n=e.1
  ·simp only[he,if_true,eS];by_cases hm:m=e.1<;>simp[hm]
  ·simp only[he,if_false,eS,ih];by_cases hm:m=e.1
   ·rw[if_pos hm,if_pos hm,if_neg];rintro rfl;exact he hm
   ·rw[if_neg hm,if_neg hm]
end
end Go.M
