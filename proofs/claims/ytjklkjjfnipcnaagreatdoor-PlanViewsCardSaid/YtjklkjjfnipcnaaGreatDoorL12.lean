/-
  Part 12 of the library that the proof leans on.
-/
import Derived.Test.YtjklkjjfnipcnaaGreatDoorL10
import Derived.Test.YtjklkjjfnipcnaaGreatDoorL11
import Derived.Shelf.SlIterI.Nil
import Derived.KernelRfl
import Derived.Test.YtjklkjjfnipcnaaGreatDoorL9
noncomputable section
namespace Go.M
open Go
def WV (l:List Nat):FuncId→List Value→ab→Option (Value×ab):=fun g args h=>match jU g l,args with
 |true,[]=>some (.bool true,h)
 |_,_=>none
end Go.M
namespace Go.M
open Go Go.RowKit Go.Maps Go.Sort Go.Shelf Go.Proofs
theorem mergeSort_perm {l l':List Int} (h:l.Perm l'):l.mergeSort (fun x y=>decide (x≤y))=l'.mergeSort (fun x y=>decide (x≤y)):=by
 have tr:∀a b c:Int,decide (a≤b)=true→decide (b≤c)=true→decide (a≤c)=true:=fun a b c h1 h2=>by simp only[decide_eq_true_eq]at*;omega
 have to:∀a b:Int,(decide (a≤b)||decide (b≤a))=true:=fun a b=>by simp only[Bool.or_eq_true,decide_eq_true_eq];omega
 refine List.Perm.eq_of_pairwise (le:=fun a b=>decide (a≤b)=true) (fun a b _ _ h1 h2=>?_) (List.pairwise_mergeSort tr to l) (List.pairwise_mergeSort tr to l') (((List.mergeSort_perm l _).trans h).trans (List.mergeSort_perm l' _).symm);simp only[decide_eq_true_eq]at h1 h2;omega
end Go.M
namespace Go.M
open Go Go.RowKit
theorem xH {P:Program} {F:Fence} (hF:c4 F) {n:Nat} {f:FuncId} {args:Array Value} {w:World} {R:Ending→World→Prop} (h:Calls P f args w R):CallsIn F n P f args w R:=by
 have e:Machine.fenced P F=Machine.fenced P Fence.wide:=funext fun m=>propext ⟨fun _=>fenced_wide P m,fun _ g hg=>⟨fun ha=>(by rw[hF.dead]at ha;cases ha),Or.inl (hF.fn _),fun f _=>hF.fn f,fun d hd=>(by rw[hF.depth]at hd;cases hd)⟩⟩;have h2:=callsIn_wide (n:=n).2 h;refine⟨hF.fn f,fun cs _=>?_⟩;rw[e];exact h2.2 cs (room_wide _)
def LX:List MapEntry→Option (List Int)
 |[]=>some []
 |e::l=>match e.key,LX l with
  | .int .i64 n,some ks=>some (n::ks)
  |_,_=>none
def kG (h:ab) (b:Nat):Option (Option Nat):=match h.get b with
 |some (.cells [.map mb] f cp aE)=>aW (Nat.beq f b&&Nat.beq cp b&&Nat.ble aE b) (some mb)
 |_=>none
instance (ev:List MapEntry) (clock:Nat):Decidable (ox ev clock):=inferInstanceAs (Decidable (_∧_))
def QG (ks:List Int):Prop:=ks.length≤1099511627776∧(∀x∈ks,IntKind.i64.min≤x∧x≤IntKind.i64.max)∧ks.Nodup
instance (ks:List Int):Decidable (QG ks):=inferInstanceAs (Decidable (_∧_∧_))
def Io (h:ab):Option Nat→Option (List Int)
 |none=>some []
 |some r=>match h.get r with
  |some (.map ev clock)=>(LX ev).bind fun ks=>aW (decide (ox ev clock)&&decide (QG ks)) (some ks)
  |_=>none
def dE (ks:List Int):List Int:=ks.mergeSort fun x y=>decide (x≤y)
def QH (h:ab) (ks:List Int):Value×ab:=match ks with
 |[]=>(.slice none 0 0,h)
 |_::_=>(.slice (some ⟨h.size,0,some 1⟩) ks.length (ks.length+1),h.push (.cells ((dE ks).map (.int .i64)) h.size h.size 0))
def KH (Nz:List Nat) (args:List Value) (h:ab):Option (Value×ab):=match args with
 |[.func (.func k) a c]=>(match a.toList,c.toList with
  |[],[.pointer (some ⟨b,0,none⟩)]=>aW (jU k Nz) ((kG h b).bind fun mb=>(Io h mb).bind fun ks=>some (QH h ks))
  |_,_=>none)
 |_=>none
theorem sx {h:ab} {b:Nat} {mb:Option Nat} (hb:kG h b=some mb):∃aE,h.get b=some (.cells [.map mb] b b aE)∧aE≤b:=by
 unfold kG at hb;split at hb
 ·rename_i Yf f cp aE hg;simp only[ae,Bool.and_eq_true,beq_iff,ax,Option.some.injEq]at hb;obtain⟨⟨⟨rfl,rfl⟩,ht⟩,rfl⟩:=hb;exact⟨aE,hg,ht⟩
 ·cases hb
theorem bX.born {μ:aS} {ev RO:List MapEntry} (h:bX μ ev RO):RO.map (·.born)=ev.map (·.born):=by
 induction h with
 |nil=>rfl
 |cons _ _ hb _ ih=>simp[hb,ih]
def TN (l:List Nat) (gs:List (Nat×List Nat)):FuncId→List Value→ab→Option (Value×ab):=fun g args h=>match jU g l with
 |true=>(match args with|[]=>some (.bool true,h)|_=>none)
 |false=>match look gs g with
  |some Nz=>KH Nz args h
  |none=>none
section
variable {E:Env}
theorem xI (ks:List Int):(dE ks).length=ks.length:=by simp[dE]
end
end Go.M
namespace Go.M
open Go
theorem rC {b:Bool} {A B:Prop} (hA:b=true→A) (hB:b=false→B):(match(generalizing:=false) b with|true=>A|false=>B):=by
 cases b with
 |true=>exact hA rfl
 |false=>exact hB rfl
theorem rD {b:Bool} {A B:Prop} (hA:b=false→A) (hB:b=true→B):(match(generalizing:=false) !b with|true=>A|false=>B):=by
 cases b with
 |true=>exact hB rfl
 |false=>exact hA rfl
@[reducible] def RR (r0:TV) (c0:Nat) (o0:Ob):TV→Ob→Nat→Prop:=fun r o c=>r=r0∧c=c0∧o=o0
theorem D6 {a b:Bool} (h:a=b):Value.bool a=Value.bool b:=congrArg _ h
theorem iF {α:Type} {enc:α→List TV} {l:List α} {n:Nat} {K:List TV→Prop} (h:n<l.length) (hK:K (enc l[n])):∃e,(0≤(n:Int)∧(l.map enc)[(n:Int).toNat]? =some e)∧K e:=
 ⟨enc l[n],⟨om,by simp[h]⟩,hK⟩
theorem wrap_small (n:Nat) (h:n≤1099511627776):IntKind.i64.wrap ((n:Int)+1)=((n+1:Nat):Int):=by
 rw[IntWalk.i64_in _ om];rfl
theorem kf {α:Type} {f:α→List TV} {l:List α} {i:Nat}:((i:Int)<(((l.map f).length:Nat):Int))↔i<l.length:=by simp
theorem TP:∀b:Bool,(!b||b)=true
 |true=>rfl
 |false=>rfl
theorem Lz.int {k:IntKind} {a b:Int} (h:a=b):Lz (Value.int k a) (Value.int k b):=.of (congrArg _ h)
theorem Lz.wrap {n:Nat} (h:n≤1099511627776):Lz (Value.int .i64 (IntKind.i64.wrap ((n:Int)+1))) (Value.int .i64 ((n+1:Nat):Int)):=.of (congrArg _ (wrap_small n h))
def NA:List Nat:=[0,1,2,3,4,5,6,7,8,9,10,11,12,13,14,15,16,17,18,19,20,21,22,23,24,25,26,27,28,29,30,31,32,33,34,35,36,37,38,39,40]
def zl (n:Nat) (K:Nat→Prop) (l:List Nat):Prop:=@List.rec Nat (fun _=>Prop) (K n) (fun k _ ih=>match Nat.beq n k with|true=>K k|false=>ih) l
theorem vq (n:Nat) (K:Nat→Prop):∀l,zl n K l=K n
 |[]=>rfl
 |k::l=>by
  show(match Nat.beq n k with|true=>K k|false=>zl n K l)=K n;cases h:Nat.beq n k with
  |true=>rw[beq_iff.1 h]
  |false=>exact vq n K l
def aQ (n:Nat) (K:Nat→Prop):Prop:=zl n K NA
theorem cy (n:Nat):aQ n=fun K=>K n:=by funext K;exact vq n K _
def iT (v:TV) (K:TV→Prop):Prop:=match v with
 | .j=>K .j
 | .s v=>K (.s v)
 | .sl z es fl=>aQ z fun z=>K (.sl z es fl)
 | .tk n=>aQ n fun n=>K (.tk n)
 | .ptr n o=>aQ n fun n=>aQ o fun o=>K (.ptr n o)
 | .ep e o=>aQ o fun o=>K (.ep e o)
 | .wp n i o=>aQ n fun n=>aQ o fun o=>K (.wp n i o)
 | .mp n=>aQ n fun n=>K (.mp n)
 | .bg n len=>aQ n fun n=>K (.bg n len)
 | .sv n i=>aQ n fun n=>K (.sv n i)
 | .pv n k=>aQ n fun n=>K (.pv n k)
 | .agg cs=>K (.agg cs)
 | .dH cs=>K (.dH cs)
 | .k9 t v=>K (.k9 t v)
 | .de g a c=>K (.de g a c)
 | .own y=>K (.own y)
theorem kW (v:TV):iT v=fun K=>K v:=by funext K;cases v<;>simp[iT,cy]
def fG (F:TV→(TV→Prop)→Prop) (l:List TV):(List TV→Prop)→Prop:=@List.rec TV (fun _=>(List TV→Prop)→Prop) (fun K=>K []) (fun v _ ih K=>F v fun v=>ih fun l=>K (v::l)) l
theorem fL {F:TV→(TV→Prop)→Prop} (hF:∀v,F v=fun K=>K v):∀l,fG F l=fun K=>K l
 |[]=>rfl
 |v::l=>by
  have ih:=fL hF l
  funext K
  show F v (fun v=>fG F l fun l=>K (v::l))=K (v::l);rw[hF,ih]
def nb (v:TV) (K:TV→Prop):Prop:=match v with
 | .j=>K .j
 | .s v=>K (.s v)
 | .sl z es fl=>aQ z fun z=>K (.sl z es fl)
 | .tk n=>aQ n fun n=>K (.tk n)
 | .ptr n o=>aQ n fun n=>aQ o fun o=>K (.ptr n o)
 | .ep e o=>aQ o fun o=>K (.ep e o)
 | .wp n i o=>aQ n fun n=>aQ o fun o=>K (.wp n i o)
 | .mp n=>aQ n fun n=>K (.mp n)
 | .bg n len=>aQ n fun n=>K (.bg n len)
 | .sv n i=>aQ n fun n=>K (.sv n i)
 | .pv n k=>aQ n fun n=>K (.pv n k)
 | .agg cs=>fG iT cs fun cs=>K (.agg cs)
 | .dH cs=>K (.dH cs)
 | .k9 t v=>K (.k9 t v)
 | .de g a c=>fG iT a fun a=>fG iT c fun c=>K (.de g a c)
 | .own y=>K (.own y)
theorem nS (v:TV):nb v=fun K=>K v:=by funext K;cases v<;>simp[nb,cy,fL kW]
def jN (v:TV) (K:TV→Prop):Prop:=match v with
 | .j=>K .j
 | .s v=>K (.s v)
 | .sl z es fl=>aQ z fun z=>K (.sl z es fl)
 | .tk n=>aQ n fun n=>K (.tk n)
 | .ptr n o=>aQ n fun n=>aQ o fun o=>K (.ptr n o)
 | .ep e o=>aQ o fun o=>K (.ep e o)
 | .wp n i o=>aQ n fun n=>aQ o fun o=>K (.wp n i o)
 | .mp n=>aQ n fun n=>K (.mp n)
 | .bg n len=>aQ n fun n=>K (.bg n len)
 | .sv n i=>aQ n fun n=>K (.sv n i)
 | .pv n k=>aQ n fun n=>K (.pv n k)
 | .agg cs=>fG iT cs fun cs=>K (.agg cs)
 | .dH cs=>fG nb cs fun cs=>K (.dH cs)
 | .k9 t v=>nb v fun v=>K (.k9 t v)
 | .de g a c=>fG iT a fun a=>fG iT c fun c=>K (.de g a c)
 | .own y=>K (.own y)
theorem FD (v:TV):jN v=fun K=>K v:=by funext K;cases v<;>simp[jN,cy,fL kW,fL nS,nS]
def C3 (q:List (Nat×List TV)):(List (Nat×List TV)→Prop)→Prop:=@List.rec (Nat×List TV) (fun _=>(List (Nat×List TV)→Prop)→Prop) (fun K=>K []) (fun p _ ih K=>fG iT p.2 fun x=>ih fun l=>K ((p.1,x)::l)) q
theorem xJ:∀q,C3 q=fun K=>K q
 |[]=>rfl
 |p::q=>by
  have ih:=xJ q
  funext K
  show fG iT p.2 (fun x=>C3 q fun l=>K ((p.1,x)::l))=K (p::q);rw[fL kW,ih]
def zm (q:List (Value×TV)):(List (Value×TV)→Prop)→Prop:=@List.rec (Value×TV) (fun _=>(List (Value×TV)→Prop)→Prop) (fun K=>K []) (fun p _ ih K=>nb p.2 fun x=>ih fun l=>K ((p.1,x)::l)) q
theorem rE:∀q,zm q=fun K=>K q
 |[]=>rfl
 |p::q=>by
  have ih:=rE q
  funext K
  show nb p.2 (fun x=>zm q fun l=>K ((p.1,x)::l))=K (p::q);rw[nS,ih]
def nd (x:TO) (K:TO→Prop):Prop:=match x with
 | .cells cs=>fG iT cs fun cs=>K (.cells cs)
 | .map kd es=>aQ kd fun kd=>K (.map kd es)
 | .arr z w es=>aQ z fun z=>match w with|true=>K (.arr z true es)|false=>K (.arr z false es)
 | .cm z es op=>aQ z fun z=>C3 op fun op=>K (.cm z es op)
 | .eC kd es op=>aQ kd fun kd=>zm op fun op=>K (.eC kd es op)
 | .gK ks=>K (.gK ks)
theorem FE (x:TO):nd x=fun K=>K x:=by
 funext K
 cases x with
 |cells cs=>simp[nd,fL kW]
 |map kd es=>simp[nd,cy]
 |arr z w es=>cases w<;>simp[nd,cy]
 |cm z es op=>simp[nd,cy,xJ]
 |eC kd es op=>simp[nd,cy,rE]
 |gK ks=>rfl
def lR (o:Ob):(Ob→Prop)→Prop:=@List.rec (Nat×TO) (fun _=>(Ob→Prop)→Prop) (fun K=>K []) (fun p _ ih K=>aQ p.1 fun n=>nd p.2 fun x=>ih fun l=>K ((n,x)::l)) o
theorem rF:∀o,lR o=fun K=>K o
 |[]=>rfl
 |p::o=>by
  have ih:=rF o
  funext K
  show aQ p.1 (fun n=>nd p.2 fun x=>lR o fun l=>K ((n,x)::l))=K (p::o);rw[cy,FE,ih]
def zn (q:List (Nat×List TV)):(List (Nat×List TV)→Prop)→Prop:=@List.rec (Nat×List TV) (fun _=>(List (Nat×List TV)→Prop)→Prop) (fun K=>K []) (fun p _ ih K=>aQ p.1 fun k=>fG nb p.2 fun x=>ih fun l=>K ((k,x)::l)) q
theorem vt:∀q,zn q=fun K=>K q
 |[]=>rfl
 |p::q=>by
  have ih:=vt q
  funext K
  show aQ p.1 (fun k=>fG nb p.2 fun x=>zn q fun l=>K ((k,x)::l))=K (p::q);rw[cy,fL nS,ih]
def kg (x:TO) (K:TO→Prop):Prop:=match x with
 | .cells cs=>fG iT cs fun cs=>K (.cells cs)
 | .map kd es=>aQ kd fun kd=>K (.map kd es)
 | .arr z w es=>aQ z fun z=>match w with|true=>K (.arr z true es)|false=>K (.arr z false es)
 | .cm z es op=>aQ z fun z=>zn op fun op=>K (.cm z es op)
 | .eC kd es op=>aQ kd fun kd=>zm op fun op=>K (.eC kd es op)
 | .gK ks=>K (.gK ks)
theorem C4 (x:TO):kg x=fun K=>K x:=by
 funext K
 cases x with
 |cells cs=>simp[kg,fL kW]
 |map kd es=>simp[kg,cy]
 |arr z w es=>cases w<;>simp[kg,cy]
 |cm z es op=>simp[kg,cy,vt]
 |eC kd es op=>simp[kg,cy,rE]
 |gK ks=>rfl
def Ip (o:Ob):(Ob→Prop)→Prop:=@List.rec (Nat×TO) (fun _=>(Ob→Prop)→Prop) (fun K=>K []) (fun p l _ K=>aQ p.1 fun n=>kg p.2 fun x=>lR l fun l=>K ((n,x)::l)) o
theorem FG:∀o,Ip o=fun K=>K o
 |[]=>rfl
 |p::o=>by
  funext K
  show aQ p.1 (fun n=>kg p.2 fun x=>lR o fun l=>K ((n,x)::l))=K (p::o);rw[cy,C4,rF]
def strict (l:VL) (v:TV) (o:Ob) (c:Nat) (K:TV→Ob→Nat→Prop):Prop:=match l with
 | .pure=>jN v fun v=>K v o c
 | .alloc=>jN v fun v=>Ip o fun o=>aQ c fun c=>K v o c
 | .DB=>jN v fun v=>K v o c
 | .jR _=>jN v fun v=>lR o fun o=>aQ c fun c=>K v o c
 | .wx _ _ _=>jN v fun v=>lR o fun o=>aQ c fun c=>K v o c
 | .ck _=>jN v fun v=>lR o fun o=>aQ c fun c=>K v o c
 | .mi _=>jN v fun v=>lR o fun o=>aQ c fun c=>K v o c
 | .mj=>jN v fun v=>lR o fun o=>aQ c fun c=>K v o c
 | .bad=>jN v fun v=>K v o c
theorem xK (l:VL) (v:TV) (o:Ob) (c:Nat):strict l v o c=fun K=>K v o c:=by
 funext K;cases l<;>simp[strict,FD,rF,FG,cy]
def vu (E:Env) (vc:Gq) (n:Nat) (ops:List Oper) (l:List Oper):Fr→Ob→Nat→RK→Prop:=
 @List.rec Oper (fun _=>Fr→Ob→Nat→RK→Prop) (fun f o c K=>K f o c)
  (fun p _ ih f o c K=>mT ops p f
   (LB E vc p.op f o c fun v o' c' l=>strict l v o' c' fun v o' c'=>pV p.dst n v f fun f'=>ih f' o' c' K)
   (pV p.dst n (.dH []) f fun f'=>ih f' o c K)) l
theorem Iq (E:Env) (vc:Gq) (n:Nat) (ops:List Oper):∀(l:List Oper) f o c K,vu E vc n ops l f o c K=Aw E vc n ops l f o c K:=by
 intro l
 induction l with
 |nil=>intro f o c K;rfl
 |cons p rest ih=>
  intro f o c K;have e:(fun f' o' c' (K:RK)=>vu E vc n ops rest f' o' c' K)=fun f' o' c' K=>Aw E vc n ops rest f' o' c' K:=by funext a b d e;exact ih a b d e
  show mT ops p f (LB E vc p.op f o c fun v o' c' l=>strict l v o' c' fun v o' c'=>pV p.dst n v f fun f'=>(fun f' o' c' (K:RK)=>vu E vc n ops rest f' o' c' K) f' o' c' K) (pV p.dst n (.dH []) f fun f'=>(fun f' o' c' (K:RK)=>vu E vc n ops rest f' o' c' K) f' o c K)=_;rw[e];simp only[xK];rfl
def pb (E:Env) (vc:Gq) (n:Nat) (ops:List Oper) (l:List Oper):Fr→Ob→Nat→List VN→(List VN→RK)→Prop:=
 @List.rec Oper (fun _=>Fr→Ob→Nat→List VN→(List VN→RK)→Prop) (fun f o c lg K=>K lg f o c)
  (fun p _ ih f o c lg K=>mT ops p f
   (LB E vc p.op f o c fun v o' c' l=>strict l v o' c' fun v o' c'=>pV p.dst n v f fun f'=>ih f' o' c' (lg++[(l,o)]) K)
   (pV p.dst n (.dH []) f fun f'=>ih f' o c (lg++[(.pure,o)]) K)) l
theorem FH (E:Env) (vc:Gq) (n:Nat) (ops:List Oper):∀(l:List Oper) f o c lg K,pb E vc n ops l f o c lg K=pW E vc n ops l f o c lg K:=by
 intro l
 induction l with
 |nil=>intro f o c lg K;rfl
 |cons p rest ih=>
  intro f o c lg K;have e:(fun f' o' c' lg (K:List VN→RK)=>pb E vc n ops rest f' o' c' lg K)=fun f' o' c' lg K=>pW E vc n ops rest f' o' c' lg K:=by funext a b d g e;exact ih a b d g e
  show mT ops p f (LB E vc p.op f o c fun v o' c' l=>strict l v o' c' fun v o' c'=>pV p.dst n v f fun f'=>(fun f' o' c' lg (K:List VN→RK)=>pb E vc n ops rest f' o' c' lg K) f' o' c' (lg++[(l,o)]) K) (pV p.dst n (.dH []) f fun f'=>(fun f' o' c' lg (K:List VN→RK)=>pb E vc n ops rest f' o' c' lg K) f' o c (lg++[(.pure,o)]) K)=_;rw[e];simp only[xK];rfl
structure xL (b:Bool) (K:Prop):Prop where
 ok:b=true
 go:K
theorem Ir (b:Bool) (K:Prop):xL b K=(match(generalizing:=false) b with|true=>K|false=>False):=by
 cases b with
 |true=>exact propext ⟨fun h=>h.go,fun h=>⟨rfl,h⟩⟩
 |false=>exact propext (Iff.intro (fun h=>by cases h.ok) (fun h=>False.elim h))
abbrev WP:=Fr→Ob→Nat→CK→Prop
def B2 (E:Env) (vc:Gq) (n c0:Nat) (c5:List Nat) (code:Code):WP:=
 @Code.rec (fun _=>WP)
  (fun f o c Q=>Q .normal f o c)
  (fun _ ops draw f o c Q=>(match draw with
  |false=>vu E vc n ops.toList ops.toList f o c fun f' o' c'=>Q .normal f' o' c'
  |true=>xL (dY ops.toList&&dM n ops.toList) (pb E vc n ops.toList ops.toList f o c [] fun lg f' o' c'=>xL (eF (a6 ops.toList []) o' 0 lg) (Q .normal f' o' c'))))
  (fun _ _ Qv Qw f o c Q=>Qv f o c fun ex f' o' c'=>(match ex with
  | .normal=>Qw f' o' c' Q
  | .exit id=>Q (.exit id) f' o' c'
  | .ret=>Q .ret f' o' c'))
  (fun q _ _ Qx Qy f o c Q=>(match oZ E q with
  |false=>False
  |true=>(match ky E f q with
   | .s (.bool b)=>(match b with
    |true=>Qx f o c Q
    |false=>Qy f o c Q)
   |_=>False)))
  (fun id _ ih f o c Q=>(match jU id c5 with
  |false=>ih f o c fun ex f' o' c'=>(match ex with
   | .exit jl=>(match Nat.beq jl id with
    |true=>Q .normal f' o' c'
    |false=>Q (.exit jl) f' o' c')
   | .normal=>Q .normal f' o' c'
   | .ret=>Q .ret f' o' c')
  |true=>∃Gr:RK,(ih f o c fun ex f' o' c'=>(match ex with
   | .exit jl=>(match Nat.beq jl id with
    |true=>gS c0 f' o' c' Gr
    |false=>Q (.exit jl) f' o' c')
   | .normal=>gS c0 f' o' c' Gr
   | .ret=>Q .ret f' o' c'))∧∀f' o' c',Gr f' o' c'→Q .normal f' o' c'))
  (fun _ ih f o c Q=>(match jU 999999 c5 with
  |false=>∃Inv:Nat→Fr→Ob→Nat→Prop,(∃k,gS c0 f o c (Inv k))∧
   ∀k f1 o1 c1,Inv k f1 o1 c1→ih f1 o1 c1 fun ex f' o' c'=>(match ex with
    | .normal=>∃k',gS c0 f' o' c' (Inv k')∧k'<k
    | .exit id=>Q (.exit id) f' o' c'
    | .ret=>Q .ret f' o' c')
  |true=>xg (fun f o c Q=>ih f o c Q) 64 f o c Q))
  (fun _ _ _ _ _ _ _ _ _ _=>False)
  (fun id f o c Q=>Q (.exit id) f o c)
  (fun _ _ _ _ _ _=>False)
  (fun _ _ _ _ _=>False)
  (fun _ _ _ _ _=>False)
  (fun f o c Q=>Q .ret f o c)
  (fun _ _ _ _ _=>False) code
theorem NB (E:Env) (vc:Gq) (n c0:Nat) (c5:List Nat):∀(code:Code) f o c Q,B2 E vc n c0 c5 code f o c Q=wp E vc n c0 c5 code f o c Q:=by
 intro code
 induction code with
 |region id ops draw=>
  intro f o c Q;have e1:(fun K=>vu E vc n ops.toList ops.toList f o c K)=fun K=>Aw E vc n ops.toList ops.toList f o c K:=by funext K;exact Iq ..
  have e2:(fun lg K=>pb E vc n ops.toList ops.toList f o c lg K)=fun lg K=>pW E vc n ops.toList ops.toList f o c lg K:=by funext lg K;exact FH ..
  show(match draw with
  |false=>(fun K=>vu E vc n ops.toList ops.toList f o c K) fun f' o' c'=>Q .normal f' o' c'
  |true=>xL (dY ops.toList&&dM n ops.toList) ((fun lg K=>pb E vc n ops.toList ops.toList f o c lg K) [] fun lg f' o' c'=>xL (eF (a6 ops.toList []) o' 0 lg) (Q .normal f' o' c')))=_
  rw[e1,e2];simp only[Ir];cases draw<;>rfl
 |seq a b Qv Qw=>
  intro f o c Q;have e1:(fun f o c Q=>B2 E vc n c0 c5 a f o c Q)=fun f o c Q=>wp E vc n c0 c5 a f o c Q:=by funext f o c Q;exact Qv ..
  have e2:(fun f o c Q=>B2 E vc n c0 c5 b f o c Q)=fun f o c Q=>wp E vc n c0 c5 b f o c Q:=by funext f o c Q;exact Qw ..
  show((fun f o c Q=>B2 E vc n c0 c5 a f o c Q) f o c fun ex f' o' c'=>(match ex with
  | .normal=>(fun f o c Q=>B2 E vc n c0 c5 b f o c Q) f' o' c' Q
  | .exit id=>Q (.exit id) f' o' c'
  | .ret=>Q .ret f' o' c'))=_
  rw[e1,e2];rfl
 |cond q t e Qx Qy=>
  intro f o c Q;have e1:(fun f o c Q=>B2 E vc n c0 c5 t f o c Q)=fun f o c Q=>wp E vc n c0 c5 t f o c Q:=by funext f o c Q;exact Qx ..
  have e2:(fun f o c Q=>B2 E vc n c0 c5 e f o c Q)=fun f o c Q=>wp E vc n c0 c5 e f o c Q:=by funext f o c Q;exact Qy ..
  show(match oZ E q with
  |false=>False
  |true=>(match ky E f q with
   | .s (.bool b)=>(match b with
    |true=>(fun f o c Q=>B2 E vc n c0 c5 t f o c Q) f o c Q
    |false=>(fun f o c Q=>B2 E vc n c0 c5 e f o c Q) f o c Q)
   |_=>False))=_
  rw[e1,e2];rfl
 |block id b ih=>
  intro f o c Q;have e1:(fun f o c Q=>B2 E vc n c0 c5 b f o c Q)=fun f o c Q=>wp E vc n c0 c5 b f o c Q:=by funext f o c Q;exact ih ..
  show(match jU id c5 with
  |false=>(fun f o c Q=>B2 E vc n c0 c5 b f o c Q) f o c fun ex f' o' c'=>(match ex with
   | .exit jl=>(match Nat.beq jl id with
    |true=>Q .normal f' o' c'
    |false=>Q (.exit jl) f' o' c')
   | .normal=>Q .normal f' o' c'
   | .ret=>Q .ret f' o' c')
  |true=>∃Gr:RK,((fun f o c Q=>B2 E vc n c0 c5 b f o c Q) f o c fun ex f' o' c'=>(match ex with
   | .exit jl=>(match Nat.beq jl id with
    |true=>gS c0 f' o' c' Gr
    |false=>Q (.exit jl) f' o' c')
   | .normal=>gS c0 f' o' c' Gr
   | .ret=>Q .ret f' o' c'))∧∀f' o' c',Gr f' o' c'→Q .normal f' o' c')=_
  rw[e1];rfl
 |loop b ih=>
  intro f o c Q;have e1:(fun f o c Q=>B2 E vc n c0 c5 b f o c Q)=fun f o c Q=>wp E vc n c0 c5 b f o c Q:=by funext f o c Q;exact ih ..
  show(match jU 999999 c5 with
  |false=>∃Inv:Nat→Fr→Ob→Nat→Prop,(∃k,gS c0 f o c (Inv k))∧
   ∀k f1 o1 c1,Inv k f1 o1 c1→(fun f o c Q=>B2 E vc n c0 c5 b f o c Q) f1 o1 c1 fun ex f' o' c'=>(match ex with
    | .normal=>∃k',gS c0 f' o' c' (Inv k')∧k'<k
    | .exit id=>Q (.exit id) f' o' c'
    | .ret=>Q .ret f' o' c')
  |true=>xg (fun f o c Q=>B2 E vc n c0 c5 b f o c Q) 64 f o c Q)=_
  rw[e1];rfl
 |_=>intros;rfl
theorem VC.bo {E T:Env} (L:bV T E) {g:FuncId} {fn:Func} {code:Code} {c0:Nat} {args:List TV} {o0:Ob} {R:TV→Ob→Nat→Prop} (hf:E.func g=some fn) (ho:∀b a,E.mn b g a=fun _=>none) (hb:fn.body=some code) (hlen:Nat.ble args.length fn.ntmps=true)
 (c5:List Nat) (hw:B2 T (VC E) fn.ntmps c0 c5 code (si 0 args) o0 c0 (Ka T c0 fn.results.toList R)):VC E g c0 args o0 R:=
 VC.enter L hf ho hb hlen c5 (by rw[←NB];exact hw)
theorem D1 {b:Bool} {K:Prop} (k:K) (h:b=true:=by kernel_rfl):xL b K:=⟨h,k⟩
theorem LF {p:Prop} (h:p:=by first|with_reducible exact Lz.rfl|exact Lw.rfl|exact Lz.wrap om|(unfold goInt;with_reducible exact Lz.rfl)|exact TP _):p:=h
theorem cR {r0:TV} {c0:Nat} {o0:Ob} {Q:TV→Ob→Nat→Prop} (h:Q r0 o0 c0):∀r o c,RR r0 c0 o0 r o c→Q r o c:=by
 rintro r o c ⟨rfl,rfl,rfl⟩;exact h
theorem t3 {a b c:Prop} (h1:a:=by(repeat' first|with_reducible exact Lz.rfl|exact Lw.rfl|exact Lz.wrap om|(unfold goInt;with_reducible exact Lz.rfl)|exact TP _|constructor)) (h2:b:=by(repeat' first|with_reducible exact Lz.rfl|exact Lw.rfl|exact Lz.wrap om|(unfold goInt;with_reducible exact Lz.rfl)|exact TP _|constructor)) (h3:c:=by rfl):a∧b∧c:=⟨h1,h2,h3⟩
end Go.M
namespace Go.M
open Go Go.Proofs
theorem WW:IntKind.i64.wrap (0+1)=1:=rfl
theorem WX:IntKind.i64.wrap (1+1)=2:=rfl
theorem WY:IntKind.i64.wrap (2+1)=3:=rfl
theorem WZ:IntKind.i64.wrap (3+1)=4:=rfl
theorem W2:IntKind.i64.wrap (4+1)=5:=rfl
theorem W4:IntKind.i64.wrap (5+1)=6:=rfl
theorem W5:IntKind.i64.wrap (6+1)=7:=rfl
theorem W6:IntKind.i64.wrap (7+1)=8:=rfl
theorem W7:IntKind.i64.wrap (8+1)=9:=rfl
theorem W8:IntKind.i64.wrap (9+1)=10:=rfl
theorem W9:IntKind.i64.wrap (10+1)=11:=rfl
theorem Xa:IntKind.i64.wrap (11+1)=12:=rfl
theorem Xb:IntKind.i64.wrap (12+1)=13:=rfl
theorem Xc:IntKind.i64.wrap (13+1)=14:=rfl
theorem Xd:IntKind.i64.wrap (14+1)=15:=rfl
theorem rn {p q:Prop} (k:q) (h:q→p:=by(intro hq;(repeat(first|(refine⟨by first|decide+kernel|(dsimp only;decide+kernel),?_⟩;have iU:=True.intro;clear iU;((conv=>whnf)<;>repeat(with_reducible refine D1 ?_)<;>conv=>whnf))|(refine⟨_,rfl,?_⟩;have iU:=True.intro;clear iU;((conv=>whnf)<;>repeat(with_reducible refine D1 ?_)<;>conv=>whnf))|((try(first|rw[WW]|rw[WX]|rw[WY]|rw[WZ]|rw[W2]|rw[W4]|rw[W5]|rw[W6]|rw[W7]|rw[W8]|rw[W9]|rw[Xa]|rw[Xb]|rw[Xc]|rw[Xd]));first|(refine⟨fun h_=>?_,fun h_=>absurd (by first|decide+kernel|rfl |(dsimp only;decide+kernel)) h_⟩;clear h_;((conv=>whnf)<;>repeat(with_reducible refine D1 ?_)<;>conv=>whnf))|(refine⟨fun h_=>absurd h_ (by first|decide+kernel|(dsimp only;decide+kernel)),fun h_=>?_⟩;clear h_;((conv=>whnf)<;>repeat(with_reducible refine D1 ?_)<;>conv=>whnf)))));exact hq)):p:=h k
theorem wh {p q:Prop} (k:q) (h:q→p:=by(intro hq;((conv=>whnf)<;>repeat(with_reducible refine D1 ?_)<;>conv=>whnf);exact hq)):p:=h k
theorem sp {p a b:Prop} (ha:a) (hb:b) (h:a→b→p:=by(intro x y;first|exact⟨x,y⟩|exact rD x y|exact rC x y)):p:=h ha hb
theorem cw {r0:TV} {c0:Nat} {o0:Ob} {Q:TV→Ob→Nat→Prop} {q:Prop} (k:q) (h:q→Q r0 o0 c0:=by(intro hq;((conv=>whnf)<;>repeat(with_reducible refine D1 ?_)<;>conv=>whnf);exact hq)):∀r o c,RR r0 c0 o0 r o c→Q r o c:=cR (h k)
theorem tx {a b c q:Prop} (k:q) (h1:q→a:=by(intro hq;repeat' first|(clear hq;exact LF)|constructor|exact hq)) (h2:q→b:=by(intro hq;repeat' first|(clear hq;exact LF)|constructor|exact hq)) (h3:c:=by rfl):a∧b∧c:=⟨h1 k,h2 k,h3⟩
end Go.M
namespace Go.M
open Go Go.RowKit
def TQ (val:List Value→List Int→Option Value) (args:List Value) (h:ab):Option (Value×ab):=match args.reverse with
 | .slice (some ⟨b,0,some 1⟩) len cap::rp=>(match h.get b with
  |some (.gK cs)=>aW (Nat.beq len cs.length&&Nat.ble len cap&&Nat.blt 0 len&&rp.all scalar) ((val rp.reverse cs).bind fun v=>some (v,h))
  |_=>none)
 |_=>none
section
variable {E:Env}
end
end Go.M
namespace Go.M
open Go Go.RowKit Go.Maps Go.Sort Go.Shelf Go.Proofs
def TR (h:ab) (ks:List Int):Value×ab:=match ks with
 |[]=>(.slice none 0 0,h)
 |_::_=>(.slice (some ⟨h.size,0,some 1⟩) ks.length (ks.length+1),h.push (.gK ks))
def Is (Nz:List Nat) (args:List Value) (h:ab):Option (Value×ab):=match args with
 |[.func (.func k) a c]=>(match a.toList,c.toList with
  |[],[.pointer (some ⟨b,0,none⟩)]=>aW (jU k Nz) ((kG h b).bind fun mb=>(Io h mb).bind fun ks=>some (TR h ks))
  |_,_=>none)
 |_=>none
end Go.M
namespace Go.M
open Go Go.RowKit
section
variable {X:Cx} {ρ:Gh} {F:Nat→Prop} {o:Ob} {c:Nat} {h:ab}
end
section
variable {E:Env}
end
abbrev TT:=List Value→List Int→Option Value
def Xe (l:List Nat) (gs cs:List (Nat×List Nat)) (bs:List (Nat×TT)):FuncId→List Value→ab→Option (Value×ab):=fun g args h=>match look cs g with
 |some Nz=>Is Nz args h
 |none=>match look bs g with
  |some val=>TQ val args h
  |none=>TN l gs g args h
end Go.M
namespace Go.M
open Go
abbrev kX:=List (Nat×List Value)
def iV (P:Program) (l:kX) (mn:FuncId→List Value→ab→Option (Value×ab)):Env:={iz P mn with vY:=look l}
theorem vw (P:Program) (l:kX) (mn:FuncId→List Value→ab→Option (Value×ab)):aU P (iV P l mn):=
 let h:=PK P mn
 ⟨h.desc,h.size,h.bytes,h.zero,h.pq,h.func⟩
def QI (v v':Value):Prop:=(Cu v=false∧v'=v)∨(Cu v=true∧isIf v')
def xM (l:kX) (W:World):Prop:=∀g cs,look l g=some cs→∃c e fr,W.heap[g]? =some (.cells c e fr)∧cs.length≤c.size∧∀(i:Nat) v,cs[i]? =some v→∃v',c[i]? =some v'∧QI v v'
def ql (l:kX):Nat→ab
 |0=>tR
 |n+1=>(ql l n).push (.cells (match look l n with|some cs=>cs|none=>[]) n (n+1) 0)
def NC (l:kX) (n:Nat) (W:World):aS:=fun g=>match look l g,W.heap[g]?,Nat.blt g n with
 |some _,some (.cells c _ _),true=>some ⟨g,0,c.size⟩
 |_,_,_=>none
def oB (l:kX) (n:Nat):Bool:=l.all fun p=>Nat.blt p.1 n&&p.2.all (fun v=>wv v||Cu v)&&(match look l p.1 with|some cs=>dL cs p.2|none=>false)
def zo (l:kX) (h:ab):Bool:=l.all fun p=>match h.rd p.1,look l p.1 with|some cs,some cs'=>dL cs cs'|_,_=>false
section
variable {P:Program} {l:kX} {n:Nat} {W:World}
theorem dT:∀n,(ql l n).size=n
 |0=>rfl
 |n+1=>by rw[ql,ab.size_push,dT n]
theorem kY:∀n b,(ql l n).get b=if b<n then some (.cells (match look l b with|some cs=>cs|none=>[]) b (b+1) 0)else none
 |0,b=>by simp;rfl
 |n+1,b=>by
  rw[ql,ab.ai,dT n,kY n b];by_cases e:b=n
  ·subst e;simp
  ·rw[if_neg e];by_cases h:b<n
   ·rw[if_pos h,if_pos om]
   ·rw[if_neg h,if_neg om]
theorem vx {α:Type} {l:List (Nat×α)} {g:Nat} {x:α} (h:look l g=some x):(g,x)∈l:=by
 induction l with
 |nil=>simp[look]at h
 |cons p l ih=>
  unfold look at h;split at h
  ·rename_i hb;cases h;rw[beq_iff]at hb;subst hb;exact List.mem_cons_self
  ·exact List.mem_cons_of_mem _ (ih h)
theorem qm (hB:oB l n=true) {g:Nat} {cs:List Value} (h:look l g=some cs):g<n∧cs.all (fun v=>wv v||Cu v)=true:=by
 have:=List.all_eq_true.1 hB _ (vx h);simp only[Bool.and_eq_true,aF]at this;exact⟨this.1.1,this.1.2⟩
theorem sy {v:Value} (h:wv v=true):ar v=true:=by
 unfold wv at h;simp only[Bool.and_eq_true]at h;exact h.1
theorem Vi (hB:oB l n=true) (hW:xM l W):AR W (NC l n W) (ql l n):=by
 have key:∀{b m},NC l n W b=some m→∃cs c e fr,look l b=some cs∧W.heap[b]? =some (.cells c e fr)∧b<n∧m=⟨b,0,c.size⟩:=by
  intro b m h;unfold NC at h;split at h
  ·rename_i cs c e fr h1 h2 h3;cases h;exact⟨cs,c,e,fr,h1,h2,aF.1 h3,rfl⟩
  ·cases h
 refine⟨fun b hb=>?_,fun b hb=>?_,fun b m hb=>?_,fun b m hb=>?_⟩
 ·rw[dT]at hb;rw[kY,if_neg om]
 ·rw[dT]at hb;rw[kY,if_pos hb];exact⟨_,rfl⟩
 ·obtain⟨cs,c,e,fr,h1,h2,h3,rfl⟩:=key hb;rw[dT];exact h3
 ·obtain⟨cs,c,e,fr,h1,h2,h3,rfl⟩:=key hb;obtain⟨c',e',Gm,q1,q2,q3⟩:=hW b cs h1;rw[h2]at q1;cases q1;refine⟨cs,c,e,fr,by rw[kY,if_pos h3,h1],h2,rfl,by simpa using q2,fun i v hv=>?_⟩;obtain⟨v',k1,k2⟩:=q3 i v hv;refine⟨v',by simpa using k1,?_⟩;have ht:=List.all_eq_true.1 (qm hB h1).2 v (List.mem_of_getElem? hv);simp only[Bool.or_eq_true]at ht;rcases k2 with⟨ho,rfl⟩|⟨ho,hi⟩
  ·rcases ht with ht|ht
   ·exact .lit (sy ht)
   ·rw[ho]at ht;cases ht
  ·cases v<;>simp[Cu]at ho;rename_i r;cases r with
   |none=>simp at ho
   |some n=>exact .ye hi
theorem Bi (hB:oB l n=true) (hW:xM l W) {E:Env} (hE:E.vY=look l) (g:Nat) (hg:E.cd g=true):∃m,NC l n W g=some m∧m.r=g∧m.s=0:=by
 unfold Env.cd at hg;rw[hE,Option.isSome_iff_exists]at hg;obtain⟨cs,h1⟩:=hg;obtain⟨c,e,fr,q1,q2,q3⟩:=hW g cs h1;refine⟨⟨g,0,c.size⟩,?_,rfl,rfl⟩;unfold NC;rw[h1,q1,aF.2 (qm hB h1).1]
theorem Bj {E:Env} (hE:E.vY=look l) {base B:Nat} {μ:aS} {h:ab} {w:World} (H:aM E base B μ h w) (hB:oB l n=true) (ht:zo l h=true):xM l w:=by
 intro g cs hg;obtain⟨m,q1,q2,q3⟩:=H.cd g (by unfold Env.cd;rw[hE,hg];rfl);have:=List.all_eq_true.1 ht _ (vx hg);simp only[hg]at this;split at this
 ·rename_i qJ UJ hr e;cases e;have ec:=nD this;subst ec;obtain⟨c,e,fr,k1,k2,k3,_,k5⟩:=H.read q1 hr;rw[q2]at k1;rw[q3]at k3 k5;refine⟨c,e,fr,k1,om,fun i v hv=>?_⟩;obtain⟨v',p1,p2⟩:=k5 i v hv;refine⟨v',by simpa using p1,?_⟩;have ht:=List.all_eq_true.1 (qm hB hg).2 v (List.mem_of_getElem? hv);simp only[Bool.or_eq_true]at ht;rcases ht with ht|ht
  ·have hp:=sy ht;refine .inl ⟨?_,?_⟩
   ·cases v<;>simp[Cu];rename_i r;cases r<;>simp[ar]at hp ⊢
   ·cases p2 with
    |lit h=>rfl
    |_=>simp[ar]at hp
  ·refine .inr ⟨ht,?_⟩;cases v<;>simp[Cu]at ht;rename_i r;cases r with
   |none=>simp at ht
   |some n=>
    cases p2 with
    |lit h=>simp[ar]at h
    |ye h=>exact h
 ·cases this
theorem FI {E:Env} (hE:E.vY=look l) {F:Nat→Prop} {h:ab} (hB:oB l n=true) (N:jI E F h):zo l h=true:=by
 refine List.all_eq_true.2 fun p hp=>?_;have:=List.all_eq_true.1 hB p hp;simp only[Bool.and_eq_true]at this;have h3:=this.2;split at h3
 ·rename_i cs hl;obtain⟨_,n2,_⟩:=N p.1 cs (by rw[hE];exact hl);rw[n2,hl];have e:=nD h3;rw[e]at h3 ⊢;exact h3
 ·cases h3
def C5 (P:Program) (l:kX) (g:FuncId):Prop:=∀(W:World) (F:Fence) (n:Nat),xM l W→c4 F→CallsIn F n P g #[] W fun e W'=>e= .returned (.bool true)∧Go.RowKit.Below W.heap.size W W'
noncomputable def RP (P:Program) (l:kX) (fs bs ps:List Nat) (n:Nat):FuncId→List Value→ab→Option (Value×ab):=fun g args h=>
 match fs.contains g with
 |true=>Ig (iV P l mO) n g args h
 |false=>match bs.contains g with
  |true=>Ij (iV P l mO) n g args h
  |false=>match ps.contains g with
   |true=>Im (iV P l mO) n g args h
   |false=>none
theorem FJ {base B:Nat}:eZ P (iV P l mO) base B:=fun μ h w g args args' v h' hr=>by
 have:(none:Option (Value×ab))=some (v,h'):=hr;cases this
theorem AR.LY {E:Env} {eo μ:aS} {h:ab} (A:AR W μ h) (hle:eo.le μ) (hg:∀g,E.cd g=true→∃m,eo g=some m∧m.r=g∧m.s=0):aM E h.size W.heap.size μ h W:=
 let H:=AR.px (E:=iz default mO) A (fun _=>rfl)
 ⟨H.dZ,H.high,H.obj,H.own,H.alias,H.cW,fun g h=>let⟨m,q1,q2⟩:=hg g h;⟨m,hle _ _ q1,q2⟩,H.low,H.jx,H.wf,H.root⟩
def Bk (l:kX) (aw:List Nat) (rest:FuncId→List Value→ab→Option (Value×ab)):FuncId→List Value→ab→Option (Value×ab):=fun g args h=>
 match jU g aw,args,zo l h with
 |true,[],true=>some (.bool true,h)
 |_,_,_=>rest g args h
theorem KI {aw:List Nat} {rest:FuncId→List Value→ab→Option (Value×ab)} (hB:oB l n=true) (ha:∀g∈aw,C5 P l g) (hr:∀base B,eZ P (iz P rest) base B) (base B:Nat):eZ P (iV P l (Bk l aw rest)) base B:=by
 intro μ h w g args args' v h' hc hv H F k hF;have jW:Bk l aw rest g args h=some (v,h'):=hc;unfold Bk at jW;split at jW
 ·rename_i h1 h2;cases jW;have:args'= #[]:=by
   have:=hv.length;simpa using this.symm
  subst this;refine(ha g (qi h1) w F k (Bj (E:=iV P l (Bk l aw rest)) rfl H hB h2) hF).mono ?_;rintro e W' ⟨rfl,hb⟩;exact⟨_,μ,rfl,.lit rfl,⟨H.ext hb.size fun r hr=>hb.block r hr,⟨hb.tape,hb.os,hb.output,hb.size,fun r hr _=>hb.block r hr⟩,μ.le_refl,fun b m h0 h1=>(by rw[h0]at h1;cases h1),fun _ _ _=>rfl,Nat.le_refl _⟩⟩
 ·have H2:aM (iz P rest) base B μ h w:=⟨H.dZ,H.high,H.obj,H.own,H.alias,H.cW,fun g hg=>by simp[Env.cd,iz]at hg,H.low,H.jx,H.wf,H.root⟩
  exact(hr base B μ h w g _ args' v h' jW hv H2 F k hF).mono fun e w' ⟨v',az,h1,h2,h3⟩=>
   ⟨v',az,h1,h2,⟨h3.rel.dZ,h3.rel.high,h3.rel.obj,h3.rel.own,h3.rel.alias,h3.rel.cW,fun g hg=>let⟨m,q1,q2⟩:=H.cd g hg;⟨m,h3.le _ _ q1,q2⟩,h3.rel.low,h3.rel.jx,h3.rel.wf,h3.rel.root⟩,h3.grow,h3.le,h3.new,h3.zC,h3.cI⟩
end
section
open Go.ChangeShapes Go.WideShapes
variable {H:Type} {enc:TypeId×Value→H} {P:Program} {W:World} {base:Nat} {held:Bool}
theorem FK {l:kX} {n:Nat} {E:Env} {g:FuncId} {D2:List sw} {ts:List TypeId} {args:Array Value} {ds:List (DataW H)} {ps:List MemPlace} {base':Nat} {r:Reach} (hE:aU P E) (hO:∀base B,eZ P E base B) (hm:P.follows .mixedOrders=true)
 (hT:E.vY=look l) (TU:oB l n=true) (Vj:xM l W)
 (hB:xE P ts D2=true) (hD:DataW.TrodAll enc P W base (fun _=>true) held ts args.toList ds ps) (hv:∀(j:Nat) t v,ts[j]? =some t→args[j]? =some v→Value.okWide P W r base' t v) (hz:∀x∈DataW.weightsEach P ts ds,x≤reachBytes)
 (hc:∀xC,Bf D2 xC→VC E g 0 xC [] fun r _ _=>r= .s (.bool true)):Calls P g args W fun e W'=>e= .returned (.bool true)∧Go.RowKit.Below W.heap.size W W':=by
 obtain⟨μ,h,xC,LU,A,hle,pj,f,r,x⟩:=xF hB hD (fun j t v a b=>hv j t v a (by simpa using b)) hz _ _ (Vi TU Vj);have hN:jI E (· <h.size) h:=fun g cs hg=>by
  rw[hT]at hg;obtain⟨h1,h2⟩:=qm TU hg;have hs:=pj.1;rw[dT]at hs;refine⟨om,A.rd (cs:=cs) ?_,trivial⟩;rw[pj.2 g (by rw[dT];exact h1),kY,if_pos h1,hg]
 obtain⟨k,v,h',ρ',F',r',o',c',h1,rfl,h3,h4⟩:=hc xC f h.size qR _ h _ LU hN A.mem (AR.mo) r;obtain⟨rfl,_⟩:=h4.cM;have:=Ao hE (hO h.size W.heap.size) hm k μ h W g LU args _ h' h1 x (A.LY hle (Bi TU Vj hT)) Fence.wide 0 c4.wide;refine(callsIn_wide.1 (this.mono ?_));rintro e W' ⟨v',az,rfl,hv,S⟩;have e:=hv.an rfl;subst e;exact⟨rfl,S.grow.os,S.grow.tape,S.grow.output,S.grow.size,fun k hk=>S.grow.bf k hk fun b m hb _=>A.dZ b m hb⟩
end
section
variable {E:Env} {base:Nat}
end
end Go.M
end
