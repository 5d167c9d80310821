/-
  Part 13 of the library that the proof leans on.
-/
import Derived.Test.YthaboieeoopmjaaGreatDoorL12
import Derived.Test.YthaboieeoopmjaaGreatDoorProg
import Derived.Shelf.SortM.Plain
import Derived.Shelf.SortM.SortNone
import Derived.KernelRfl
namespace Go.M.Small
open Go Go.Proofs Go.M
set_option maxRecDepth 100000
noncomputable def E0:=ew Tryz.prog (LR [] [])
noncomputable def T0:=tE E0 []
theorem Ps:[].all (Ff E0)=true:=by kernel_rfl
theorem L0:ct T0 E0:=aaq (fun t z h=>by
 simp only[E0,ew,Option.bind_eq_some_iff,aj,Option.some.injEq]at h;obtain⟨i,h1,z',h2,h3,rfl⟩:=h;exact h3) Ps
@[reducible] def encI (n:Int):List TV:=[.s (.int .i64 n)]
def least:List Int→Int→Int
 |[],m=>m
 |x::l,m=>least l (if x<m then x else m)
def pA (L:List Int) (i:Nat):Int:=least ((L.take i).drop 1) (L.headD 0)
theorem yL:∀(l:List Int) (m y:Int),least (l++[y]) m=if y<least l m then y else least l m
 |[],_,_=>rfl
 |_::l,_,y=>yL l _ y
theorem Fu (L:List Int) (i:Nat) (h1:1≤i) (h:i<L.length):pA L (i+1)=if L[i]<pA L i then L[i]else pA L i:=by
 unfold pA;rw[List.take_succ_eq_append_getElem h,List.drop_append_of_le_length (by simp;omega),yL]
theorem WU (L:List Int) (h0:0<L.length) (hl:L.length≤1000000):VC E0 213 0 [.sl 1 (L.map encI) false] [] (fun r _ _=>r= .s (.int .i64 (pA L L.length))):=by
 refine en L0 Tryz.f213 ?_;refine sp ?_ ?_<;>intro h
 ·exact absurd h (by simp;omega)
 ·refine wh ?_;refine jg h0 ?_;refine wh ?_;refine⟨fun k f o c=>∃i:Nat,1≤i∧i≤L.length∧k=L.length - i∧c=0∧f=[(0,.sl 1 (L.map encI) false),(3,.s (.int .i64 (pA L i))),(4,.s (.int .i64 i))]∧o=[],⟨L.length - 1,?_⟩,?_⟩
  ·refine⟨[],[],?_⟩
   iterate 3 constructor
   refine⟨⟨?_,?_,?_⟩,⟨1,Nat.le_refl _,h0,rfl,rfl,rfl,rfl⟩⟩
   all_goals(repeat' first|exact LF|constructor)
   all_goals(refine Lz.int ?_;cases L with
    |nil=>simp at h0
    |cons x l=>rfl)
  ·rintro k f1 o1 c1 ⟨i,h1,hi,rfl,rfl,rfl,rfl⟩;refine wh ?_;refine sp ?_ ?_<;>intro h
   ·have h:=fW.1 h;refine wh ?_;refine jg h ?_;refine wh ?_;refine⟨L.length - (i+1),?_,om⟩;refine⟨[],[],?_⟩
    iterate 3 constructor
    refine⟨⟨?_,?_,?_⟩,⟨i+1,om,h,rfl,rfl,rfl,rfl⟩⟩
    all_goals(repeat' first|exact LF|constructor)
    all_goals(refine Lz.int ?_;rw[Fu L i h1 h])
   ·have h:=mt fW.2 h;refine wh ?_;have e:i=L.length:=by omega
    subst e;exact⟨[],[],_,_,_,t3,rfl⟩
theorem least_le:∀(l:List Int) (m:Int),least l m≤m∧(∀x∈l,least l m≤x)∧(least l m=m∨least l m∈l)
 |[],m=>⟨Int.le_refl _,by simp,.inl rfl⟩
 |x::l,m=>by
  obtain⟨h1,h2,h3⟩:=least_le l (if x<m then x else m);have e:least (x::l) m=least l (if x<m then x else m):=rfl;refine⟨?_,fun y hy=>?_,?_⟩
  ·rw[e];by_cases hx:x<m
   ·rw[if_pos hx]at h1 ⊢;omega
   ·rw[if_neg hx]at h1 ⊢;omega
  ·rw[e];rcases List.mem_cons.1 hy with rfl |hy
   ·by_cases hx:y<m
    ·rw[if_pos hx]at h1 ⊢;omega
    ·rw[if_neg hx]at h1 ⊢;omega
   ·exact h2 y hy
  ·rw[e];rcases h3 with h3|h3
   ·by_cases hx:x<m
    ·rw[if_pos hx]at h3 ⊢;rw[h3];exact .inr List.mem_cons_self
    ·rw[if_neg hx]at h3 ⊢;exact .inl h3
   ·exact .inr (List.mem_cons_of_mem _ h3)
def wy (L:List Int):Int:=pA L L.length
theorem uS {L:List Int} (h:0<L.length):wy L∈L∧∀x∈L,wy L≤x:=by
 cases L with
 |nil=>simp at h
 |cons a l=>
  have e:wy (a::l)=least l a:=by simp[wy,pA]
  rw[e];obtain⟨h1,h2,h3⟩:=least_le l a;refine⟨?_,fun x hx=>?_⟩
  ·rcases h3 with h3|h3
   ·rw[h3];exact List.mem_cons_self
   ·exact List.mem_cons_of_mem _ h3
  ·rcases List.mem_cons.1 hx with rfl |hx
   ·exact h1
   ·exact h2 x hx
theorem LZ {L M:List Int} (h:0<L.length) (p:L.Perm M):wy L=wy M:=by
 obtain⟨a1,a2⟩:=uS h;obtain⟨b1,b2⟩:=uS (L:=M) (by rw[←p.length_eq];exact h);have:=a2 _ (p.mem_iff.2 b1);have:=b2 _ (p.mem_iff.1 a1);omega
end Go.M.Small
namespace Go.M
open Go Go.Proofs Go.RowKit Go.Maps Go.Sort Go.Shelf
set_option maxRecDepth 100000
def pB:Go.Shelf.Ren:=⟨fun |7=>212|10=>238|n=>n,fun |23=>78|26=>3|3=>91|28=>143|0=>0|27=>142|33=>31|4=>4|n=>n,fun |n=>n⟩
theorem Kc:Go.Proofs.SlLaysZI.n7 Tryz.prog pB where
 mixed:=by kernel_rfl
 f7:=⟨Tryz.f212.name,by kernel_rfl,Tryz.func212.trans (congrArg some (by kernel_rfl))⟩
 f10:=⟨Tryz.f238.name,by kernel_rfl,Tryz.func238.trans (congrArg some (by kernel_rfl))⟩
 t0:=Tryz.underlying0
 a0:=Tryz.isAgg0
 z0:=Tryz.sizeOf0
 v0:=Tryz.zeroValue0
 t4:=Tryz.underlying4
 a4:=Tryz.isAgg4
 z4:=Tryz.sizeOf4
 v4:=Tryz.zeroValue4
 t23:=Tryz.underlying78
 a23:=Tryz.isAgg78
 z23:=Tryz.sizeOf78
 v23:=Tryz.zeroValue78
 t26:=Tryz.underlying3
 a26:=Tryz.isAgg3
 z26:=Tryz.sizeOf3
 v26:=Tryz.zeroValue3
 t27:=Tryz.underlying142
 a27:=Tryz.isAgg142
 z27:=Tryz.sizeOf142
 v27:=Tryz.zeroValue142
 t28:=Tryz.underlying143
 a28:=Tryz.isAgg143
 z28:=Tryz.sizeOf143
 v28:=Tryz.zeroValue143
 t33:=Tryz.underlying31
 a33:=Tryz.isAgg31
 z33:=Tryz.sizeOf31
 v33:=Tryz.zeroValue31
def fg:Go.Shelf.Ren:=⟨fun |6=>96|8=>125|9=>135|11=>174|13=>191|12=>190|23=>230|24=>231|14=>221|15=>222|16=>223|17=>224|18=>225|19=>226|20=>227|21=>228|22=>229|25=>242|26=>243|27=>244|28=>245|29=>246|30=>247|31=>249|n=>n,fun |26=>3|28=>143|24=>36|0=>0|3=>3|37=>191|48=>33|50=>32|4=>4|40=>218|39=>217|45=>223|5=>5|9=>9|51=>238|55=>150|57=>243|58=>244|33=>31|n=>n,fun |n=>n⟩
theorem pC:Go.Proofs.SlLaysZI.n6 Tryz.prog fg where
 mixed:=by kernel_rfl
 f6:=⟨Tryz.f96.name,by kernel_rfl,Tryz.func96.trans (congrArg some (by kernel_rfl))⟩
 f8:=⟨Tryz.f125.name,by kernel_rfl,Tryz.func125.trans (congrArg some (by kernel_rfl))⟩
 f11:=⟨Tryz.f174.name,by kernel_rfl,Tryz.func174.trans (congrArg some (by kernel_rfl))⟩
 t0:=Tryz.underlying0
 a0:=Tryz.isAgg0
 z0:=Tryz.sizeOf0
 v0:=Tryz.zeroValue0
 t24:=Tryz.underlying36
 a24:=Tryz.isAgg36
 z24:=Tryz.sizeOf36
 v24:=Tryz.zeroValue36
 t26:=Tryz.underlying3
 a26:=Tryz.isAgg3
 z26:=Tryz.sizeOf3
 v26:=Tryz.zeroValue3
 t28:=Tryz.underlying143
 a28:=Tryz.isAgg143
 z28:=Tryz.sizeOf143
 v28:=Tryz.zeroValue143
 i26:=by kernel_rfl
def Fv:Go.Shelf.Ren:=⟨fun |5=>135|8=>191|7=>190|19=>230|20=>231|10=>221|11=>222|12=>223|13=>224|14=>225|15=>226|16=>227|17=>228|18=>229|30=>242|31=>243|32=>244|33=>245|34=>246|35=>247|40=>249|n=>n,fun |23=>36|25=>3|3=>3|32=>191|22=>36|0=>0|44=>33|46=>32|4=>4|36=>218|35=>217|41=>223|5=>5|9=>9|53=>238|57=>150|63=>243|64=>244|n=>n,fun |n=>n⟩
theorem Kd:Go.Proofs.SlLaysM.n5 Tryz.prog Fv where
 mixed:=by kernel_rfl
 f5:=⟨Tryz.f135.name,by kernel_rfl,Tryz.func135.trans (congrArg some (by kernel_rfl))⟩
 f7:=⟨Tryz.f190.name,by kernel_rfl,Tryz.func190.trans (congrArg some (by kernel_rfl))⟩
 f8:=Tryz.func191.trans (congrArg some (by kernel_rfl))
 f10:=⟨Tryz.f221.name,by kernel_rfl,Tryz.func221.trans (congrArg some (by kernel_rfl))⟩
 f11:=⟨Tryz.f222.name,by kernel_rfl,Tryz.func222.trans (congrArg some (by kernel_rfl))⟩
 f12:=⟨Tryz.f223.name,by kernel_rfl,Tryz.func223.trans (congrArg some (by kernel_rfl))⟩
 f13:=⟨Tryz.f224.name,by kernel_rfl,Tryz.func224.trans (congrArg some (by kernel_rfl))⟩
 f14:=⟨Tryz.f225.name,by kernel_rfl,Tryz.func225.trans (congrArg some (by kernel_rfl))⟩
 f15:=⟨Tryz.f226.name,by kernel_rfl,Tryz.func226.trans (congrArg some (by kernel_rfl))⟩
 f16:=⟨Tryz.f227.name,by kernel_rfl,Tryz.func227.trans (congrArg some (by kernel_rfl))⟩
 f17:=⟨Tryz.f228.name,by kernel_rfl,Tryz.func228.trans (congrArg some (by kernel_rfl))⟩
 f18:=⟨Tryz.f229.name,by kernel_rfl,Tryz.func229.trans (congrArg some (by kernel_rfl))⟩
 f19:=Tryz.func230.trans (congrArg some (by kernel_rfl))
 f20:=Tryz.func231.trans (congrArg some (by kernel_rfl))
 f30:=⟨Tryz.f242.name,by kernel_rfl,Tryz.func242.trans (congrArg some (by kernel_rfl))⟩
 f31:=Tryz.func243.trans (congrArg some (by kernel_rfl))
 f32:=Tryz.func244.trans (congrArg some (by kernel_rfl))
 f33:=⟨Tryz.f245.name,by kernel_rfl,Tryz.func245.trans (congrArg some (by kernel_rfl))⟩
 f34:=⟨Tryz.f246.name,by kernel_rfl,Tryz.func246.trans (congrArg some (by kernel_rfl))⟩
 f35:=⟨Tryz.f247.name,by kernel_rfl,Tryz.func247.trans (congrArg some (by kernel_rfl))⟩
 f40:=⟨Tryz.f249.name,by kernel_rfl,Tryz.func249.trans (congrArg some (by kernel_rfl))⟩
 t0:=Tryz.underlying0
 a0:=Tryz.isAgg0
 z0:=Tryz.sizeOf0
 v0:=Tryz.zeroValue0
 t3:=Tryz.underlying3
 a3:=Tryz.isAgg3
 z3:=Tryz.sizeOf3
 v3:=Tryz.zeroValue3
 t4:=Tryz.underlying4
 a4:=Tryz.isAgg4
 z4:=Tryz.sizeOf4
 v4:=Tryz.zeroValue4
 t5:=Tryz.underlying5
 a5:=Tryz.isAgg5
 z5:=Tryz.sizeOf5
 v5:=Tryz.zeroValue5
 t9:=Tryz.underlying9
 a9:=Tryz.isAgg9
 z9:=Tryz.sizeOf9
 v9:=Tryz.zeroValue9
 t22:=Tryz.underlying36
 a22:=Tryz.isAgg36
 z22:=Tryz.sizeOf36
 v22:=Tryz.zeroValue36
 t23:=Tryz.underlying36
 a23:=Tryz.isAgg36
 z23:=Tryz.sizeOf36
 v23:=Tryz.zeroValue36
 t25:=Tryz.underlying3
 a25:=Tryz.isAgg3
 z25:=Tryz.sizeOf3
 v25:=Tryz.zeroValue3
 t32:=Tryz.underlying191
 a32:=Tryz.isAgg191
 z32:=Tryz.sizeOf191
 v32:=Tryz.zeroValue191
 t35:=Tryz.underlying217
 a35:=Tryz.isAgg217
 z35:=Tryz.sizeOf217
 v35:=Tryz.zeroValue217
 t36:=Tryz.underlying218
 a36:=Tryz.isAgg218
 z36:=Tryz.sizeOf218
 v36:=Tryz.zeroValue218
 t41:=Tryz.underlying223
 a41:=Tryz.isAgg223
 z41:=Tryz.sizeOf223
 v41:=Tryz.zeroValue223
 t44:=Tryz.underlying33
 a44:=Tryz.isAgg33
 z44:=Tryz.sizeOf33
 v44:=Tryz.zeroValue33
 t46:=Tryz.underlying32
 a46:=Tryz.isAgg32
 z46:=Tryz.sizeOf32
 v46:=Tryz.zeroValue32
 t53:=Tryz.underlying238
 a53:=Tryz.isAgg238
 z53:=Tryz.sizeOf238
 v53:=Tryz.zeroValue238
 t57:=Tryz.underlying150
 a57:=Tryz.isAgg150
 z57:=Tryz.sizeOf150
 v57:=Tryz.zeroValue150
 t63:=Tryz.underlying243
 a63:=Tryz.isAgg243
 z63:=Tryz.sizeOf243
 v63:=Tryz.zeroValue243
 t64:=Tryz.underlying244
 a64:=Tryz.isAgg244
 z64:=Tryz.sizeOf244
 v64:=Tryz.zeroValue244
theorem uT (m:Nat):AnyZI.SortsIn Tryz.prog fg Fence.wide m:=
 ⟨fun di off cap ss W hH WE fO=>callsIn_wide.2 (AnyM.slices_Sort_int Kd di off cap ss W hH WE fO),fun p cap W=>callsIn_wide.2 (AnyM.slices_Sort_int_none Kd p cap W)⟩
theorem Fw:jd Tryz.prog 96 238:=
 oe (ρ:=fg) (σ:=pB) pC {Kc with} uT (enters_of Tryz.func135 (by kernel_rfl) rfl) (enters_of Tryz.func238 (by kernel_rfl) rfl)
set_option maxRecDepth 1000000
theorem wz:iE Tryz.prog 125 238:=
 oD (ρ:=fg) (σ:=pB) {pC with} {Kc with} (enters_of Tryz.func238 (by kernel_rfl) rfl)
def uU:Tl:=fun pre cs=>match pre,cs with
 |[],_::_=>bI (Nat.ble cs.length 1000000) (some (.int .i64 (Small.wy cs)))
 |_,_=>none
theorem Fx:Tryz.prog.follows .mixedOrders=true:=by kernel_rfl
theorem Ke (base B:Nat):gL Tryz.prog Small.E0 base B:=
 J9 (fun g hg=>by simp at hg) (fun g ky hi=>by simp[look]at hi) base B
theorem WV:Kb Tryz.prog 213 uU:=by
 intro pre cs v _ hv;unfold uU at hv;split at hv
 ·rename_i a l;simp only[aj,aT,Option.some.injEq]at hv;obtain⟨hl,rfl⟩:=hv;refine⟨rfl,fun m hp=>⟨fun m=>.int .i64 (Small.wy m),fun m=>0<m.length∧m.length≤1000000,?_,?_,?_⟩⟩
  ·exact Bs (E:=Small.E0) (xG _ _) Ke Fx (fun _=>rfl) (by simp) (fun _ _=>rfl) fun m hm=>Small.WU m hm.1 hm.2
  ·have:=hp.length_eq;simp only[List.length_cons]at this hl ⊢;exact⟨om,om⟩
  ·exact congrArg _ (Small.LZ (by rw[hp.length_eq];simp) hp)
 ·cases hv
end Go.M
namespace Go.M
open Go
def uV (s:Nat):Nat:=s % 2+s / 2 % 2+s / 4 % 2+s / 8 % 2+s / 16 % 2+s / 32 % 2
def bZ (s:Nat) (L:List Int):Nat:=L.foldl (fun s i=>s|||2 ^ i.toNat) s
def m5 (x:Int):Prop:=1≤x∧x≤5
theorem yM {x:Int} (h:m5 x):x=1∨x=2∨x=3∨x=4∨x=5:=by unfold m5 at h;omega
def tu (s:Nat):Prop:=s<64∧s % 2=0
instance (s:Nat):Decidable (tu s):=inferInstanceAs (Decidable (s<64∧s % 2=0))
theorem aaF {s:Nat} (h:tu s) {x:Int} (hx:m5 x):tu (s|||2 ^ x.toNat):=by
 have:∀s<64,s % 2=0→∀k<6,0<k→(s|||2 ^ k)<64∧(s|||2 ^ k) % 2=0:=by decide+kernel
 unfold m5 at hx;exact this s h.1 h.2 x.toNat om om
theorem la:∀{L:List Int} {s:Nat},tu s→(∀x∈L,m5 x)→tu (bZ s L)
 |[],_,h,_=>h
 |x::L,_,h,hL=>la (L:=L) (aaF h (hL x List.mem_cons_self)) fun y hy=>hL y (List.mem_cons_of_mem _ hy)
theorem yN (s:Nat) (L:List Int) (x:Int):bZ s (L++[x])=bZ s L|||2 ^ x.toNat:=by simp[bZ]
theorem Iz {L M:List Int} (p:L.Perm M):∀s,bZ s L=bZ s M:=by
 induction p with
 |nil=>intro s;rfl
 |cons x _ ih=>intro s;exact ih _
 |swap x y l=>intro s;simp only[bZ,List.foldl_cons];rw[Nat.or_assoc,Nat.or_comm (2 ^ y.toNat),←Nat.or_assoc]
 |trans _ _ zW zX=>intro s;rw[zW,zX]
theorem Dk:∀s:Nat,s<64→IntKind.u64.wrap ((BitVec.ofInt IntKind.u64.bits (s:Int)&&& ~~~ BitVec.ofInt IntKind.u64.bits 1).toNat:Int)=((s / 2*2:Nat):Int):=by decide+kernel
theorem Vb:∀s:Nat,s<64→∀k:Nat,k<6→IntKind.u64.wrap ((BitVec.ofInt IntKind.u64.bits (s:Int)|||BitVec.ofInt IntKind.u64.bits (IntKind.u64.wrap (1*2 ^ k))).toNat:Int)=((s|||2 ^ k:Nat):Int):=by decide+kernel
theorem tw:∀s:Nat,s<64→∀k:Nat,k<7→IntKind.u64.wrap ((BitVec.ofInt IntKind.u64.bits (s:Int)&&& BitVec.ofInt IntKind.u64.bits (IntKind.u64.wrap (IntKind.u64.wrap (1*2 ^ k) - 1))).toNat:Int)=((s&&& (2 ^ k - 1):Nat):Int):=by decide+kernel
def l6 (s:Nat) (n:Int):Bool:=decide (n.toNat / 2+1≤uV ((s&&& (2 ^ (n.toNat+1) - 1)) / 2*2))
end Go.M
namespace Go.M.Small
open Go Go.Proofs Go.M
set_option maxRecDepth 100000
set_option maxHeartbeats 2000000
@[reducible] def aW (n:Int):List TV:=[.s (.int .i64 n)]
def pD (n:Int):Bool:=decide (n≥1∧n≤63)
theorem uW (n:Int):VC E0 128 0 [.s (.int .i64 n)] [] (RR (.s (.bool (pD n))) 0 []):=by
 refine en L0 Tryz.f128 ?_
 repeat'(first|((first|(refine⟨fun h=>?_,fun h=>?_⟩)|(refine cg (fun h=>?_) (fun h=>?_))|(refine cd (fun h=>?_) (fun h=>?_)))<;>(conv=>whnf)))
 all_goals(refine⟨[],[],[],_,_,⟨?_,.nil,rfl⟩,rfl,rfl,rfl⟩)
 all_goals(refine .s (Lz.of (an ?_));simp[pD, *];try omega)
theorem Dl (s:Nat) (L:List Int) (hs:tu s) (hL:∀x∈L,m5 x) (hl:L.length<1000000):VC E0 89 0 [.s (.int .u64 s),.sl 1 (L.map aW) false] [] (RR (.s (.int .u64 (bZ s L))) 0 []):=by
 refine en L0 Tryz.f89 ?_;refine⟨fun k f o c=>∃j:Nat,j≤L.length∧k=L.length - j∧c=0∧f=[(0,.s (.int .u64 (bZ s (L.take j)))),(9,.sl 1 (L.map aW) false),(10,.s (.int .i64 L.length)),(11,.s (.int .i64 j))]∧o=[],⟨L.length,?_⟩,?_⟩
 ·refine⟨[],[],?_⟩
  iterate 3 constructor
  refine⟨⟨?_,?_,?_⟩,⟨0,Nat.zero_le _,rfl,rfl,rfl,rfl⟩⟩
  all_goals(repeat' first|exact LF|constructor)
  ·refine Lz.int ?_;have:=Dk s hs.1;have h2:=hs.2;rw[show s / 2*2=s by omega]at this;exact this
  all_goals exact Lz.of (by simp[goInt])
 ·rintro k f1 o1 c1 ⟨j,hj,rfl,rfl,rfl,rfl⟩;refine wh ?_;refine sp ?_ ?_<;>intro h
  ·have h:j<L.length:=by simpa using h
   have hw:=la hs (fun x hx=>hL x (List.mem_of_mem_take hx)) (L:=L.take j);have vn:bZ s (L.take (j+1))=bZ s (L.take j)|||2 ^ L[j].toNat:=by rw[List.take_succ_eq_append_getElem h,yN]
   have hx:=yM (hL _ (List.getElem_mem h));generalize hwe:bZ s (L.take j)=w at*
   refine wh ?_;refine jg h ?_;generalize LG:L[j]=x at*
   rcases hx with rfl |rfl |rfl |rfl |rfl
   all_goals
    refine wh ?_;refine⟨[],[],_,_,_,_,uW _,t3,cw ?_⟩;refine⟨L.length - (j+1),?_,om⟩;refine⟨[],[],?_⟩
    iterate 3 constructor
    refine⟨⟨?_,?_,?_⟩,⟨j+1,h,rfl,rfl,rfl,rfl⟩⟩
    all_goals(repeat' first|exact LF|constructor)
    refine Lz.int ?_;rw[vn];exact Vb w hw.1 _ (by decide)
  ·have h':j=L.length:=by have:¬j<L.length:=by simpa using h
                          omega
   subst h';refine wh ?_;rw[List.take_length];exact⟨[],[],_,_,_,t3,rfl,rfl,rfl⟩
end Go.M.Small
namespace Go.M
open Go Go.Proofs
set_option maxRecDepth 1000000
instance (x:Int):Decidable (m5 x):=inferInstanceAs (Decidable (1≤x∧x≤5))
def l7:Tl:=fun pre cs=>match pre with
 |[.int .u64 s]=>bI (decide (s=0)&&cs.all (fun x=>decide (m5 x))&&Nat.blt cs.length 1000000) (some (.int .u64 (bZ 0 cs)))
 |_=>none
theorem Dm {ks:List Int} (h5:∀w∈ks,m5 w) (hl:ks.length<1000000):l7 [.int .u64 0] ks=some (.int .u64 (bZ 0 ks)):=by
 have h1:ks.all (fun x=>decide (m5 x))=true:=List.all_eq_true.2 fun w hw=>decide_eq_true (h5 w hw);simp only[l7,h1,a7.2 hl,bI];rfl
theorem Tn:Kb Tryz.prog 89 l7:=by
 intro pre cs v _ hv;unfold l7 at hv;split at hv
 ·rename_i s;simp only[aj,Bool.and_eq_true,decide_eq_true_iff,List.all_eq_true,a7,Option.some.injEq]at hv;obtain⟨⟨⟨rfl,h5⟩,hl⟩,rfl⟩:=hv;refine⟨rfl,fun m hp=>⟨fun m=>.int .u64 (bZ 0 m),fun m=>(∀x∈m,m5 x)∧m.length<1000000,?_,?_,?_⟩⟩
  ·exact Bs (E:=Small.E0) (xG _ _) Ke Fx (fun _=>rfl) (by simp[az]) (fun _ _=>rfl) fun m hm=>(Small.Dl 0 m (by decide) hm.1 hm.2).mono fun r o c h=>h.1
  ·exact⟨fun x hx=>h5 x (hp.mem_iff.1 hx),by rw[hp.length_eq];exact hl⟩
  ·exact congrArg (fun n:Nat=>Value.int .u64 n) (Iz hp 0)
 ·cases hv
end Go.M
