/-
  Part 26 of the library that the proof leans on.
-/
import Derived.Test.YtjklkjjfnipcnaaGreatDoorL23
import Derived.Test.YtjklkjjfnipcnaaGreatDoorL25
import Derived.Shelf.LaysM
import Derived.KernelRfl
noncomputable section
namespace Go.M
open Go Go.Proofs Go.RowKit Go.Shelf
set_option maxRecDepth 1000000
def zy:Go.Shelf.Ren:=⟨fun |146=>155|221=>198|268=>219|138=>220|143=>221|195=>229|197=>224|218=>230|219=>231|260=>232|217=>236|225=>237|224=>238|267=>239|266=>251|314=>252|n=>n,fun |9=>9|31=>33|3=>3|4=>4|0=>0|105=>294|21=>21|5=>5|46=>161|119=>303|139=>306|138=>305|146=>313|51=>40|n=>n,fun |1=>0|3=>1|4=>2|n=>n⟩
theorem BR:Go.Proofs.LaysM.n146 Tryz.prog zy where
 mixed:=by kernel_rfl
 f138:=Tryz.func220.trans (congrArg some (by kernel_rfl))
 f143:=Tryz.func221.trans (congrArg some (by kernel_rfl))
 f146:=Tryz.func155.trans (congrArg some (by kernel_rfl))
 f195:=Tryz.func229.trans (congrArg some (by kernel_rfl))
 f197:=Tryz.func224.trans (congrArg some (by kernel_rfl))
 f217:=Tryz.func236.trans (congrArg some (by kernel_rfl))
 f218:=Tryz.func230.trans (congrArg some (by kernel_rfl))
 f219:=Tryz.func231.trans (congrArg some (by kernel_rfl))
 f221:=Tryz.func198.trans (congrArg some (by kernel_rfl))
 f224:=Tryz.func238.trans (congrArg some (by kernel_rfl))
 f225:=Tryz.func237.trans (congrArg some (by kernel_rfl))
 f260:=Tryz.func232.trans (congrArg some (by kernel_rfl))
 f266:=Tryz.func251.trans (congrArg some (by kernel_rfl))
 f267:=Tryz.func239.trans (congrArg some (by kernel_rfl))
 f268:=Tryz.func219.trans (congrArg some (by kernel_rfl))
 f314:=Tryz.func252.trans (congrArg some (by kernel_rfl))
 t0:=Tryz.underlying0
 a0:=Tryz.isAgg0
 z0:=Tryz.sizeOf0
 v0:=Tryz.zeroValue0
 t3:=Tryz.underlying3
 a3:=Tryz.isAgg3
 z3:=Tryz.sizeOf3
 v3:=Tryz.zeroValue3
 t4:=Tryz.underlying4
 a4:=Tryz.isAgg4
 z4:=Tryz.sizeOf4
 v4:=Tryz.zeroValue4
 t5:=Tryz.underlying5
 a5:=Tryz.isAgg5
 z5:=Tryz.sizeOf5
 v5:=Tryz.zeroValue5
 t9:=Tryz.underlying9
 a9:=Tryz.isAgg9
 z9:=Tryz.sizeOf9
 v9:=Tryz.zeroValue9
 t21:=Tryz.underlying21
 a21:=Tryz.isAgg21
 z21:=Tryz.sizeOf21
 v21:=Tryz.zeroValue21
 t31:=Tryz.underlying33
 a31:=Tryz.isAgg33
 z31:=Tryz.sizeOf33
 v31:=Tryz.zeroValue33
 t46:=Tryz.underlying161
 a46:=Tryz.isAgg161
 z46:=Tryz.sizeOf161
 v46:=Tryz.zeroValue161
 t51:=Tryz.underlying40
 a51:=Tryz.isAgg40
 z51:=Tryz.sizeOf40
 v51:=Tryz.zeroValue40
 t105:=Tryz.underlying294
 a105:=Tryz.isAgg294
 z105:=Tryz.sizeOf294
 v105:=Tryz.zeroValue294
 t119:=Tryz.underlying303
 a119:=Tryz.isAgg303
 z119:=Tryz.sizeOf303
 t138:=Tryz.underlying305
 a138:=Tryz.isAgg305
 z138:=Tryz.sizeOf305
 v138:=Tryz.zeroValue305
 t139:=Tryz.underlying306
 a139:=Tryz.isAgg306
 z139:=Tryz.sizeOf306
 v139:=Tryz.zeroValue306
 t146:=Tryz.underlying313
 a146:=Tryz.isAgg313
 z146:=Tryz.sizeOf313
 v146:=Tryz.zeroValue313
 g1:=by kernel_rfl
 g3:=by kernel_rfl
 g4:=by kernel_rfl
 i0:=by kernel_rfl
 i3:=by kernel_rfl
 i4:=by kernel_rfl
 i5:=by kernel_rfl
 i9:=by kernel_rfl
 i21:=by kernel_rfl
 i31:=by kernel_rfl
 i46:=by kernel_rfl
 i51:=by kernel_rfl
 i105:=by kernel_rfl
 i138:=by kernel_rfl
 i139:=by kernel_rfl
 i146:=by kernel_rfl
 m1:=by kernel_rfl
 s1_3:=fun w h=>Go.Proofs.cell_of_shapedOpen_int (zero:= #[.int .i64 0]) (t:=3) h (of_decide_eq_true (by kernel_rfl)) (by kernel_rfl) rfl (by kernel_rfl) (by kernel_rfl) Tryz.underlying3
 m3:=by kernel_rfl
 m4:=by kernel_rfl
def BS:Go.Shelf.Ren:=⟨fun |4=>25|n=>n,fun |22=>25|4=>4|5=>5|n=>n,fun |n=>n⟩
theorem K7:Go.Proofs.SlLaysK.n4 Tryz.prog BS where
 mixed:=by kernel_rfl
 f4:=Tryz.func25.trans (congrArg some (by kernel_rfl))
 t4:=Tryz.underlying4
 a4:=Tryz.isAgg4
 z4:=Tryz.sizeOf4
 v4:=Tryz.zeroValue4
 t22:=Tryz.underlying25
 a22:=Tryz.isAgg25
 z22:=Tryz.sizeOf25
 v22:=Tryz.zeroValue25
 t5:=Tryz.underlying5
 i5:=by kernel_rfl
theorem zz:Tryz.prog.follows .mixedOrders=true:=by kernel_rfl
theorem splits:qu Tryz.prog 0 155:=BA {BR with} (by kernel_rfl) rfl rfl
theorem Jt:qt Tryz.prog 25:=Bz {K7 with}
theorem Ju (n:Int):fZ (.int .i64 n) (.int .i64 n)=true:=by
 simp[fZ]
theorem zA (mx:Int):oB (nj mx) 1=true:=by
 unfold oB nj;simp only[List.all_cons,List.all_nil,Bool.and_true,Bool.and_eq_true];refine⟨⟨by decide,by simp[wv,ar,MD,fz,oU]⟩,?_⟩;show dL [.int .i64 mx] [.int .i64 mx]=true;unfold dL;rw[Ju];rfl
def BT (x:Int):List Int→List Int
 |[]=>[x]
 |y::l=>bif decide (x≤y)then x::y::l else y::BT x l
def pg:List Int→List Int
 |[]=>[]
 |x::l=>BT x (pg l)
theorem rU (x:Int):∀l:List Int,(BT x l).Perm (x::l)
 |[]=>.refl _
 |y::l=>by
  unfold BT;cases decide (x≤y)with
  |true=>exact .refl _
  |false=>exact((rU x l).cons y).trans (.swap _ _ _)
theorem Jv {x z:Int} {l:List Int}:z∈BT x l↔z=x∨z∈l:=by rw[(rU x l).mem_iff];simp
theorem sL {x:Int}:∀{l:List Int},l.Pairwise (· ≤·)→(BT x l).Pairwise (· ≤·)
 |[],_=>by simp[BT]
 |y::l,h=>by
  obtain⟨h1,h2⟩:=List.pairwise_cons.1 h;unfold BT;cases hd:decide (x≤y)with
  |true=>
   have hd:=of_decide_eq_true hd;refine List.pairwise_cons.2 ⟨fun z hz=>?_,h⟩;rcases List.mem_cons.1 hz with rfl |hz
   ·exact hd
   ·have:=h1 z hz;omega
  |false=>
   have hd:=of_decide_eq_false hd;refine List.pairwise_cons.2 ⟨fun z hz=>?_,sL h2⟩;rcases Jv.1 hz with rfl |hz
   ·omega
   ·exact h1 z hz
theorem sM:∀l:List Int,(pg l).Perm l
 |[]=>.refl _
 |x::l=>(rU x _).trans ((sM l).cons x)
theorem oD:∀l:List Int,(pg l).Pairwise (· ≤·)
 |[]=>.nil
 |_::l=>sL (oD l)
theorem Gg (l:List Int):pg l=dE l:=by
 have h:dE (pg l)=pg l:=List.mergeSort_of_pairwise ((oD l).imp fun h=>decide_eq_true h);rw[←h];exact mergeSort_perm (sM l)
def Oa (h:ab) (ks:List Int):Value×ab:=match ks with
 |[]=>(.slice none 0 0,h)
 |_::_=>(.slice (some ⟨h.size,0,some 1⟩) ks.length (ks.length+1),h.push (.cells ((pg ks).map (.int .u32)) h.size (h.size+1) 0))
theorem El (h:ab) (ks:List Int):Oa h ks=Bw h ks:=by
 unfold Oa Bw;split
 ·rfl
 ·rw[Gg]
def n9 (k0:Nat) (args:List Value) (h:ab):Option (Value×ab):=match args with
 |[.func (.func k) a c]=>(match a.toList,c.toList with
  |[],[.pointer (some ⟨b,0,none⟩)]=>aW (Nat.beq k k0) ((kG h b).bind fun mb=>(qs h mb).bind fun ks=>some (Oa h ks))
  |_,_=>none)
 |_=>none
theorem Dp (args:List Value) (h:ab):n9 54 args h=nW args h:=by
 unfold n9 nW;simp only[El];rfl
theorem BU (args:List Value) (h:ab):n9 83 args h=nh args h:=by
 unfold n9 nh;simp only[El];rfl
def Oc:FuncId→List Value→ab→Option (Value×ab):=fun g args h=>match Nat.beq g 31 with
 |true=>(match n9 54 args h with
  |some r=>some r
  |none=>n9 83 args h)
 |false=>none
theorem K8:Oc=wO:=by
 funext g args h
 unfold Oc wO;rw[Dp,BU];rfl
theorem Uy (mx:Int) (base B:Nat):eZ Tryz.prog (iV Tryz.prog (nj mx) (IW 0 [155] (wN 25 Oc))) base B:=
 KX rfl (fun g hg=>by simp only[List.mem_cons,List.not_mem_nil,or_false]at hg;subst hg;exact splits)
  (fun base B=>Ed Jt (fun base B=>sY zz base B rfl K8) base B) base B
def K9:FuncId→Option Nat:=fun g=>bif Nat.beq g 12 then some 3 else none
theorem La (mx:Int):C5 Tryz.prog (nj mx) 7:=Js (n:=1) (D:=K9) zz (zA mx) (Uy mx) (k:=100000) (by kernel_rfl)
end Go.M
end
