/-
  Part 28 of the library that the proof leans on.
-/
import Derived.Test.YthaboieeoopmjaaGreatDoorL27
namespace Go.M
open Go Go.Proofs
set_option maxRecDepth 100000
set_option maxHeartbeats 4000000
theorem Jo:ly 3 1=G7:=rfl
theorem Q8:kA G7:=by rw[←Jo];exact Mu 1 om 3 om om om
theorem aeg:Km G7:=by rw[←Jo];exact Mv om om
theorem Ur {n:Nat} (h5:n≤5) {k:Nat} (hk:k<n):dc (kC (k+1) n G7):=by
 refine⟨by show 1≤(k:Int)+1∧(k:Int)+1≤5;omega,by show(k:Int)+1≤n∧(n:Int)≤5;omega,fun _=>⟨_,_,rfl⟩,?_,⟨⟨by simp[kC],by simp[kC]⟩,by simp[kC],by simp[kC]⟩,by simp[kC],by show(0:Int)≤0∧(0:Int)≤18446744073709551615;decide,fun x=>rfl,⟨.nil,by simp[kC],by simp[kC],by simp[kC]⟩,aeg,fun K _=>KH Q8 K _,fun K _ c hc x hx=>((kB (u9 Q8 K _) hc).2.2.2.2.2 x hx).2⟩
 exact⟨by show 1≤(k:Int)+1∧(k:Int)+1≤5;omega,by show 1≤(n:Int)∧(n:Int)≤5;omega,⟨.nil,by simp[kC,aP],by simp[kC]⟩,⟨.nil,by simp[kC,aP]⟩,by simp[kC],by simp[kC],by simp[kC],by show(0:Int)≤0∧(0:Int)≤512;decide,by show(0:Int)≤0∧(0:Int)≤18446744073709551615;decide,fun h=>absurd (show(0:Int)=1 from h) (by decide),by simp[kC]⟩
theorem ri0 {n:Nat} (h5:n≤5):RI n 0 (mi n n):=by
 refine⟨BX _ _,fun s hs=>?_⟩;unfold mi at hs;obtain⟨i,hi,rfl⟩:=List.mem_map.1 hs;rw[List.mem_range]at hi;exact⟨Ur h5 hi,rfl,rfl,rfl,⟨Int.le_refl _,Int.le_refl _⟩,⟨Int.le_refl _,Int.le_refl _⟩,Int.le_refl _,Int.le_refl _⟩
def ltB (k:Nat) (m:bS):Bool:=XP m&&(decide (m.to≤24)||decide (101≤m.to∧m.to≤100+(k:Int)))
theorem XY {k:Nat} {m:bS} (h:ltB k m=true):MJ m∧(m.to≤24∨(101≤m.to∧m.to≤100+(k:Int))):=by
 simp only[ltB,Bool.and_eq_true,Bool.or_eq_true,decide_eq_true_eq]at h;exact⟨Uc h.1,h.2⟩
def Jp (k:Nat) (n:Int) (w:(List MS×List bS)×Bool) (r:Nat):(List MS×List bS)×Bool:=
 match lH n w.1 r with
 |v=>(v,w.2&&(decide (v.2.length≤1000)&&v.2.all (ltB k)))
def ve (k:Nat) (n:Int) (rounds:Nat):(List MS×List bS)×Bool:=
 (List.range rounds).foldl (Jp k n) (((List.range k).map fun(i:Nat)=>kC ((i:Int)+1) (k:Int) G7,[]),true)
theorem zI (k:Nat) (n:Int) (r:Nat):ve k n (r+1)=Jp k n (ve k n r) r:=by
 unfold ve;rw[List.range_succ,List.foldl_append];rfl
theorem tT (k:Nat) (n:Int) (r:Nat):j6 k n (r+1)=lH n (j6 k n r) r:=by
 unfold j6;rw[List.range_succ,List.foldl_append];rfl
theorem B0 (k:Nat) (n:Int):∀r,(ve k n r).1=j6 k n r
 |0=>rfl
 |r+1=>by
  rw[zI,tT,←B0 k n r];rfl
theorem zJ (k:Nat) (n:Int):∀r,(ve k n r).2=true→∀i,i≤r→(j6 k n i).2.length≤1000∧∀m∈(j6 k n i).2,ltB k m=true
 |0,_,i,hi=>by
  obtain rfl:i=0:=by omega
  exact⟨Nat.zero_le _,fun m hm=>by cases hm⟩
 |r+1,h,i,hi=>by
  have ih:=zJ k n r;rw[zI]at h;unfold Jp at h;dsimp only at h;rw[Bool.and_eq_true,Bool.and_eq_true,decide_eq_true_eq,B0,←tT,List.all_eq_true]at h;rcases Nat.lt_or_ge r i with q|q
  ·obtain rfl:i=r+1:=by omega
   exact h.2
  ·exact ih h.1 i q
theorem GR:∀k∈[1,2,3,4,5],∀n∈[(1:Int),2,3],(ve k n 40).2=true:=by decide+kernel
end Go.M
