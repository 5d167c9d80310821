/-
  Part 28 of the library that the proof leans on.
-/
import Derived.Test.YteoljjhhdgplnaaGreatDoorL12
import Derived.Test.YteoljjhhdgplnaaGreatDoorL27
namespace Go.M
open Go Go.Proofs
set_option maxRecDepth 100000
set_option maxHeartbeats 8000000
theorem nP {l:List RS} {j:Nat} {x:RS}:(l.map bq).set j (bq x)=(l.set j x).map bq:=by rw[List.map_set]
theorem SE {l:List RS} {j:Nat} {x:RS} (h:l[j]? =some x):(l.map bq).set j (bq x)=l.map bq:=by
 obtain⟨hj,rfl⟩:=List.getElem?_eq_some_iff.1 h;rw[←List.map_set,List.set_getElem_self hj]
theorem KB {σ α:Type} (f:σ→α→σ) (s:σ) (l:List α) (i:Nat) (h:i<l.length):(l.take (i+1)).foldl f s=f ((l.take i).foldl f s) l[i]:=by
 rw[g8 l i h,List.foldl_append];rfl
@[reducible] noncomputable def zd (l:List Lr):TO:=.arr 25 true (l.map ai)
end Go.M
