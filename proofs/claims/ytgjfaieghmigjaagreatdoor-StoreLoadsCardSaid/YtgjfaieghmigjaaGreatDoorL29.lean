/-
  Part 29 of the library that the proof leans on.
-/
import Derived.Test.YtgjfaieghmigjaaGreatDoorL12
namespace Go.M
open Go
section
variable {α:Type}
def encA (k:IntKind) (f:α→TV) (e:Int×α):Value×TV:=(.int k e.1,f e.2)
def lookA:List (Int×α)→Int→Option α
 |[],_=>none
 |e::es,n=>if n=e.1 then some e.2 else lookA es n
def putA:List (Int×α)→Int→α→List (Int×α)
 |[],n,v=>[(n,v)]
 |e::es,n,v=>if n=e.1 then(n,v)::es else e::putA es n v
def delA:List (Int×α)→Int→List (Int×α)
 |[],_=>[]
 |e::es,n=>if n=e.1 then es else e::delA es n
@[reducible] def keysA (es:List (Int×α)):List Int:=es.map (·.1)
theorem keq_A {k k':IntKind} {f:α→TV} {e:Int×α} {n:Int}:keq (.int k' n) (encA k f e).1=decide (n=e.1):=by
 rw[Bool.eq_iff_iff];simp[keq,encA]
theorem lookM_A (k k':IntKind) (f:α→TV) (n:Int):∀es:List (Int×α),lookM (es.map (encA k f)) (.int k' n)=(lookA es n).map f
 |[]=>rfl
 |e::es=>by
  rw[List.map_cons]
  unfold lookM lookA
  rw[keq_A]
  by_cases he:n=e.1
  ·simp[he,encA]
  ·simp[he,lookM_A k k' f n es]
theorem putM_A (k:IntKind) (f:α→TV) (n:Int) (v:α):∀es:List (Int×α),putM (es.map (encA k f)) (.int k n) (f v)=(putA es n v).map (encA k f)
 |[]=>rfl
 |e::es=>by
  rw[List.map_cons]
  unfold putM putA
  rw[keq_A]
  by_cases he:n=e.1
  ·simp[he,encA]
  ·simp[he,putM_A k f n v es]
theorem keysM_A (k:IntKind) (f:α→TV) (es:List (Int×α)):(es.map (encA k f)).map (·.1)=(keysA es).map (.int k):=by
 simp[encA,keysA,Function.comp_def]
theorem lookA_some {n:Int} {v:α}:∀{es:List (Int×α)},(keysA es).Nodup→(lookA es n=some v↔(n,v)∈es)
 |[],_=>by simp[lookA]
 |e::es,h=>by
  simp only[keysA,List.map_cons,List.nodup_cons]at h
  unfold lookA
  by_cases he:n=e.1
  ·rw[if_pos he]
   constructor
   ·intro h1;cases h1;rw[he];exact List.mem_cons_self
   ·intro h1
    rcases List.mem_cons.1 h1 with h1|h1
    ·rw[←h1]
    ·exact absurd (List.mem_map.2 ⟨_,h1,he⟩) h.1
  ·rw[if_neg he,lookA_some h.2]
   constructor
   ·exact fun h1=>List.mem_cons_of_mem _ h1
   ·intro h1
    rcases List.mem_cons.1 h1 with h1|h1
    ·exact absurd (congrArg (·.1) h1) he
    ·exact h1
theorem lookA_none {n:Int}:∀{es:List (Int×α)},lookA es n=none↔n∉keysA es
 |[]=>by simp[lookA]
 |e::es=>by
  have ih:=lookA_none (n:=n) (es:=es)
  unfold lookA
  by_cases he:n=e.1
  ·simp[he]
  ·simp only[he,if_false,keysA,List.map_cons,List.mem_cons,false_or]at ih ⊢;exact ih
theorem lookA_put {n m:Int} {v:α}:∀{es:List (Int×α)},lookA (putA es n v) m=if m=n then some v else lookA es m
 |[]=>by simp[putA,lookA]
 |e::es=>by
  have ih:=lookA_put (n:=n) (m:=m) (v:=v) (es:=es)
  unfold putA
  by_cases he:n=e.1
  ·simp only[he,if_true,lookA]
   by_cases hm:m=e.1<;>simp[hm]
  ·simp only[he,if_false,lookA,ih]
   by_cases hm:m=e.1
   ·rw[if_pos hm,if_pos hm,if_neg];rintro rfl;exact he hm
   ·rw[if_neg hm,if_neg hm]
end
end Go.M
