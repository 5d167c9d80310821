/-
  Part 16 of the library that the proof leans on.
-/
import Derived.Test.YthaboieeoopmjaaGreatDoorL12
namespace Go.M
open Go
section
variable {α:Type}
def j4 (k:IntKind) (f:α→TV) (e:Int×α):Value×TV:=(.int k e.1,f e.2)
def bH:List (Int×α)→Int→Option α
 |[],_=>none
 |e::es,n=>if n=e.1 then some e.2 else bH es n
def g5:List (Int×α)→Int→α→List (Int×α)
 |[],n,v=>[(n,v)]
 |e::es,n,v=>if n=e.1 then(n,v)::es else e::g5 es n v
def FI:List (Int×α)→Int→List (Int×α)
 |[],_=>[]
 |e::es,n=>if n=e.1 then es else e::FI es n
@[reducible] def aP (es:List (Int×α)):List Int:=es.map (·.1)
theorem PE {k k':IntKind} {f:α→TV} {e:Int×α} {n:Int}:lV (.int k' n) (j4 k f e).1=decide (n=e.1):=by
 rw[Bool.eq_iff_iff];simp[lV,j4]
theorem l9 (k k':IntKind) (f:α→TV) (n:Int):∀es:List (Int×α),ft (es.map (j4 k f)) (.int k' n)=(bH es n).map f
 |[]=>rfl
 |e::es=>by
  rw[List.map_cons];unfold ft bH;rw[PE];by_cases he:n=e.1
  ·simp[he,j4]
  ·simp[he,l9 k k' f n es]
theorem pJ (k:IntKind) (f:α→TV) (n:Int) (v:α):∀es:List (Int×α),dC (es.map (j4 k f)) (.int k n) (f v)=(g5 es n v).map (j4 k f)
 |[]=>rfl
 |e::es=>by
  rw[List.map_cons];unfold dC g5;rw[PE];by_cases he:n=e.1
  ·simp[he,j4]
  ·simp[he,pJ k f n v es]
theorem PF (k k':IntKind) (f:α→TV) (n:Int):∀es:List (Int×α),pc (es.map (j4 k f)) (.int k' n)=(FI es n).map (j4 k f)
 |[]=>rfl
 |e::es=>by
  rw[List.map_cons];unfold pc FI;rw[PE];by_cases he:n=e.1
  ·simp[he]
  ·simp[he,PF k k' f n es]
theorem Ki (k:IntKind) (f:α→TV) (es:List (Int×α)):(es.map (j4 k f)).map (·.1)=(aP es).map (.int k):=by
 simp[j4,aP,Function.comp_def]
theorem qt {n:Int} {v:α}:∀{es:List (Int×α)},aP (g5 es n v)=if n∈aP es then aP es else aP es++[n]
 |[]=>rfl
 |e::es=>by
  have ih:=qt (n:=n) (v:=v) (es:=es);unfold g5;by_cases he:n=e.1
  ·simp[he]
  ·simp only[he,if_false,aP,List.map_cons,List.mem_cons,false_or]at ih ⊢;rw[ih];split<;>simp
theorem ni {n:Int} {v:α}:∀{es:List (Int×α)},n∉aP es→g5 es n v=es++[(n,v)]
 |[],_=>rfl
 |e::es,h=>by
  simp only[aP,List.map_cons,List.mem_cons,not_or]at h;unfold g5;rw[if_neg h.1,ni (es:=es) h.2];rfl
theorem sc {n:Int} {v:α} {es:List (Int×α)} (h:(aP es).Nodup):(aP (g5 es n v)).Nodup:=by
 rw[qt];split
 ·exact h
 ·rename_i hn;rw[List.nodup_append];exact⟨h,by simp,fun a ha b hb=>by simp at hb;subst hb;rintro rfl;exact hn ha⟩
theorem pK {n:Int}:∀{es:List (Int×α)},(FI es n).Sublist es
 |[]=>.refl _
 |e::es=>by
  unfold FI;split
  ·exact List.sublist_cons_self ..
  ·exact(pK (es:=es)).cons_cons _
theorem ID {n:Int} {es:List (Int×α)} (h:(aP es).Nodup):(aP (FI es n)).Nodup:=((pK (n:=n) (es:=es)).map _).nodup h
theorem eI {n:Int} {v:α}:∀{es:List (Int×α)},(aP es).Nodup→(bH es n=some v↔(n,v)∈es)
 |[],_=>by simp[bH]
 |e::es,h=>by
  simp only[aP,List.map_cons,List.nodup_cons]at h;unfold bH;by_cases he:n=e.1
  ·rw[if_pos he];constructor
   ·intro h1;cases h1;rw[he];exact List.mem_cons_self
   ·intro h1;rcases List.mem_cons.1 h1 with h1|h1
    ·rw[←h1]
    ·exact absurd (List.mem_map.2 ⟨_,h1,he⟩) h.1
  ·rw[if_neg he,eI h.2];constructor
   ·exact fun h1=>List.mem_cons_of_mem _ h1
   ·intro h1;rcases List.mem_cons.1 h1 with h1|h1
    ·exact absurd (congrArg (·.1) h1) he
    ·exact h1
theorem oi {n:Int}:∀{es:List (Int×α)},bH es n=none↔n∉aP es
 |[]=>by simp[bH]
 |e::es=>by
  have ih:=oi (n:=n) (es:=es);unfold bH;by_cases he:n=e.1
  ·simp[he]
  ·simp only[he,if_false,aP,List.map_cons,List.mem_cons,false_or]at ih ⊢;exact ih
theorem qu {n m:Int} {v:α}:∀{es:List (Int×α)},bH (g5 es n v) m=if m=n then some v else bH es m
 |[]=>by simp[g5,bH]
 |e::es=>by
  have ih:=qu (n:=n) (m:=m) (v:=v) (es:=es);unfold g5;by_cases he:n=e.1
  ·simp only[he,if_true,bH];by_cases hm:m=e.1<;>simp[hm]
  ·simp only[he,if_false,bH,ih];by_cases hm:m=e.1
   ·rw[if_pos hm,if_pos hm,if_neg];rintro rfl;exact he hm
   ·rw[if_neg hm,if_neg hm]
theorem FJ {n:Int} {v:α} {x:Int×α} {es:List (Int×α)} (h:(aP es).Nodup):x∈g5 es n v↔x=(n,v)∨x.1≠n∧x∈es:=by
 obtain⟨a,b⟩:=x;rw[←eI (sc h),qu];by_cases e:a=n
 ·subst e;simp;exact eq_comm
 ·simp[e,eI h]
end
end Go.M
