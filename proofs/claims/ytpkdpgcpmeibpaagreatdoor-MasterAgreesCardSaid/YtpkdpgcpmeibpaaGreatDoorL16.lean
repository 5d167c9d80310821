/-
  Part 16 of the library that the proof leans on.
-/
import Derived.Test.YtpkdpgcpmeibpaaGreatDoorL12
namespace Go.M
open Go
section
variable {α:Type}
def kL (k:IntKind) (f:α→TV) (e:Int×α):Value×TV:=(.int k e.1,f e.2)
def bL:List (Int×α)→Int→Option α
 |[],_=>none
 |e::es,n=>if n=e.1 then some e.2 else bL es n
def ib:List (Int×α)→Int→α→List (Int×α)
 |[],n,v=>[(n,v)]
 |e::es,n,v=>if n=e.1 then(n,v)::es else e::ib es n v
def Gw:List (Int×α)→Int→List (Int×α)
 |[],_=>[]
 |e::es,n=>if n=e.1 then es else e::Gw es n
@[reducible] def aQ (es:List (Int×α)):List Int:=es.map (·.1)
theorem PG {k k':IntKind} {f:α→TV} {e:Int×α} {n:Int}:mR (.int k' n) (kL k f e).1=decide (n=e.1):=by
 rw[Bool.eq_iff_iff];simp[mR,kL]
theorem m3 (k k':IntKind) (f:α→TV) (n:Int):∀es:List (Int×α),fN (es.map (kL k f)) (.int k' n)=(bL es n).map f
 |[]=>rfl
 |e::es=>by
  rw[List.map_cons];unfold fN bL;rw[PG];by_cases he:n=e.1
  ·simp[he,kL]
  ·simp[he,m3 k k' f n es]
theorem qA (k:IntKind) (f:α→TV) (n:Int) (v:α):∀es:List (Int×α),dL (es.map (kL k f)) (.int k n) (f v)=(ib es n v).map (kL k f)
 |[]=>rfl
 |e::es=>by
  rw[List.map_cons];unfold dL ib;rw[PG];by_cases he:n=e.1
  ·simp[he,kL]
  ·simp[he,qA k f n v es]
theorem PH (k k':IntKind) (f:α→TV) (n:Int):∀es:List (Int×α),qa (es.map (kL k f)) (.int k' n)=(Gw es n).map (kL k f)
 |[]=>rfl
 |e::es=>by
  rw[List.map_cons];unfold qa Gw;rw[PG];by_cases he:n=e.1
  ·simp[he]
  ·simp[he,PH k k' f n es]
theorem Kz (k:IntKind) (f:α→TV) (es:List (Int×α)):(es.map (kL k f)).map (·.1)=(aQ es).map (.int k):=by
 simp[kL,aQ,Function.comp_def]
theorem rz {n:Int} {v:α}:∀{es:List (Int×α)},aQ (ib es n v)=if n∈aQ es then aQ es else aQ es++[n]
 |[]=>rfl
 |e::es=>by
  have ih:=rz (n:=n) (v:=v) (es:=es);unfold ib;by_cases he:n=e.1
  ·simp[he]
  ·simp only[he,if_false,aQ,List.map_cons,List.mem_cons,false_or]at ih ⊢;rw[ih];split<;>simp
theorem l8 {n:Int} {v:α}:∀{es:List (Int×α)},n∉aQ es→ib es n v=es++[(n,v)]
 |[],_=>rfl
 |e::es,h=>by
  simp only[aQ,List.map_cons,List.mem_cons,not_or]at h;unfold ib;rw[if_neg h.1,l8 (es:=es) h.2];rfl
theorem sS {n:Int} {v:α} {es:List (Int×α)} (h:(aQ es).Nodup):(aQ (ib es n v)).Nodup:=by
 rw[rz];split
 ·exact h
 ·rename_i hn;rw[List.nodup_append];exact⟨h,by simp,fun a ha b hb=>by simp at hb;subst hb;rintro rfl;exact hn ha⟩
theorem oh {n:Int}:∀{es:List (Int×α)},(Gw es n).Sublist es
 |[]=>.refl _
 |e::es=>by
  unfold Gw;split
  ·exact List.sublist_cons_self ..
  ·exact(oh (es:=es)).cons_cons _
theorem I4 {n:Int} {es:List (Int×α)} (h:(aQ es).Nodup):(aQ (Gw es n)).Nodup:=((oh (n:=n) (es:=es)).map _).nodup h
theorem bX {n:Int} {v:α}:∀{es:List (Int×α)},(aQ es).Nodup→(bL es n=some v↔(n,v)∈es)
 |[],_=>by simp[bL]
 |e::es,h=>by
  simp only[aQ,List.map_cons,List.nodup_cons]at h;unfold bL;by_cases he:n=e.1
  ·rw[if_pos he];constructor
   ·intro h1;cases h1;rw[he];exact List.mem_cons_self
   ·intro h1;rcases List.mem_cons.1 h1 with h1|h1
    ·rw[←h1]
    ·exact absurd (List.mem_map.2 ⟨_,h1,he⟩) h.1
  ·rw[if_neg he,bX h.2];constructor
   ·exact fun h1=>List.mem_cons_of_mem _ h1
   ·intro h1;rcases List.mem_cons.1 h1 with h1|h1
    ·exact absurd (congrArg (·.1) h1) he
    ·exact h1
theorem o9 {n:Int}:∀{es:List (Int×α)},bL es n=none↔n∉aQ es
 |[]=>by simp[bL]
 |e::es=>by
  have ih:=o9 (n:=n) (es:=es);unfold bL;by_cases he:n=e.1
  ·simp[he]
  ·simp only[he,if_false,aQ,List.map_cons,List.mem_cons,false_or]at ih ⊢;exact ih
theorem oi {n m:Int} {v:α}:∀{es:List (Int×α)},bL (ib es n v) m=if m=n then some v else bL es m
 |[]=>by simp[ib,bL]
 |e::es=>by
  have ih:=oi (n:=n) (m:=m) (v:=v) (es:=es);unfold ib;by_cases he:n=e.1
  ·simp only[he,if_true,bL];by_cases hm:m=e.1<;>simp[hm]
  ·simp only[he,if_false,bL,ih];by_cases hm:m=e.1
   ·rw[if_pos hm,if_pos hm,if_neg];rintro rfl;exact he hm
   ·rw[if_neg hm,if_neg hm]
theorem zN {n:Int} {v:α} {x:Int×α} {es:List (Int×α)} (h:(aQ es).Nodup):x∈ib es n v↔x=(n,v)∨x.1≠n∧x∈es:=by
 obtain⟨a,b⟩:=x;rw[←bX (sS h),oi];by_cases e:a=n
 ·subst e;simp;exact eq_comm
 ·simp[e,bX h]
end
end Go.M
