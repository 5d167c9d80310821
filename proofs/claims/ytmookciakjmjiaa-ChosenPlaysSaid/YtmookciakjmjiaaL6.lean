/-
  Part 6 of the library that the proof leans on.
-/
import Derived.Test.YtmookciakjmjiaaL5
namespace Go.M
open Go Go.Proofs
set_option maxRecDepth 100000
set_option maxHeartbeats 2000000
def allS (l : List CF) : List Int := l.flatMap standL
theorem allS_snoc (l : List CF) (j : Nat) (h : j < l.length) : allS (l.take (j + 1)) = allS (l.take j) ++ standL l[j] := by
 unfold allS; rw [List.take_succ_eq_append_getElem h, List.flatMap_append]; simp
def eachP (l : List CF) : Prop := ∀ (i : Nat) (h : i < l.length), l[i].chain = (i : Int) ∧ rightP l[i]
def allP (l : List CF) : Prop := (1 ≤ l.length ∧ l.length ≤ 4) ∧ eachP l ∧ unlikeP (allS l)
theorem eachP_snoc {l : List CF} {j : Nat} (h : j < l.length) (hj : eachP (l.take j)) (h1 : l[j].chain = (j : Int)) (h2 : rightP l[j]) : eachP (l.take (j + 1)) := by
 intro i hi
 have hi' : i < j + 1 := by rw [List.length_take] at hi; omega
 rw [List.getElem_take]
 by_cases e : i = j
 ·subst e; exact ⟨h1, h2⟩
 ·have := hj i (by rw [List.length_take]; omega)
  rwa [List.getElem_take] at this
theorem allS_len {l : List CF} (h : eachP l) : (allS l).length ≤ 6 * l.length := by
 unfold allS
 have : ∀ l : List CF, (∀ c ∈ l, rightP c) → (l.flatMap standL).length ≤ 6 * l.length := by
  intro l
  induction l with
  | nil => simp
  | cons c l ih =>
   intro h
   have h1 := ih fun c hc => h c (List.mem_cons_of_mem _ hc)
   have h2 := standL_len c
   have h3 := (h c List.mem_cons_self).2.2.1
   rw [List.flatMap_cons, List.length_append, List.length_cons]
   omega
 refine this l fun c hc => ?_
 obtain ⟨i, hi, rfl⟩ := List.mem_iff_getElem.1 hc
 exact (h i hi).2
open Classical in
open Classical in
theorem all_okC (l : List CF) : VC E0 64 0 [.sl 5 (l.map encCF) false] [] (RR (.s (.bool (decide (allP l)))) 0 []) := by
 refine VC.enterR L0 (show E0.func 64 = some Try.f64 by kernel_rfl) (fun _ _ => rfl) rfl rfl [] ?_
 ((conv=>whnf)<;>repeat(with_reducible refine D1 ?_)<;>conv=>whnf)
 (first|refine ⟨?_,?_⟩|refine nsplit ?_ ?_|refine bsplit ?_ ?_)<;>intro h1<;>have hz_:=True.intro<;>clear hz_
 ·have h1 : (((l.map encCF).length : Nat) : Int) < 1 := h1
  rw [List.length_map] at h1
  ((conv=>whnf)<;>repeat(with_reducible refine D1 ?_)<;>conv=>whnf)
  refine ⟨[], [], ?_⟩
  iterate 3 constructor
  refine ⟨⟨?_, ?_, ?_⟩, rfl, rfl, rfl⟩
  all_goals (repeat' first|with_reducible exact Lz.rfl|exact Lw.rfl|exact Lz.wrap (by omega)|(unfold goInt;with_reducible exact Lz.rfl)|exact flx _|constructor)
  exact Lz.of (bool_eq (Eq.symm (decide_eq_false fun q => by have := q.1.1; omega)))
 have h1 : ¬ (((l.map encCF).length : Nat) : Int) < 1 := h1
 rw [List.length_map] at h1
 ((conv=>whnf)<;>repeat(with_reducible refine D1 ?_)<;>conv=>whnf)
 (first|refine ⟨?_,?_⟩|refine nsplit ?_ ?_|refine bsplit ?_ ?_)<;>intro h2<;>have hz_:=True.intro<;>clear hz_
 ·have h2 : (((l.map encCF).length : Nat) : Int) > 4 := h2
  rw [List.length_map] at h2
  ((conv=>whnf)<;>repeat(with_reducible refine D1 ?_)<;>conv=>whnf)
  refine ⟨[], [], ?_⟩
  iterate 3 constructor
  refine ⟨⟨?_, ?_, ?_⟩, rfl, rfl, rfl⟩
  all_goals (repeat' first|with_reducible exact Lz.rfl|exact Lw.rfl|exact Lz.wrap (by omega)|(unfold goInt;with_reducible exact Lz.rfl)|exact flx _|constructor)
  exact Lz.of (bool_eq (Eq.symm (decide_eq_false fun q => by have := q.1.2; omega)))
 have h2 : ¬ (((l.map encCF).length : Nat) : Int) > 4 := h2
 rw [List.length_map] at h2
 ((conv=>whnf)<;>repeat(with_reducible refine D1 ?_)<;>conv=>whnf)
 refine ⟨fun k f o c => ∃ j : Nat, j ≤ l.length ∧ k = l.length - j ∧ eachP (l.take j) ∧ c = 1 ∧ f = [(0, .sl 5 (l.map encCF) false), (3, .tk 0), (14, .sl 5 (l.map encCF) false), (15, .s (.int .i64 l.length)), (16, .s (.int .i64 j))] ∧ o = [(0, .arr 1 true ((allS (l.take j)).map encI1))], ⟨l.length, ?_⟩, ?_⟩
 ·refine ⟨[], [none], ?_⟩
  iterate 3 constructor
  refine ⟨⟨?_, ?_, ?_⟩, ⟨0, Nat.zero_le _, rfl, (fun i hi => absurd hi (by simp)), rfl, rfl, rfl⟩⟩
  all_goals (repeat' first|with_reducible exact Lz.rfl|exact Lw.rfl|exact Lz.wrap (by omega)|(unfold goInt;with_reducible exact Lz.rfl)|exact flx _|constructor)
  all_goals first | exact Lz.int (by rw [List.length_map]) | exact Lz.of (by simp [allS])
 ·rintro k f1 o1 c1 ⟨j, hj, rfl, hn, rfl, rfl, rfl⟩
  ((conv=>whnf)<;>repeat(with_reducible refine D1 ?_)<;>conv=>whnf)
  (first|refine ⟨?_,?_⟩|refine nsplit ?_ ?_|refine bsplit ?_ ?_)<;>intro h<;>have hz_:=True.intro<;>clear hz_
  ·have h : j < l.length := by have : (j : Int) < (l.length : Nat) := h
                               omega
   ((conv=>whnf)<;>repeat(with_reducible refine D1 ?_)<;>conv=>whnf)
   refine idxI h ?_
   ((conv=>whnf)<;>repeat(with_reducible refine D1 ?_)<;>conv=>whnf)
   (first|refine ⟨?_,?_⟩|refine nsplit ?_ ?_|refine bsplit ?_ ?_)<;>intro hc<;>have hz_:=True.intro<;>clear hz_
   ·have hc : l[j].chain ≠ (j : Int) := hc
    ((conv=>whnf)<;>repeat(with_reducible refine D1 ?_)<;>conv=>whnf)
    refine ⟨[], [], ?_⟩
    iterate 3 constructor
    refine ⟨⟨?_, ?_, ?_⟩, rfl, rfl, rfl⟩
    all_goals (repeat' first|with_reducible exact Lz.rfl|exact Lw.rfl|exact Lz.wrap (by omega)|(unfold goInt;with_reducible exact Lz.rfl)|exact flx _|constructor)
    exact Lz.of (bool_eq (Eq.symm (decide_eq_false fun q => hc (q.2.1 j h).1)))
   ·have hc : l[j].chain = (j : Int) := Classical.not_not.1 hc
    ((conv=>whnf)<;>repeat(with_reducible refine D1 ?_)<;>conv=>whnf)
    refine ⟨[], [], _, _, _, _, right_ok l[j], t3, ?_⟩
    rintro r o' c' ⟨rfl, rfl, rfl⟩
    ((conv=>whnf)<;>repeat(with_reducible refine D1 ?_)<;>conv=>whnf)
    by_cases hr : rightP l[j]
    ·rw [decide_eq_true hr]
     ((conv=>whnf)<;>repeat(with_reducible refine D1 ?_)<;>conv=>whnf)
     refine ⟨[], [], _, _, _, _, everybodyC l[j] (by have := hr.2.2.1; omega), t3, ?_⟩
     rintro r o' c' ⟨rfl, rfl, rfl⟩
     ((conv=>whnf)<;>repeat(with_reducible refine D1 ?_)<;>conv=>whnf)
     have hsl := standL_len l[j]
     have hal := allS_len hn
     have h5 := hr.2.2.1
     have htl : (l.take j).length ≤ 4 := by rw [List.length_take]; omega
     refine ⟨by simp; omega, ?_⟩
     ((conv=>whnf)<;>repeat(with_reducible refine D1 ?_)<;>conv=>whnf)
     refine ⟨l.length - (j + 1), ?_, by omega⟩
     refine ⟨[], [some 3], ?_⟩
     iterate 3 constructor
     refine ⟨⟨?_, ?_, ?_⟩, ⟨j + 1, h, rfl, eachP_snoc h hn hc hr, rfl, rfl, rfl⟩⟩
     all_goals (repeat' first|with_reducible exact Lz.rfl|exact Lw.rfl|exact Lz.wrap (by omega)|(unfold goInt;with_reducible exact Lz.rfl)|exact flx _|constructor)
     exact Lz.of (by rw [allS_snoc l j h, List.map_append])
    ·rw [decide_eq_false hr]
     ((conv=>whnf)<;>repeat(with_reducible refine D1 ?_)<;>conv=>whnf)
     refine ⟨[], [], ?_⟩
     iterate 3 constructor
     refine ⟨⟨?_, ?_, ?_⟩, rfl, rfl, rfl⟩
     all_goals (repeat' first|with_reducible exact Lz.rfl|exact Lw.rfl|exact Lz.wrap (by omega)|(unfold goInt;with_reducible exact Lz.rfl)|exact flx _|constructor)
     exact Lz.of (bool_eq (Eq.symm (decide_eq_false fun q => hr (q.2.1 j h).2)))
  ·have hj' : j = l.length := by have : ¬ (j : Int) < (l.length : Nat) := h
                                 omega
   subst hj'
   rw [List.take_length] at hn
   rw [List.take_length]
   ((conv=>whnf)<;>repeat(with_reducible refine D1 ?_)<;>conv=>whnf)
   refine ⟨[0], [], _, _, _, _, unlikeC (allS l) (by have := allS_len hn; omega), t3, ?_⟩
   rintro r o' c' ⟨rfl, rfl, rfl⟩
   ((conv=>whnf)<;>repeat(with_reducible refine D1 ?_)<;>conv=>whnf)
   refine ⟨[], [], ?_⟩
   iterate 3 constructor
   refine ⟨⟨?_, ?_, ?_⟩, rfl, rfl, rfl⟩
   all_goals (repeat' first|with_reducible exact Lz.rfl|exact Lw.rfl|exact Lz.wrap (by omega)|(unfold goInt;with_reducible exact Lz.rfl)|exact flx _|constructor)
   exact Lz.of (bool_eq (decide_eq_decide.2 ⟨fun q => ⟨⟨by omega, by omega⟩, hn, q⟩, fun q => q.2.2⟩))
open Classical in
open Classical in
theorem refAll_okC (l : List CF) (hep : ∀ c ∈ l, 0 ≤ c.epoch) (hl : l.length < 10000) : VC E0 23 0 [.sl 5 (l.map encCF) false] [] (RR (.s (.bool (decide (allP l)))) 0 []) := by
 refine VC.enterR L0 (show E0.func 23 = some Try.f23 by kernel_rfl) (fun _ _ => rfl) rfl rfl [] ?_
 ((conv=>whnf)<;>repeat(with_reducible refine D1 ?_)<;>conv=>whnf)
 refine ⟨fun k f o c => ∃ j : Nat, j ≤ l.length ∧ k = l.length - j ∧ eachP (l.take j) ∧ c = 1 ∧ f = [(0, .sl 5 (l.map encCF) false), (3, .tk 0), (4, .s (.int .i64 j))] ∧ o = [(0, .arr 1 true ((allS (l.take j)).map encI1))], ⟨l.length, ?_⟩, ?_⟩
 ·exact ⟨[], [none], _, _, _, t3, ⟨0, Nat.zero_le _, rfl, (fun i hi => absurd hi (by simp)), rfl, rfl, rfl⟩⟩
 ·rintro k f1 o1 c1 ⟨j, hj, rfl, hn, rfl, rfl, rfl⟩
  ((conv=>whnf)<;>repeat(with_reducible refine D1 ?_)<;>conv=>whnf)
  (first|refine ⟨?_,?_⟩|refine nsplit ?_ ?_|refine bsplit ?_ ?_)<;>intro h<;>have hz_:=True.intro<;>clear hz_
  ·have h : j < l.length := lenlt.1 h
   ((conv=>whnf)<;>repeat(with_reducible refine D1 ?_)<;>conv=>whnf)
   refine idxI h ?_
   ((conv=>whnf)<;>repeat(with_reducible refine D1 ?_)<;>conv=>whnf)
   refine ⟨[], [], _, _, _, _, refRight_ok l[j] (hep _ (List.getElem_mem h)), t3, ?_⟩
   rintro r o' c' ⟨rfl, rfl, rfl⟩
   ((conv=>whnf)<;>repeat(with_reducible refine D1 ?_)<;>conv=>whnf)
   by_cases hr : rightP l[j]
   ·rw [decide_eq_true hr]
    ((conv=>whnf)<;>repeat(with_reducible refine D1 ?_)<;>conv=>whnf)
    refine idxI h ?_
    ((conv=>whnf)<;>repeat(with_reducible refine D1 ?_)<;>conv=>whnf)
    (first|refine ⟨?_,?_⟩|refine nsplit ?_ ?_|refine bsplit ?_ ?_)<;>intro hc<;>have hz_:=True.intro<;>clear hz_
    ·have hc : l[j].chain ≠ (j : Int) := hc
     ((conv=>whnf)<;>repeat(with_reducible refine D1 ?_)<;>conv=>whnf)
     refine ⟨[], [], ?_⟩
     iterate 3 constructor
     refine ⟨⟨?_, ?_, ?_⟩, rfl, rfl, rfl⟩
     all_goals (repeat' first|with_reducible exact Lz.rfl|exact Lw.rfl|exact Lz.wrap (by omega)|(unfold goInt;with_reducible exact Lz.rfl)|exact flx _|constructor)
     exact Lz.of (bool_eq (Eq.symm (decide_eq_false fun q => hc (q.2.1 j h).1)))
    ·have hc : l[j].chain = (j : Int) := Classical.not_not.1 hc
     ((conv=>whnf)<;>repeat(with_reducible refine D1 ?_)<;>conv=>whnf)
     refine idxI h ?_
     ((conv=>whnf)<;>repeat(with_reducible refine D1 ?_)<;>conv=>whnf)
     refine ⟨[], [], _, _, _, _, standsC l[j] (by have := hr.2.2.1; omega), t3, ?_⟩
     rintro r o' c' ⟨rfl, rfl, rfl⟩
     ((conv=>whnf)<;>repeat(with_reducible refine D1 ?_)<;>conv=>whnf)
     have hsl := standL_len l[j]
     have hal := allS_len hn
     have h5 := hr.2.2.1
     have htl : (l.take j).length ≤ l.length := by rw [List.length_take]; omega
     refine ⟨by simp; omega, ?_⟩
     ((conv=>whnf)<;>repeat(with_reducible refine D1 ?_)<;>conv=>whnf)
     refine ⟨l.length - (j + 1), ?_, by omega⟩
     refine ⟨[], [some 2], ?_⟩
     iterate 3 constructor
     refine ⟨⟨?_, ?_, ?_⟩, ⟨j + 1, h, rfl, eachP_snoc h hn hc hr, rfl, rfl, rfl⟩⟩
     all_goals (repeat' first|with_reducible exact Lz.rfl|exact Lw.rfl|exact Lz.wrap (by omega)|(unfold goInt;with_reducible exact Lz.rfl)|exact flx _|constructor)
     exact Lz.of (by rw [allS_snoc l j h, List.map_append])
   ·rw [decide_eq_false hr]
    ((conv=>whnf)<;>repeat(with_reducible refine D1 ?_)<;>conv=>whnf)
    refine ⟨[], [], ?_⟩
    iterate 3 constructor
    refine ⟨⟨?_, ?_, ?_⟩, rfl, rfl, rfl⟩
    all_goals (repeat' first|with_reducible exact Lz.rfl|exact Lw.rfl|exact Lz.wrap (by omega)|(unfold goInt;with_reducible exact Lz.rfl)|exact flx _|constructor)
    exact Lz.of (bool_eq (Eq.symm (decide_eq_false fun q => hr (q.2.1 j h).2)))
  ·have hj' : j = l.length := by have := mt lenlt.2 h
                                 omega
   subst hj'
   rw [List.take_length] at hn
   rw [List.take_length]
   ((conv=>whnf)<;>repeat(with_reducible refine D1 ?_)<;>conv=>whnf)
   (first|refine ⟨?_,?_⟩|refine nsplit ?_ ?_|refine bsplit ?_ ?_)<;>intro h1<;>have hz_:=True.intro<;>clear hz_
   ·have h1 : (((l.map encCF).length : Nat) : Int) ≥ 1 := h1
    rw [List.length_map] at h1
    ((conv=>whnf)<;>repeat(with_reducible refine D1 ?_)<;>conv=>whnf)
    (first|refine ⟨?_,?_⟩|refine nsplit ?_ ?_|refine bsplit ?_ ?_)<;>intro h2<;>have hz_:=True.intro<;>clear hz_
    ·have h2 : (((l.map encCF).length : Nat) : Int) ≤ 4 := h2
     rw [List.length_map] at h2
     ((conv=>whnf)<;>repeat(with_reducible refine D1 ?_)<;>conv=>whnf)
     refine ⟨[0], [], _, _, _, _, refUnlikeC (allS l) (by have := allS_len hn; omega), t3, ?_⟩
     rintro r o' c' ⟨rfl, rfl, rfl⟩
     ((conv=>whnf)<;>repeat(with_reducible refine D1 ?_)<;>conv=>whnf)
     refine ⟨[], [], ?_⟩
     iterate 3 constructor
     refine ⟨⟨?_, ?_, ?_⟩, rfl, rfl, rfl⟩
     all_goals (repeat' first|with_reducible exact Lz.rfl|exact Lw.rfl|exact Lz.wrap (by omega)|(unfold goInt;with_reducible exact Lz.rfl)|exact flx _|constructor)
     exact Lz.of (bool_eq (decide_eq_decide.2 ⟨fun q => ⟨⟨by omega, by omega⟩, hn, q⟩, fun q => q.2.2⟩))
    ·have h2 : ¬ (((l.map encCF).length : Nat) : Int) ≤ 4 := h2
     rw [List.length_map] at h2
     ((conv=>whnf)<;>repeat(with_reducible refine D1 ?_)<;>conv=>whnf)
     refine ⟨[], [], ?_⟩
     iterate 3 constructor
     refine ⟨⟨?_, ?_, ?_⟩, rfl, rfl, rfl⟩
     all_goals (repeat' first|with_reducible exact Lz.rfl|exact Lw.rfl|exact Lz.wrap (by omega)|(unfold goInt;with_reducible exact Lz.rfl)|exact flx _|constructor)
     exact Lz.of (bool_eq (Eq.symm (decide_eq_false fun q => by have := q.1.2; omega)))
   ·have h1 : ¬ (((l.map encCF).length : Nat) : Int) ≥ 1 := h1
    rw [List.length_map] at h1
    ((conv=>whnf)<;>repeat(with_reducible refine D1 ?_)<;>conv=>whnf)
    refine ⟨[], [], ?_⟩
    iterate 3 constructor
    refine ⟨⟨?_, ?_, ?_⟩, rfl, rfl, rfl⟩
    all_goals (repeat' first|with_reducible exact Lz.rfl|exact Lw.rfl|exact Lz.wrap (by omega)|(unfold goInt;with_reducible exact Lz.rfl)|exact flx _|constructor)
    exact Lz.of (bool_eq (Eq.symm (decide_eq_false fun q => by have := q.1.1; omega)))
end Go.M
namespace Go.M
open Go Go.Proofs
set_option maxRecDepth 100000
set_option maxHeartbeats 2000000
theorem same04_ok (l m : List Int) (hl : l.length < 1000000) : VC E0 63 0 [.sl 1 (l.map encI1) false, .sl 1 (m.map encI1) false] [] (RR (.s (.bool (eqB l m))) 0 []) := by
 refine VC.enterR L0 (show E0.func 63 = some Try.f63 by kernel_rfl) (fun _ _ => rfl) rfl rfl [] ?_
 ((conv=>whnf)<;>repeat(with_reducible refine D1 ?_)<;>conv=>whnf)
 (first|refine ⟨?_,?_⟩|refine nsplit ?_ ?_|refine bsplit ?_ ?_)<;>intro hlm<;>have hz_:=True.intro<;>clear hz_
 ·((conv=>whnf)<;>repeat(with_reducible refine D1 ?_)<;>conv=>whnf)
  refine ⟨[], [], ?_⟩
  iterate 3 constructor
  refine ⟨⟨?_, ?_, ?_⟩, rfl, rfl, rfl⟩
  all_goals (repeat' first|with_reducible exact Lz.rfl|exact Lw.rfl|exact Lz.wrap (by omega)|(unfold goInt;with_reducible exact Lz.rfl)|exact flx _|constructor)
  refine Lz.of (bool_eq (Eq.symm (eqB_false.2 fun e => hlm (by subst e; rfl))))
 ·have hlm : l.length = m.length := by simp at hlm; omega
  ((conv=>whnf)<;>repeat(with_reducible refine D1 ?_)<;>conv=>whnf)
  refine ⟨fun k f o c => ∃ i : Nat, i ≤ l.length ∧ k = l.length - i ∧ l.take i = m.take i ∧ c = 0 ∧ f = [(0, .sl 1 (l.map encI1) false), (1, .sl 1 (m.map encI1) false), (5, .s (.int .i64 i))] ∧ o = [], ⟨l.length, ?_⟩, ?_⟩
  ·exact ⟨[], [], _, _, _, t3, ⟨0, Nat.zero_le _, rfl, rfl, rfl, rfl, rfl⟩⟩
  ·rintro k f1 o1 c1 ⟨i, hi, rfl, ht, rfl, rfl, rfl⟩
   ((conv=>whnf)<;>repeat(with_reducible refine D1 ?_)<;>conv=>whnf)
   (first|refine ⟨?_,?_⟩|refine nsplit ?_ ?_|refine bsplit ?_ ?_)<;>intro h<;>have hz_:=True.intro<;>clear hz_
   ·have h := lenlt.1 h
    have h2 : i < m.length := by omega
    ((conv=>whnf)<;>repeat(with_reducible refine D1 ?_)<;>conv=>whnf)
    refine idxI h ?_
    ((conv=>whnf)<;>repeat(with_reducible refine D1 ?_)<;>conv=>whnf)
    refine idxI h2 ?_
    ((conv=>whnf)<;>repeat(with_reducible refine D1 ?_)<;>conv=>whnf)
    (first|refine ⟨?_,?_⟩|refine nsplit ?_ ?_|refine bsplit ?_ ?_)<;>intro hv<;>have hz_:=True.intro<;>clear hz_
    ·have hv : l[i] ≠ m[i] := hv
     ((conv=>whnf)<;>repeat(with_reducible refine D1 ?_)<;>conv=>whnf)
     refine ⟨[], [], ?_⟩
     iterate 3 constructor
     refine ⟨⟨?_, ?_, ?_⟩, rfl, rfl, rfl⟩
     all_goals (repeat' first|with_reducible exact Lz.rfl|exact Lw.rfl|exact Lz.wrap (by omega)|(unfold goInt;with_reducible exact Lz.rfl)|exact flx _|constructor)
     refine Lz.of (bool_eq (Eq.symm (eqB_false.2 fun e => hv (by subst e; rfl))))
    ·have hv : l[i] = m[i] := Classical.not_not.1 hv
     ((conv=>whnf)<;>repeat(with_reducible refine D1 ?_)<;>conv=>whnf)
     refine ⟨l.length - (i + 1), ?_, by omega⟩
     exact ⟨[], [], _, _, _, t3, ⟨i + 1, h, rfl, by rw [take_snoc l i h, take_snoc m i h2, ht, hv], rfl, rfl, rfl⟩⟩
   ·have h := mt lenlt.2 h
    ((conv=>whnf)<;>repeat(with_reducible refine D1 ?_)<;>conv=>whnf)
    refine ⟨[], [], ?_⟩
    iterate 3 constructor
    refine ⟨⟨?_, ?_, ?_⟩, rfl, rfl, rfl⟩
    all_goals (repeat' first|with_reducible exact Lz.rfl|exact Lw.rfl|exact Lz.wrap (by omega)|(unfold goInt;with_reducible exact Lz.rfl)|exact flx _|constructor)
    refine Lz.of (bool_eq (Eq.symm (eqB_iff.2 ?_)))
    rw [← List.take_of_length_le (Nat.not_lt.1 h), ht, List.take_of_length_le (by omega)]
theorem CF.ext' {a b : CF} (h1 : a.chain = b.chain) (h2 : a.epoch = b.epoch) (h3 : a.nodes = b.nodes) (h4 : a.fresh = b.fresh) (h5 : a.join = b.join) : a = b := by
 cases a; cases b; simp_all
theorem sameCF_ok (a b : CF) (hl : a.nodes.length < 1000000) : VC E0 32 0 [.agg (encCF a), .agg (encCF b)] [] (RR (.s (.bool (eqB a b))) 0 []) := by
 refine VC.enterR L0 (show E0.func 32 = some Try.f32 by kernel_rfl) (fun _ _ => rfl) rfl rfl [] ?_
 ((conv=>whnf)<;>repeat(with_reducible refine D1 ?_)<;>conv=>whnf)
 (first|refine ⟨?_,?_⟩|refine nsplit ?_ ?_|refine bsplit ?_ ?_)<;>intro h1<;>have hz_:=True.intro<;>clear hz_
 rotate_left
 ·have h1 : ¬ a.chain = b.chain := h1
  ((conv=>whnf)<;>repeat(with_reducible refine D1 ?_)<;>conv=>whnf)
  refine ⟨[], [], ?_⟩
  iterate 3 constructor
  refine ⟨⟨?_, ?_, ?_⟩, rfl, rfl, rfl⟩
  all_goals (repeat' first|with_reducible exact Lz.rfl|exact Lw.rfl|exact Lz.wrap (by omega)|(unfold goInt;with_reducible exact Lz.rfl)|exact flx _|constructor)
  exact Lz.of (bool_eq (Eq.symm (eqB_false.2 fun e => h1 (by rw [e]))))
 have h1 : a.chain = b.chain := h1
 ((conv=>whnf)<;>repeat(with_reducible refine D1 ?_)<;>conv=>whnf)
 (first|refine ⟨?_,?_⟩|refine nsplit ?_ ?_|refine bsplit ?_ ?_)<;>intro h2<;>have hz_:=True.intro<;>clear hz_
 rotate_left
 ·have h2 : ¬ a.epoch = b.epoch := h2
  ((conv=>whnf)<;>repeat(with_reducible refine D1 ?_)<;>conv=>whnf)
  refine ⟨[], [], ?_⟩
  iterate 3 constructor
  refine ⟨⟨?_, ?_, ?_⟩, rfl, rfl, rfl⟩
  all_goals (repeat' first|with_reducible exact Lz.rfl|exact Lw.rfl|exact Lz.wrap (by omega)|(unfold goInt;with_reducible exact Lz.rfl)|exact flx _|constructor)
  exact Lz.of (bool_eq (Eq.symm (eqB_false.2 fun e => h2 (by rw [e]))))
 have h2 : a.epoch = b.epoch := h2
 ((conv=>whnf)<;>repeat(with_reducible refine D1 ?_)<;>conv=>whnf)
 cases h3 : (a.fresh == b.fresh)
 ·((conv=>whnf)<;>repeat(with_reducible refine D1 ?_)<;>conv=>whnf)
  refine ⟨[], [], ?_⟩
  iterate 3 constructor
  refine ⟨⟨?_, ?_, ?_⟩, rfl, rfl, rfl⟩
  all_goals (repeat' first|with_reducible exact Lz.rfl|exact Lw.rfl|exact Lz.wrap (by omega)|(unfold goInt;with_reducible exact Lz.rfl)|exact flx _|constructor)
  exact Lz.of (bool_eq (Eq.symm (eqB_false.2 fun e => by rw [e] at h3; simp at h3)))
 ((conv=>whnf)<;>repeat(with_reducible refine D1 ?_)<;>conv=>whnf)
 (first|refine ⟨?_,?_⟩|refine nsplit ?_ ?_|refine bsplit ?_ ?_)<;>intro h4<;>have hz_:=True.intro<;>clear hz_
 rotate_left
 ·have h4 : ¬ a.join = b.join := h4
  ((conv=>whnf)<;>repeat(with_reducible refine D1 ?_)<;>conv=>whnf)
  refine ⟨[], [], ?_⟩
  iterate 3 constructor
  refine ⟨⟨?_, ?_, ?_⟩, rfl, rfl, rfl⟩
  all_goals (repeat' first|with_reducible exact Lz.rfl|exact Lw.rfl|exact Lz.wrap (by omega)|(unfold goInt;with_reducible exact Lz.rfl)|exact flx _|constructor)
  exact Lz.of (bool_eq (Eq.symm (eqB_false.2 fun e => h4 (by rw [e]))))
 have h4 : a.join = b.join := h4
 ((conv=>whnf)<;>repeat(with_reducible refine D1 ?_)<;>conv=>whnf)
 refine ⟨[], [], _, _, _, _, same04_ok a.nodes b.nodes hl, t3, ?_⟩
 rintro r o' c' ⟨rfl, rfl, rfl⟩
 ((conv=>whnf)<;>repeat(with_reducible refine D1 ?_)<;>conv=>whnf)
 refine ⟨[], [], ?_⟩
 iterate 3 constructor
 refine ⟨⟨?_, ?_, ?_⟩, rfl, rfl, rfl⟩
 all_goals (repeat' first|with_reducible exact Lz.rfl|exact Lw.rfl|exact Lz.wrap (by omega)|(unfold goInt;with_reducible exact Lz.rfl)|exact flx _|constructor)
 refine Lz.of (bool_eq ?_)
 by_cases hn : a.nodes = b.nodes
 ·rw [eqB_iff.2 hn, eqB_iff.2 (CF.ext' h1 h2 hn (by simpa using h3) h4)]
 ·rw [eqB_false.2 hn, eqB_false.2 fun e => hn (by rw [e])]
theorem sameAll_ok (l m : List CF) (hl : l.length < 1000000) (hn : ∀ c ∈ l, c.nodes.length < 1000000) : VC E0 18 0 [.sl 5 (l.map encCF) false, .sl 5 (m.map encCF) false] [] (RR (.s (.bool (eqB l m))) 0 []) := by
 refine VC.enterR L0 (show E0.func 18 = some Try.f18 by kernel_rfl) (fun _ _ => rfl) rfl rfl [] ?_
 ((conv=>whnf)<;>repeat(with_reducible refine D1 ?_)<;>conv=>whnf)
 (first|refine ⟨?_,?_⟩|refine nsplit ?_ ?_|refine bsplit ?_ ?_)<;>intro hlm<;>have hz_:=True.intro<;>clear hz_
 ·((conv=>whnf)<;>repeat(with_reducible refine D1 ?_)<;>conv=>whnf)
  refine ⟨[], [], ?_⟩
  iterate 3 constructor
  refine ⟨⟨?_, ?_, ?_⟩, rfl, rfl, rfl⟩
  all_goals (repeat' first|with_reducible exact Lz.rfl|exact Lw.rfl|exact Lz.wrap (by omega)|(unfold goInt;with_reducible exact Lz.rfl)|exact flx _|constructor)
  refine Lz.of (bool_eq (Eq.symm (eqB_false.2 fun e => hlm (by subst e; rfl))))
 ·have hlm : l.length = m.length := by simp at hlm; omega
  ((conv=>whnf)<;>repeat(with_reducible refine D1 ?_)<;>conv=>whnf)
  refine ⟨fun k f o c => ∃ i : Nat, i ≤ l.length ∧ k = l.length - i ∧ l.take i = m.take i ∧ c = 0 ∧ f = [(0, .sl 5 (l.map encCF) false), (1, .sl 5 (m.map encCF) false), (5, .s (.int .i64 i))] ∧ o = [], ⟨l.length, ?_⟩, ?_⟩
  ·exact ⟨[], [], _, _, _, t3, ⟨0, Nat.zero_le _, rfl, rfl, rfl, rfl, rfl⟩⟩
  ·rintro k f1 o1 c1 ⟨i, hi, rfl, ht, rfl, rfl, rfl⟩
   ((conv=>whnf)<;>repeat(with_reducible refine D1 ?_)<;>conv=>whnf)
   (first|refine ⟨?_,?_⟩|refine nsplit ?_ ?_|refine bsplit ?_ ?_)<;>intro h<;>have hz_:=True.intro<;>clear hz_
   ·have h := lenlt.1 h
    have h2 : i < m.length := by omega
    ((conv=>whnf)<;>repeat(with_reducible refine D1 ?_)<;>conv=>whnf)
    refine idxI h ?_
    ((conv=>whnf)<;>repeat(with_reducible refine D1 ?_)<;>conv=>whnf)
    refine idxI h2 ?_
    ((conv=>whnf)<;>repeat(with_reducible refine D1 ?_)<;>conv=>whnf)
    refine ⟨[], [], _, _, _, _, sameCF_ok l[i] m[i] (hn _ (List.getElem_mem h)), t3, ?_⟩
    rintro r o' c' ⟨rfl, rfl, rfl⟩
    have hz_ := True.intro
    clear hz_
    cases hv : eqB l[i] m[i]
    ·((conv=>whnf)<;>repeat(with_reducible refine D1 ?_)<;>conv=>whnf)
     refine ⟨[], [], ?_⟩
     iterate 3 constructor
     refine ⟨⟨?_, ?_, ?_⟩, rfl, rfl, rfl⟩
     all_goals (repeat' first|with_reducible exact Lz.rfl|exact Lw.rfl|exact Lz.wrap (by omega)|(unfold goInt;with_reducible exact Lz.rfl)|exact flx _|constructor)
     refine Lz.of (bool_eq (Eq.symm (eqB_false.2 fun e => eqB_false.1 hv (by subst e; rfl))))
    ·((conv=>whnf)<;>repeat(with_reducible refine D1 ?_)<;>conv=>whnf)
     refine ⟨l.length - (i + 1), ?_, by omega⟩
     exact ⟨[], [], _, _, _, t3, ⟨i + 1, h, rfl, by rw [take_snoc l i h, take_snoc m i h2, ht, eqB_iff.1 hv], rfl, rfl, rfl⟩⟩
   ·have h := mt lenlt.2 h
    ((conv=>whnf)<;>repeat(with_reducible refine D1 ?_)<;>conv=>whnf)
    refine ⟨[], [], ?_⟩
    iterate 3 constructor
    refine ⟨⟨?_, ?_, ?_⟩, rfl, rfl, rfl⟩
    all_goals (repeat' first|with_reducible exact Lz.rfl|exact Lw.rfl|exact Lz.wrap (by omega)|(unfold goInt;with_reducible exact Lz.rfl)|exact flx _|constructor)
    refine Lz.of (bool_eq (Eq.symm (eqB_iff.2 ?_)))
    rw [← List.take_of_length_le (Nat.not_lt.1 h), ht, List.take_of_length_le (by omega)]
end Go.M
namespace Go.M
open Go Go.Proofs
set_option maxRecDepth 100000
set_option maxHeartbeats 2000000
def withoutL (l : List Int) (n : Int) : List Int := l.filter fun x => decide (x ≠ n)
theorem withoutL_snoc (l : List Int) (n : Int) (j : Nat) (h : j < l.length) : withoutL (l.take (j + 1)) n = withoutL (l.take j) n ++ (if l[j] = n then [] else [l[j]]) := by
 unfold withoutL
 rw [List.take_succ_eq_append_getElem h, List.filter_append]
 by_cases e : l[j] = n <;> simp [e]
theorem withoutL_len (l : List Int) (n : Int) : (withoutL l n).length ≤ l.length := List.length_filter_le _ _
theorem without_ok (l : List Int) (n : Int) (hl : l.length < 100000) : VC E0 114 0 [.sl 1 (l.map encI1) false, .s (.int .i64 n)] [] (RR (.tk 0) 1 [(0, .arr 1 true ((withoutL l n).map encI1))]) := by
 refine VC.enterR L0 (show E0.func 114 = some Try.f114 by kernel_rfl) (fun _ _ => rfl) rfl rfl [] ?_
 ((conv=>whnf)<;>repeat(with_reducible refine D1 ?_)<;>conv=>whnf)
 refine ⟨fun k f o c => ∃ j : Nat, j ≤ l.length ∧ k = l.length - j ∧ c = 1 ∧ f = [(0, .sl 1 (l.map encI1) false), (1, .s (.int .i64 n)), (5, .tk 0), (6, .s (.int .i64 j))] ∧ o = [(0, .arr 1 true ((withoutL (l.take j) n).map encI1))], ⟨l.length, ?_⟩, ?_⟩
 ·exact ⟨[], [none], _, _, _, t3, ⟨0, Nat.zero_le _, rfl, rfl, rfl, rfl⟩⟩
 ·rintro k f1 o1 c1 ⟨j, hj, rfl, rfl, rfl, rfl⟩
  ((conv=>whnf)<;>repeat(with_reducible refine D1 ?_)<;>conv=>whnf)
  (first|refine ⟨?_,?_⟩|refine nsplit ?_ ?_|refine bsplit ?_ ?_)<;>intro h<;>have hz_:=True.intro<;>clear hz_
  ·have h : j < l.length := lenlt.1 h
   have hs := withoutL_snoc l n j h
   ((conv=>whnf)<;>repeat(with_reducible refine D1 ?_)<;>conv=>whnf)
   refine idxI h ?_
   ((conv=>whnf)<;>repeat(with_reducible refine D1 ?_)<;>conv=>whnf)
   (first|refine ⟨?_,?_⟩|refine nsplit ?_ ?_|refine bsplit ?_ ?_)<;>intro he<;>have hz_:=True.intro<;>clear hz_
   ·have he : l[j] ≠ n := he
    rw [if_neg he] at hs
    have hle := withoutL_len (l.take j) n
    rw [List.length_take] at hle
    ((conv=>whnf)<;>repeat(with_reducible refine D1 ?_)<;>conv=>whnf)
    refine idxI h ?_
    ((conv=>whnf)<;>repeat(with_reducible refine D1 ?_)<;>conv=>whnf)
    refine ⟨by simp; omega, ?_⟩
    ((conv=>whnf)<;>repeat(with_reducible refine D1 ?_)<;>conv=>whnf)
    refine ⟨l.length - (j + 1), ?_, by omega⟩
    refine ⟨[], [some 2], ?_⟩
    iterate 3 constructor
    refine ⟨⟨?_, ?_, ?_⟩, ⟨j + 1, h, rfl, rfl, rfl, rfl⟩⟩
    all_goals (repeat' first|with_reducible exact Lz.rfl|exact Lw.rfl|exact Lz.wrap (by omega)|(unfold goInt;with_reducible exact Lz.rfl)|exact flx _|constructor)
    exact Lz.of (by rw [hs, List.map_append]; rfl)
   ·have he : l[j] = n := Classical.not_not.1 he
    rw [if_pos he] at hs
    ((conv=>whnf)<;>repeat(with_reducible refine D1 ?_)<;>conv=>whnf)
    refine ⟨l.length - (j + 1), ?_, by omega⟩
    refine ⟨[], [some 0], ?_⟩
    iterate 3 constructor
    refine ⟨⟨?_, ?_, ?_⟩, ⟨j + 1, h, rfl, rfl, rfl, rfl⟩⟩
    all_goals (repeat' first|with_reducible exact Lz.rfl|exact Lw.rfl|exact Lz.wrap (by omega)|(unfold goInt;with_reducible exact Lz.rfl)|exact flx _|constructor)
    exact Lz.of (by rw [hs, List.append_nil])
  ·have hj' : j = l.length := by have := mt lenlt.2 h
                                 omega
   subst hj'
   rw [List.take_length]
   ((conv=>whnf)<;>repeat(with_reducible refine D1 ?_)<;>conv=>whnf)
   exact ⟨[], [some 0], _, _, _, t3, rfl, rfl, rfl⟩
def settledL (c : CF) : List Int := if c.fresh = true then c.nodes.take (c.nodes.length - 1) else c.nodes
theorem refSettled_ok (c : CF) (he : 0 ≤ c.epoch) (hr : rightP c) : VC E0 117 0 [.agg (encCF c)] [] (RR (.sl 1 ((settledL c).map encI1) false) 0 []) := by
 have h5 := hr.2.2.1
 refine VC.enterR L0 (show E0.func 117 = some Try.f117 by kernel_rfl) (fun _ _ => rfl) rfl rfl [] ?_
 ((conv=>whnf)<;>repeat(with_reducible refine D1 ?_)<;>conv=>whnf)
 refine ⟨[], [], _, _, _, _, refRight_ok c he, t3, ?_⟩
 rintro r o' c' ⟨rfl, rfl, rfl⟩
 rw [decide_eq_true hr]
 ((conv=>whnf)<;>repeat(with_reducible refine D1 ?_)<;>conv=>whnf)
 cases hf : c.fresh
 ·((conv=>whnf)<;>repeat(with_reducible refine D1 ?_)<;>conv=>whnf)
  refine ⟨by simp, ?_⟩
  ((conv=>whnf)<;>repeat(with_reducible refine D1 ?_)<;>conv=>whnf)
  refine ⟨[], [], ?_⟩
  iterate 3 constructor
  refine ⟨⟨?_, ?_, ?_⟩, rfl, rfl, rfl⟩
  all_goals (repeat' first|with_reducible exact Lz.rfl|exact Lw.rfl|exact Lz.wrap (by omega)|(unfold goInt;with_reducible exact Lz.rfl)|exact flx _|constructor)
  exact Lz.of (by unfold settledL; rw [hf]; simp [← List.map_take])
 ·((conv=>whnf)<;>repeat(with_reducible refine D1 ?_)<;>conv=>whnf)
  have hw : IntKind.i64.wrap ((((c.nodes.map encI1).length : Nat) : Int) - 1) = ((c.nodes.length - 1 : Nat) : Int) := by
   rw [List.length_map, IntWalk.i64_in _ (by omega)]; omega
  refine ⟨by rw [hw, List.length_map]; omega, ?_⟩
  ((conv=>whnf)<;>repeat(with_reducible refine D1 ?_)<;>conv=>whnf)
  refine ⟨[], [], ?_⟩
  iterate 3 constructor
  refine ⟨⟨?_, ?_, ?_⟩, rfl, rfl, rfl⟩
  all_goals (repeat' first|with_reducible exact Lz.rfl|exact Lw.rfl|exact Lz.wrap (by omega)|(unfold goInt;with_reducible exact Lz.rfl)|exact flx _|constructor)
  refine Lz.of ?_
  unfold settledL
  rw [hf, if_pos rfl, hw]
  simp [List.map_take]
theorem refUsed_ok (l : List CF) (n : Int) (hl : l.length < 10000) (hn : ∀ c ∈ l, c.nodes.length < 10000) : VC E0 118 0 [.sl 5 (l.map encCF) false, .s (.int .i64 n)] [] (RR (.s (.bool (decide (n ∈ allS l)))) 0 []) := by
 refine VC.enterR L0 (show E0.func 118 = some Try.f118 by kernel_rfl) (fun _ _ => rfl) rfl rfl [] ?_
 ((conv=>whnf)<;>repeat(with_reducible refine D1 ?_)<;>conv=>whnf)
 refine ⟨fun k f o c => ∃ j : Nat, j ≤ l.length ∧ k = l.length - j ∧ n ∉ allS (l.take j) ∧ c = 0 ∧ f = [(0, .sl 5 (l.map encCF) false), (1, .s (.int .i64 n)), (5, .s (.int .i64 j))] ∧ o = [], ⟨l.length, ?_⟩, ?_⟩
 ·exact ⟨[], [], _, _, _, t3, ⟨0, Nat.zero_le _, rfl, by simp [allS], rfl, rfl, rfl⟩⟩
 ·rintro k f1 o1 c1 ⟨j, hj, rfl, hnm, rfl, rfl, rfl⟩
  ((conv=>whnf)<;>repeat(with_reducible refine D1 ?_)<;>conv=>whnf)
  (first|refine ⟨?_,?_⟩|refine nsplit ?_ ?_|refine bsplit ?_ ?_)<;>intro h<;>have hz_:=True.intro<;>clear hz_
  ·have h : j < l.length := lenlt.1 h
   have hcn := hn _ (List.getElem_mem h)
   have hsl := standL_len l[j]
   ((conv=>whnf)<;>repeat(with_reducible refine D1 ?_)<;>conv=>whnf)
   refine idxI h ?_
   ((conv=>whnf)<;>repeat(with_reducible refine D1 ?_)<;>conv=>whnf)
   refine ⟨[], [], _, _, _, _, standsC l[j] (by omega), t3, ?_⟩
   rintro r o' c' ⟨rfl, rfl, rfl⟩
   ((conv=>whnf)<;>repeat(with_reducible refine D1 ?_)<;>conv=>whnf)
   refine ⟨[0], [], _, _, _, _, has04_ok (standL l[j]) n (by omega), t3, ?_⟩
   rintro r o' c' ⟨rfl, rfl, rfl⟩
   by_cases hm : n ∈ standL l[j]
   ·rw [decide_eq_true hm]
    ((conv=>whnf)<;>repeat(with_reducible refine D1 ?_)<;>conv=>whnf)
    refine ⟨[], [], ?_⟩
    iterate 3 constructor
    refine ⟨⟨?_, ?_, ?_⟩, rfl, rfl, rfl⟩
    all_goals (repeat' first|with_reducible exact Lz.rfl|exact Lw.rfl|exact Lz.wrap (by omega)|(unfold goInt;with_reducible exact Lz.rfl)|exact flx _|constructor)
    exact Lz.of (bool_eq (Eq.symm (decide_eq_true (List.mem_flatMap.2 ⟨_, List.getElem_mem h, hm⟩))))
   ·rw [decide_eq_false hm]
    ((conv=>whnf)<;>repeat(with_reducible refine D1 ?_)<;>conv=>whnf)
    refine ⟨l.length - (j + 1), ?_, by omega⟩
    exact ⟨[], [], _, _, _, t3, ⟨j + 1, h, rfl, by rw [allS_snoc l j h, List.mem_append]; exact not_or.2 ⟨hnm, hm⟩, rfl, rfl, rfl⟩⟩
  ·have hj' : j = l.length := by have := mt lenlt.2 h
                                 omega
   subst hj'
   rw [List.take_length] at hnm
   ((conv=>whnf)<;>repeat(with_reducible refine D1 ?_)<;>conv=>whnf)
   refine ⟨[], [], ?_⟩
   iterate 3 constructor
   refine ⟨⟨?_, ?_, ?_⟩, rfl, rfl, rfl⟩
   all_goals (repeat' first|with_reducible exact Lz.rfl|exact Lw.rfl|exact Lz.wrap (by omega)|(unfold goInt;with_reducible exact Lz.rfl)|exact flx _|constructor)
   exact Lz.of (bool_eq (Eq.symm (decide_eq_false hnm)))
end Go.M
namespace Go.M
open Go Go.Proofs
set_option maxRecDepth 100000
set_option maxHeartbeats 2000000
def lastL (c : CF) : Int := c.nodes.getLast?.getD 0
def canF (x : CF) : Int := if x.epoch = 18446744073709551615 then 9 else 0
def canR (l : List CF) (x : CF) (c : Cmd) : Int :=
 if c.kind = 1 then (if c.node ∉ standL x then 7 else if (withoutL (settledL x) c.node).length = 0 then 12 else canF x)
 else if c.kind = 2 then (if c.node ∈ allS l then 8 else if x.join ≠ 0 ∨ x.fresh = true then 12 else if x.nodes.length = 5 then 9 else canF x)
 else if c.kind = 3 then (if x.join ≠ c.node then 7 else if x.nodes.length = 5 then 9 else canF x)
 else (if x.fresh = false ∨ lastL x ≠ c.node then 7 else canF x)
theorem lastI {l : List Int} {K : List TV → Prop} (h : 1 ≤ l.length ∧ l.length ≤ 5) (hK : K (encI1 (l.getLast?.getD 0))) : ∃ e, (0 ≤ IntKind.i64.wrap ((((l.map encI1).length : Nat) : Int) - 1) ∧ (l.map encI1)[(IntKind.i64.wrap ((((l.map encI1).length : Nat) : Int) - 1)).toNat]? = some e) ∧ K e := by
 have hw : IntKind.i64.wrap ((((l.map encI1).length : Nat) : Int) - 1) = ((l.length - 1 : Nat) : Int) := by
  rw [List.length_map, IntWalk.i64_in _ (by omega)]; omega
 rw [hw]
 refine ⟨_, ⟨by omega, ?_⟩, hK⟩
 rw [Int.toNat_natCast, List.getElem?_map, ← List.getLast?_eq_getElem?]
 cases hq : l.getLast? with
 | none => rw [List.getLast?_eq_none_iff] at hq; subst hq; exact absurd h.1 (by decide)
 | some a => rfl
theorem refcan_ok (l : List CF) (x : CF) (c : Cmd) (he : 0 ≤ x.epoch) (hr : rightP x) (hl : l.length < 10000) (hn : ∀ c ∈ l, c.nodes.length < 10000) : VC E0 79 0 [.sl 5 (l.map encCF) false, .agg (encCF x), cT4 c] [] (RR (.s (.int .i64 (canR l x c))) 0 []) := by
 have h5 := hr.2.2.1
 have hsl := standL_len x
 refine VC.enterR L0 (show E0.func 79 = some Try.f79 by kernel_rfl) (fun _ _ => rfl) rfl rfl [] ?_
 ((conv=>whnf)<;>repeat(with_reducible refine D1 ?_)<;>conv=>whnf)
 refine lastI h5 ?_
 ((conv=>whnf)<;>repeat(with_reducible refine D1 ?_)<;>conv=>whnf)
 (first|refine ⟨?_,?_⟩|refine nsplit ?_ ?_|refine bsplit ?_ ?_)<;>intro k1<;>have hz_:=True.intro<;>clear hz_
 ·have k1 : c.kind = 1 := k1
  have hC : canR l x c = if c.node ∉ standL x then 7 else if (withoutL (settledL x) c.node).length = 0 then 12 else canF x := by unfold canR; rw [if_pos k1]
  ((conv=>whnf)<;>repeat(with_reducible refine D1 ?_)<;>conv=>whnf)
  refine ⟨[], [], _, _, _, _, standsC x (by omega), t3, ?_⟩
  rintro r o' c' ⟨rfl, rfl, rfl⟩
  ((conv=>whnf)<;>repeat(with_reducible refine D1 ?_)<;>conv=>whnf)
  refine ⟨[2], [], _, _, _, _, has04_ok (standL x) c.node (by omega), t3, ?_⟩
  rintro r o' c' ⟨rfl, rfl, rfl⟩
  by_cases hm : c.node ∈ standL x
  ·rw [if_neg (fun q => q hm)] at hC
   rw [decide_eq_true hm]
   ((conv=>whnf)<;>repeat(with_reducible refine D1 ?_)<;>conv=>whnf)
   refine ⟨[], [], _, _, _, _, refSettled_ok x he hr, t3, ?_⟩
   rintro r o' c' ⟨rfl, rfl, rfl⟩
   ((conv=>whnf)<;>repeat(with_reducible refine D1 ?_)<;>conv=>whnf)
   have hsn : (settledL x).length ≤ x.nodes.length := by unfold settledL; split <;> simp
   refine ⟨[], [], _, _, _, _, without_ok (settledL x) c.node (by omega), t3, ?_⟩
   rintro r o' c' ⟨rfl, rfl, rfl⟩
   ((conv=>whnf)<;>repeat(with_reducible refine D1 ?_)<;>conv=>whnf)
   (first|refine ⟨?_,?_⟩|refine nsplit ?_ ?_|refine bsplit ?_ ?_)<;>intro hz<;>have hz_:=True.intro<;>clear hz_
   ·have hz : ((((withoutL (settledL x) c.node).map encI1).length : Nat) : Int) = 0 := hz
    rw [List.length_map] at hz
    rw [if_pos (by omega)] at hC
    ((conv=>whnf)<;>repeat(with_reducible refine D1 ?_)<;>conv=>whnf)
    refine ⟨[], [], ?_⟩
    iterate 3 constructor
    refine ⟨⟨?_, ?_, ?_⟩, rfl, rfl, rfl⟩
    all_goals (repeat' first|with_reducible exact Lz.rfl|exact Lw.rfl|exact Lz.wrap (by omega)|(unfold goInt;with_reducible exact Lz.rfl)|exact flx _|constructor)
    exact Lz.int hC.symm
   ·have hz : ¬ ((((withoutL (settledL x) c.node).map encI1).length : Nat) : Int) = 0 := hz
    rw [List.length_map] at hz
    rw [if_neg (by omega)] at hC
    ((conv=>whnf)<;>repeat(with_reducible refine D1 ?_)<;>conv=>whnf)
    (first|refine ⟨?_,?_⟩|refine nsplit ?_ ?_|refine bsplit ?_ ?_)<;>intro hm<;>have hz_:=True.intro<;>clear hz_
    ·have hm : x.epoch = 18446744073709551615 := hm
     ((conv=>whnf)<;>repeat(with_reducible refine D1 ?_)<;>conv=>whnf)
     refine ⟨[], [], ?_⟩
     iterate 3 constructor
     refine ⟨⟨?_, ?_, ?_⟩, rfl, rfl, rfl⟩
     all_goals (repeat' first|with_reducible exact Lz.rfl|exact Lw.rfl|exact Lz.wrap (by omega)|(unfold goInt;with_reducible exact Lz.rfl)|exact flx _|constructor)
     exact Lz.int (by rw [hC]; unfold canF; rw [if_pos hm])
    ·have hm : ¬ x.epoch = 18446744073709551615 := hm
     ((conv=>whnf)<;>repeat(with_reducible refine D1 ?_)<;>conv=>whnf)
     refine ⟨[], [], ?_⟩
     iterate 3 constructor
     refine ⟨⟨?_, ?_, ?_⟩, rfl, rfl, rfl⟩
     all_goals (repeat' first|with_reducible exact Lz.rfl|exact Lw.rfl|exact Lz.wrap (by omega)|(unfold goInt;with_reducible exact Lz.rfl)|exact flx _|constructor)
     exact Lz.int (by rw [hC]; unfold canF; rw [if_neg hm])
  ·rw [if_pos hm] at hC
   rw [decide_eq_false hm]
   ((conv=>whnf)<;>repeat(with_reducible refine D1 ?_)<;>conv=>whnf)
   refine ⟨[], [], ?_⟩
   iterate 3 constructor
   refine ⟨⟨?_, ?_, ?_⟩, rfl, rfl, rfl⟩
   all_goals (repeat' first|with_reducible exact Lz.rfl|exact Lw.rfl|exact Lz.wrap (by omega)|(unfold goInt;with_reducible exact Lz.rfl)|exact flx _|constructor)
   exact Lz.int hC.symm
 ·have k1 : ¬ c.kind = 1 := k1
  ((conv=>whnf)<;>repeat(with_reducible refine D1 ?_)<;>conv=>whnf)
  (first|refine ⟨?_,?_⟩|refine nsplit ?_ ?_|refine bsplit ?_ ?_)<;>intro k2<;>have hz_:=True.intro<;>clear hz_
  ·have k2 : c.kind = 2 := k2
   have hC : canR l x c = if c.node ∈ allS l then 8 else if x.join ≠ 0 ∨ x.fresh = true then 12 else if x.nodes.length = 5 then 9 else canF x := by unfold canR; rw [if_neg k1, if_pos k2]
   ((conv=>whnf)<;>repeat(with_reducible refine D1 ?_)<;>conv=>whnf)
   refine ⟨[], [], _, _, _, _, refUsed_ok l c.node hl hn, t3, ?_⟩
   rintro r o' c' ⟨rfl, rfl, rfl⟩
   by_cases hm : c.node ∈ allS l
   ·rw [if_pos hm] at hC
    rw [decide_eq_true hm]
    ((conv=>whnf)<;>repeat(with_reducible refine D1 ?_)<;>conv=>whnf)
    refine ⟨[], [], ?_⟩
    iterate 3 constructor
    refine ⟨⟨?_, ?_, ?_⟩, rfl, rfl, rfl⟩
    all_goals (repeat' first|with_reducible exact Lz.rfl|exact Lw.rfl|exact Lz.wrap (by omega)|(unfold goInt;with_reducible exact Lz.rfl)|exact flx _|constructor)
    exact Lz.int hC.symm
   ·rw [if_neg hm] at hC
    rw [decide_eq_false hm]
    ((conv=>whnf)<;>repeat(with_reducible refine D1 ?_)<;>conv=>whnf)
    (first|refine ⟨?_,?_⟩|refine nsplit ?_ ?_|refine bsplit ?_ ?_)<;>intro hj<;>have hz_:=True.intro<;>clear hz_
    ·have hj : x.join ≠ 0 := hj
     rw [if_pos (.inl hj)] at hC
     ((conv=>whnf)<;>repeat(with_reducible refine D1 ?_)<;>conv=>whnf)
     refine ⟨[], [], ?_⟩
     iterate 3 constructor
     refine ⟨⟨?_, ?_, ?_⟩, rfl, rfl, rfl⟩
     all_goals (repeat' first|with_reducible exact Lz.rfl|exact Lw.rfl|exact Lz.wrap (by omega)|(unfold goInt;with_reducible exact Lz.rfl)|exact flx _|constructor)
     exact Lz.int hC.symm
    ·have hj : x.join = 0 := Classical.not_not.1 hj
     ((conv=>whnf)<;>repeat(with_reducible refine D1 ?_)<;>conv=>whnf)
     cases hf : x.fresh
     ·rw [if_neg (by rw [hj, hf]; simp)] at hC
      ((conv=>whnf)<;>repeat(with_reducible refine D1 ?_)<;>conv=>whnf)
      (first|refine ⟨?_,?_⟩|refine nsplit ?_ ?_|refine bsplit ?_ ?_)<;>intro hz<;>have hz_:=True.intro<;>clear hz_
      ·have hz : (((x.nodes.map encI1).length : Nat) : Int) = 5 := hz
       rw [List.length_map] at hz
       rw [if_pos (by omega)] at hC
       ((conv=>whnf)<;>repeat(with_reducible refine D1 ?_)<;>conv=>whnf)
       refine ⟨[], [], ?_⟩
       iterate 3 constructor
       refine ⟨⟨?_, ?_, ?_⟩, rfl, rfl, rfl⟩
       all_goals (repeat' first|with_reducible exact Lz.rfl|exact Lw.rfl|exact Lz.wrap (by omega)|(unfold goInt;with_reducible exact Lz.rfl)|exact flx _|constructor)
       exact Lz.int hC.symm
      ·have hz : ¬ (((x.nodes.map encI1).length : Nat) : Int) = 5 := hz
       rw [List.length_map] at hz
       rw [if_neg (by omega)] at hC
       ((conv=>whnf)<;>repeat(with_reducible refine D1 ?_)<;>conv=>whnf)
       (first|refine ⟨?_,?_⟩|refine nsplit ?_ ?_|refine bsplit ?_ ?_)<;>intro hm<;>have hz_:=True.intro<;>clear hz_
       ·have hm : x.epoch = 18446744073709551615 := hm
        ((conv=>whnf)<;>repeat(with_reducible refine D1 ?_)<;>conv=>whnf)
        refine ⟨[], [], ?_⟩
        iterate 3 constructor
        refine ⟨⟨?_, ?_, ?_⟩, rfl, rfl, rfl⟩
        all_goals (repeat' first|with_reducible exact Lz.rfl|exact Lw.rfl|exact Lz.wrap (by omega)|(unfold goInt;with_reducible exact Lz.rfl)|exact flx _|constructor)
        exact Lz.int (by rw [hC]; unfold canF; rw [if_pos hm])
       ·have hm : ¬ x.epoch = 18446744073709551615 := hm
        ((conv=>whnf)<;>repeat(with_reducible refine D1 ?_)<;>conv=>whnf)
        refine ⟨[], [], ?_⟩
        iterate 3 constructor
        refine ⟨⟨?_, ?_, ?_⟩, rfl, rfl, rfl⟩
        all_goals (repeat' first|with_reducible exact Lz.rfl|exact Lw.rfl|exact Lz.wrap (by omega)|(unfold goInt;with_reducible exact Lz.rfl)|exact flx _|constructor)
        exact Lz.int (by rw [hC]; unfold canF; rw [if_neg hm])
     ·rw [if_pos (.inr hf)] at hC
      ((conv=>whnf)<;>repeat(with_reducible refine D1 ?_)<;>conv=>whnf)
      refine ⟨[], [], ?_⟩
      iterate 3 constructor
      refine ⟨⟨?_, ?_, ?_⟩, rfl, rfl, rfl⟩
      all_goals (repeat' first|with_reducible exact Lz.rfl|exact Lw.rfl|exact Lz.wrap (by omega)|(unfold goInt;with_reducible exact Lz.rfl)|exact flx _|constructor)
      exact Lz.int hC.symm
  ·have k2 : ¬ c.kind = 2 := k2
   ((conv=>whnf)<;>repeat(with_reducible refine D1 ?_)<;>conv=>whnf)
   (first|refine ⟨?_,?_⟩|refine nsplit ?_ ?_|refine bsplit ?_ ?_)<;>intro k3<;>have hz_:=True.intro<;>clear hz_
   ·have k3 : c.kind = 3 := k3
    have hC : canR l x c = if x.join ≠ c.node then 7 else if x.nodes.length = 5 then 9 else canF x := by unfold canR; rw [if_neg k1, if_neg k2, if_pos k3]
    ((conv=>whnf)<;>repeat(with_reducible refine D1 ?_)<;>conv=>whnf)
    (first|refine ⟨?_,?_⟩|refine nsplit ?_ ?_|refine bsplit ?_ ?_)<;>intro hj<;>have hz_:=True.intro<;>clear hz_
    ·have hj : x.join ≠ c.node := hj
     rw [if_pos hj] at hC
     ((conv=>whnf)<;>repeat(with_reducible refine D1 ?_)<;>conv=>whnf)
     refine ⟨[], [], ?_⟩
     iterate 3 constructor
     refine ⟨⟨?_, ?_, ?_⟩, rfl, rfl, rfl⟩
     all_goals (repeat' first|with_reducible exact Lz.rfl|exact Lw.rfl|exact Lz.wrap (by omega)|(unfold goInt;with_reducible exact Lz.rfl)|exact flx _|constructor)
     exact Lz.int hC.symm
    ·have hj : ¬ x.join ≠ c.node := hj
     rw [if_neg hj] at hC
     ((conv=>whnf)<;>repeat(with_reducible refine D1 ?_)<;>conv=>whnf)
     (first|refine ⟨?_,?_⟩|refine nsplit ?_ ?_|refine bsplit ?_ ?_)<;>intro hz<;>have hz_:=True.intro<;>clear hz_
     ·have hz : (((x.nodes.map encI1).length : Nat) : Int) = 5 := hz
      rw [List.length_map] at hz
      rw [if_pos (by omega)] at hC
      ((conv=>whnf)<;>repeat(with_reducible refine D1 ?_)<;>conv=>whnf)
      refine ⟨[], [], ?_⟩
      iterate 3 constructor
      refine ⟨⟨?_, ?_, ?_⟩, rfl, rfl, rfl⟩
      all_goals (repeat' first|with_reducible exact Lz.rfl|exact Lw.rfl|exact Lz.wrap (by omega)|(unfold goInt;with_reducible exact Lz.rfl)|exact flx _|constructor)
      exact Lz.int hC.symm
     ·have hz : ¬ (((x.nodes.map encI1).length : Nat) : Int) = 5 := hz
      rw [List.length_map] at hz
      rw [if_neg (by omega)] at hC
      ((conv=>whnf)<;>repeat(with_reducible refine D1 ?_)<;>conv=>whnf)
      (first|refine ⟨?_,?_⟩|refine nsplit ?_ ?_|refine bsplit ?_ ?_)<;>intro hm<;>have hz_:=True.intro<;>clear hz_
      ·have hm : x.epoch = 18446744073709551615 := hm
       ((conv=>whnf)<;>repeat(with_reducible refine D1 ?_)<;>conv=>whnf)
       refine ⟨[], [], ?_⟩
       iterate 3 constructor
       refine ⟨⟨?_, ?_, ?_⟩, rfl, rfl, rfl⟩
       all_goals (repeat' first|with_reducible exact Lz.rfl|exact Lw.rfl|exact Lz.wrap (by omega)|(unfold goInt;with_reducible exact Lz.rfl)|exact flx _|constructor)
       exact Lz.int (by rw [hC]; unfold canF; rw [if_pos hm])
      ·have hm : ¬ x.epoch = 18446744073709551615 := hm
       ((conv=>whnf)<;>repeat(with_reducible refine D1 ?_)<;>conv=>whnf)
       refine ⟨[], [], ?_⟩
       iterate 3 constructor
       refine ⟨⟨?_, ?_, ?_⟩, rfl, rfl, rfl⟩
       all_goals (repeat' first|with_reducible exact Lz.rfl|exact Lw.rfl|exact Lz.wrap (by omega)|(unfold goInt;with_reducible exact Lz.rfl)|exact flx _|constructor)
       exact Lz.int (by rw [hC]; unfold canF; rw [if_neg hm])
   ·have k3 : ¬ c.kind = 3 := k3
    have hC : canR l x c = if x.fresh = false ∨ lastL x ≠ c.node then 7 else canF x := by unfold canR; rw [if_neg k1, if_neg k2, if_neg k3]
    ((conv=>whnf)<;>repeat(with_reducible refine D1 ?_)<;>conv=>whnf)
    cases hf : x.fresh
    ·rw [if_pos (.inl hf)] at hC
     ((conv=>whnf)<;>repeat(with_reducible refine D1 ?_)<;>conv=>whnf)
     refine ⟨[], [], ?_⟩
     iterate 3 constructor
     refine ⟨⟨?_, ?_, ?_⟩, rfl, rfl, rfl⟩
     all_goals (repeat' first|with_reducible exact Lz.rfl|exact Lw.rfl|exact Lz.wrap (by omega)|(unfold goInt;with_reducible exact Lz.rfl)|exact flx _|constructor)
     exact Lz.int hC.symm
    ·((conv=>whnf)<;>repeat(with_reducible refine D1 ?_)<;>conv=>whnf)
     (first|refine ⟨?_,?_⟩|refine nsplit ?_ ?_|refine bsplit ?_ ?_)<;>intro hla<;>have hz_:=True.intro<;>clear hz_
     ·have hla : lastL x ≠ c.node := hla
      rw [if_pos (.inr hla)] at hC
      ((conv=>whnf)<;>repeat(with_reducible refine D1 ?_)<;>conv=>whnf)
      refine ⟨[], [], ?_⟩
      iterate 3 constructor
      refine ⟨⟨?_, ?_, ?_⟩, rfl, rfl, rfl⟩
      all_goals (repeat' first|with_reducible exact Lz.rfl|exact Lw.rfl|exact Lz.wrap (by omega)|(unfold goInt;with_reducible exact Lz.rfl)|exact flx _|constructor)
      exact Lz.int hC.symm
     ·have hla : ¬ lastL x ≠ c.node := hla
      rw [if_neg (by rw [hf]; simpa using hla)] at hC
      ((conv=>whnf)<;>repeat(with_reducible refine D1 ?_)<;>conv=>whnf)
      (first|refine ⟨?_,?_⟩|refine nsplit ?_ ?_|refine bsplit ?_ ?_)<;>intro hm<;>have hz_:=True.intro<;>clear hz_
      ·have hm : x.epoch = 18446744073709551615 := hm
       ((conv=>whnf)<;>repeat(with_reducible refine D1 ?_)<;>conv=>whnf)
       refine ⟨[], [], ?_⟩
       iterate 3 constructor
       refine ⟨⟨?_, ?_, ?_⟩, rfl, rfl, rfl⟩
       all_goals (repeat' first|with_reducible exact Lz.rfl|exact Lw.rfl|exact Lz.wrap (by omega)|(unfold goInt;with_reducible exact Lz.rfl)|exact flx _|constructor)
       exact Lz.int (by rw [hC]; unfold canF; rw [if_pos hm])
      ·have hm : ¬ x.epoch = 18446744073709551615 := hm
       ((conv=>whnf)<;>repeat(with_reducible refine D1 ?_)<;>conv=>whnf)
       refine ⟨[], [], ?_⟩
       iterate 3 constructor
       refine ⟨⟨?_, ?_, ?_⟩, rfl, rfl, rfl⟩
       all_goals (repeat' first|with_reducible exact Lz.rfl|exact Lw.rfl|exact Lz.wrap (by omega)|(unfold goInt;with_reducible exact Lz.rfl)|exact flx _|constructor)
       exact Lz.int (by rw [hC]; unfold canF; rw [if_neg hm])
end Go.M
namespace Go.M
open Go Go.Proofs
set_option maxRecDepth 100000
set_option maxHeartbeats 2000000
open Classical in
noncomputable def canL (l : List CF) (c : Cmd) : Int :=
 if ¬ allP l then 1 else if c.check ≠ 0 then c.check else if c.kind = 0 then 0 else
 match l[c.chain.toNat]? with
 | none => 7
 | some x => if x.epoch ≠ c.epoch then 10 else canR l x c
theorem check_rng {c : Cmd} (h : c.check = 0) (hk : c.kind ≠ 0) : 0 ≤ c.chain ∧ c.chain < 4 ∧ 1 ≤ c.epoch ∧ (0 ≤ c.kind ∧ c.kind < 5) ∧ 1 ≤ c.node ∧ c.node ≤ 24 := by
 unfold Cmd.check checkS at h
 repeat' split at h
 all_goals first | omega | (exact absurd h (by decide)) | (exfalso; omega)
theorem allP_in {l : List CF} (h : allP l) {c : CF} (hc : c ∈ l) : rightP c := by
 obtain ⟨i, hi, rfl⟩ := List.mem_iff_getElem.1 hc
 exact (h.2.1 i hi).2
open Classical in
open Classical in
theorem refCan_ok (l : List CF) (c : Cmd) (hep : ∀ c ∈ l, 0 ≤ c.epoch) (hc : 0 ≤ c.epoch) (hl : l.length < 10000) : VC E0 26 0 [.sl 5 (l.map encCF) false, cT4 c] [] (RR (.s (.int .i64 (canL l c))) 0 []) := by
 refine VC.enterR L0 (show E0.func 26 = some Try.f26 by kernel_rfl) (fun _ _ => rfl) rfl rfl [] ?_
 ((conv=>whnf)<;>repeat(with_reducible refine D1 ?_)<;>conv=>whnf)
 refine ⟨[], [], _, _, _, _, refAll_okC l hep hl, t3, ?_⟩
 rintro r o' c' ⟨rfl, rfl, rfl⟩
 by_cases ha : allP l
 rotate_left
 ·rw [decide_eq_false ha]
  ((conv=>whnf)<;>repeat(with_reducible refine D1 ?_)<;>conv=>whnf)
  refine ⟨[], [], ?_⟩
  iterate 3 constructor
  refine ⟨⟨?_, ?_, ?_⟩, rfl, rfl, rfl⟩
  all_goals (repeat' first|with_reducible exact Lz.rfl|exact Lw.rfl|exact Lz.wrap (by omega)|(unfold goInt;with_reducible exact Lz.rfl)|exact flx _|constructor)
  exact Lz.int (by unfold canL; rw [if_pos ha])
 rw [decide_eq_true ha]
 ((conv=>whnf)<;>repeat(with_reducible refine D1 ?_)<;>conv=>whnf)
 refine ⟨[], [], _, _, _, _, refCheck_ok c.kind c.chain c.epoch c.node hc, t3, ?_⟩
 rintro r o' c' ⟨rfl, rfl, rfl⟩
 ((conv=>whnf)<;>repeat(with_reducible refine D1 ?_)<;>conv=>whnf)
 (first|refine ⟨?_,?_⟩|refine nsplit ?_ ?_|refine bsplit ?_ ?_)<;>intro hk<;>have hz_:=True.intro<;>clear hz_
 ·have hk : c.check ≠ 0 := hk
  ((conv=>whnf)<;>repeat(with_reducible refine D1 ?_)<;>conv=>whnf)
  refine ⟨[], [], ?_⟩
  iterate 3 constructor
  refine ⟨⟨?_, ?_, ?_⟩, rfl, rfl, rfl⟩
  all_goals (repeat' first|with_reducible exact Lz.rfl|exact Lw.rfl|exact Lz.wrap (by omega)|(unfold goInt;with_reducible exact Lz.rfl)|exact flx _|constructor)
  exact Lz.int (by unfold canL; rw [if_neg (fun q => q ha), if_pos hk]; rfl)
 have hk : c.check = 0 := Classical.not_not.1 hk
 ((conv=>whnf)<;>repeat(with_reducible refine D1 ?_)<;>conv=>whnf)
 (first|refine ⟨?_,?_⟩|refine nsplit ?_ ?_|refine bsplit ?_ ?_)<;>intro h0<;>have hz_:=True.intro<;>clear hz_
 ·have h0 : c.kind = 0 := h0
  ((conv=>whnf)<;>repeat(with_reducible refine D1 ?_)<;>conv=>whnf)
  refine ⟨[], [], ?_⟩
  iterate 3 constructor
  refine ⟨⟨?_, ?_, ?_⟩, rfl, rfl, rfl⟩
  all_goals (repeat' first|with_reducible exact Lz.rfl|exact Lw.rfl|exact Lz.wrap (by omega)|(unfold goInt;with_reducible exact Lz.rfl)|exact flx _|constructor)
  exact Lz.int (by unfold canL; rw [if_neg (fun q => q ha), if_neg (fun q => q hk), if_pos h0])
 have h0 : ¬ c.kind = 0 := h0
 have hrg := check_rng hk h0
 ((conv=>whnf)<;>repeat(with_reducible refine D1 ?_)<;>conv=>whnf)
 (first|refine ⟨?_,?_⟩|refine nsplit ?_ ?_|refine bsplit ?_ ?_)<;>intro h1<;>have hz_:=True.intro<;>clear hz_
 ·have h1 : c.chain ≥ (((l.map encCF).length : Nat) : Int) := h1
  rw [List.length_map] at h1
  have hnone : l[c.chain.toNat]? = none := List.getElem?_eq_none (by omega)
  ((conv=>whnf)<;>repeat(with_reducible refine D1 ?_)<;>conv=>whnf)
  refine ⟨[], [], ?_⟩
  iterate 3 constructor
  refine ⟨⟨?_, ?_, ?_⟩, rfl, rfl, rfl⟩
  all_goals (repeat' first|with_reducible exact Lz.rfl|exact Lw.rfl|exact Lz.wrap (by omega)|(unfold goInt;with_reducible exact Lz.rfl)|exact flx _|constructor)
  exact Lz.int (by unfold canL; rw [if_neg (fun q => q ha), if_neg (fun q => q hk), if_neg h0, hnone])
 have h1 : ¬ c.chain ≥ (((l.map encCF).length : Nat) : Int) := h1
 rw [List.length_map] at h1
 have hlt : c.chain.toNat < l.length := by omega
 have hsome : l[c.chain.toNat]? = some l[c.chain.toNat] := List.getElem?_eq_getElem hlt
 have hC : canL l c = if l[c.chain.toNat].epoch ≠ c.epoch then 10 else canR l l[c.chain.toNat] c := by unfold canL; rw [if_neg (fun q => q ha), if_neg (fun q => q hk), if_neg h0, hsome]
 ((conv=>whnf)<;>repeat(with_reducible refine D1 ?_)<;>conv=>whnf)
 refine idxI' hrg.1 hlt ?_
 ((conv=>whnf)<;>repeat(with_reducible refine D1 ?_)<;>conv=>whnf)
 (first|refine ⟨?_,?_⟩|refine nsplit ?_ ?_|refine bsplit ?_ ?_)<;>intro h2<;>have hz_:=True.intro<;>clear hz_
 ·have h2 : l[c.chain.toNat].epoch ≠ c.epoch := h2
  rw [if_pos h2] at hC
  ((conv=>whnf)<;>repeat(with_reducible refine D1 ?_)<;>conv=>whnf)
  refine ⟨[], [], ?_⟩
  iterate 3 constructor
  refine ⟨⟨?_, ?_, ?_⟩, rfl, rfl, rfl⟩
  all_goals (repeat' first|with_reducible exact Lz.rfl|exact Lw.rfl|exact Lz.wrap (by omega)|(unfold goInt;with_reducible exact Lz.rfl)|exact flx _|constructor)
  exact Lz.int hC.symm
 have h2 : ¬ l[c.chain.toNat].epoch ≠ c.epoch := h2
 rw [if_neg h2] at hC
 ((conv=>whnf)<;>repeat(with_reducible refine D1 ?_)<;>conv=>whnf)
 refine idxI' hrg.1 hlt ?_
 ((conv=>whnf)<;>repeat(with_reducible refine D1 ?_)<;>conv=>whnf)
 refine ⟨[], [], _, _, _, _, refcan_ok l l[c.chain.toNat] c (hep _ (List.getElem_mem hlt)) (allP_in ha (List.getElem_mem hlt)) hl (fun x hx => by have := (allP_in ha hx).2.2.1; omega), t3, ?_⟩
 rintro r o' c' ⟨rfl, rfl, rfl⟩
 ((conv=>whnf)<;>repeat(with_reducible refine D1 ?_)<;>conv=>whnf)
 refine ⟨[], [], ?_⟩
 iterate 3 constructor
 refine ⟨⟨?_, ?_, ?_⟩, rfl, rfl, rfl⟩
 all_goals (repeat' first|with_reducible exact Lz.rfl|exact Lw.rfl|exact Lz.wrap (by omega)|(unfold goInt;with_reducible exact Lz.rfl)|exact flx _|constructor)
 exact Lz.int hC.symm
theorem last_ok (c : CF) (h5 : 1 ≤ c.nodes.length ∧ c.nodes.length ≤ 5) : VC E0 161 0 [.agg (encCF c)] [] (RR (.s (.int .i64 (lastL c))) 0 []) := by
 refine VC.enterR L0 (show E0.func 161 = some Try.f161 by kernel_rfl) (fun _ _ => rfl) rfl rfl [] ?_
 ((conv=>whnf)<;>repeat(with_reducible refine D1 ?_)<;>conv=>whnf)
 refine lastI h5 ?_
 ((conv=>whnf)<;>repeat(with_reducible refine D1 ?_)<;>conv=>whnf)
 exact ⟨[], [], _, _, _, t3, rfl, rfl, rfl⟩
theorem settled_ok (c : CF) (h5 : 1 ≤ c.nodes.length ∧ c.nodes.length ≤ 5) : VC E0 159 0 [.agg (encCF c)] [] (RR (.tk 0) 1 [(0, .arr 1 true ((settledL c).map encI1))]) := by
 refine VC.enterR L0 (show E0.func 159 = some Try.f159 by kernel_rfl) (fun _ _ => rfl) rfl rfl [] ?_
 ((conv=>whnf)<;>repeat(with_reducible refine D1 ?_)<;>conv=>whnf)
 cases hf : c.fresh
 ·((conv=>whnf)<;>repeat(with_reducible refine D1 ?_)<;>conv=>whnf)
  refine ⟨[], [], _, _, _, _, cloneI_ok c.nodes (by omega), t3, ?_⟩
  rintro r o' c' ⟨rfl, rfl, rfl⟩
  ((conv=>whnf)<;>repeat(with_reducible refine D1 ?_)<;>conv=>whnf)
  refine ⟨[], [some 1], ?_⟩
  iterate 3 constructor
  refine ⟨⟨?_, ?_, ?_⟩, rfl, rfl, rfl⟩
  all_goals (repeat' first|with_reducible exact Lz.rfl|exact Lw.rfl|exact Lz.wrap (by omega)|(unfold goInt;with_reducible exact Lz.rfl)|exact flx _|constructor)
  exact Lz.of (by unfold settledL; rw [hf]; simp)
 ·((conv=>whnf)<;>repeat(with_reducible refine D1 ?_)<;>conv=>whnf)
  have hw : IntKind.i64.wrap ((((c.nodes.map encI1).length : Nat) : Int) - 1) = ((c.nodes.length - 1 : Nat) : Int) := by
   rw [List.length_map, IntWalk.i64_in _ (by omega)]; omega
  refine ⟨by rw [hw, List.length_map]; omega, ?_⟩
  ((conv=>whnf)<;>repeat(with_reducible refine D1 ?_)<;>conv=>whnf)
  refine ⟨[], [], _, _, _, _, cloneI_ok (c.nodes.take (c.nodes.length - 1)) (by rw [List.length_take]; omega), ⟨by ((repeat' first|with_reducible exact Lz.rfl|exact Lw.rfl|exact Lz.wrap (by omega)|(unfold goInt;with_reducible exact Lz.rfl)|exact flx _|constructor); all_goals (exact Lz.of (by rw [hw]; simp [List.map_take]))), by ((repeat' first|with_reducible exact Lz.rfl|exact Lw.rfl|exact Lz.wrap (by omega)|(unfold goInt;with_reducible exact Lz.rfl)|exact flx _|constructor); all_goals (exact Lz.of (by rw [hw]; simp [List.map_take]))), by rfl⟩, ?_⟩
  rintro r o' c' ⟨rfl, rfl, rfl⟩
  ((conv=>whnf)<;>repeat(with_reducible refine D1 ?_)<;>conv=>whnf)
  refine ⟨[], [some 1], ?_⟩
  iterate 3 constructor
  refine ⟨⟨?_, ?_, ?_⟩, rfl, rfl, rfl⟩
  all_goals (repeat' first|with_reducible exact Lz.rfl|exact Lw.rfl|exact Lz.wrap (by omega)|(unfold goInt;with_reducible exact Lz.rfl)|exact flx _|constructor)
  exact Lz.of (by unfold settledL; rw [hf]; simp)
end Go.M
namespace Go.M
open Go Go.Proofs
set_option maxRecDepth 100000
set_option maxHeartbeats 2000000
@[reducible] def stN (n : Int) : Ob := [(0, .cells [.s (.int .i64 n)])]
def otherB (n m : Int) : Bool := decide (m ≠ n)
theorem otherC (n m : Int) : VC E0 160 1 [.s (.int .i64 m), .ptr 0 0] (stN n) (RR (.s (.bool (otherB n m))) 1 (stN n)) := by
 refine VC.enterR L0 (show E0.func 160 = some Try.f160 by kernel_rfl) (fun _ _ => rfl) rfl rfl [] ?_
 ((conv=>whnf)<;>repeat(with_reducible refine D1 ?_)<;>conv=>whnf)
 (first|refine ⟨?_,?_⟩|refine nsplit ?_ ?_|refine bsplit ?_ ?_)<;>intro h<;>have hz_:=True.intro<;>clear hz_
 ·have h : m ≠ n := h
  ((conv=>whnf)<;>repeat(with_reducible refine D1 ?_)<;>conv=>whnf)
  refine ⟨[], [some 0], ?_⟩
  iterate 3 constructor
  refine ⟨⟨?_, ?_, ?_⟩, rfl, rfl, rfl⟩
  all_goals (repeat' first|with_reducible exact Lz.rfl|exact Lw.rfl|exact Lz.wrap (by omega)|(unfold goInt;with_reducible exact Lz.rfl)|exact flx _|constructor)
  exact Lz.of (bool_eq (Eq.symm (decide_eq_true h)))
 ·have h : ¬ m ≠ n := h
  ((conv=>whnf)<;>repeat(with_reducible refine D1 ?_)<;>conv=>whnf)
  refine ⟨[], [some 0], ?_⟩
  iterate 3 constructor
  refine ⟨⟨?_, ?_, ?_⟩, rfl, rfl, rfl⟩
  all_goals (repeat' first|with_reducible exact Lz.rfl|exact Lw.rfl|exact Lz.wrap (by omega)|(unfold goInt;with_reducible exact Lz.rfl)|exact flx _|constructor)
  exact Lz.of (bool_eq (Eq.symm (decide_eq_false h)))
theorem idxOC (n : Int) (vs : List Int) (hl : vs.length < 1000000) : VC E0 178 1 [.sl 1 (vs.map encI1) false, .clo 160 [] [.ptr 0 0]] (stN n)
 (fun r o c' => ∃ i : Int, r = .s (.int .i64 i) ∧ c' = 1 ∧ o = stN n ∧ ((i = -1 ∧ ∀ v ∈ vs, otherB n v = false) ∨ 0 ≤ i ∧ ∃ v ∈ vs, otherB n v = true)) := by
 refine VC.enterR L0 (show E0.func 178 = some Try.f178 by kernel_rfl) (fun _ _ => rfl) rfl rfl [] ?_
 ((conv=>whnf)<;>repeat(with_reducible refine D1 ?_)<;>conv=>whnf)
 refine ⟨fun k f o c' => ∃ j : Nat, j ≤ vs.length ∧ k = vs.length - j ∧ (∀ v ∈ vs.take j, otherB n v = false) ∧ c' = 1 ∧ f = [(0, .sl 1 (vs.map encI1) false), (1, .clo 160 [] [.ptr 0 0]), (7, .s (.int .i64 vs.length)), (8, .s (.int .i64 j))] ∧ o = stN n, ⟨vs.length, ?_⟩, ?_⟩
 ·refine ⟨[], [some 0], ?_⟩
  iterate 3 constructor
  refine ⟨⟨?_, ?_, ?_⟩, ⟨0, Nat.zero_le _, rfl, by simp, rfl, rfl, rfl⟩⟩
  all_goals (repeat' first|with_reducible exact Lz.rfl|exact Lw.rfl|exact Lz.wrap (by omega)|(unfold goInt;with_reducible exact Lz.rfl)|exact flx _|constructor)
  all_goals first | exact Lz.of (by simp [goInt]) | exact Lz.rfl
 ·rintro k f1 o1 c1 ⟨j, hj, rfl, hb, rfl, rfl, rfl⟩
  ((conv=>whnf)<;>repeat(with_reducible refine D1 ?_)<;>conv=>whnf)
  (first|refine ⟨?_,?_⟩|refine nsplit ?_ ?_|refine bsplit ?_ ?_)<;>intro h<;>have hz_:=True.intro<;>clear hz_
  ·have h : j < vs.length := by simpa using h
   ((conv=>whnf)<;>repeat(with_reducible refine D1 ?_)<;>conv=>whnf)
   refine idxI h ?_
   ((conv=>whnf)<;>repeat(with_reducible refine D1 ?_)<;>conv=>whnf)
   refine ⟨[], [some 0], _, _, _, _, otherC n vs[j], t3, ?_⟩
   rintro r o' c' ⟨rfl, rfl, rfl⟩
   have hz_ := True.intro
   clear hz_
   cases hv : otherB n vs[j]
   ·((conv=>whnf)<;>repeat(with_reducible refine D1 ?_)<;>conv=>whnf)
    refine ⟨vs.length - (j + 1), ?_, by omega⟩
    exact ⟨[], [some 0], _, _, _, t3, ⟨j + 1, h, rfl, by intro v hv'; rw [List.take_succ_eq_append_getElem h] at hv'; rcases List.mem_append.1 hv' with h1 | h1; exact hb v h1; simp at h1; subst h1; exact hv, rfl, rfl, rfl⟩⟩
   ·((conv=>whnf)<;>repeat(with_reducible refine D1 ?_)<;>conv=>whnf)
    exact ⟨[], [some 0], _, _, _, t3, (j : Int), rfl, rfl, rfl, .inr ⟨by omega, _, List.getElem_mem h, hv⟩⟩
  ·have h' : j = vs.length := by have : ¬ j < vs.length := by simpa using h
                                 omega
   subst h'
   rw [List.take_length] at hb
   ((conv=>whnf)<;>repeat(with_reducible refine D1 ?_)<;>conv=>whnf)
   exact ⟨[], [some 0], _, _, _, t3, -1, rfl, rfl, rfl, .inl ⟨rfl, hb⟩⟩
theorem containsO_ok (n : Int) (vs : List Int) (hl : vs.length < 1000000) : VC E0 158 1 [.sl 1 (vs.map encI1) false, .clo 160 [] [.ptr 0 0]] (stN n) (RR (.s (.bool (vs.any (otherB n)))) 1 (stN n)) := by
 refine VC.enterR L0 (show E0.func 158 = some Try.f158 by kernel_rfl) (fun _ _ => rfl) rfl rfl [] ?_
 ((conv=>whnf)<;>repeat(with_reducible refine D1 ?_)<;>conv=>whnf)
 refine ⟨[], [some 0], _, _, _, _, idxOC n vs hl, t3, ?_⟩
 rintro r o' c' ⟨i, rfl, rfl, rfl, hi⟩
 ((conv=>whnf)<;>repeat(with_reducible refine D1 ?_)<;>conv=>whnf)
 (first|refine ⟨?_,?_⟩|refine nsplit ?_ ?_|refine bsplit ?_ ?_)<;>intro h<;>have hz_:=True.intro<;>clear hz_
 ·have h : i ≥ 0 := h
  ((conv=>whnf)<;>repeat(with_reducible refine D1 ?_)<;>conv=>whnf)
  refine ⟨[], [some 0], ?_⟩
  iterate 3 constructor
  refine ⟨⟨?_, ?_, ?_⟩, rfl, rfl, rfl⟩
  all_goals (repeat' first|with_reducible exact Lz.rfl|exact Lw.rfl|exact Lz.wrap (by omega)|(unfold goInt;with_reducible exact Lz.rfl)|exact flx _|constructor)
  refine Lz.of (bool_eq (Eq.symm ?_))
  rcases hi with ⟨e, _⟩ | ⟨_, v, hv, hs⟩
  ·omega
  ·exact List.any_eq_true.2 ⟨v, hv, hs⟩
 ·have h : ¬ i ≥ 0 := h
  ((conv=>whnf)<;>repeat(with_reducible refine D1 ?_)<;>conv=>whnf)
  refine ⟨[], [some 0], ?_⟩
  iterate 3 constructor
  refine ⟨⟨?_, ?_, ?_⟩, rfl, rfl, rfl⟩
  all_goals (repeat' first|with_reducible exact Lz.rfl|exact Lw.rfl|exact Lz.wrap (by omega)|(unfold goInt;with_reducible exact Lz.rfl)|exact flx _|constructor)
  refine Lz.of (bool_eq (Eq.symm ?_))
  rcases hi with ⟨_, hall⟩ | ⟨e, _⟩
  ·exact List.any_eq_false.2 fun v hv => by rw [hall v hv]; simp
  ·omega
def standB (n : Int) (c : CF) : Bool := decide (n ∈ standL c)
theorem usedOneC (n : Int) (c : CF) (h : c.nodes.length < 10000) : VC E0 180 1 [.agg (encCF c), .ptr 0 0] (stN n) (RR (.s (.bool (standB n c))) 1 (stN n)) := by
 have hsl := standL_len c
 refine VC.enterR L0 (show E0.func 180 = some Try.f180 by kernel_rfl) (fun _ _ => rfl) rfl rfl [] ?_
 ((conv=>whnf)<;>repeat(with_reducible refine D1 ?_)<;>conv=>whnf)
 refine ⟨[], [], _, _, _, _, everybodyC c (by omega), t3, ?_⟩
 rintro r o' c' ⟨rfl, rfl, rfl⟩
 ((conv=>whnf)<;>repeat(with_reducible refine D1 ?_)<;>conv=>whnf)
 refine ⟨[2], [], _, _, _, _, containsI_ok (standL c) n (by omega), t3, ?_⟩
 rintro r o' c' ⟨rfl, rfl, rfl⟩
 ((conv=>whnf)<;>repeat(with_reducible refine D1 ?_)<;>conv=>whnf)
 exact ⟨[], [some 0], _, _, _, t3, rfl, rfl, rfl⟩
theorem idxUC (n : Int) (vs : List CF) (hl : vs.length < 1000000) (hn : ∀ c ∈ vs, c.nodes.length < 10000) : VC E0 187 1 [.sl 5 (vs.map encCF) false, .clo 180 [] [.ptr 0 0]] (stN n)
 (fun r o c' => ∃ i : Int, r = .s (.int .i64 i) ∧ c' = 1 ∧ o = stN n ∧ ((i = -1 ∧ ∀ v ∈ vs, standB n v = false) ∨ 0 ≤ i ∧ ∃ v ∈ vs, standB n v = true)) := by
 have hnm : ∀ {j : Nat} (h : j < vs.length), vs[j].nodes.length < 10000 := fun h => hn _ (List.getElem_mem h)
 refine VC.enterR L0 (show E0.func 187 = some Try.f187 by kernel_rfl) (fun _ _ => rfl) rfl rfl [] ?_
 ((conv=>whnf)<;>repeat(with_reducible refine D1 ?_)<;>conv=>whnf)
 refine ⟨fun k f o c' => ∃ j : Nat, j ≤ vs.length ∧ k = vs.length - j ∧ (∀ v ∈ vs.take j, standB n v = false) ∧ c' = 1 ∧ f = [(0, .sl 5 (vs.map encCF) false), (1, .clo 180 [] [.ptr 0 0]), (7, .s (.int .i64 vs.length)), (8, .s (.int .i64 j))] ∧ o = stN n, ⟨vs.length, ?_⟩, ?_⟩
 ·refine ⟨[], [some 0], ?_⟩
  iterate 3 constructor
  refine ⟨⟨?_, ?_, ?_⟩, ⟨0, Nat.zero_le _, rfl, by simp, rfl, rfl, rfl⟩⟩
  all_goals (repeat' first|with_reducible exact Lz.rfl|exact Lw.rfl|exact Lz.wrap (by omega)|(unfold goInt;with_reducible exact Lz.rfl)|exact flx _|constructor)
  all_goals first | exact Lz.of (by simp [goInt]) | exact Lz.rfl
 ·rintro k f1 o1 c1 ⟨j, hj, rfl, hb, rfl, rfl, rfl⟩
  ((conv=>whnf)<;>repeat(with_reducible refine D1 ?_)<;>conv=>whnf)
  (first|refine ⟨?_,?_⟩|refine nsplit ?_ ?_|refine bsplit ?_ ?_)<;>intro h<;>have hz_:=True.intro<;>clear hz_
  ·have h : j < vs.length := by simpa using h
   ((conv=>whnf)<;>repeat(with_reducible refine D1 ?_)<;>conv=>whnf)
   refine idxI h ?_
   ((conv=>whnf)<;>repeat(with_reducible refine D1 ?_)<;>conv=>whnf)
   refine ⟨[], [some 0], _, _, _, _, usedOneC n vs[j] (hnm h), t3, ?_⟩
   rintro r o' c' ⟨rfl, rfl, rfl⟩
   have hz_ := True.intro
   clear hz_
   cases hv : standB n vs[j]
   ·((conv=>whnf)<;>repeat(with_reducible refine D1 ?_)<;>conv=>whnf)
    refine ⟨vs.length - (j + 1), ?_, by omega⟩
    exact ⟨[], [some 0], _, _, _, t3, ⟨j + 1, h, rfl, by intro v hv'; rw [List.take_succ_eq_append_getElem h] at hv'; rcases List.mem_append.1 hv' with h1 | h1; exact hb v h1; simp at h1; subst h1; exact hv, rfl, rfl, rfl⟩⟩
   ·((conv=>whnf)<;>repeat(with_reducible refine D1 ?_)<;>conv=>whnf)
    exact ⟨[], [some 0], _, _, _, t3, (j : Int), rfl, rfl, rfl, .inr ⟨by omega, _, List.getElem_mem h, hv⟩⟩
  ·have h' : j = vs.length := by have : ¬ j < vs.length := by simpa using h
                                 omega
   subst h'
   rw [List.take_length] at hb
   ((conv=>whnf)<;>repeat(with_reducible refine D1 ?_)<;>conv=>whnf)
   exact ⟨[], [some 0], _, _, _, t3, -1, rfl, rfl, rfl, .inl ⟨rfl, hb⟩⟩
theorem containsUC (n : Int) (vs : List CF) (hl : vs.length < 1000000) (hn : ∀ c ∈ vs, c.nodes.length < 10000) : VC E0 179 1 [.sl 5 (vs.map encCF) false, .clo 180 [] [.ptr 0 0]] (stN n) (RR (.s (.bool (vs.any (standB n)))) 1 (stN n)) := by
 refine VC.enterR L0 (show E0.func 179 = some Try.f179 by kernel_rfl) (fun _ _ => rfl) rfl rfl [] ?_
 ((conv=>whnf)<;>repeat(with_reducible refine D1 ?_)<;>conv=>whnf)
 refine ⟨[], [some 0], _, _, _, _, idxUC n vs hl hn, t3, ?_⟩
 rintro r o' c' ⟨i, rfl, rfl, rfl, hi⟩
 ((conv=>whnf)<;>repeat(with_reducible refine D1 ?_)<;>conv=>whnf)
 (first|refine ⟨?_,?_⟩|refine nsplit ?_ ?_|refine bsplit ?_ ?_)<;>intro h<;>have hz_:=True.intro<;>clear hz_
 ·have h : i ≥ 0 := h
  ((conv=>whnf)<;>repeat(with_reducible refine D1 ?_)<;>conv=>whnf)
  refine ⟨[], [some 0], ?_⟩
  iterate 3 constructor
  refine ⟨⟨?_, ?_, ?_⟩, rfl, rfl, rfl⟩
  all_goals (repeat' first|with_reducible exact Lz.rfl|exact Lw.rfl|exact Lz.wrap (by omega)|(unfold goInt;with_reducible exact Lz.rfl)|exact flx _|constructor)
  refine Lz.of (bool_eq (Eq.symm ?_))
  rcases hi with ⟨e, _⟩ | ⟨_, v, hv, hs⟩
  ·omega
  ·exact List.any_eq_true.2 ⟨v, hv, hs⟩
 ·have h : ¬ i ≥ 0 := h
  ((conv=>whnf)<;>repeat(with_reducible refine D1 ?_)<;>conv=>whnf)
  refine ⟨[], [some 0], ?_⟩
  iterate 3 constructor
  refine ⟨⟨?_, ?_, ?_⟩, rfl, rfl, rfl⟩
  all_goals (repeat' first|with_reducible exact Lz.rfl|exact Lw.rfl|exact Lz.wrap (by omega)|(unfold goInt;with_reducible exact Lz.rfl)|exact flx _|constructor)
  refine Lz.of (bool_eq (Eq.symm ?_))
  rcases hi with ⟨_, hall⟩ | ⟨e, _⟩
  ·exact List.any_eq_false.2 fun v hv => by rw [hall v hv]; simp
  ·omega
theorem any_stand (l : List CF) (n : Int) : l.any (standB n) = decide (n ∈ allS l) := by
 rw [Bool.eq_iff_iff, List.any_eq_true, decide_eq_true_iff]
 unfold allS standB
 rw [List.mem_flatMap]
 exact ⟨fun ⟨x, h, q⟩ => ⟨x, h, of_decide_eq_true q⟩, fun ⟨x, h, q⟩ => ⟨x, h, decide_eq_true q⟩⟩
theorem used_ok (l : List CF) (n : Int) (hl : l.length < 10000) (hn : ∀ c ∈ l, c.nodes.length < 10000) : VC E0 164 0 [.sl 5 (l.map encCF) false, .s (.int .i64 n)] [] (RR (.s (.bool (decide (n ∈ allS l)))) 0 []) := by
 refine VC.enterR L0 (show E0.func 164 = some Try.f164 by kernel_rfl) (fun _ _ => rfl) rfl rfl [] ?_
 ((conv=>whnf)<;>repeat(with_reducible refine D1 ?_)<;>conv=>whnf)
 refine ⟨[], [some 0], _, _, _, _, containsUC n l (by omega) hn, t3, ?_⟩
 rintro r o' c' ⟨rfl, rfl, rfl⟩
 rw [any_stand]
 ((conv=>whnf)<;>repeat(with_reducible refine D1 ?_)<;>conv=>whnf)
 exact ⟨[], [], _, _, _, t3, rfl, rfl, rfl⟩
end Go.M
namespace Go.M
open Go Go.Proofs
set_option maxRecDepth 100000
set_option maxHeartbeats 2000000
def canK (l : List CF) (x : CF) (k n : Int) : Int :=
 if k = 1 then (if n ∉ standL x then 7 else if (settledL x).any (otherB n) = false then 12 else 0)
 else if k = 2 then (if n ∈ allS l then 8 else if x.join ≠ 0 ∨ x.fresh = true then 12 else if x.nodes.length ≥ 5 then 9 else 0)
 else if k = 3 then (if x.join ≠ n then 7 else if x.nodes.length ≥ 5 then 9 else 0)
 else (if x.fresh = false ∨ lastL x ≠ n then 7 else 0)
theorem without_any (l : List Int) (n : Int) : (withoutL l n).length = 0 ↔ l.any (otherB n) = false := by
 rw [List.length_eq_zero_iff, List.any_eq_false]
 unfold withoutL otherB
 rw [List.filter_eq_nil_iff]
theorem canR_eq {l : List CF} {x : CF} {c : Cmd} (hr : rightP x) : canR l x c = if canK l x c.kind c.node ≠ 0 then canK l x c.kind c.node else canF x := by
 have h5 := hr.2.2.1
 unfold canR canK
 by_cases k1 : c.kind = 1
 ·rw [if_pos k1, if_pos k1]
  by_cases a : c.node ∉ standL x
  ·rw [if_pos a, if_pos a]; rfl
  ·rw [if_neg a, if_neg a]
   by_cases b : (settledL x).any (otherB c.node) = false
   ·rw [if_pos b, if_pos ((without_any _ _).2 b)]; rfl
   ·rw [if_neg b, if_neg (mt (without_any _ _).1 b)]; rfl
 rw [if_neg k1, if_neg k1]
 by_cases k2 : c.kind = 2
 ·rw [if_pos k2, if_pos k2]
  by_cases a : c.node ∈ allS l
  ·rw [if_pos a, if_pos a]; rfl
  ·rw [if_neg a, if_neg a]
   by_cases b : x.join ≠ 0 ∨ x.fresh = true
   ·rw [if_pos b, if_pos b]; rfl
   ·rw [if_neg b, if_neg b]
    by_cases d : x.nodes.length ≥ 5
    ·rw [if_pos d, if_pos (by omega)]; rfl
    ·rw [if_neg d, if_neg (by omega)]; rfl
 rw [if_neg k2, if_neg k2]
 by_cases k3 : c.kind = 3
 ·rw [if_pos k3, if_pos k3]
  by_cases a : x.join ≠ c.node
  ·rw [if_pos a, if_pos a]; rfl
  ·rw [if_neg a, if_neg a]
   by_cases d : x.nodes.length ≥ 5
   ·rw [if_pos d, if_pos (by omega)]; rfl
   ·rw [if_neg d, if_neg (by omega)]; rfl
 rw [if_neg k3, if_neg k3]
 by_cases a : x.fresh = false ∨ lastL x ≠ c.node
 ·rw [if_pos a, if_pos a]; rfl
 ·rw [if_neg a, if_neg a]; rfl
theorem canRemove_ok (l : List CF) (x : CF) (n : Int) (hr : rightP x) : VC E0 142 0 [.sl 5 (l.map encCF) false, .agg (encCF x), .s (.int .i64 n)] [] (RR (.s (.int .i64 (canK l x 1 n))) 0 []) := by
 have h5 := hr.2.2.1
 have hsl := standL_len x
 have hC : canK l x 1 n = if n ∉ standL x then 7 else if (settledL x).any (otherB n) = false then 12 else 0 := by unfold canK; rw [if_pos rfl]
 refine VC.enterR L0 (show E0.func 142 = some Try.f142 by kernel_rfl) (fun _ _ => rfl) rfl rfl [] ?_
 ((conv=>whnf)<;>repeat(with_reducible refine D1 ?_)<;>conv=>whnf)
 refine ⟨[], [], _, _, _, _, everybodyC x (by omega), t3, ?_⟩
 rintro r o' c' ⟨rfl, rfl, rfl⟩
 ((conv=>whnf)<;>repeat(with_reducible refine D1 ?_)<;>conv=>whnf)
 refine ⟨[2], [], _, _, _, _, containsI_ok (standL x) n (by omega), t3, ?_⟩
 rintro r o' c' ⟨rfl, rfl, rfl⟩
 by_cases hm : n ∈ standL x
 ·rw [if_neg (fun q => q hm)] at hC
  rw [decide_eq_true hm]
  ((conv=>whnf)<;>repeat(with_reducible refine D1 ?_)<;>conv=>whnf)
  have hsn : (settledL x).length ≤ x.nodes.length := by unfold settledL; split <;> simp
  refine ⟨[], [], _, _, _, _, settled_ok x h5, t3, ?_⟩
  rintro r o' c' ⟨rfl, rfl, rfl⟩
  ((conv=>whnf)<;>repeat(with_reducible refine D1 ?_)<;>conv=>whnf)
  refine ⟨[3], [some 1], _, _, _, _, containsO_ok n (settledL x) (by omega), t3, ?_⟩
  rintro r o' c' ⟨rfl, rfl, rfl⟩
  by_cases ha : (settledL x).any (otherB n) = true
  ·rw [if_neg (by rw [ha]; decide)] at hC
   rw [ha]
   ((conv=>whnf)<;>repeat(with_reducible refine D1 ?_)<;>conv=>whnf)
   refine ⟨[], [], ?_⟩
   iterate 3 constructor
   refine ⟨⟨?_, ?_, ?_⟩, rfl, rfl, rfl⟩
   all_goals (repeat' first|with_reducible exact Lz.rfl|exact Lw.rfl|exact Lz.wrap (by omega)|(unfold goInt;with_reducible exact Lz.rfl)|exact flx _|constructor)
   exact Lz.int hC.symm
  ·rw [if_pos (Bool.eq_false_iff.2 ha)] at hC
   rw [Bool.eq_false_iff.2 ha]
   ((conv=>whnf)<;>repeat(with_reducible refine D1 ?_)<;>conv=>whnf)
   refine ⟨[], [], ?_⟩
   iterate 3 constructor
   refine ⟨⟨?_, ?_, ?_⟩, rfl, rfl, rfl⟩
   all_goals (repeat' first|with_reducible exact Lz.rfl|exact Lw.rfl|exact Lz.wrap (by omega)|(unfold goInt;with_reducible exact Lz.rfl)|exact flx _|constructor)
   exact Lz.int hC.symm
 ·rw [if_pos hm] at hC
  rw [decide_eq_false hm]
  ((conv=>whnf)<;>repeat(with_reducible refine D1 ?_)<;>conv=>whnf)
  refine ⟨[], [], ?_⟩
  iterate 3 constructor
  refine ⟨⟨?_, ?_, ?_⟩, rfl, rfl, rfl⟩
  all_goals (repeat' first|with_reducible exact Lz.rfl|exact Lw.rfl|exact Lz.wrap (by omega)|(unfold goInt;with_reducible exact Lz.rfl)|exact flx _|constructor)
  exact Lz.int hC.symm
theorem canAppend_ok (l : List CF) (x : CF) (n : Int) (hl : l.length < 10000) (hn : ∀ c ∈ l, c.nodes.length < 10000) : VC E0 144 0 [.sl 5 (l.map encCF) false, .agg (encCF x), .s (.int .i64 n)] [] (RR (.s (.int .i64 (canK l x 2 n))) 0 []) := by
 have hC : canK l x 2 n = if n ∈ allS l then 8 else if x.join ≠ 0 ∨ x.fresh = true then 12 else if x.nodes.length ≥ 5 then 9 else 0 := by unfold canK; rw [if_neg (by decide), if_pos rfl]
 refine VC.enterR L0 (show E0.func 144 = some Try.f144 by kernel_rfl) (fun _ _ => rfl) rfl rfl [] ?_
 ((conv=>whnf)<;>repeat(with_reducible refine D1 ?_)<;>conv=>whnf)
 refine ⟨[], [], _, _, _, _, used_ok l n hl hn, t3, ?_⟩
 rintro r o' c' ⟨rfl, rfl, rfl⟩
 by_cases hm : n ∈ allS l
 ·rw [if_pos hm] at hC
  rw [decide_eq_true hm]
  ((conv=>whnf)<;>repeat(with_reducible refine D1 ?_)<;>conv=>whnf)
  refine ⟨[], [], ?_⟩
  iterate 3 constructor
  refine ⟨⟨?_, ?_, ?_⟩, rfl, rfl, rfl⟩
  all_goals (repeat' first|with_reducible exact Lz.rfl|exact Lw.rfl|exact Lz.wrap (by omega)|(unfold goInt;with_reducible exact Lz.rfl)|exact flx _|constructor)
  exact Lz.int hC.symm
 ·rw [if_neg hm] at hC
  rw [decide_eq_false hm]
  ((conv=>whnf)<;>repeat(with_reducible refine D1 ?_)<;>conv=>whnf)
  (first|refine ⟨?_,?_⟩|refine nsplit ?_ ?_|refine bsplit ?_ ?_)<;>intro hj<;>have hz_:=True.intro<;>clear hz_
  ·have hj : x.join ≠ 0 := hj
   rw [if_pos (.inl hj)] at hC
   ((conv=>whnf)<;>repeat(with_reducible refine D1 ?_)<;>conv=>whnf)
   refine ⟨[], [], ?_⟩
   iterate 3 constructor
   refine ⟨⟨?_, ?_, ?_⟩, rfl, rfl, rfl⟩
   all_goals (repeat' first|with_reducible exact Lz.rfl|exact Lw.rfl|exact Lz.wrap (by omega)|(unfold goInt;with_reducible exact Lz.rfl)|exact flx _|constructor)
   exact Lz.int hC.symm
  ·have hj : x.join = 0 := Classical.not_not.1 hj
   ((conv=>whnf)<;>repeat(with_reducible refine D1 ?_)<;>conv=>whnf)
   cases hf : x.fresh
   ·rw [if_neg (by rw [hj, hf]; simp)] at hC
    ((conv=>whnf)<;>repeat(with_reducible refine D1 ?_)<;>conv=>whnf)
    (first|refine ⟨?_,?_⟩|refine nsplit ?_ ?_|refine bsplit ?_ ?_)<;>intro hz<;>have hz_:=True.intro<;>clear hz_
    ·have hz : (((x.nodes.map encI1).length : Nat) : Int) ≥ 5 := hz
     rw [List.length_map] at hz
     rw [if_pos (by omega)] at hC
     ((conv=>whnf)<;>repeat(with_reducible refine D1 ?_)<;>conv=>whnf)
     refine ⟨[], [], ?_⟩
     iterate 3 constructor
     refine ⟨⟨?_, ?_, ?_⟩, rfl, rfl, rfl⟩
     all_goals (repeat' first|with_reducible exact Lz.rfl|exact Lw.rfl|exact Lz.wrap (by omega)|(unfold goInt;with_reducible exact Lz.rfl)|exact flx _|constructor)
     exact Lz.int hC.symm
    ·have hz : ¬ (((x.nodes.map encI1).length : Nat) : Int) ≥ 5 := hz
     rw [List.length_map] at hz
     rw [if_neg (by omega)] at hC
     ((conv=>whnf)<;>repeat(with_reducible refine D1 ?_)<;>conv=>whnf)
     refine ⟨[], [], ?_⟩
     iterate 3 constructor
     refine ⟨⟨?_, ?_, ?_⟩, rfl, rfl, rfl⟩
     all_goals (repeat' first|with_reducible exact Lz.rfl|exact Lw.rfl|exact Lz.wrap (by omega)|(unfold goInt;with_reducible exact Lz.rfl)|exact flx _|constructor)
     exact Lz.int hC.symm
   ·rw [if_pos (.inr hf)] at hC
    ((conv=>whnf)<;>repeat(with_reducible refine D1 ?_)<;>conv=>whnf)
    refine ⟨[], [], ?_⟩
    iterate 3 constructor
    refine ⟨⟨?_, ?_, ?_⟩, rfl, rfl, rfl⟩
    all_goals (repeat' first|with_reducible exact Lz.rfl|exact Lw.rfl|exact Lz.wrap (by omega)|(unfold goInt;with_reducible exact Lz.rfl)|exact flx _|constructor)
    exact Lz.int hC.symm
theorem canPromote_ok (l : List CF) (x : CF) (n : Int) : VC E0 146 0 [.sl 5 (l.map encCF) false, .agg (encCF x), .s (.int .i64 n)] [] (RR (.s (.int .i64 (canK l x 3 n))) 0 []) := by
 have hC : canK l x 3 n = if x.join ≠ n then 7 else if x.nodes.length ≥ 5 then 9 else 0 := by unfold canK; rw [if_neg (by decide), if_neg (by decide), if_pos rfl]
 refine VC.enterR L0 (show E0.func 146 = some Try.f146 by kernel_rfl) (fun _ _ => rfl) rfl rfl [] ?_
 ((conv=>whnf)<;>repeat(with_reducible refine D1 ?_)<;>conv=>whnf)
 (first|refine ⟨?_,?_⟩|refine nsplit ?_ ?_|refine bsplit ?_ ?_)<;>intro hj<;>have hz_:=True.intro<;>clear hz_
 ·have hj : x.join ≠ n := hj
  rw [if_pos hj] at hC
  ((conv=>whnf)<;>repeat(with_reducible refine D1 ?_)<;>conv=>whnf)
  refine ⟨[], [], ?_⟩
  iterate 3 constructor
  refine ⟨⟨?_, ?_, ?_⟩, rfl, rfl, rfl⟩
  all_goals (repeat' first|with_reducible exact Lz.rfl|exact Lw.rfl|exact Lz.wrap (by omega)|(unfold goInt;with_reducible exact Lz.rfl)|exact flx _|constructor)
  exact Lz.int hC.symm
 ·have hj : ¬ x.join ≠ n := hj
  rw [if_neg hj] at hC
  ((conv=>whnf)<;>repeat(with_reducible refine D1 ?_)<;>conv=>whnf)
  (first|refine ⟨?_,?_⟩|refine nsplit ?_ ?_|refine bsplit ?_ ?_)<;>intro hz<;>have hz_:=True.intro<;>clear hz_
  ·have hz : (((x.nodes.map encI1).length : Nat) : Int) ≥ 5 := hz
   rw [List.length_map] at hz
   rw [if_pos (by omega)] at hC
   ((conv=>whnf)<;>repeat(with_reducible refine D1 ?_)<;>conv=>whnf)
   refine ⟨[], [], ?_⟩
   iterate 3 constructor
   refine ⟨⟨?_, ?_, ?_⟩, rfl, rfl, rfl⟩
   all_goals (repeat' first|with_reducible exact Lz.rfl|exact Lw.rfl|exact Lz.wrap (by omega)|(unfold goInt;with_reducible exact Lz.rfl)|exact flx _|constructor)
   exact Lz.int hC.symm
  ·have hz : ¬ (((x.nodes.map encI1).length : Nat) : Int) ≥ 5 := hz
   rw [List.length_map] at hz
   rw [if_neg (by omega)] at hC
   ((conv=>whnf)<;>repeat(with_reducible refine D1 ?_)<;>conv=>whnf)
   refine ⟨[], [], ?_⟩
   iterate 3 constructor
   refine ⟨⟨?_, ?_, ?_⟩, rfl, rfl, rfl⟩
   all_goals (repeat' first|with_reducible exact Lz.rfl|exact Lw.rfl|exact Lz.wrap (by omega)|(unfold goInt;with_reducible exact Lz.rfl)|exact flx _|constructor)
   exact Lz.int hC.symm
theorem canSettle_ok (l : List CF) (x : CF) (k n : Int) (hr : rightP x) (k1 : k ≠ 1) (k2 : k ≠ 2) (k3 : k ≠ 3) : VC E0 148 0 [.sl 5 (l.map encCF) false, .agg (encCF x), .s (.int .i64 n)] [] (RR (.s (.int .i64 (canK l x k n))) 0 []) := by
 have hC : canK l x k n = if x.fresh = false ∨ lastL x ≠ n then 7 else 0 := by unfold canK; rw [if_neg k1, if_neg k2, if_neg k3]
 refine VC.enterR L0 (show E0.func 148 = some Try.f148 by kernel_rfl) (fun _ _ => rfl) rfl rfl [] ?_
 ((conv=>whnf)<;>repeat(with_reducible refine D1 ?_)<;>conv=>whnf)
 cases hf : x.fresh
 ·rw [if_pos (.inl hf)] at hC
  ((conv=>whnf)<;>repeat(with_reducible refine D1 ?_)<;>conv=>whnf)
  refine ⟨[], [], ?_⟩
  iterate 3 constructor
  refine ⟨⟨?_, ?_, ?_⟩, rfl, rfl, rfl⟩
  all_goals (repeat' first|with_reducible exact Lz.rfl|exact Lw.rfl|exact Lz.wrap (by omega)|(unfold goInt;with_reducible exact Lz.rfl)|exact flx _|constructor)
  exact Lz.int hC.symm
 ·((conv=>whnf)<;>repeat(with_reducible refine D1 ?_)<;>conv=>whnf)
  refine ⟨[], [], _, _, _, _, last_ok x hr.2.2.1, ⟨by ((repeat' first|with_reducible exact Lz.rfl|exact Lw.rfl|exact Lz.wrap (by omega)|(unfold goInt;with_reducible exact Lz.rfl)|exact flx _|constructor); all_goals (exact Lz.of (bool_eq hf.symm))), by ((repeat' first|with_reducible exact Lz.rfl|exact Lw.rfl|exact Lz.wrap (by omega)|(unfold goInt;with_reducible exact Lz.rfl)|exact flx _|constructor); all_goals (exact Lz.of (bool_eq hf.symm))), by rfl⟩, ?_⟩
  rintro r o' c' ⟨rfl, rfl, rfl⟩
  ((conv=>whnf)<;>repeat(with_reducible refine D1 ?_)<;>conv=>whnf)
  (first|refine ⟨?_,?_⟩|refine nsplit ?_ ?_|refine bsplit ?_ ?_)<;>intro hla<;>have hz_:=True.intro<;>clear hz_
  ·have hla : lastL x ≠ n := hla
   rw [if_pos (.inr hla)] at hC
   ((conv=>whnf)<;>repeat(with_reducible refine D1 ?_)<;>conv=>whnf)
   refine ⟨[], [], ?_⟩
   iterate 3 constructor
   refine ⟨⟨?_, ?_, ?_⟩, rfl, rfl, rfl⟩
   all_goals (repeat' first|with_reducible exact Lz.rfl|exact Lw.rfl|exact Lz.wrap (by omega)|(unfold goInt;with_reducible exact Lz.rfl)|exact flx _|constructor)
   exact Lz.int hC.symm
  ·have hla : ¬ lastL x ≠ n := hla
   rw [if_neg (by rw [hf]; simpa using hla)] at hC
   ((conv=>whnf)<;>repeat(with_reducible refine D1 ?_)<;>conv=>whnf)
   refine ⟨[], [], ?_⟩
   iterate 3 constructor
   refine ⟨⟨?_, ?_, ?_⟩, rfl, rfl, rfl⟩
   all_goals (repeat' first|with_reducible exact Lz.rfl|exact Lw.rfl|exact Lz.wrap (by omega)|(unfold goInt;with_reducible exact Lz.rfl)|exact flx _|constructor)
   exact Lz.int hC.symm
theorem of1_ok : VC E0 116 0 [.s (.int .i64 1)] [] (RR (.agg [.clo 142 [] [], .clo 143 [] []]) 0 []) := by
 refine VC.enterR L0 (show E0.func 116 = some Try.f116 by kernel_rfl) (fun _ _ => rfl) rfl rfl [] ?_
 ((conv=>whnf)<;>repeat(with_reducible refine D1 ?_)<;>conv=>whnf)
 repeat ((first | (refine ⟨fun h_ => ?_, fun h_ => ?_⟩) | (refine nsplit (fun h_ => ?_) (fun h_ => ?_)) | (refine bsplit (fun h_ => ?_) (fun h_ => ?_))) <;> first | (exfalso; revert h_; decide; done) | (exact absurd rfl h_) | (have hz_ := True.intro; clear hz_; ((conv=>whnf)<;>repeat(with_reducible refine D1 ?_)<;>conv=>whnf)))
 exact ⟨[], [], _, _, _, t3, rfl, rfl, rfl⟩
theorem of2_ok : VC E0 116 0 [.s (.int .i64 2)] [] (RR (.agg [.clo 144 [] [], .clo 145 [] []]) 0 []) := by
 refine VC.enterR L0 (show E0.func 116 = some Try.f116 by kernel_rfl) (fun _ _ => rfl) rfl rfl [] ?_
 ((conv=>whnf)<;>repeat(with_reducible refine D1 ?_)<;>conv=>whnf)
 repeat ((first | (refine ⟨fun h_ => ?_, fun h_ => ?_⟩) | (refine nsplit (fun h_ => ?_) (fun h_ => ?_)) | (refine bsplit (fun h_ => ?_) (fun h_ => ?_))) <;> first | (exfalso; revert h_; decide; done) | (exact absurd rfl h_) | (have hz_ := True.intro; clear hz_; ((conv=>whnf)<;>repeat(with_reducible refine D1 ?_)<;>conv=>whnf)))
 exact ⟨[], [], _, _, _, t3, rfl, rfl, rfl⟩
theorem of3_ok : VC E0 116 0 [.s (.int .i64 3)] [] (RR (.agg [.clo 146 [] [], .clo 147 [] []]) 0 []) := by
 refine VC.enterR L0 (show E0.func 116 = some Try.f116 by kernel_rfl) (fun _ _ => rfl) rfl rfl [] ?_
 ((conv=>whnf)<;>repeat(with_reducible refine D1 ?_)<;>conv=>whnf)
 repeat ((first | (refine ⟨fun h_ => ?_, fun h_ => ?_⟩) | (refine nsplit (fun h_ => ?_) (fun h_ => ?_)) | (refine bsplit (fun h_ => ?_) (fun h_ => ?_))) <;> first | (exfalso; revert h_; decide; done) | (exact absurd rfl h_) | (have hz_ := True.intro; clear hz_; ((conv=>whnf)<;>repeat(with_reducible refine D1 ?_)<;>conv=>whnf)))
 exact ⟨[], [], _, _, _, t3, rfl, rfl, rfl⟩
theorem of4_ok (k : Int) (k1 : k ≠ 1) (k2 : k ≠ 2) (k3 : k ≠ 3) : VC E0 116 0 [.s (.int .i64 k)] [] (RR (.agg [.clo 148 [] [], .clo 149 [] []]) 0 []) := by
 refine VC.enterR L0 (show E0.func 116 = some Try.f116 by kernel_rfl) (fun _ _ => rfl) rfl rfl [] ?_
 ((conv=>whnf)<;>repeat(with_reducible refine D1 ?_)<;>conv=>whnf)
 (first|refine ⟨?_,?_⟩|refine nsplit ?_ ?_|refine bsplit ?_ ?_)<;>intro h<;>have hz_:=True.intro<;>clear hz_
 ·exact absurd h k1
 ((conv=>whnf)<;>repeat(with_reducible refine D1 ?_)<;>conv=>whnf)
 (first|refine ⟨?_,?_⟩|refine nsplit ?_ ?_|refine bsplit ?_ ?_)<;>intro h<;>have hz_:=True.intro<;>clear hz_
 ·exact absurd h k2
 ((conv=>whnf)<;>repeat(with_reducible refine D1 ?_)<;>conv=>whnf)
 (first|refine ⟨?_,?_⟩|refine nsplit ?_ ?_|refine bsplit ?_ ?_)<;>intro h<;>have hz_:=True.intro<;>clear hz_
 ·exact absurd h k3
 ((conv=>whnf)<;>repeat(with_reducible refine D1 ?_)<;>conv=>whnf)
 exact ⟨[], [], _, _, _, t3, rfl, rfl, rfl⟩
end Go.M
namespace Go.M
open Go Go.Proofs
set_option maxRecDepth 100000
set_option maxHeartbeats 4000000
open Classical in
open Classical in
theorem can_ok (l : List CF) (c : Cmd) : VC E0 78 0 [.sl 5 (l.map encCF) false, cT4 c] [] (RR (.s (.int .i64 (canL l c))) 0 []) := by
 refine VC.enterR L0 (show E0.func 78 = some Try.f78 by kernel_rfl) (fun _ _ => rfl) rfl rfl [] ?_
 ((conv=>whnf)<;>repeat(with_reducible refine D1 ?_)<;>conv=>whnf)
 refine ⟨[], [], _, _, _, _, all_okC l, t3, ?_⟩
 rintro r o' c' ⟨rfl, rfl, rfl⟩
 by_cases ha : allP l
 rotate_left
 ·rw [decide_eq_false ha]
  ((conv=>whnf)<;>repeat(with_reducible refine D1 ?_)<;>conv=>whnf)
  refine ⟨[], [], ?_⟩
  iterate 3 constructor
  refine ⟨⟨?_, ?_, ?_⟩, rfl, rfl, rfl⟩
  all_goals (repeat' first|with_reducible exact Lz.rfl|exact Lw.rfl|exact Lz.wrap (by omega)|(unfold goInt;with_reducible exact Lz.rfl)|exact flx _|constructor)
  exact Lz.int (by unfold canL; rw [if_pos ha])
 rw [decide_eq_true ha]
 ((conv=>whnf)<;>repeat(with_reducible refine D1 ?_)<;>conv=>whnf)
 refine ⟨[], [], _, _, _, _, check_ok c.kind c.chain c.epoch c.node, t3, ?_⟩
 rintro r o' c' ⟨rfl, rfl, rfl⟩
 ((conv=>whnf)<;>repeat(with_reducible refine D1 ?_)<;>conv=>whnf)
 (first|refine ⟨?_,?_⟩|refine nsplit ?_ ?_|refine bsplit ?_ ?_)<;>intro hk<;>have hz_:=True.intro<;>clear hz_
 ·have hk : c.check ≠ 0 := hk
  ((conv=>whnf)<;>repeat(with_reducible refine D1 ?_)<;>conv=>whnf)
  refine ⟨[], [], ?_⟩
  iterate 3 constructor
  refine ⟨⟨?_, ?_, ?_⟩, rfl, rfl, rfl⟩
  all_goals (repeat' first|with_reducible exact Lz.rfl|exact Lw.rfl|exact Lz.wrap (by omega)|(unfold goInt;with_reducible exact Lz.rfl)|exact flx _|constructor)
  exact Lz.int (by unfold canL; rw [if_neg (fun q => q ha), if_pos hk]; rfl)
 have hk : c.check = 0 := Classical.not_not.1 hk
 ((conv=>whnf)<;>repeat(with_reducible refine D1 ?_)<;>conv=>whnf)
 (first|refine ⟨?_,?_⟩|refine nsplit ?_ ?_|refine bsplit ?_ ?_)<;>intro h0<;>have hz_:=True.intro<;>clear hz_
 ·have h0 : c.kind = 0 := h0
  ((conv=>whnf)<;>repeat(with_reducible refine D1 ?_)<;>conv=>whnf)
  refine ⟨[], [], ?_⟩
  iterate 3 constructor
  refine ⟨⟨?_, ?_, ?_⟩, rfl, rfl, rfl⟩
  all_goals (repeat' first|with_reducible exact Lz.rfl|exact Lw.rfl|exact Lz.wrap (by omega)|(unfold goInt;with_reducible exact Lz.rfl)|exact flx _|constructor)
  exact Lz.int (by unfold canL; rw [if_neg (fun q => q ha), if_neg (fun q => q hk), if_pos h0]; exact hk)
 have h0 : ¬ c.kind = 0 := h0
 have hrg := check_rng hk h0
 have hl4 := ha.1.2
 ((conv=>whnf)<;>repeat(with_reducible refine D1 ?_)<;>conv=>whnf)
 (first|refine ⟨?_,?_⟩|refine nsplit ?_ ?_|refine bsplit ?_ ?_)<;>intro h1<;>have hz_:=True.intro<;>clear hz_
 ·have h1 : c.chain ≥ (((l.map encCF).length : Nat) : Int) := h1
  rw [List.length_map] at h1
  have hnone : l[c.chain.toNat]? = none := List.getElem?_eq_none (by omega)
  ((conv=>whnf)<;>repeat(with_reducible refine D1 ?_)<;>conv=>whnf)
  refine ⟨[], [], ?_⟩
  iterate 3 constructor
  refine ⟨⟨?_, ?_, ?_⟩, rfl, rfl, rfl⟩
  all_goals (repeat' first|with_reducible exact Lz.rfl|exact Lw.rfl|exact Lz.wrap (by omega)|(unfold goInt;with_reducible exact Lz.rfl)|exact flx _|constructor)
  exact Lz.int (by unfold canL; rw [if_neg (fun q => q ha), if_neg (fun q => q hk), if_neg h0, hnone])
 have h1 : ¬ c.chain ≥ (((l.map encCF).length : Nat) : Int) := h1
 rw [List.length_map] at h1
 have hlt : c.chain.toNat < l.length := by omega
 have hsome : l[c.chain.toNat]? = some l[c.chain.toNat] := List.getElem?_eq_getElem hlt
 have hr := allP_in ha (List.getElem_mem hlt)
 have hC : canL l c = if l[c.chain.toNat].epoch ≠ c.epoch then 10 else canR l l[c.chain.toNat] c := by unfold canL; rw [if_neg (fun q => q ha), if_neg (fun q => q hk), if_neg h0, hsome]
 rw [canR_eq hr] at hC
 ((conv=>whnf)<;>repeat(with_reducible refine D1 ?_)<;>conv=>whnf)
 refine idxI' hrg.1 hlt ?_
 ((conv=>whnf)<;>repeat(with_reducible refine D1 ?_)<;>conv=>whnf)
 (first|refine ⟨?_,?_⟩|refine nsplit ?_ ?_|refine bsplit ?_ ?_)<;>intro h2<;>have hz_:=True.intro<;>clear hz_
 ·have h2 : l[c.chain.toNat].epoch ≠ c.epoch := h2
  rw [if_pos h2] at hC
  ((conv=>whnf)<;>repeat(with_reducible refine D1 ?_)<;>conv=>whnf)
  refine ⟨[], [], ?_⟩
  iterate 3 constructor
  refine ⟨⟨?_, ?_, ?_⟩, rfl, rfl, rfl⟩
  all_goals (repeat' first|with_reducible exact Lz.rfl|exact Lw.rfl|exact Lz.wrap (by omega)|(unfold goInt;with_reducible exact Lz.rfl)|exact flx _|constructor)
  exact Lz.int hC.symm
 have h2 : ¬ l[c.chain.toNat].epoch ≠ c.epoch := h2
 rw [if_neg h2] at hC
 ((conv=>whnf)<;>repeat(with_reducible refine D1 ?_)<;>conv=>whnf)
 by_cases k1 : c.kind = 1
 ·rw [k1] at hC
  refine ⟨[], [], _, _, _, _, of1_ok, ⟨by ((repeat' first|with_reducible exact Lz.rfl|exact Lw.rfl|exact Lz.wrap (by omega)|(unfold goInt;with_reducible exact Lz.rfl)|exact flx _|constructor); all_goals (exact Lz.int k1)), by ((repeat' first|with_reducible exact Lz.rfl|exact Lw.rfl|exact Lz.wrap (by omega)|(unfold goInt;with_reducible exact Lz.rfl)|exact flx _|constructor); all_goals (exact Lz.int k1)), by rfl⟩, ?_⟩
  rintro r o' c' ⟨rfl, rfl, rfl⟩
  ((conv=>whnf)<;>repeat(with_reducible refine D1 ?_)<;>conv=>whnf)
  refine ⟨[], [], _, _, _, _, canRemove_ok l l[c.chain.toNat] c.node hr, t3, ?_⟩
  rintro r o' c' ⟨rfl, rfl, rfl⟩
  ((conv=>whnf)<;>repeat(with_reducible refine D1 ?_)<;>conv=>whnf)
  (first|refine ⟨?_,?_⟩|refine nsplit ?_ ?_|refine bsplit ?_ ?_)<;>intro he<;>have hz_:=True.intro<;>clear hz_
  ·have he : canK l l[c.chain.toNat] 1 c.node ≠ 0 := he
   rw [if_pos he] at hC
   ((conv=>whnf)<;>repeat(with_reducible refine D1 ?_)<;>conv=>whnf)
   refine ⟨[], [], ?_⟩
   iterate 3 constructor
   refine ⟨⟨?_, ?_, ?_⟩, rfl, rfl, rfl⟩
   all_goals (repeat' first|with_reducible exact Lz.rfl|exact Lw.rfl|exact Lz.wrap (by omega)|(unfold goInt;with_reducible exact Lz.rfl)|exact flx _|constructor)
   exact Lz.int hC.symm
  ·have he : ¬ canK l l[c.chain.toNat] 1 c.node ≠ 0 := he
   rw [if_neg he] at hC
   ((conv=>whnf)<;>repeat(with_reducible refine D1 ?_)<;>conv=>whnf)
   (first|refine ⟨?_,?_⟩|refine nsplit ?_ ?_|refine bsplit ?_ ?_)<;>intro hm<;>have hz_:=True.intro<;>clear hz_
   ·have hm : l[c.chain.toNat].epoch = 18446744073709551615 := hm
    ((conv=>whnf)<;>repeat(with_reducible refine D1 ?_)<;>conv=>whnf)
    refine ⟨[], [], ?_⟩
    iterate 3 constructor
    refine ⟨⟨?_, ?_, ?_⟩, rfl, rfl, rfl⟩
    all_goals (repeat' first|with_reducible exact Lz.rfl|exact Lw.rfl|exact Lz.wrap (by omega)|(unfold goInt;with_reducible exact Lz.rfl)|exact flx _|constructor)
    exact Lz.int (by rw [hC]; unfold canF; rw [if_pos hm])
   ·have hm : ¬ l[c.chain.toNat].epoch = 18446744073709551615 := hm
    ((conv=>whnf)<;>repeat(with_reducible refine D1 ?_)<;>conv=>whnf)
    refine ⟨[], [], ?_⟩
    iterate 3 constructor
    refine ⟨⟨?_, ?_, ?_⟩, rfl, rfl, rfl⟩
    all_goals (repeat' first|with_reducible exact Lz.rfl|exact Lw.rfl|exact Lz.wrap (by omega)|(unfold goInt;with_reducible exact Lz.rfl)|exact flx _|constructor)
    exact Lz.int (by rw [hC]; unfold canF; rw [if_neg hm])
 by_cases k2 : c.kind = 2
 ·rw [k2] at hC
  refine ⟨[], [], _, _, _, _, of2_ok, ⟨by ((repeat' first|with_reducible exact Lz.rfl|exact Lw.rfl|exact Lz.wrap (by omega)|(unfold goInt;with_reducible exact Lz.rfl)|exact flx _|constructor); all_goals (exact Lz.int k2)), by ((repeat' first|with_reducible exact Lz.rfl|exact Lw.rfl|exact Lz.wrap (by omega)|(unfold goInt;with_reducible exact Lz.rfl)|exact flx _|constructor); all_goals (exact Lz.int k2)), by rfl⟩, ?_⟩
  rintro r o' c' ⟨rfl, rfl, rfl⟩
  ((conv=>whnf)<;>repeat(with_reducible refine D1 ?_)<;>conv=>whnf)
  refine ⟨[], [], _, _, _, _, canAppend_ok l l[c.chain.toNat] c.node (by omega) (fun x hx => by have := (allP_in ha hx).2.2.1; omega), t3, ?_⟩
  rintro r o' c' ⟨rfl, rfl, rfl⟩
  ((conv=>whnf)<;>repeat(with_reducible refine D1 ?_)<;>conv=>whnf)
  (first|refine ⟨?_,?_⟩|refine nsplit ?_ ?_|refine bsplit ?_ ?_)<;>intro he<;>have hz_:=True.intro<;>clear hz_
  ·have he : canK l l[c.chain.toNat] 2 c.node ≠ 0 := he
   rw [if_pos he] at hC
   ((conv=>whnf)<;>repeat(with_reducible refine D1 ?_)<;>conv=>whnf)
   refine ⟨[], [], ?_⟩
   iterate 3 constructor
   refine ⟨⟨?_, ?_, ?_⟩, rfl, rfl, rfl⟩
   all_goals (repeat' first|with_reducible exact Lz.rfl|exact Lw.rfl|exact Lz.wrap (by omega)|(unfold goInt;with_reducible exact Lz.rfl)|exact flx _|constructor)
   exact Lz.int hC.symm
  ·have he : ¬ canK l l[c.chain.toNat] 2 c.node ≠ 0 := he
   rw [if_neg he] at hC
   ((conv=>whnf)<;>repeat(with_reducible refine D1 ?_)<;>conv=>whnf)
   (first|refine ⟨?_,?_⟩|refine nsplit ?_ ?_|refine bsplit ?_ ?_)<;>intro hm<;>have hz_:=True.intro<;>clear hz_
   ·have hm : l[c.chain.toNat].epoch = 18446744073709551615 := hm
    ((conv=>whnf)<;>repeat(with_reducible refine D1 ?_)<;>conv=>whnf)
    refine ⟨[], [], ?_⟩
    iterate 3 constructor
    refine ⟨⟨?_, ?_, ?_⟩, rfl, rfl, rfl⟩
    all_goals (repeat' first|with_reducible exact Lz.rfl|exact Lw.rfl|exact Lz.wrap (by omega)|(unfold goInt;with_reducible exact Lz.rfl)|exact flx _|constructor)
    exact Lz.int (by rw [hC]; unfold canF; rw [if_pos hm])
   ·have hm : ¬ l[c.chain.toNat].epoch = 18446744073709551615 := hm
    ((conv=>whnf)<;>repeat(with_reducible refine D1 ?_)<;>conv=>whnf)
    refine ⟨[], [], ?_⟩
    iterate 3 constructor
    refine ⟨⟨?_, ?_, ?_⟩, rfl, rfl, rfl⟩
    all_goals (repeat' first|with_reducible exact Lz.rfl|exact Lw.rfl|exact Lz.wrap (by omega)|(unfold goInt;with_reducible exact Lz.rfl)|exact flx _|constructor)
    exact Lz.int (by rw [hC]; unfold canF; rw [if_neg hm])
 by_cases k3 : c.kind = 3
 ·rw [k3] at hC
  refine ⟨[], [], _, _, _, _, of3_ok, ⟨by ((repeat' first|with_reducible exact Lz.rfl|exact Lw.rfl|exact Lz.wrap (by omega)|(unfold goInt;with_reducible exact Lz.rfl)|exact flx _|constructor); all_goals (exact Lz.int k3)), by ((repeat' first|with_reducible exact Lz.rfl|exact Lw.rfl|exact Lz.wrap (by omega)|(unfold goInt;with_reducible exact Lz.rfl)|exact flx _|constructor); all_goals (exact Lz.int k3)), by rfl⟩, ?_⟩
  rintro r o' c' ⟨rfl, rfl, rfl⟩
  ((conv=>whnf)<;>repeat(with_reducible refine D1 ?_)<;>conv=>whnf)
  refine ⟨[], [], _, _, _, _, canPromote_ok l l[c.chain.toNat] c.node, t3, ?_⟩
  rintro r o' c' ⟨rfl, rfl, rfl⟩
  ((conv=>whnf)<;>repeat(with_reducible refine D1 ?_)<;>conv=>whnf)
  (first|refine ⟨?_,?_⟩|refine nsplit ?_ ?_|refine bsplit ?_ ?_)<;>intro he<;>have hz_:=True.intro<;>clear hz_
  ·have he : canK l l[c.chain.toNat] 3 c.node ≠ 0 := he
   rw [if_pos he] at hC
   ((conv=>whnf)<;>repeat(with_reducible refine D1 ?_)<;>conv=>whnf)
   refine ⟨[], [], ?_⟩
   iterate 3 constructor
   refine ⟨⟨?_, ?_, ?_⟩, rfl, rfl, rfl⟩
   all_goals (repeat' first|with_reducible exact Lz.rfl|exact Lw.rfl|exact Lz.wrap (by omega)|(unfold goInt;with_reducible exact Lz.rfl)|exact flx _|constructor)
   exact Lz.int hC.symm
  ·have he : ¬ canK l l[c.chain.toNat] 3 c.node ≠ 0 := he
   rw [if_neg he] at hC
   ((conv=>whnf)<;>repeat(with_reducible refine D1 ?_)<;>conv=>whnf)
   (first|refine ⟨?_,?_⟩|refine nsplit ?_ ?_|refine bsplit ?_ ?_)<;>intro hm<;>have hz_:=True.intro<;>clear hz_
   ·have hm : l[c.chain.toNat].epoch = 18446744073709551615 := hm
    ((conv=>whnf)<;>repeat(with_reducible refine D1 ?_)<;>conv=>whnf)
    refine ⟨[], [], ?_⟩
    iterate 3 constructor
    refine ⟨⟨?_, ?_, ?_⟩, rfl, rfl, rfl⟩
    all_goals (repeat' first|with_reducible exact Lz.rfl|exact Lw.rfl|exact Lz.wrap (by omega)|(unfold goInt;with_reducible exact Lz.rfl)|exact flx _|constructor)
    exact Lz.int (by rw [hC]; unfold canF; rw [if_pos hm])
   ·have hm : ¬ l[c.chain.toNat].epoch = 18446744073709551615 := hm
    ((conv=>whnf)<;>repeat(with_reducible refine D1 ?_)<;>conv=>whnf)
    refine ⟨[], [], ?_⟩
    iterate 3 constructor
    refine ⟨⟨?_, ?_, ?_⟩, rfl, rfl, rfl⟩
    all_goals (repeat' first|with_reducible exact Lz.rfl|exact Lw.rfl|exact Lz.wrap (by omega)|(unfold goInt;with_reducible exact Lz.rfl)|exact flx _|constructor)
    exact Lz.int (by rw [hC]; unfold canF; rw [if_neg hm])
 refine ⟨[], [], _, _, _, _, of4_ok c.kind k1 k2 k3, t3, ?_⟩
 rintro r o' c' ⟨rfl, rfl, rfl⟩
 ((conv=>whnf)<;>repeat(with_reducible refine D1 ?_)<;>conv=>whnf)
 refine ⟨[], [], _, _, _, _, canSettle_ok l l[c.chain.toNat] c.kind c.node hr k1 k2 k3, t3, ?_⟩
 rintro r o' c' ⟨rfl, rfl, rfl⟩
 ((conv=>whnf)<;>repeat(with_reducible refine D1 ?_)<;>conv=>whnf)
 (first|refine ⟨?_,?_⟩|refine nsplit ?_ ?_|refine bsplit ?_ ?_)<;>intro he<;>have hz_:=True.intro<;>clear hz_
 ·have he : canK l l[c.chain.toNat] c.kind c.node ≠ 0 := he
  rw [if_pos he] at hC
  ((conv=>whnf)<;>repeat(with_reducible refine D1 ?_)<;>conv=>whnf)
  refine ⟨[], [], ?_⟩
  iterate 3 constructor
  refine ⟨⟨?_, ?_, ?_⟩, rfl, rfl, rfl⟩
  all_goals (repeat' first|with_reducible exact Lz.rfl|exact Lw.rfl|exact Lz.wrap (by omega)|(unfold goInt;with_reducible exact Lz.rfl)|exact flx _|constructor)
  exact Lz.int hC.symm
 ·have he : ¬ canK l l[c.chain.toNat] c.kind c.node ≠ 0 := he
  rw [if_neg he] at hC
  ((conv=>whnf)<;>repeat(with_reducible refine D1 ?_)<;>conv=>whnf)
  (first|refine ⟨?_,?_⟩|refine nsplit ?_ ?_|refine bsplit ?_ ?_)<;>intro hm<;>have hz_:=True.intro<;>clear hz_
  ·have hm : l[c.chain.toNat].epoch = 18446744073709551615 := hm
   ((conv=>whnf)<;>repeat(with_reducible refine D1 ?_)<;>conv=>whnf)
   refine ⟨[], [], ?_⟩
   iterate 3 constructor
   refine ⟨⟨?_, ?_, ?_⟩, rfl, rfl, rfl⟩
   all_goals (repeat' first|with_reducible exact Lz.rfl|exact Lw.rfl|exact Lz.wrap (by omega)|(unfold goInt;with_reducible exact Lz.rfl)|exact flx _|constructor)
   exact Lz.int (by rw [hC]; unfold canF; rw [if_pos hm])
  ·have hm : ¬ l[c.chain.toNat].epoch = 18446744073709551615 := hm
   ((conv=>whnf)<;>repeat(with_reducible refine D1 ?_)<;>conv=>whnf)
   refine ⟨[], [], ?_⟩
   iterate 3 constructor
   refine ⟨⟨?_, ?_, ?_⟩, rfl, rfl, rfl⟩
   all_goals (repeat' first|with_reducible exact Lz.rfl|exact Lw.rfl|exact Lz.wrap (by omega)|(unfold goInt;with_reducible exact Lz.rfl)|exact flx _|constructor)
   exact Lz.int (by rw [hC]; unfold canF; rw [if_neg hm])
end Go.M
namespace Go.M
open Go Go.Proofs
set_option maxRecDepth 100000
set_option maxHeartbeats 4000000
def madeL (x : CF) (k n : Int) : CF :=
 if k = 1 then (if x.join = n then ⟨x.chain, x.epoch + 1, x.nodes, x.fresh, 0⟩ else ⟨x.chain, x.epoch + 1, withoutL x.nodes n, x.fresh && decide (lastL x ≠ n), x.join⟩)
 else if k = 2 then ⟨x.chain, x.epoch + 1, x.nodes, x.fresh, n⟩
 else if k = 3 then ⟨x.chain, x.epoch + 1, x.nodes ++ [n], true, 0⟩
 else ⟨x.chain, x.epoch + 1, x.nodes, false, x.join⟩
theorem made_ok (x : CF) (c : Cmd) (hr : rightP x) (he : x.epoch < 18446744073709551615) : VC E0 72 0 [.agg (encCF x), cT4 c] [] (RR (.agg (encCF (madeL x c.kind c.node))) 0 []) := by
 have h5 := hr.2.2.1
 have he0 := hr.2.1
 have hw : IntKind.u64.wrap (x.epoch + 1) = x.epoch + 1 := IntWalk.u64_in _ (by omega)
 refine VC.enterR L0 (show E0.func 72 = some Try.f72 by kernel_rfl) (fun _ _ => rfl) rfl rfl [] ?_
 ((conv=>whnf)<;>repeat(with_reducible refine D1 ?_)<;>conv=>whnf)
 refine ⟨by simp; omega, ?_⟩
 ((conv=>whnf)<;>repeat(with_reducible refine D1 ?_)<;>conv=>whnf)
 (first|refine ⟨?_,?_⟩|refine nsplit ?_ ?_|refine bsplit ?_ ?_)<;>intro k1<;>have hz_:=True.intro<;>clear hz_
 ·have k1 : c.kind = 1 := k1
  ((conv=>whnf)<;>repeat(with_reducible refine D1 ?_)<;>conv=>whnf)
  (first|refine ⟨?_,?_⟩|refine nsplit ?_ ?_|refine bsplit ?_ ?_)<;>intro hj<;>have hz_:=True.intro<;>clear hz_
  ·have hj : x.join = c.node := hj
   have hC : madeL x c.kind c.node = ⟨x.chain, x.epoch + 1, x.nodes, x.fresh, 0⟩ := by unfold madeL; rw [if_pos k1, if_pos hj]
   rw [hC]
   ((conv=>whnf)<;>repeat(with_reducible refine D1 ?_)<;>conv=>whnf)
   refine ⟨[3], [], ?_⟩
   iterate 3 constructor
   refine ⟨⟨?_, ?_, ?_⟩, rfl, rfl, rfl⟩
   all_goals (repeat' first|with_reducible exact Lz.rfl|exact Lw.rfl|exact Lz.wrap (by omega)|(unfold goInt;with_reducible exact Lz.rfl)|exact flx _|constructor)
   exact Lz.int hw
  ·have hj : ¬ x.join = c.node := hj
   have hC : madeL x c.kind c.node = ⟨x.chain, x.epoch + 1, withoutL x.nodes c.node, x.fresh && decide (lastL x ≠ c.node), x.join⟩ := by unfold madeL; rw [if_pos k1, if_neg hj]
   rw [hC]
   ((conv=>whnf)<;>repeat(with_reducible refine D1 ?_)<;>conv=>whnf)
   refine lastI h5 ?_
   ((conv=>whnf)<;>repeat(with_reducible refine D1 ?_)<;>conv=>whnf)
   (first|refine ⟨?_,?_⟩|refine nsplit ?_ ?_|refine bsplit ?_ ?_)<;>intro hla<;>have hz_:=True.intro<;>clear hz_
   ·have hla : lastL x = c.node := hla
    ((conv=>whnf)<;>repeat(with_reducible refine D1 ?_)<;>conv=>whnf)
    refine ⟨[], [], _, _, _, _, without_ok x.nodes c.node (by omega), t3, ?_⟩
    rintro r o' c' ⟨rfl, rfl, rfl⟩
    ((conv=>whnf)<;>repeat(with_reducible refine D1 ?_)<;>conv=>whnf)
    refine ⟨[5], [], ?_⟩
    iterate 3 constructor
    refine ⟨⟨?_, ?_, ?_⟩, rfl, rfl, rfl⟩
    all_goals (repeat' first|with_reducible exact Lz.rfl|exact Lw.rfl|exact Lz.wrap (by omega)|(unfold goInt;with_reducible exact Lz.rfl)|exact flx _|constructor)
    ·exact Lz.int hw
    ·exact Lz.of (bool_eq (by simp [hla]))
   ·have hla : ¬ lastL x = c.node := hla
    ((conv=>whnf)<;>repeat(with_reducible refine D1 ?_)<;>conv=>whnf)
    refine ⟨[], [], _, _, _, _, without_ok x.nodes c.node (by omega), t3, ?_⟩
    rintro r o' c' ⟨rfl, rfl, rfl⟩
    ((conv=>whnf)<;>repeat(with_reducible refine D1 ?_)<;>conv=>whnf)
    refine ⟨[5], [], ?_⟩
    iterate 3 constructor
    refine ⟨⟨?_, ?_, ?_⟩, rfl, rfl, rfl⟩
    all_goals (repeat' first|with_reducible exact Lz.rfl|exact Lw.rfl|exact Lz.wrap (by omega)|(unfold goInt;with_reducible exact Lz.rfl)|exact flx _|constructor)
    ·exact Lz.int hw
    ·exact Lz.of (bool_eq (by simp [hla]))
 ·have k1 : ¬ c.kind = 1 := k1
  ((conv=>whnf)<;>repeat(with_reducible refine D1 ?_)<;>conv=>whnf)
  (first|refine ⟨?_,?_⟩|refine nsplit ?_ ?_|refine bsplit ?_ ?_)<;>intro k2<;>have hz_:=True.intro<;>clear hz_
  ·have k2 : c.kind = 2 := k2
   have hC : madeL x c.kind c.node = ⟨x.chain, x.epoch + 1, x.nodes, x.fresh, c.node⟩ := by unfold madeL; rw [if_neg k1, if_pos k2]
   rw [hC]
   ((conv=>whnf)<;>repeat(with_reducible refine D1 ?_)<;>conv=>whnf)
   refine ⟨[3], [], ?_⟩
   iterate 3 constructor
   refine ⟨⟨?_, ?_, ?_⟩, rfl, rfl, rfl⟩
   all_goals (repeat' first|with_reducible exact Lz.rfl|exact Lw.rfl|exact Lz.wrap (by omega)|(unfold goInt;with_reducible exact Lz.rfl)|exact flx _|constructor)
   exact Lz.int hw
  ·have k2 : ¬ c.kind = 2 := k2
   ((conv=>whnf)<;>repeat(with_reducible refine D1 ?_)<;>conv=>whnf)
   (first|refine ⟨?_,?_⟩|refine nsplit ?_ ?_|refine bsplit ?_ ?_)<;>intro k3<;>have hz_:=True.intro<;>clear hz_
   ·have k3 : c.kind = 3 := k3
    have hC : madeL x c.kind c.node = ⟨x.chain, x.epoch + 1, x.nodes ++ [c.node], true, 0⟩ := by unfold madeL; rw [if_neg k1, if_neg k2, if_pos k3]
    rw [hC]
    ((conv=>whnf)<;>repeat(with_reducible refine D1 ?_)<;>conv=>whnf)
    refine ⟨by simp; omega, ?_⟩
    ((conv=>whnf)<;>repeat(with_reducible refine D1 ?_)<;>conv=>whnf)
    refine ⟨[6], [], ?_⟩
    iterate 3 constructor
    refine ⟨⟨?_, ?_, ?_⟩, rfl, rfl, rfl⟩
    all_goals (repeat' first|with_reducible exact Lz.rfl|exact Lw.rfl|exact Lz.wrap (by omega)|(unfold goInt;with_reducible exact Lz.rfl)|exact flx _|constructor)
    ·exact Lz.int hw
    ·exact Lz.of (by simp)
   ·have k3 : ¬ c.kind = 3 := k3
    have hC : madeL x c.kind c.node = ⟨x.chain, x.epoch + 1, x.nodes, false, x.join⟩ := by unfold madeL; rw [if_neg k1, if_neg k2, if_neg k3]
    rw [hC]
    ((conv=>whnf)<;>repeat(with_reducible refine D1 ?_)<;>conv=>whnf)
    refine ⟨[3], [], ?_⟩
    iterate 3 constructor
    refine ⟨⟨?_, ?_, ?_⟩, rfl, rfl, rfl⟩
    all_goals (repeat' first|with_reducible exact Lz.rfl|exact Lw.rfl|exact Lz.wrap (by omega)|(unfold goInt;with_reducible exact Lz.rfl)|exact flx _|constructor)
    exact Lz.int hw
noncomputable def doL (l : List CF) (c : Cmd) : List CF × Bool :=
 if canL l c ≠ 0 then (l, false) else if c.kind = 0 then (l, true) else
 match l[c.chain.toNat]? with
 | none => (l, true)
 | some x => (l.set c.chain.toNat (madeL x c.kind c.node), true)
theorem can_in {l : List CF} {c : Cmd} (h : canL l c = 0) (hk : c.kind ≠ 0) : allP l ∧ c.check = 0 ∧ ∃ hlt : c.chain.toNat < l.length, l[c.chain.toNat].epoch < 18446744073709551615 ∨ 18446744073709551615 < l[c.chain.toNat].epoch := by
 unfold canL at h
 by_cases ha : allP l
 ·rw [if_neg (fun q => q ha)] at h
  by_cases hc : c.check ≠ 0
  ·rw [if_pos hc] at h; exact absurd h hc
  ·rw [if_neg hc, if_neg hk] at h
   have hc0 : c.check = 0 := Classical.not_not.1 hc
   refine ⟨ha, hc0, ?_⟩
   cases hq : l[c.chain.toNat]? with
   | none => rw [hq] at h; exact absurd (show (7 : Int) = 0 from h) (by decide)
   | some x =>
    rw [hq] at h
    obtain ⟨hlt, hx⟩ := List.getElem?_eq_some_iff.1 hq
    refine ⟨hlt, ?_⟩
    dsimp only at h
    by_cases he : x.epoch ≠ c.epoch
    ·rw [if_pos he] at h; exact absurd h (by decide)
    ·rw [if_neg he, canR_eq (hx ▸ allP_in ha (List.getElem_mem hlt))] at h
     by_cases hz : canK l x c.kind c.node ≠ 0
     ·rw [if_pos hz] at h; exact absurd h hz
     ·rw [if_neg hz] at h
      unfold canF at h
      by_cases hm : x.epoch = 18446744073709551615
      ·rw [if_pos hm] at h; exact absurd h (by decide)
      ·rw [hx]; omega
 ·rw [if_pos ha] at h; exact absurd h (by decide)
theorem refDo_ok (l : List CF) (c : Cmd) (hep : ∀ c ∈ l, 0 ≤ c.epoch ∧ c.epoch ≤ 18446744073709551615) (hc : 0 ≤ c.epoch) (hl : l.length < 10000) : VC E0 22 0 [.sl 5 (l.map encCF) false, cT4 c] [] (RR (.tup [.sl 5 ((doL l c).1.map encCF) false, .s (.bool (doL l c).2)]) 0 []) := by
 refine VC.enterR L0 (show E0.func 22 = some Try.f22 by kernel_rfl) (fun _ _ => rfl) rfl rfl [] ?_
 ((conv=>whnf)<;>repeat(with_reducible refine D1 ?_)<;>conv=>whnf)
 refine ⟨[], [], _, _, _, _, refCan_ok l c (fun x hx => (hep x hx).1) hc hl, t3, ?_⟩
 rintro r o' c' ⟨rfl, rfl, rfl⟩
 ((conv=>whnf)<;>repeat(with_reducible refine D1 ?_)<;>conv=>whnf)
 (first|refine ⟨?_,?_⟩|refine nsplit ?_ ?_|refine bsplit ?_ ?_)<;>intro h<;>have hz_:=True.intro<;>clear hz_
 ·have h : canL l c ≠ 0 := h
  have hC : doL l c = (l, false) := by unfold doL; rw [if_pos h]
  rw [hC]
  ((conv=>whnf)<;>repeat(with_reducible refine D1 ?_)<;>conv=>whnf)
  exact ⟨[], [], _, _, _, t3, rfl, rfl, rfl⟩
 have h : canL l c = 0 := Classical.not_not.1 h
 ((conv=>whnf)<;>repeat(with_reducible refine D1 ?_)<;>conv=>whnf)
 (first|refine ⟨?_,?_⟩|refine nsplit ?_ ?_|refine bsplit ?_ ?_)<;>intro h0<;>have hz_:=True.intro<;>clear hz_
 ·have h0 : c.kind = 0 := h0
  have hC : doL l c = (l, true) := by unfold doL; rw [if_neg (fun q => q h), if_pos h0]
  rw [hC]
  ((conv=>whnf)<;>repeat(with_reducible refine D1 ?_)<;>conv=>whnf)
  exact ⟨[], [], _, _, _, t3, rfl, rfl, rfl⟩
 have h0 : ¬ c.kind = 0 := h0
 obtain ⟨ha, hk, hlt, hm⟩ := can_in h h0
 have hrg := check_rng hk h0
 have hin := hep _ (List.getElem_mem hlt)
 have hC : doL l c = (l.set c.chain.toNat (madeL l[c.chain.toNat] c.kind c.node), true) := by unfold doL; rw [if_neg (fun q => q h), if_neg h0, List.getElem?_eq_getElem hlt]
 rw [hC]
 ((conv=>whnf)<;>repeat(with_reducible refine D1 ?_)<;>conv=>whnf)
 refine ⟨by simp; omega, ?_⟩
 ((conv=>whnf)<;>repeat(with_reducible refine D1 ?_)<;>conv=>whnf)
 refine idxI' hrg.1 hlt ?_
 ((conv=>whnf)<;>repeat(with_reducible refine D1 ?_)<;>conv=>whnf)
 refine ⟨[], [], _, _, _, _, made_ok l[c.chain.toNat] c (allP_in ha (List.getElem_mem hlt)) (by omega), t3, ?_⟩
 rintro r o' c' ⟨rfl, rfl, rfl⟩
 ((conv=>whnf)<;>repeat(with_reducible refine D1 ?_)<;>conv=>whnf)
 refine ⟨⟨hrg.1, by rw [List.length_map]; omega⟩, ?_⟩
 ((conv=>whnf)<;>repeat(with_reducible refine D1 ?_)<;>conv=>whnf)
 refine ⟨encCF l[c.chain.toNat], by rw [List.getElem?_map, List.getElem?_eq_getElem hlt]; rfl, ?_⟩
 ((conv=>whnf)<;>repeat(with_reducible refine D1 ?_)<;>conv=>whnf)
 refine ⟨[1], [], ?_⟩
 iterate 3 constructor
 refine ⟨⟨?_, ?_, ?_⟩, rfl, rfl, rfl⟩
 all_goals (repeat' first|with_reducible exact Lz.rfl|exact Lw.rfl|exact Lz.wrap (by omega)|(unfold goInt;with_reducible exact Lz.rfl)|exact flx _|constructor)
 exact Lz.of (by rw [List.map_set]; rfl)
end Go.M
namespace Go.M
open Go Go.Proofs
set_option maxRecDepth 100000
set_option maxHeartbeats 4000000
@[reducible] def refG (K : List Vote) (l : List CF) : TV := .agg [encVs K, .sl 5 (l.map encCF) false]
def nxtG (K : List Vote) : Nat → Nat → Nat
 | 0, n => n
 | m + 1, n => match K[n]? with
  | some v => if v.slot = (n : Int) then nxtG K m (n + 1) else n
  | none => n
def nextG (K : List Vote) : Nat := nxtG K K.length 0
theorem refNextG_ok (K : List Vote) (l : List CF) (hl : K.length < 1000000) : VC E0 68 0 [refG K l] [] (RR (.s (.int .i64 (nextG K))) 0 []) := by
 refine VC.enterR L0 (show E0.func 68 = some Try.f68 by kernel_rfl) (fun _ _ => rfl) rfl rfl [] ?_
 ((conv=>whnf)<;>repeat(with_reducible refine D1 ?_)<;>conv=>whnf)
 refine ⟨fun k f o c => ∃ j : Nat, j ≤ K.length ∧ k = K.length - j ∧ nxtG K (K.length - j) j = nextG K ∧ c = 1 ∧ f = [(1, .ptr 0 0), (3, .s (.int .i64 j))] ∧ o = [(0, .cells [encVs K, .sl 5 (l.map encCF) false])], ⟨K.length, ?_⟩, ?_⟩
 ·exact ⟨[], [some 0], _, _, _, t3, ⟨0, Nat.zero_le _, rfl, rfl, rfl, rfl, rfl⟩⟩
 ·rintro k f1 o1 c1 ⟨j, hj, rfl, hn, rfl, rfl, rfl⟩
  ((conv=>whnf)<;>repeat(with_reducible refine D1 ?_)<;>conv=>whnf)
  (first|refine ⟨?_,?_⟩|refine nsplit ?_ ?_|refine bsplit ?_ ?_)<;>intro h<;>have hz_:=True.intro<;>clear hz_
  ·have h : j < K.length := lenlt.1 h
   have hg : K[j]? = some K[j] := List.getElem?_eq_getElem h
   have hs : nxtG K (K.length - j) j = if K[j].slot = (j : Int) then nxtG K (K.length - (j + 1)) (j + 1) else j := by
    rw [show K.length - j = (K.length - (j + 1)) + 1 by omega]
    simp only [nxtG, hg]
   rw [hs] at hn
   ((conv=>whnf)<;>repeat(with_reducible refine D1 ?_)<;>conv=>whnf)
   refine idxI h ?_
   ((conv=>whnf)<;>repeat(with_reducible refine D1 ?_)<;>conv=>whnf)
   (first|refine ⟨?_,?_⟩|refine nsplit ?_ ?_|refine bsplit ?_ ?_)<;>intro he<;>have hz_:=True.intro<;>clear hz_
   ·have he : K[j].slot = (j : Int) := he
    rw [if_pos he] at hn
    ((conv=>whnf)<;>repeat(with_reducible refine D1 ?_)<;>conv=>whnf)
    refine ⟨K.length - (j + 1), ?_, by omega⟩
    exact ⟨[], [some 0], _, _, _, t3, ⟨j + 1, h, rfl, hn, rfl, rfl, rfl⟩⟩
   ·have he : ¬ K[j].slot = (j : Int) := he
    rw [if_neg he] at hn
    ((conv=>whnf)<;>repeat(with_reducible refine D1 ?_)<;>conv=>whnf)
    rw [← hn]
    exact ⟨[], [], _, _, _, t3, rfl, rfl, rfl⟩
  ·have hj' : j = K.length := by have := mt lenlt.2 h
                                 omega
   subst hj'
   rw [Nat.sub_self] at hn
   ((conv=>whnf)<;>repeat(with_reducible refine D1 ?_)<;>conv=>whnf)
   rw [← hn]
   exact ⟨[], [], _, _, _, t3, rfl, rfl, rfl⟩
def topG (K : List Vote) : Int := match K.getLast? with
 | none => 0
 | some v => v.slot + 1
theorem refTopG_ok (K : List Vote) (l : List CF) (hl : K.length < 1000000) (hv : ∀ v ∈ K, 0 ≤ v.slot ∧ v.slot < 512) : VC E0 76 0 [refG K l] [] (RR (.s (.int .i64 (topG K))) 0 []) := by
 refine VC.enterR L0 (show E0.func 76 = some Try.f76 by kernel_rfl) (fun _ _ => rfl) rfl rfl [] ?_
 ((conv=>whnf)<;>repeat(with_reducible refine D1 ?_)<;>conv=>whnf)
 (first|refine ⟨?_,?_⟩|refine nsplit ?_ ?_|refine bsplit ?_ ?_)<;>intro h<;>have hz_:=True.intro<;>clear hz_
 ·have h : (((K.map encV).length : Nat) : Int) = 0 := h
  have h : K = [] := by simpa using h
  subst h
  ((conv=>whnf)<;>repeat(with_reducible refine D1 ?_)<;>conv=>whnf)
  exact ⟨[], [], _, _, _, t3, rfl, rfl, rfl⟩
 ·have h : ¬ (((K.map encV).length : Nat) : Int) = 0 := h
  rw [List.length_map] at h
  have hw : IntKind.i64.wrap ((((K.map encV).length : Nat) : Int) - 1) = ((K.length - 1 : Nat) : Int) := by
   rw [List.length_map, IntWalk.i64_in _ (by omega)]; omega
  have hlt : K.length - 1 < K.length := by omega
  have ht : topG K = K[K.length - 1].slot + 1 := by
   unfold topG
   rw [List.getLast?_eq_getElem?, List.getElem?_eq_getElem hlt]
  have hin := hv _ (List.getElem_mem hlt)
  ((conv=>whnf)<;>repeat(with_reducible refine D1 ?_)<;>conv=>whnf)
  rw [hw]
  refine idxI hlt ?_
  ((conv=>whnf)<;>repeat(with_reducible refine D1 ?_)<;>conv=>whnf)
  rw [ht]
  refine ⟨[], [], ?_⟩
  iterate 3 constructor
  refine ⟨⟨?_, ?_, ?_⟩, rfl, rfl, rfl⟩
  all_goals (repeat' first|with_reducible exact Lz.rfl|exact Lw.rfl|exact Lz.wrap (by omega)|(unfold goInt;with_reducible exact Lz.rfl)|exact flx _|constructor)
  exact Lz.int (IntWalk.i64_in _ (by omega))
noncomputable def cameG (K : List Vote) (l : List CF) : Nat → List CF × List CF
 | 0 => ([], l)
 | n + 1 => match K[n]? with
  | none => cameG K l n
  | some v => (if (doL (cameG K l n).2 (cmdOf v)).2 = true ∧ v.kind ≠ 0 then (cameG K l n).1 ++ ((doL (cameG K l n).2 (cmdOf v)).1[v.chain.toNat]?).toList else (cameG K l n).1, (doL (cameG K l n).2 (cmdOf v)).1)
end Go.M
namespace Go.M
open Go Go.Proofs
set_option maxRecDepth 100000
set_option maxHeartbeats 4000000
structure okE (l : List CF) : Prop where
 len : l.length ≤ 6
 ep : ∀ c ∈ l, 0 ≤ c.epoch ∧ c.epoch ≤ 18446744073709551615
 n6 : ∀ c ∈ l, c.nodes.length ≤ 6
theorem doL_len (l : List CF) (c : Cmd) : (doL l c).1.length = l.length := by
 unfold doL
 split
 ·rfl
 ·split
  ·rfl
  ·split
   ·rfl
   ·simp
theorem doL_done {l : List CF} {c : Cmd} (h : (doL l c).2 = true) (hk : c.kind ≠ 0) : canL l c = 0 := by
 unfold doL at h
 by_cases hc : canL l c ≠ 0
 ·rw [if_pos hc] at h; exact absurd (show false = true from h) Bool.false_ne_true
 ·exact Classical.not_not.1 hc
theorem madeL_ok {x : CF} {k n : Int} (h5 : x.nodes.length ≤ 5) (he : 0 ≤ x.epoch ∧ x.epoch < 18446744073709551615) : (0 ≤ (madeL x k n).epoch ∧ (madeL x k n).epoch ≤ 18446744073709551615) ∧ (madeL x k n).nodes.length ≤ 6 := by
 have hw := withoutL_len x.nodes n
 unfold madeL
 repeat' split
 all_goals (dsimp only; first | exact ⟨⟨by omega, by omega⟩, by omega⟩ | exact ⟨⟨by omega, by omega⟩, by simp; omega⟩)
theorem okE.do {l : List CF} (h : okE l) (c : Cmd) : okE (doL l c).1 := by
 by_cases hc : canL l c = 0
 ·by_cases hk : c.kind = 0
  ·have : doL l c = (l, true) := by unfold doL; rw [if_neg (fun q => q hc), if_pos hk]
   rw [this]; exact h
  ·obtain ⟨ha, hck, hlt, hm⟩ := can_in hc hk
   have hC : doL l c = (l.set c.chain.toNat (madeL l[c.chain.toNat] c.kind c.node), true) := by unfold doL; rw [if_neg (fun q => q hc), if_neg hk, List.getElem?_eq_getElem hlt]
   have h5 := (allP_in ha (List.getElem_mem hlt)).2.2.1
   have hep := h.ep _ (List.getElem_mem hlt)
   have hmo := madeL_ok (x := l[c.chain.toNat]) (k := c.kind) (n := c.node) h5.2 ⟨hep.1, by omega⟩
   rw [hC]
   refine ⟨by simpa using h.len, fun x hx => ?_, fun x hx => ?_⟩
   ·rcases List.mem_or_eq_of_mem_set hx with q | rfl
    ·exact h.ep x q
    ·exact hmo.1
   ·rcases List.mem_or_eq_of_mem_set hx with q | rfl
    ·exact h.n6 x q
    ·exact hmo.2
 ·have : doL l c = (l, false) := by unfold doL; rw [if_pos hc]
  rw [this]; exact h
theorem okE.came {l : List CF} (h : okE l) (K : List Vote) : ∀ n, okE (cameG K l n).2
 | 0 => h
 | n + 1 => by
  have ih := h.came K n
  unfold cameG
  cases K[n]? with
  | none => exact ih
  | some v => exact ih.do _
theorem cameG_len (K : List Vote) (l : List CF) : ∀ n, (cameG K l n).1.length ≤ n
 | 0 => by simp [cameG]
 | n + 1 => by
  have ih := cameG_len K l n
  unfold cameG
  cases K[n]? with
  | none => dsimp only; omega
  | some v =>
   dsimp only
   split
   ·rw [List.length_append]
    have : ((doL (cameG K l n).2 (cmdOf v)).1[v.chain.toNat]?).toList.length ≤ 1 := by
     cases (doL (cameG K l n).2 (cmdOf v)).1[v.chain.toNat]? <;> simp
    omega
   ·omega
theorem refCame_ok (K : List Vote) (l : List CF) (n : Nat) (hn : n ≤ K.length) (hl : K.length < 100000) (hK : ∀ v ∈ K, 0 ≤ v.epoch) (ho : okE l) : VC E0 67 0 [refG K l, .s (.int .i64 n)] []
 (RR (.tup [.sl 5 ((cameG K l n).1.map encCF) false, .sl 5 ((cameG K l n).2.map encCF) false]) 0 []) := by
 refine VC.enterR L0 (show E0.func 67 = some Try.f67 by kernel_rfl) (fun _ _ => rfl) rfl rfl [] ?_
 ((conv=>whnf)<;>repeat(with_reducible refine D1 ?_)<;>conv=>whnf)
 refine ⟨fun k f o c => ∃ j : Nat, j ≤ n ∧ k = n - j ∧ c = 2 ∧ f = [(1, .s (.int .i64 n)), (2, .ptr 0 0), (6, .tk 1), (7, .sl 5 ((cameG K l j).2.map encCF) false), (8, .s (.int .i64 j))] ∧ o = [(0, .cells [encVs K, .sl 5 (l.map encCF) false]), (1, .arr 5 true ((cameG K l j).1.map encCF))], ⟨n, ?_⟩, ?_⟩
 ·exact ⟨[], [some 0, none], _, _, _, t3, ⟨0, Nat.zero_le _, rfl, rfl, rfl, rfl⟩⟩
 ·rintro k f1 o1 c1 ⟨j, hj, rfl, rfl, rfl, rfl⟩
  ((conv=>whnf)<;>repeat(with_reducible refine D1 ?_)<;>conv=>whnf)
  (first|refine ⟨?_,?_⟩|refine nsplit ?_ ?_|refine bsplit ?_ ?_)<;>intro h<;>have hz_:=True.intro<;>clear hz_
  ·have h : j < n := by have : (j : Int) < (n : Int) := h
                        omega
   have hjK : j < K.length := by omega
   have hok := ho.came K j
   have hlc := cameG_len K l j
   have hs : cameG K l (j + 1) = (if (doL (cameG K l j).2 (cmdOf K[j])).2 = true ∧ K[j].kind ≠ 0 then (cameG K l j).1 ++ ((doL (cameG K l j).2 (cmdOf K[j])).1[K[j].chain.toNat]?).toList else (cameG K l j).1, (doL (cameG K l j).2 (cmdOf K[j])).1) := by
    rw [cameG, List.getElem?_eq_getElem hjK]
   ((conv=>whnf)<;>repeat(with_reducible refine D1 ?_)<;>conv=>whnf)
   refine idxI hjK ?_
   ((conv=>whnf)<;>repeat(with_reducible refine D1 ?_)<;>conv=>whnf)
   refine ⟨[], [], _, _, _, _, refDo_ok (cameG K l j).2 (cmdOf K[j]) hok.ep (hK _ (List.getElem_mem hjK)) (by have := hok.len; omega), t3, ?_⟩
   rintro r o' c' ⟨rfl, rfl, rfl⟩
   cases hd : (doL (cameG K l j).2 (cmdOf K[j])).2
   ·((conv=>whnf)<;>repeat(with_reducible refine D1 ?_)<;>conv=>whnf)
    rw [if_neg (by rw [hd]; simp)] at hs
    refine ⟨n - (j + 1), ?_, by omega⟩
    refine ⟨[], [some 0, some 1], ?_⟩
    iterate 3 constructor
    refine ⟨⟨?_, ?_, ?_⟩, ⟨j + 1, h, rfl, rfl, rfl, rfl⟩⟩
    all_goals (repeat' first|with_reducible exact Lz.rfl|exact Lw.rfl|exact Lz.wrap (by omega)|(unfold goInt;with_reducible exact Lz.rfl)|exact flx _|constructor)
    all_goals exact Lz.of (by rw [hs])
   ·((conv=>whnf)<;>repeat(with_reducible refine D1 ?_)<;>conv=>whnf)
    (first|refine ⟨?_,?_⟩|refine nsplit ?_ ?_|refine bsplit ?_ ?_)<;>intro hk<;>have hz_:=True.intro<;>clear hz_
    ·have hk : K[j].kind ≠ 0 := hk
     rw [if_pos ⟨hd, hk⟩] at hs
     ((conv=>whnf)<;>repeat(with_reducible refine D1 ?_)<;>conv=>whnf)
     have hcz := doL_done hd hk
     obtain ⟨ha, hck, hlt, hm⟩ := can_in hcz hk
     have hrg := check_rng hck hk
     have hlt2 : K[j].chain.toNat < (doL (cameG K l j).2 (cmdOf K[j])).1.length := by rw [doL_len]; exact hlt
     refine idxI' hrg.1 hlt2 ?_
     ((conv=>whnf)<;>repeat(with_reducible refine D1 ?_)<;>conv=>whnf)
     refine ⟨by simp; omega, ?_⟩
     ((conv=>whnf)<;>repeat(with_reducible refine D1 ?_)<;>conv=>whnf)
     refine ⟨n - (j + 1), ?_, by omega⟩
     refine ⟨[], [some 0, some 4], ?_⟩
     iterate 3 constructor
     refine ⟨⟨?_, ?_, ?_⟩, ⟨j + 1, h, rfl, rfl, rfl, rfl⟩⟩
     all_goals (repeat' first|with_reducible exact Lz.rfl|exact Lw.rfl|exact Lz.wrap (by omega)|(unfold goInt;with_reducible exact Lz.rfl)|exact flx _|constructor)
     ·exact Lz.of (by rw [hs])
     ·refine Lz.of ?_
      rw [hs]
      show _ = ((cameG K l j).1 ++ ((doL (cameG K l j).2 (cmdOf K[j])).1[K[j].chain.toNat]?).toList).map encCF
      rw [List.getElem?_eq_getElem hlt2, List.map_append]
      rfl
    ·have hk : ¬ K[j].kind ≠ 0 := hk
     rw [if_neg (fun q => hk q.2)] at hs
     ((conv=>whnf)<;>repeat(with_reducible refine D1 ?_)<;>conv=>whnf)
     refine ⟨n - (j + 1), ?_, by omega⟩
     refine ⟨[], [some 0, some 1], ?_⟩
     iterate 3 constructor
     refine ⟨⟨?_, ?_, ?_⟩, ⟨j + 1, h, rfl, rfl, rfl, rfl⟩⟩
     all_goals (repeat' first|with_reducible exact Lz.rfl|exact Lw.rfl|exact Lz.wrap (by omega)|(unfold goInt;with_reducible exact Lz.rfl)|exact flx _|constructor)
     all_goals exact Lz.of (by rw [hs])
  ·have hj' : j = n := by have : ¬ (j : Int) < (n : Int) := h
                          omega
   subst hj'
   ((conv=>whnf)<;>repeat(with_reducible refine D1 ?_)<;>conv=>whnf)
   exact ⟨[1], [], _, _, _, t3, rfl, rfl, rfl⟩
end Go.M
namespace Go.M
open Go Go.Proofs
set_option maxRecDepth 100000
set_option maxHeartbeats 4000000
def nf : Nat → List Vote → Nat
 | n, [] => n
 | n, x :: l => if x.slot = (n : Int) then nf (n + 1) l else n
theorem nf_ge : ∀ (l : List Vote) (n : Nat), n ≤ nf n l
 | [], n => Nat.le_refl n
 | x :: l, n => by
  unfold nf
  split
  ·exact Nat.le_trans (Nat.le_succ n) (nf_ge l (n + 1))
  ·exact Nat.le_refl n
theorem nf_le : ∀ (l : List Vote) (n : Nat), nf n l ≤ n + l.length
 | [], n => Nat.le_refl n
 | x :: l, n => by
  have := nf_le l (n + 1)
  unfold nf
  rw [List.length_cons]
  split <;> omega
theorem nxtG_nf (K : List Vote) : ∀ (m n : Nat), m + n = K.length → nxtG K m n = nf n (K.drop n)
 | 0, n, h => by
  rw [List.drop_eq_nil_of_le (by omega)]; rfl
 | m + 1, n, h => by
  have hlt : n < K.length := by omega
  have ih := nxtG_nf K m (n + 1) (by omega)
  rw [List.drop_eq_getElem_cons hlt]
  unfold nxtG nf
  rw [List.getElem?_eq_getElem hlt]
  dsimp only
  split
  ·exact ih
  ·rfl
theorem nextG_nf (K : List Vote) : nextG K = nf 0 K := nxtG_nf K K.length 0 (by omega)
theorem nextG_le (K : List Vote) : nextG K ≤ K.length := by rw [nextG_nf]; have := nf_le K 0; omega
theorem nf_put (v : Vote) : ∀ (l : List Vote) (n : Nat), SS l → (∀ x ∈ l, (n : Int) ≤ x.slot) → (n : Int) ≤ v.slot → (∀ x ∈ l, x.slot = v.slot → cmdOf x = cmdOf v) →
 nf n l ≤ nf n (put l v) ∧ ∀ i, n + i < nf n l → (l[i]?).map cmdOf = ((put l v)[i]?).map cmdOf
 | [], n, _, _, _, _ => ⟨nf_ge _ n, fun i h => by simp only [nf] at h; omega⟩
 | x :: l, n, hS, hge, hv, hc => by
  obtain ⟨hS1, hS2⟩ := List.pairwise_cons.1 hS
  by_cases hx : x.slot = (n : Int)
  ·by_cases h1 : x.slot < v.slot
   ·have ih := nf_put v l (n + 1) hS2 (fun y hy => by have := hS1 y hy; omega) (by omega) (fun y hy => hc y (List.mem_cons_of_mem _ hy))
    have e1 : nf n (x :: l) = nf (n + 1) l := by rw [nf, if_pos hx]
    have e2 : put (x :: l) v = x :: put l v := by rw [put, if_pos h1]
    have e3 : nf n (x :: put l v) = nf (n + 1) (put l v) := by rw [nf, if_pos hx]
    rw [e1, e2, e3]
    refine ⟨ih.1, fun i hi => ?_⟩
    cases i with
    | zero => rfl
    | succ i => simpa using ih.2 i (by omega)
   ·have h2 : x.slot = v.slot := by omega
    have e2 : put (x :: l) v = v :: l := by rw [put, if_neg h1, if_pos h2]
    have e1 : nf n (x :: l) = nf (n + 1) l := by rw [nf, if_pos hx]
    have e3 : nf n (v :: l) = nf (n + 1) l := by rw [nf, if_pos (h2 ▸ hx)]
    rw [e1, e2, e3]
    refine ⟨Nat.le_refl _, fun i hi => ?_⟩
    cases i with
    | zero => simp [hc x List.mem_cons_self h2]
    | succ i => rfl
  ·have e1 : nf n (x :: l) = n := by rw [nf, if_neg hx]
   rw [e1]
   exact ⟨nf_ge _ n, fun i hi => by omega⟩
theorem cameG_same {K K' : List Vote} {l : List CF} : ∀ {n : Nat}, (∀ i < n, (K[i]?).map cmdOf = (K'[i]?).map cmdOf) → cameG K l n = cameG K' l n
 | 0, _ => rfl
 | n + 1, h => by
  have ih := cameG_same (l := l) (n := n) fun i hi => h i (by omega)
  have hn := h n (Nat.lt_succ_self n)
  unfold cameG
  rw [ih]
  cases h1 : K[n]? with
  | none =>
   cases h2 : K'[n]? with
   | none => rfl
   | some w => rw [h1, h2] at hn; cases hn
  | some v =>
   cases h2 : K'[n]? with
   | none => rw [h1, h2] at hn; cases hn
   | some w =>
    rw [h1, h2] at hn
    have e : cmdOf v = cmdOf w := by simpa using hn
    have ek : v.kind = w.kind := congrArg Cmd.kind e
    have ec : v.chain = w.chain := congrArg Cmd.chain e
    dsimp only
    rw [e, ek, ec]
theorem cameG_mono (K : List Vote) (l : List CF) (n : Nat) : ∀ m, (cameG K l n).1 <+: (cameG K l (n + m)).1
 | 0 => List.prefix_rfl
 | m + 1 => by
  have ih := cameG_mono K l n m
  show _ <+: (cameG K l ((n + m) + 1)).1
  rw [cameG]
  cases K[n + m]? with
  | none => exact ih
  | some v =>
   dsimp only
   split
   ·exact ih.trans (List.prefix_append _ _)
   ·exact ih
end Go.M
namespace Go.M
open Go Go.Proofs
set_option maxRecDepth 100000
set_option maxHeartbeats 4000000
structure okK (K : List Vote) : Prop where
 ss : SS K
 rng : ∀ v ∈ K, 0 ≤ v.slot ∧ v.slot < 512
 len : K.length < 900
 ep : ∀ v ∈ K, 0 ≤ v.epoch
noncomputable def cameN (K : List Vote) (l : List CF) : List CF := (cameG K l (nextG K)).1
def other (K : List Vote) (slot : Int) (c : Cmd) : Bool := match atS K slot with
 | none => false
 | some v => !(sameC (cmdOf v) c)
noncomputable def learnG (K : List Vote) (l : List CF) (slot : Int) (c : Cmd) : List Vote × List CF × Int :=
 if slot < 0 ∨ slot > 511 then (K, [], 1) else if c.check ≠ 0 then (K, [], c.check) else if other K slot c = true then (K, [], 8)
 else (put K (.of slot 0 c), (cameN (put K (.of slot 0 c)) l).drop (cameN K l).length, 0)
theorem learn_pre {K : List Vote} (h : okK K) {l : List CF} {slot : Int} {c : Cmd} (hs : 0 ≤ slot) (ho : other K slot c = false) : cameN K l <+: cameN (put K (.of slot 0 c)) l := by
 have hp := nf_put (.of slot 0 c) K 0 h.ss (fun v hv => (h.rng v hv).1) hs (fun v hv e => by
  have hat : atS K slot = some v := (atS_some h.ss).2 ⟨hv, e⟩
  unfold other at ho
  rw [hat] at ho
  have : sameC (cmdOf v) c = true := by simpa using ho
  exact sameC_iff.1 this)
 rw [← nextG_nf, ← nextG_nf] at hp
 unfold cameN
 rw [cameG_same (K' := put K (.of slot 0 c)) (fun i hi => hp.2 i (by omega))]
 obtain ⟨m, hm⟩ := Nat.exists_eq_add_of_le hp.1
 rw [hm]
 exact cameG_mono _ _ _ _
theorem put_lenG (v : Vote) : ∀ l : List Vote, (put l v).length ≤ l.length + 1
 | [] => by simp [put]
 | x :: l => by
  have := put_lenG v l
  unfold put
  split
  ·simp only [List.length_cons]; omega
  ·split <;> simp
theorem refLearn_ok (K : List Vote) (l : List CF) (slot : Int) (c : Cmd) (h : okK K) (ho : okE l) (hc : 0 ≤ c.epoch) : VC E0 16 0 [refG K l, .s (.int .i64 slot), cT4 c] []
 (RR (.tup [refG (learnG K l slot c).1 l, .sl 5 ((learnG K l slot c).2.1.map encCF) false, .s (.int .i64 (learnG K l slot c).2.2)]) 0 []) := by
 have hlen := h.len
 refine VC.enterR L0 (show E0.func 16 = some Try.f16 by kernel_rfl) (fun _ _ => rfl) rfl rfl [] ?_
 ((conv=>whnf)<;>repeat(with_reducible refine D1 ?_)<;>conv=>whnf)
 (first|refine ⟨?_,?_⟩|refine nsplit ?_ ?_|refine bsplit ?_ ?_)<;>intro h1<;>have hz_:=True.intro<;>clear hz_
 ·have h1 : slot < 0 := h1
  have hL : learnG K l slot c = (K, [], 1) := by unfold learnG; rw [if_pos (.inl h1)]
  rw [hL]
  ((conv=>whnf)<;>repeat(with_reducible refine D1 ?_)<;>conv=>whnf)
  exact ⟨[], [], _, _, _, t3, rfl, rfl, rfl⟩
 have h1 : ¬ slot < 0 := h1
 ((conv=>whnf)<;>repeat(with_reducible refine D1 ?_)<;>conv=>whnf)
 (first|refine ⟨?_,?_⟩|refine nsplit ?_ ?_|refine bsplit ?_ ?_)<;>intro h2<;>have hz_:=True.intro<;>clear hz_
 ·have h2 : slot > 511 := h2
  have hL : learnG K l slot c = (K, [], 1) := by unfold learnG; rw [if_pos (.inr h2)]
  rw [hL]
  ((conv=>whnf)<;>repeat(with_reducible refine D1 ?_)<;>conv=>whnf)
  exact ⟨[], [], _, _, _, t3, rfl, rfl, rfl⟩
 have h2 : ¬ slot > 511 := h2
 ((conv=>whnf)<;>repeat(with_reducible refine D1 ?_)<;>conv=>whnf)
 refine ⟨[], [], _, _, _, _, refCheck_ok c.kind c.chain c.epoch c.node hc, t3, ?_⟩
 rintro r o' c' ⟨rfl, rfl, rfl⟩
 ((conv=>whnf)<;>repeat(with_reducible refine D1 ?_)<;>conv=>whnf)
 (first|refine ⟨?_,?_⟩|refine nsplit ?_ ?_|refine bsplit ?_ ?_)<;>intro h3<;>have hz_:=True.intro<;>clear hz_
 ·have h3 : c.check ≠ 0 := h3
  have hL : learnG K l slot c = (K, [], c.check) := by unfold learnG; rw [if_neg (by omega), if_pos h3]
  rw [hL]
  ((conv=>whnf)<;>repeat(with_reducible refine D1 ?_)<;>conv=>whnf)
  exact ⟨[], [], _, _, _, t3, rfl, rfl, rfl⟩
 have h3 : ¬ c.check ≠ 0 := h3
 ((conv=>whnf)<;>repeat(with_reducible refine D1 ?_)<;>conv=>whnf)
 refine ⟨[], [], _, _, _, _, refAt_ok K slot (by omega), t3, ?_⟩
 rintro r o' c' ⟨rfl, rfl, rfl⟩
 have hmain : other K slot c = false → learnG K l slot c = (put K (.of slot 0 c), (cameN (put K (.of slot 0 c)) l).drop (cameN K l).length, 0) := fun q => by unfold learnG; rw [if_neg (by omega), if_neg h3, if_neg (by rw [q]; simp)]
 have hpl := put_lenG (.of slot 0 c) K
 have hep : ∀ v ∈ put K (.of slot 0 c), 0 ≤ v.epoch := fun v hv => by
  rcases (put_mem h.ss).1 hv with rfl | ⟨_, q⟩
  ·exact hc
  ·exact h.ep v q
 cases hat : atS K slot with
 | none =>
  have hoth : other K slot c = false := by unfold other; rw [hat]
  rw [hmain hoth]
  ((conv=>whnf)<;>repeat(with_reducible refine D1 ?_)<;>conv=>whnf)
  refine ⟨[], [], _, _, _, _, refNextG_ok K l (by omega), t3, ?_⟩
  rintro r o' c' ⟨rfl, rfl, rfl⟩
  ((conv=>whnf)<;>repeat(with_reducible refine D1 ?_)<;>conv=>whnf)
  refine ⟨[], [], _, _, _, _, refCame_ok K l (nextG K) (nextG_le K) (by omega) h.ep ho, t3, ?_⟩
  rintro r o' c' ⟨rfl, rfl, rfl⟩
  ((conv=>whnf)<;>repeat(with_reducible refine D1 ?_)<;>conv=>whnf)
  refine ⟨[], [], _, _, _, _, refPut_ok K (.of slot 0 c) (by omega), t3, ?_⟩
  rintro r o' c' ⟨rfl, rfl, rfl⟩
  ((conv=>whnf)<;>repeat(with_reducible refine D1 ?_)<;>conv=>whnf)
  refine ⟨[], [], _, _, _, _, refNextG_ok (put K (.of slot 0 c)) l (by omega), t3, ?_⟩
  rintro r o' c' ⟨rfl, rfl, rfl⟩
  ((conv=>whnf)<;>repeat(with_reducible refine D1 ?_)<;>conv=>whnf)
  refine ⟨[], [], _, _, _, _, refCame_ok (put K (.of slot 0 c)) l (nextG (put K (.of slot 0 c))) (nextG_le _) (by omega) hep ho, t3, ?_⟩
  rintro r o' c' ⟨rfl, rfl, rfl⟩
  ((conv=>whnf)<;>repeat(with_reducible refine D1 ?_)<;>conv=>whnf)
  refine ⟨by simp only [List.length_map]; have := (learn_pre (l := l) h (by omega : 0 ≤ slot) hoth).length_le; unfold cameN at this; omega, ?_⟩
  ((conv=>whnf)<;>repeat(with_reducible refine D1 ?_)<;>conv=>whnf)
  refine ⟨[], [], ?_⟩
  iterate 3 constructor
  refine ⟨⟨?_, ?_, ?_⟩, rfl, rfl, rfl⟩
  all_goals (repeat' first|with_reducible exact Lz.rfl|exact Lw.rfl|exact Lz.wrap (by omega)|(unfold goInt;with_reducible exact Lz.rfl)|exact flx _|constructor)
  exact Lz.of (by rw [Int.toNat_natCast, Int.toNat_natCast, List.take_length, List.length_map, ← List.map_drop]; rfl)
 | some v =>
  ((conv=>whnf)<;>repeat(with_reducible refine D1 ?_)<;>conv=>whnf)
  (first|refine ⟨?_,?_⟩|refine nsplit ?_ ?_|refine bsplit ?_ ?_)<;>intro hv<;>have hz_:=True.intro<;>clear hz_
  ·have hoth : other K slot c = true := by
    have q := (veq_cmd (cmdOf v) c).symm.trans hv
    unfold other; rw [hat]; simp only [q]; rfl
   have hL : learnG K l slot c = (K, [], 8) := by unfold learnG; rw [if_neg (by omega), if_neg h3, if_pos hoth]
   rw [hL]
   ((conv=>whnf)<;>repeat(with_reducible refine D1 ?_)<;>conv=>whnf)
   exact ⟨[], [], _, _, _, t3, rfl, rfl, rfl⟩
  ·have hoth : other K slot c = false := by
    have q := (veq_cmd (cmdOf v) c).symm.trans (Bool.not_eq_false _ ▸ hv)
    unfold other; rw [hat]; simp only [q]; rfl
   rw [hmain hoth]
   ((conv=>whnf)<;>repeat(with_reducible refine D1 ?_)<;>conv=>whnf)
   refine ⟨[], [], _, _, _, _, refNextG_ok K l (by omega), t3, ?_⟩
   rintro r o' c' ⟨rfl, rfl, rfl⟩
   ((conv=>whnf)<;>repeat(with_reducible refine D1 ?_)<;>conv=>whnf)
   refine ⟨[], [], _, _, _, _, refCame_ok K l (nextG K) (nextG_le K) (by omega) h.ep ho, t3, ?_⟩
   rintro r o' c' ⟨rfl, rfl, rfl⟩
   ((conv=>whnf)<;>repeat(with_reducible refine D1 ?_)<;>conv=>whnf)
   refine ⟨[], [], _, _, _, _, refPut_ok K (.of slot 0 c) (by omega), t3, ?_⟩
   rintro r o' c' ⟨rfl, rfl, rfl⟩
   ((conv=>whnf)<;>repeat(with_reducible refine D1 ?_)<;>conv=>whnf)
   refine ⟨[], [], _, _, _, _, refNextG_ok (put K (.of slot 0 c)) l (by omega), t3, ?_⟩
   rintro r o' c' ⟨rfl, rfl, rfl⟩
   ((conv=>whnf)<;>repeat(with_reducible refine D1 ?_)<;>conv=>whnf)
   refine ⟨[], [], _, _, _, _, refCame_ok (put K (.of slot 0 c)) l (nextG (put K (.of slot 0 c))) (nextG_le _) (by omega) hep ho, t3, ?_⟩
   rintro r o' c' ⟨rfl, rfl, rfl⟩
   ((conv=>whnf)<;>repeat(with_reducible refine D1 ?_)<;>conv=>whnf)
   refine ⟨by simp only [List.length_map]; have := (learn_pre (l := l) h (by omega : 0 ≤ slot) hoth).length_le; unfold cameN at this; omega, ?_⟩
   ((conv=>whnf)<;>repeat(with_reducible refine D1 ?_)<;>conv=>whnf)
   refine ⟨[], [], ?_⟩
   iterate 3 constructor
   refine ⟨⟨?_, ?_, ?_⟩, rfl, rfl, rfl⟩
   all_goals (repeat' first|with_reducible exact Lz.rfl|exact Lw.rfl|exact Lz.wrap (by omega)|(unfold goInt;with_reducible exact Lz.rfl)|exact flx _|constructor)
   exact Lz.of (by rw [Int.toNat_natCast, Int.toNat_natCast, List.take_length, List.length_map, ← List.map_drop]; rfl)
end Go.M
namespace Go.M
open Go Go.Proofs
set_option maxRecDepth 100000
set_option maxHeartbeats 4000000
def gapsN (K : List Vote) (n : Nat) : List Int := (List.range n).filterMap fun (i : Nat) => if (atS K i).isSome = true then none else some (i : Int)
def gapsG (K : List Vote) : List Int := gapsN K (topG K).toNat
theorem gapsN_succ (K : List Vote) (n : Nat) : gapsN K (n + 1) = gapsN K n ++ (if (atS K n).isSome = true then [] else [(n : Int)]) := by
 unfold gapsN
 rw [List.range_succ, List.filterMap_append]
 by_cases h : (atS K (n : Int)).isSome = true <;> simp [h]
theorem gapsN_len (K : List Vote) (n : Nat) : (gapsN K n).length ≤ n := by
 unfold gapsN
 have := List.length_filterMap_le (fun (i : Nat) => if (atS K i).isSome = true then none else some (i : Int)) (List.range n)
 rwa [List.length_range] at this
theorem topG_rng {K : List Vote} (h : okK K) : 0 ≤ topG K ∧ topG K ≤ 512 := by
 unfold topG
 cases hq : K.getLast? with
 | none => simp
 | some v =>
  have := h.rng v (List.mem_of_getLast? hq)
  dsimp only; omega
theorem refGaps_ok (K : List Vote) (l : List CF) (h : okK K) : VC E0 77 0 [refG K l] [] (RR (.sl 1 ((gapsG K).map encI1) false) 0 []) := by
 have hlen := h.len
 obtain ⟨t0, t1⟩ := topG_rng h
 refine VC.enterR L0 (show E0.func 77 = some Try.f77 by kernel_rfl) (fun _ _ => rfl) rfl rfl [] ?_
 ((conv=>whnf)<;>repeat(with_reducible refine D1 ?_)<;>conv=>whnf)
 refine ⟨fun k f o c => ∃ j : Nat, (j : Int) ≤ topG K ∧ k = 512 - j ∧ c = 2 ∧ f = [(1, .ptr 0 0), (3, .tk 1), (4, .s (.int .i64 j))] ∧ o = [(0, .cells [encVs K, .sl 5 (l.map encCF) false]), (1, .arr 1 true ((gapsN K j).map encI1))], ⟨512, ?_⟩, ?_⟩
 ·exact ⟨[], [some 0, none], _, _, _, t3, ⟨0, t0, rfl, rfl, rfl, rfl⟩⟩
 ·rintro k f1 o1 c1 ⟨j, hj, rfl, rfl, rfl, rfl⟩
  ((conv=>whnf)<;>repeat(with_reducible refine D1 ?_)<;>conv=>whnf)
  refine ⟨[], [], _, _, _, _, refTopG_ok K l (by omega) h.rng, t3, ?_⟩
  rintro r o' c' ⟨rfl, rfl, rfl⟩
  ((conv=>whnf)<;>repeat(with_reducible refine D1 ?_)<;>conv=>whnf)
  (first|refine ⟨?_,?_⟩|refine nsplit ?_ ?_|refine bsplit ?_ ?_)<;>intro hlt<;>have hz_:=True.intro<;>clear hz_
  ·have hlt : (j : Int) < topG K := hlt
   have hgl := gapsN_len K j
   have hs := gapsN_succ K j
   ((conv=>whnf)<;>repeat(with_reducible refine D1 ?_)<;>conv=>whnf)
   refine ⟨[], [], _, _, _, _, refAt_ok K (j : Int) (by omega), t3, ?_⟩
   rintro r o' c' ⟨rfl, rfl, rfl⟩
   cases hat : atS K (j : Int) with
   | none =>
    rw [hat] at hs
    ((conv=>whnf)<;>repeat(with_reducible refine D1 ?_)<;>conv=>whnf)
    refine ⟨by simp; omega, ?_⟩
    ((conv=>whnf)<;>repeat(with_reducible refine D1 ?_)<;>conv=>whnf)
    refine ⟨512 - (j + 1), ?_, by omega⟩
    refine ⟨[], [some 0, some 4], ?_⟩
    iterate 3 constructor
    refine ⟨⟨?_, ?_, ?_⟩, ⟨j + 1, by omega, rfl, rfl, rfl, rfl⟩⟩
    all_goals (repeat' first|with_reducible exact Lz.rfl|exact Lw.rfl|exact Lz.wrap (by omega)|(unfold goInt;with_reducible exact Lz.rfl)|exact flx _|constructor)
    exact Lz.of (by rw [hs]; simp)
   | some v =>
    rw [hat] at hs
    ((conv=>whnf)<;>repeat(with_reducible refine D1 ?_)<;>conv=>whnf)
    refine ⟨512 - (j + 1), ?_, by omega⟩
    refine ⟨[], [some 0, some 1], ?_⟩
    iterate 3 constructor
    refine ⟨⟨?_, ?_, ?_⟩, ⟨j + 1, by omega, rfl, rfl, rfl, rfl⟩⟩
    all_goals (repeat' first|with_reducible exact Lz.rfl|exact Lw.rfl|exact Lz.wrap (by omega)|(unfold goInt;with_reducible exact Lz.rfl)|exact flx _|constructor)
    all_goals first | exact Lz.rfl | (refine Lz.of ?_; rw [hs]; simp)
  ·have hlt : ¬ (j : Int) < topG K := hlt
   have hg : gapsG K = gapsN K j := by unfold gapsG; rw [show (topG K).toNat = j by omega]
   rw [hg]
   ((conv=>whnf)<;>repeat(with_reducible refine D1 ?_)<;>conv=>whnf)
   exact ⟨[1], [], _, _, _, t3, rfl, rfl, rfl⟩
theorem refConfs_ok (K : List Vote) (l : List CF) (h : okK K) (ho : okE l) : VC E0 27 0 [refG K l] [] (RR (.sl 5 ((cameG K l (nextG K)).2.map encCF) false) 0 []) := by
 have hlen := h.len
 refine VC.enterR L0 (show E0.func 27 = some Try.f27 by kernel_rfl) (fun _ _ => rfl) rfl rfl [] ?_
 ((conv=>whnf)<;>repeat(with_reducible refine D1 ?_)<;>conv=>whnf)
 refine ⟨[], [], _, _, _, _, refNextG_ok K l (by omega), t3, ?_⟩
 rintro r o' c' ⟨rfl, rfl, rfl⟩
 ((conv=>whnf)<;>repeat(with_reducible refine D1 ?_)<;>conv=>whnf)
 refine ⟨[], [], _, _, _, _, refCame_ok K l (nextG K) (nextG_le K) (by omega) h.ep ho, t3, ?_⟩
 rintro r o' c' ⟨rfl, rfl, rfl⟩
 ((conv=>whnf)<;>repeat(with_reducible refine D1 ?_)<;>conv=>whnf)
 exact ⟨[], [], _, _, _, t3, rfl, rfl, rfl⟩
end Go.M
namespace Go.M
open Go Go.Proofs
set_option maxRecDepth 100000
set_option maxHeartbeats 4000000
def nodesB (base : Nat) (k : Nat) : List Int := (List.range k).map fun (q : Nat) => ((base + q + 1 : Nat) : Int)
def confB (per : Nat) (i : Nat) : CF := ⟨i, 1, nodesB (i * per) per, false, 0⟩
def beginL (per : Nat) (i : Nat) : List CF := (List.range i).map (confB per)
def rightB (chains per : Int) : Prop := (1 ≤ chains ∧ chains ≤ 4) ∧ 1 ≤ per ∧ per ≤ 5
end Go.M
namespace Go.M
open Go Go.Proofs
set_option maxRecDepth 100000
set_option maxHeartbeats 4000000
theorem own_ok (c : CF) (hn : c.nodes.length < 1000000) : VC E0 112 0 [.agg (encCF c)] [] (RR (.agg (encCF c)) 0 []) := by
 refine VC.enterR L0 (show E0.func 112 = some Try.f112 by kernel_rfl) (fun _ _ => rfl) rfl rfl [] ?_
 ((conv=>whnf)<;>repeat(with_reducible refine D1 ?_)<;>conv=>whnf)
 refine ⟨[], [], _, _, _, _, cloneI_ok c.nodes hn, t3, ?_⟩
 rintro r o' c' ⟨rfl, rfl, rfl⟩
 ((conv=>whnf)<;>repeat(with_reducible refine D1 ?_)<;>conv=>whnf)
 exact ⟨[2], [], _, _, _, t3, rfl, rfl, rfl⟩
@[reducible] def zCF : List TV := [.s (.int .i64 0), .s (.int .u64 0), .sl 0 [] true, .s (.bool false), .s (.int .i64 0)]
def copyE (l : List CF) (j : Nat) : List (List TV) := (l.take j).map encCF ++ List.replicate (l.length - j) zCF
theorem copyE_len (l : List CF) (j : Nat) (h : j ≤ l.length) : (copyE l j).length = l.length := by unfold copyE; simp; omega
theorem copyE_set (l : List CF) (j : Nat) (h : j < l.length) : (copyE l j).set j (encCF l[j]) = copyE l (j + 1) := by
 unfold copyE
 have e : l.length - j = (l.length - (j + 1)) + 1 := by omega
 have hlen : ((l.take j).map encCF).length = j := by rw [List.length_map, List.length_take]; omega
 rw [e, List.replicate_succ, List.set_append, if_neg (by omega), hlen, Nat.sub_self, List.take_succ_eq_append_getElem h, List.map_append, List.append_assoc]
 rfl
theorem copyE_get (l : List CF) (j : Nat) (h : j < l.length) : (copyE l j)[j]? = some zCF := by
 unfold copyE
 have e : l.length - j = (l.length - (j + 1)) + 1 := by omega
 have hlen : ((l.take j).map encCF).length = j := by rw [List.length_map, List.length_take]; omega
 rw [e, List.replicate_succ, List.getElem?_append_right (by omega), hlen, Nat.sub_self]
 rfl
theorem copy_ok (l : List CF) (hl : l.length < 10000) (hn : ∀ c ∈ l, c.nodes.length < 1000000) : VC E0 65 0 [.sl 5 (l.map encCF) false] [] (RR (.tk 0) 1 [(0, .arr 5 true (l.map encCF))]) := by
 refine VC.enterR L0 (show E0.func 65 = some Try.f65 by kernel_rfl) (fun _ _ => rfl) rfl rfl [] ?_
 ((conv=>whnf)<;>repeat(with_reducible refine D1 ?_)<;>conv=>whnf)
 refine ⟨⟨by omega, by omega, by simp; omega⟩, ?_⟩
 ((conv=>whnf)<;>repeat(with_reducible refine D1 ?_)<;>conv=>whnf)
 refine ⟨fun k f o c => ∃ j : Nat, j ≤ l.length ∧ k = l.length - j ∧ c = 1 ∧ f = [(3, .tk 0), (9, .sl 5 (l.map encCF) false), (10, .s (.int .i64 l.length)), (11, .s (.int .i64 j))] ∧ o = [(0, .arr 5 true (copyE l j))], ⟨l.length, ?_⟩, ?_⟩
 ·refine ⟨[], [some 0], ?_⟩
  iterate 3 constructor
  refine ⟨⟨?_, ?_, ?_⟩, ⟨0, Nat.zero_le _, rfl, rfl, rfl, rfl⟩⟩
  all_goals (repeat' first|with_reducible exact Lz.rfl|exact Lw.rfl|exact Lz.wrap (by omega)|(unfold goInt;with_reducible exact Lz.rfl)|exact flx _|constructor)
  ·exact Lz.int (by rw [List.length_map])
  ·exact Lz.of (by simp [copyE]; exact .inr rfl)
 ·rintro k f1 o1 c1 ⟨j, hj, rfl, rfl, rfl, rfl⟩
  ((conv=>whnf)<;>repeat(with_reducible refine D1 ?_)<;>conv=>whnf)
  (first|refine ⟨?_,?_⟩|refine nsplit ?_ ?_|refine bsplit ?_ ?_)<;>intro h<;>have hz_:=True.intro<;>clear hz_
  ·have h : j < l.length := by have : (j : Int) < (l.length : Nat) := h
                               omega
   ((conv=>whnf)<;>repeat(with_reducible refine D1 ?_)<;>conv=>whnf)
   refine idxI h ?_
   ((conv=>whnf)<;>repeat(with_reducible refine D1 ?_)<;>conv=>whnf)
   refine ⟨[], [], _, _, _, _, own_ok l[j] (hn _ (List.getElem_mem h)), t3, ?_⟩
   rintro r o' c' ⟨rfl, rfl, rfl⟩
   ((conv=>whnf)<;>repeat(with_reducible refine D1 ?_)<;>conv=>whnf)
   refine ⟨⟨by omega, by rw [copyE_len l j hj]; omega⟩, ?_⟩
   ((conv=>whnf)<;>repeat(with_reducible refine D1 ?_)<;>conv=>whnf)
   refine ⟨zCF, by rw [Int.toNat_natCast]; exact copyE_get l j h, ?_⟩
   ((conv=>whnf)<;>repeat(with_reducible refine D1 ?_)<;>conv=>whnf)
   refine ⟨l.length - (j + 1), ?_, by omega⟩
   refine ⟨[], [some 0], ?_⟩
   iterate 3 constructor
   refine ⟨⟨?_, ?_, ?_⟩, ⟨j + 1, h, rfl, rfl, rfl, rfl⟩⟩
   all_goals (repeat' first|with_reducible exact Lz.rfl|exact Lw.rfl|exact Lz.wrap (by omega)|(unfold goInt;with_reducible exact Lz.rfl)|exact flx _|constructor)
   exact Lz.of (by rw [Int.toNat_natCast]; exact copyE_set l j h)
  ·have hj' : j = l.length := by have : ¬ (j : Int) < (l.length : Nat) := h
                                 omega
   subst hj'
   have hc : copyE l l.length = l.map encCF := by unfold copyE; simp
   rw [hc]
   ((conv=>whnf)<;>repeat(with_reducible refine D1 ?_)<;>conv=>whnf)
   exact ⟨[], [some 0], _, _, _, t3, rfl, rfl, rfl⟩
end Go.M
namespace Go.M
open Go Go.Proofs
set_option maxRecDepth 100000
set_option maxHeartbeats 4000000
structure LogS where
 known : List (Int × Cmd)
 next : Int
 top : Int
 done : Int
 confs : List CF
def encK4 (c : Cmd) : TV := .agg [.s (.int .i64 c.kind), .s (.int .i64 c.chain), .s (.int .u64 c.epoch), .s (.int .i64 c.node)]
@[reducible] def logO (x : LogS) (i : Nat) : TO := .cells [.mp i, .s (.int .i64 x.next), .s (.int .i64 x.top), .s (.int .i64 x.done), .sl 5 (x.confs.map encCF) false]
@[reducible] def knownO (x : LogS) : TO := .map (kIdx .i64) (x.known.map (encA .i64 encK4))
@[reducible] def stG (x : LogS) : Ob := [(0, logO x 1), (1, knownO x)]
@[reducible] def logN (l : List CF) : LogS := ⟨[], 0, 0, 0, l⟩
open Classical in
open Classical in
theorem newG_ok (l : List CF) (h : allP l) : VC E0 15 0 [.sl 5 (l.map encCF) false] [] (RR (.tup [.ptr 0 0, .s (.int .i64 0)]) 2 (stG (logN l))) := by
 have h4 := h.1.2
 refine VC.enterR L0 (show E0.func 15 = some Try.f15 by kernel_rfl) (fun _ _ => rfl) rfl rfl [] ?_
 ((conv=>whnf)<;>repeat(with_reducible refine D1 ?_)<;>conv=>whnf)
 refine ⟨[], [], _, _, _, _, all_okC l, t3, ?_⟩
 rintro r o' c' ⟨rfl, rfl, rfl⟩
 rw [decide_eq_true h]
 ((conv=>whnf)<;>repeat(with_reducible refine D1 ?_)<;>conv=>whnf)
 refine ⟨[], [], _, _, _, _, copy_ok l (by omega) (fun c hc => by have := (allP_in h hc).2.2.1; omega), t3, ?_⟩
 rintro r o' c' ⟨rfl, rfl, rfl⟩
 ((conv=>whnf)<;>repeat(with_reducible refine D1 ?_)<;>conv=>whnf)
 exact ⟨[1], [some 2, some 0], _, _, _, t3, rfl, rfl, rfl⟩
open Classical in
open Classical in
theorem newG_no (l : List CF) (h : ¬ allP l) : VC E0 15 0 [.sl 5 (l.map encCF) false] [] (RR (.tup [.s (.pointer none), .s (.int .i64 1)]) 0 []) := by
 refine VC.enterR L0 (show E0.func 15 = some Try.f15 by kernel_rfl) (fun _ _ => rfl) rfl rfl [] ?_
 ((conv=>whnf)<;>repeat(with_reducible refine D1 ?_)<;>conv=>whnf)
 refine ⟨[], [], _, _, _, _, all_okC l, t3, ?_⟩
 rintro r o' c' ⟨rfl, rfl, rfl⟩
 rw [decide_eq_false h]
 ((conv=>whnf)<;>repeat(with_reducible refine D1 ?_)<;>conv=>whnf)
 exact ⟨[], [], _, _, _, t3, rfl, rfl, rfl⟩
theorem nextC_ok (x : LogS) : VC E0 20 2 [.ptr 0 0] (stG x) (RR (.s (.int .i64 x.next)) 2 (stG x)) := by
 refine VC.enterR L0 (show E0.func 20 = some Try.f20 by kernel_rfl) (fun _ _ => rfl) rfl rfl [] ?_
 ((conv=>whnf)<;>repeat(with_reducible refine D1 ?_)<;>conv=>whnf)
 exact ⟨[], [some 0, some 1], _, _, _, t3, rfl, rfl, rfl⟩
theorem topC_ok (x : LogS) : VC E0 30 2 [.ptr 0 0] (stG x) (RR (.s (.int .i64 x.top)) 2 (stG x)) := by
 refine VC.enterR L0 (show E0.func 30 = some Try.f30 by kernel_rfl) (fun _ _ => rfl) rfl rfl [] ?_
 ((conv=>whnf)<;>repeat(with_reducible refine D1 ?_)<;>conv=>whnf)
 exact ⟨[], [some 0, some 1], _, _, _, t3, rfl, rfl, rfl⟩
theorem doneC_ok (x : LogS) : VC E0 33 2 [.ptr 0 0] (stG x) (RR (.s (.int .i64 x.done)) 2 (stG x)) := by
 refine VC.enterR L0 (show E0.func 33 = some Try.f33 by kernel_rfl) (fun _ _ => rfl) rfl rfl [] ?_
 ((conv=>whnf)<;>repeat(with_reducible refine D1 ?_)<;>conv=>whnf)
 exact ⟨[], [some 0, some 1], _, _, _, t3, rfl, rfl, rfl⟩
theorem canC_ok (x : LogS) (c : Cmd) : VC E0 25 2 [.ptr 0 0, cT4 c] (stG x) (RR (.s (.int .i64 (canL x.confs c))) 2 (stG x)) := by
 refine VC.enterR L0 (show E0.func 25 = some Try.f25 by kernel_rfl) (fun _ _ => rfl) rfl rfl [] ?_
 ((conv=>whnf)<;>repeat(with_reducible refine D1 ?_)<;>conv=>whnf)
 refine ⟨[], [], _, _, _, _, can_ok x.confs c, t3, ?_⟩
 rintro r o' c' ⟨rfl, rfl, rfl⟩
 ((conv=>whnf)<;>repeat(with_reducible refine D1 ?_)<;>conv=>whnf)
 exact ⟨[], [some 0, some 1], _, _, _, t3, rfl, rfl, rfl⟩
theorem confsC_ok (x : LogS) (hl : x.confs.length < 10000) (hn : ∀ c ∈ x.confs, c.nodes.length < 1000000) : VC E0 19 2 [.ptr 0 0] (stG x) (RR (.sl 5 (x.confs.map encCF) false) 2 (stG x)) := by
 refine VC.enterR L0 (show E0.func 19 = some Try.f19 by kernel_rfl) (fun _ _ => rfl) rfl rfl [] ?_
 ((conv=>whnf)<;>repeat(with_reducible refine D1 ?_)<;>conv=>whnf)
 refine ⟨[], [], _, _, _, _, copy_ok x.confs hl hn, t3, ?_⟩
 rintro r o' c' ⟨rfl, rfl, rfl⟩
 ((conv=>whnf)<;>repeat(with_reducible refine D1 ?_)<;>conv=>whnf)
 exact ⟨[2], [some 0, some 1], _, _, _, t3, rfl, rfl, rfl⟩
theorem atC_ok (x : LogS) (slot : Int) : VC E0 28 2 [.ptr 0 0, .s (.int .i64 slot)] (stG x) (RR (.tup [encK4 ((lookA x.known slot).getD noCmd), .s (.bool (lookA x.known slot).isSome)]) 2 (stG x)) := by
 refine VC.enterR L0 (show E0.func 28 = some Try.f28 by kernel_rfl) (fun _ _ => rfl) rfl rfl [] ?_
 ((conv=>whnf)<;>repeat(with_reducible refine D1 ?_)<;>conv=>whnf)
 have hl := lookM_A .i64 .i64 encK4 slot x.known
 cases h : lookA x.known slot with
 | none =>
  rw [h] at hl
  refine ⟨_, hl, ?_⟩
  ((conv=>whnf)<;>repeat(with_reducible refine D1 ?_)<;>conv=>whnf)
  exact ⟨[], [some 0, some 1], _, _, _, t3, rfl, rfl, rfl⟩
 | some c =>
  rw [h] at hl
  refine ⟨_, hl, ?_⟩
  ((conv=>whnf)<;>repeat(with_reducible refine D1 ?_)<;>conv=>whnf)
  exact ⟨[], [some 0, some 1], _, _, _, t3, rfl, rfl, rfl⟩
end Go.M
namespace Go.M
open Go Go.Proofs
set_option maxRecDepth 100000
set_option maxHeartbeats 4000000
def noCF : CF := ⟨0, 0, [], false, 0⟩
def confAt (l : List CF) (n : Int) : Option CF := if n < 0 then none else l[n.toNat]?
theorem confC_ok (x : LogS) (n : Int) (hl : x.confs.length < 10000) (hn : ∀ c ∈ x.confs, c.nodes.length < 1000000) : VC E0 29 2 [.ptr 0 0, .s (.int .i64 n)] (stG x)
 (RR (.tup [.agg (encCF ((confAt x.confs n).getD noCF)), .s (.bool (confAt x.confs n).isSome)]) 2 (stG x)) := by
 refine VC.enterR L0 (show E0.func 29 = some Try.f29 by kernel_rfl) (fun _ _ => rfl) rfl rfl [] ?_
 ((conv=>whnf)<;>repeat(with_reducible refine D1 ?_)<;>conv=>whnf)
 refine ⟨[], [some 0, some 1], _, _, _, _, confsC_ok x hl hn, t3, ?_⟩
 rintro r o' c' ⟨rfl, rfl, rfl⟩
 ((conv=>whnf)<;>repeat(with_reducible refine D1 ?_)<;>conv=>whnf)
 (first|refine ⟨?_,?_⟩|refine nsplit ?_ ?_|refine bsplit ?_ ?_)<;>intro h1<;>have hz_:=True.intro<;>clear hz_
 ·have h1 : n < 0 := h1
  have hc : confAt x.confs n = none := by unfold confAt; rw [if_pos h1]
  rw [hc]
  ((conv=>whnf)<;>repeat(with_reducible refine D1 ?_)<;>conv=>whnf)
  exact ⟨[], [some 0, some 1], _, _, _, t3, rfl, rfl, rfl⟩
 have h1 : ¬ n < 0 := h1
 ((conv=>whnf)<;>repeat(with_reducible refine D1 ?_)<;>conv=>whnf)
 (first|refine ⟨?_,?_⟩|refine nsplit ?_ ?_|refine bsplit ?_ ?_)<;>intro h2<;>have hz_:=True.intro<;>clear hz_
 ·have h2 : n ≥ (((x.confs.map encCF).length : Nat) : Int) := h2
  rw [List.length_map] at h2
  have hc : confAt x.confs n = none := by unfold confAt; rw [if_neg h1]; exact List.getElem?_eq_none (by omega)
  rw [hc]
  ((conv=>whnf)<;>repeat(with_reducible refine D1 ?_)<;>conv=>whnf)
  exact ⟨[], [some 0, some 1], _, _, _, t3, rfl, rfl, rfl⟩
 have h2 : ¬ n ≥ (((x.confs.map encCF).length : Nat) : Int) := h2
 rw [List.length_map] at h2
 have hlt : n.toNat < x.confs.length := by omega
 have hc : confAt x.confs n = some x.confs[n.toNat] := by unfold confAt; rw [if_neg h1]; exact List.getElem?_eq_getElem hlt
 rw [hc]
 ((conv=>whnf)<;>repeat(with_reducible refine D1 ?_)<;>conv=>whnf)
 refine idxI' (by omega) hlt ?_
 ((conv=>whnf)<;>repeat(with_reducible refine D1 ?_)<;>conv=>whnf)
 exact ⟨[], [some 0, some 1], _, _, _, t3, rfl, rfl, rfl⟩
end Go.M
namespace Go.M
open Go Go.Proofs
set_option maxRecDepth 100000
set_option maxHeartbeats 4000000
@[reducible] def ownCF (c : CF) : List TV := [.s (.int .i64 c.chain), .s (.int .u64 c.epoch), .own (.arr 1 true (c.nodes.map encI1)), .s (.bool c.fresh), .s (.int .i64 c.join)]
@[reducible] def namCF (c : CF) (n : Nat) : List TV := [.s (.int .i64 c.chain), .s (.int .u64 c.epoch), .tk n, .s (.bool c.fresh), .s (.int .i64 c.join)]
theorem own_okN (c : CF) (hn : c.nodes.length < 1000000) : VC E0 112 0 [.agg (encCF c)] [] (RR (.agg (namCF c 0)) 1 [(0, .arr 1 true (c.nodes.map encI1))]) := by
 refine VC.enterR L0 (show E0.func 112 = some Try.f112 by kernel_rfl) (fun _ _ => rfl) rfl rfl [] ?_
 ((conv=>whnf)<;>repeat(with_reducible refine D1 ?_)<;>conv=>whnf)
 refine ⟨[], [], _, _, _, _, cloneI_ok c.nodes hn, t3, ?_⟩
 rintro r o' c' ⟨rfl, rfl, rfl⟩
 ((conv=>whnf)<;>repeat(with_reducible refine D1 ?_)<;>conv=>whnf)
 exact ⟨[], [some 2], _, _, _, t3, rfl, rfl, rfl⟩
def pickE (p : Nat → Bool) (i : Nat) (c : CF) : List TV := match p i with
 | true => ownCF c
 | false => encCF c
def mixE (p : Nat → Bool) (l : List CF) : List (List TV) := l.mapIdx (pickE p)
def mixC (p : Nat → Bool) (l : List CF) (j : Nat) : List (List TV) := mixE p (l.take j) ++ List.replicate (l.length - j) zCF
theorem mixE_len (p : Nat → Bool) (l : List CF) : (mixE p l).length = l.length := by simp [mixE]
theorem mixC_len (p : Nat → Bool) (l : List CF) (j : Nat) (h : j ≤ l.length) : (mixC p l j).length = l.length := by unfold mixC; rw [List.length_append, mixE_len]; simp; omega
theorem mixC_set (p : Nat → Bool) (l : List CF) (j : Nat) (h : j < l.length) : (mixC p l j).set j (pickE p j l[j]) = mixC p l (j + 1) := by
 unfold mixC
 have e : l.length - j = (l.length - (j + 1)) + 1 := by omega
 have hlen : (mixE p (l.take j)).length = j := by rw [mixE_len, List.length_take]; omega
 rw [e, List.replicate_succ, List.set_append, if_neg (by omega), hlen, Nat.sub_self, List.take_succ_eq_append_getElem h]
 unfold mixE
 rw [List.mapIdx_concat, List.append_assoc, List.length_take, show min j l.length = j by omega]
 rfl
theorem mixC_get (p : Nat → Bool) (l : List CF) (j : Nat) (h : j < l.length) : (mixC p l j)[j]? = some zCF := by
 unfold mixC
 have e : l.length - j = (l.length - (j + 1)) + 1 := by omega
 have hlen : (mixE p (l.take j)).length = j := by rw [mixE_len, List.length_take]; omega
 rw [e, List.replicate_succ, List.getElem?_append_right (by omega), hlen, Nat.sub_self]
 rfl
theorem mixC_0 (p : Nat → Bool) (l : List CF) : mixC p l 0 = List.replicate l.length zCF := by simp [mixC, mixE]
theorem mixC_all (p : Nat → Bool) (l : List CF) : mixC p l l.length = mixE p l := by simp [mixC]
theorem mixE_get (p : Nat → Bool) (l : List CF) (j : Nat) (h : j < l.length) : (mixE p l)[j]? = some (pickE p j l[j]) := by simp [mixE, h]
theorem copyM_ok (p : Nat → Bool) (l : List CF) (hl : l.length < 10000) (hn : ∀ c ∈ l, c.nodes.length < 1000000) : VC E0 65 0 [.sl 5 (l.map encCF) false] [] (RR (.tk 0) 1 [(0, .arq 5 (mixE p l) [])]) := by
 refine VC.enterR L0 (show E0.func 65 = some Try.f65 by kernel_rfl) (fun _ _ => rfl) rfl rfl [] ?_
 ((conv=>whnf)<;>repeat(with_reducible refine D1 ?_)<;>conv=>whnf)
 refine ⟨⟨by omega, by omega, by simp; omega⟩, ?_⟩
 ((conv=>whnf)<;>repeat(with_reducible refine D1 ?_)<;>conv=>whnf)
 refine ⟨fun k f o c => ∃ j : Nat, j ≤ l.length ∧ k = l.length - j ∧ c = 1 ∧ f = [(3, .tk 0), (9, .sl 5 (l.map encCF) false), (10, .s (.int .i64 l.length)), (11, .s (.int .i64 j))] ∧ o = [(0, .arq 5 (mixC p l j) [])], ⟨l.length, ?_⟩, ?_⟩
 ·refine ⟨[], [some 0], ?_⟩
  iterate 3 constructor
  refine ⟨⟨?_, ?_, ?_⟩, ⟨0, Nat.zero_le _, rfl, rfl, rfl, rfl⟩⟩
  all_goals (repeat' first|with_reducible exact Lz.rfl|exact Lw.rfl|exact Lz.wrap (by omega)|(unfold goInt;with_reducible exact Lz.rfl)|exact flx _|constructor)
  ·exact Lz.int (by rw [List.length_map])
  ·exact Lz.of (by rw [mixC_0]; simp; exact .inr rfl)
 ·rintro k f1 o1 c1 ⟨j, hj, rfl, rfl, rfl, rfl⟩
  ((conv=>whnf)<;>repeat(with_reducible refine D1 ?_)<;>conv=>whnf)
  (first|refine ⟨?_,?_⟩|refine nsplit ?_ ?_|refine bsplit ?_ ?_)<;>intro h<;>have hz_:=True.intro<;>clear hz_
  ·have h : j < l.length := by have : (j : Int) < (l.length : Nat) := h
                               omega
   ((conv=>whnf)<;>repeat(with_reducible refine D1 ?_)<;>conv=>whnf)
   refine idxI h ?_
   ((conv=>whnf)<;>repeat(with_reducible refine D1 ?_)<;>conv=>whnf)
   have hs := mixC_set p l j h
   unfold pickE at hs
   cases hp : p j
   ·rw [hp] at hs
    refine ⟨[], [], _, _, _, _, own_ok l[j] (hn _ (List.getElem_mem h)), t3, ?_⟩
    rintro r o' c' ⟨rfl, rfl, rfl⟩
    ((conv=>whnf)<;>repeat(with_reducible refine D1 ?_)<;>conv=>whnf)
    refine ⟨⟨by omega, by rw [mixC_len p l j hj]; omega⟩, ?_⟩
    ((conv=>whnf)<;>repeat(with_reducible refine D1 ?_)<;>conv=>whnf)
    refine ⟨zCF, by rw [Int.toNat_natCast]; exact mixC_get p l j h, ?_⟩
    ((conv=>whnf)<;>repeat(with_reducible refine D1 ?_)<;>conv=>whnf)
    refine ⟨l.length - (j + 1), ?_, by omega⟩
    refine ⟨[], [some 0], _, _, _, ⟨by (repeat' first|with_reducible exact Lz.rfl|exact Lw.rfl|exact Lz.wrap (by omega)|(unfold goInt;with_reducible exact Lz.rfl)|exact flx _|constructor), .cons (.arq (opc := [(_, encCF l[j])]) .one (Lw.of ?_) (.q1 (by (repeat' first|with_reducible exact Lz.rfl|exact Lw.rfl|exact Lz.wrap (by omega)|(unfold goInt;with_reducible exact Lz.rfl)|exact flx _|constructor)))) .nil, by rfl⟩, ⟨j + 1, h, rfl, rfl, rfl, rfl⟩⟩
    exact (by rw [← hs, Int.toNat_natCast]; rfl)
   ·rw [hp] at hs
    refine ⟨[], [], _, _, _, _, own_okN l[j] (hn _ (List.getElem_mem h)), t3, ?_⟩
    rintro r o' c' ⟨rfl, rfl, rfl⟩
    ((conv=>whnf)<;>repeat(with_reducible refine D1 ?_)<;>conv=>whnf)
    refine ⟨⟨by omega, by rw [mixC_len p l j hj]; omega⟩, ?_⟩
    ((conv=>whnf)<;>repeat(with_reducible refine D1 ?_)<;>conv=>whnf)
    refine ⟨zCF, by rw [Int.toNat_natCast]; exact mixC_get p l j h, ?_⟩
    ((conv=>whnf)<;>repeat(with_reducible refine D1 ?_)<;>conv=>whnf)
    refine ⟨l.length - (j + 1), ?_, by omega⟩
    refine ⟨[], [some 0], _, _, _, ⟨by (repeat' first|with_reducible exact Lz.rfl|exact Lw.rfl|exact Lz.wrap (by omega)|(unfold goInt;with_reducible exact Lz.rfl)|exact flx _|constructor), .cons (.arq (opc := [(_, ownCF l[j])]) .one (Lw.of ?_) (.q1 (by (repeat' first|with_reducible exact Lz.rfl|exact Lw.rfl|exact Lz.wrap (by omega)|(unfold goInt;with_reducible exact Lz.rfl)|exact flx _|constructor)))) .nil, by rfl⟩, ⟨j + 1, h, rfl, rfl, rfl, rfl⟩⟩
    exact (by rw [← hs, Int.toNat_natCast]; rfl)
  ·have hj' : j = l.length := by have : ¬ (j : Int) < (l.length : Nat) := h
                                 omega
   subst hj'
   rw [mixC_all]
   ((conv=>whnf)<;>repeat(with_reducible refine D1 ?_)<;>conv=>whnf)
   exact ⟨[], [some 0], _, _, _, t3, rfl, rfl, rfl⟩
end Go.M
namespace Go.M
open Go Go.Proofs
set_option maxRecDepth 100000
set_option maxHeartbeats 4000000
def isB (n m : Int) : Bool := decide (m = n)
theorem isC (n m : Int) : VC E0 163 1 [.s (.int .i64 m), .ptr 0 0] (stN n) (RR (.s (.bool (isB n m))) 1 (stN n)) := by
 refine VC.enterR L0 (show E0.func 163 = some Try.f163 by kernel_rfl) (fun _ _ => rfl) rfl rfl [] ?_
 ((conv=>whnf)<;>repeat(with_reducible refine D1 ?_)<;>conv=>whnf)
 (first|refine ⟨?_,?_⟩|refine nsplit ?_ ?_|refine bsplit ?_ ?_)<;>intro h<;>have hz_:=True.intro<;>clear hz_
 ·have h : m = n := h
  ((conv=>whnf)<;>repeat(with_reducible refine D1 ?_)<;>conv=>whnf)
  refine ⟨[], [some 0], ?_⟩
  iterate 3 constructor
  refine ⟨⟨?_, ?_, ?_⟩, rfl, rfl, rfl⟩
  all_goals (repeat' first|with_reducible exact Lz.rfl|exact Lw.rfl|exact Lz.wrap (by omega)|(unfold goInt;with_reducible exact Lz.rfl)|exact flx _|constructor)
  exact Lz.of (bool_eq (Eq.symm (decide_eq_true h)))
 ·have h : ¬ m = n := h
  ((conv=>whnf)<;>repeat(with_reducible refine D1 ?_)<;>conv=>whnf)
  refine ⟨[], [some 0], ?_⟩
  iterate 3 constructor
  refine ⟨⟨?_, ?_, ?_⟩, rfl, rfl, rfl⟩
  all_goals (repeat' first|with_reducible exact Lz.rfl|exact Lw.rfl|exact Lz.wrap (by omega)|(unfold goInt;with_reducible exact Lz.rfl)|exact flx _|constructor)
  exact Lz.of (bool_eq (Eq.symm (decide_eq_false h)))
@[reducible] def stR (n : Int) (vs : List Int) : Ob := [(0, .arr 1 true (vs.map encI1)), (1, .cells [.s (.int .i64 n)])]
theorem idxR_ok (n : Int) (vs : List Int) (hl : vs.length < 1000000) : VC E0 178 2 [.tk 0, .clo 163 [] [.ptr 1 0]] (stR n vs)
 (fun r o c => ∃ i : Int, r = .s (.int .i64 i) ∧ c = 2 ∧ o = stR n vs ∧ ((i = -1 ∧ ∀ v ∈ vs, isB n v = false) ∨ ∃ j : Nat, ∃ h : j < vs.length, i = j ∧ (∀ v ∈ vs.take j, isB n v = false) ∧ isB n vs[j] = true)) := by
 refine VC.enterR L0 (show E0.func 178 = some Try.f178 by kernel_rfl) (fun _ _ => rfl) rfl rfl [] ?_
 ((conv=>whnf)<;>repeat(with_reducible refine D1 ?_)<;>conv=>whnf)
 refine ⟨fun k f o c => ∃ j : Nat, j ≤ vs.length ∧ k = vs.length - j ∧ (∀ v ∈ vs.take j, isB n v = false) ∧ c = 2 ∧ f = [(0, .tk 0), (1, .clo 163 [] [.ptr 1 0]), (7, .s (.int .i64 vs.length)), (8, .s (.int .i64 j))] ∧ o = stR n vs, ⟨vs.length, ?_⟩, ?_⟩
 ·refine ⟨[], [some 0, some 1], ?_⟩
  iterate 3 constructor
  refine ⟨⟨?_, ?_, ?_⟩, ⟨0, Nat.zero_le _, rfl, by simp, rfl, rfl, rfl⟩⟩
  all_goals (repeat' first|with_reducible exact Lz.rfl|exact Lw.rfl|exact Lz.wrap (by omega)|(unfold goInt;with_reducible exact Lz.rfl)|exact flx _|constructor)
  all_goals exact Lz.of (by simp [goInt])
 ·rintro k f1 o1 c1 ⟨j, hj, rfl, hb, rfl, rfl, rfl⟩
  ((conv=>whnf)<;>repeat(with_reducible refine D1 ?_)<;>conv=>whnf)
  (first|refine ⟨?_,?_⟩|refine nsplit ?_ ?_|refine bsplit ?_ ?_)<;>intro h<;>have hz_:=True.intro<;>clear hz_
  ·have h : j < vs.length := by simpa using h
   ((conv=>whnf)<;>repeat(with_reducible refine D1 ?_)<;>conv=>whnf)
   refine ⟨⟨by omega, by simp; omega⟩, encI1 vs[j], by simp [h], ?_⟩
   ((conv=>whnf)<;>repeat(with_reducible refine D1 ?_)<;>conv=>whnf)
   refine ⟨[], [some 1], _, _, _, _, isC n vs[j], t3, ?_⟩
   rintro r o' c' ⟨rfl, rfl, rfl⟩
   have hz_ := True.intro
   clear hz_
   cases hv : isB n vs[j]
   ·((conv=>whnf)<;>repeat(with_reducible refine D1 ?_)<;>conv=>whnf)
    refine ⟨vs.length - (j + 1), ?_, by omega⟩
    exact ⟨[], [some 0, some 1], _, _, _, t3, ⟨j + 1, h, rfl, by intro v hv'; rw [List.take_succ_eq_append_getElem h] at hv'; rcases List.mem_append.1 hv' with h1 | h1; exact hb v h1; simp at h1; subst h1; exact hv, rfl, rfl, rfl⟩⟩
   ·((conv=>whnf)<;>repeat(with_reducible refine D1 ?_)<;>conv=>whnf)
    exact ⟨[], [some 0, some 1], _, _, _, t3, (j : Int), rfl, rfl, rfl, .inr ⟨j, h, rfl, hb, hv⟩⟩
  ·have h' : j = vs.length := by have : ¬ j < vs.length := by simpa using h
                                 omega
   subst h'
   rw [List.take_length] at hb
   ((conv=>whnf)<;>repeat(with_reducible refine D1 ?_)<;>conv=>whnf)
   exact ⟨[], [some 0, some 1], _, _, _, t3, -1, rfl, rfl, rfl, .inl ⟨rfl, hb⟩⟩
theorem without_all {n : Int} {vs : List Int} (h : ∀ v ∈ vs, isB n v = false) : withoutL vs n = vs := by
 unfold withoutL
 rw [List.filter_eq_self]
 intro v hv
 have := of_decide_eq_false (h v hv)
 simpa using this
theorem without_bad (n : Int) (vs : List Int) (j : Nat) (h : j < vs.length) (hb : isB n vs[j] = true) : withoutL (vs.take (j + 1)) n = withoutL (vs.take j) n := by
 rw [withoutL_snoc _ _ _ h, if_pos (of_decide_eq_true hb), List.append_nil]
theorem without_good (n : Int) (vs : List Int) (j : Nat) (h : j < vs.length) (hb : isB n vs[j] = false) : withoutL (vs.take (j + 1)) n = withoutL (vs.take j) n ++ [vs[j]] := by
 rw [withoutL_snoc _ _ _ h, if_neg (of_decide_eq_false hb)]
theorem delR_ok (n : Int) (vs : List Int) (hl : vs.length < 1000000) : VC E0 162 2 [.tk 0, .clo 163 [] [.ptr 1 0]] (stR n vs)
 (RR (.sl 1 ((withoutL vs n).map encI1) false) 2 [(1, .cells [.s (.int .i64 n)])]) := by
 refine VC.enterR L0 (show E0.func 162 = some Try.f162 by kernel_rfl) (fun _ _ => rfl) rfl rfl [] ?_
 ((conv=>whnf)<;>repeat(with_reducible refine D1 ?_)<;>conv=>whnf)
 refine ⟨[], [some 0, some 1], _, _, _, _, idxR_ok n vs hl, t3, ?_⟩
 rintro r o' c' ⟨i0, rfl, rfl, rfl, hi0⟩
 ((conv=>whnf)<;>repeat(with_reducible refine D1 ?_)<;>conv=>whnf)
 (first|refine ⟨?_,?_⟩|refine nsplit ?_ ?_|refine bsplit ?_ ?_)<;>intro hm<;>have hz_:=True.intro<;>clear hz_
 ·have hm : i0 = -1 := hm
  rcases hi0 with ⟨_, hall⟩ | ⟨j, h, e, _, _⟩
  ·((conv=>whnf)<;>repeat(with_reducible refine D1 ?_)<;>conv=>whnf)
   refine ⟨[0], [some 0, some 1], ?_⟩
   iterate 3 constructor
   refine ⟨⟨?_, ?_, ?_⟩, rfl, rfl, rfl⟩
   all_goals (repeat' first|with_reducible exact Lz.rfl|exact Lw.rfl|exact Lz.wrap (by omega)|(unfold goInt;with_reducible exact Lz.rfl)|exact flx _|constructor)
   rw [without_all hall]; exact Lz.rfl
  ·omega
 ·have hm : ¬ i0 = -1 := hm
  rcases hi0 with ⟨e, _⟩ | ⟨j0, h0, rfl, hb0, hv0⟩
  ·exact absurd e hm
  ((conv=>whnf)<;>repeat(with_reducible refine D1 ?_)<;>conv=>whnf)
  refine ⟨fun k f o c => ∃ (i j : Nat) (ws : List Int), i < j ∧ j ≤ vs.length ∧ k = vs.length - j ∧ ws.length = vs.length ∧ ws.take i = withoutL (vs.take j) n ∧ ws.drop j = vs.drop j ∧ c = 2 ∧ f = [(0, .tk 0), (1, .clo 163 [] [.ptr 1 0]), (5, .s (.int .i64 i)), (6, .s (.int .i64 j))] ∧ o = stR n ws, ⟨vs.length - (j0 + 1), ?_⟩, ?_⟩
  ·exact ⟨[], [some 0, some 1], _, _, _, t3, ⟨j0, j0 + 1, vs, by omega, h0, rfl, rfl, (by rw [without_bad _ _ _ h0 hv0]; exact (without_all hb0).symm), rfl, rfl, rfl, rfl⟩⟩
  ·rintro k f1 o1 c1 ⟨i, j, ws, hij, hj, rfl, hlen, htk, hdr, rfl, rfl, rfl⟩
   ((conv=>whnf)<;>repeat(with_reducible refine D1 ?_)<;>conv=>whnf)
   (first|refine ⟨?_,?_⟩|refine nsplit ?_ ?_|refine bsplit ?_ ?_)<;>intro h<;>have hz_:=True.intro<;>clear hz_
   ·have h : j < vs.length := by rw [List.length_map, hlen] at h; omega
    have hw : ws[j]? = some vs[j] := by
     have := congrArg (fun l => l[0]?) hdr
     simpa [h] using this
    have hdr1 : ws.drop (j + 1) = vs.drop (j + 1) := by
     have := congrArg (List.drop 1) hdr
     simpa [List.drop_drop, Nat.add_comm] using this
    ((conv=>whnf)<;>repeat(with_reducible refine D1 ?_)<;>conv=>whnf)
    refine ⟨⟨by omega, by simp; omega⟩, encI1 vs[j], by simp [hw], ?_⟩
    ((conv=>whnf)<;>repeat(with_reducible refine D1 ?_)<;>conv=>whnf)
    refine ⟨[], [some 1], _, _, _, _, isC n vs[j], t3, ?_⟩
    rintro r o' c' ⟨rfl, rfl, rfl⟩
    have hz_ := True.intro
    clear hz_
    cases hv : isB n vs[j]
    ·((conv=>whnf)<;>repeat(with_reducible refine D1 ?_)<;>conv=>whnf)
     refine ⟨⟨by omega, by simp; omega⟩, encI1 (ws[i]'(by omega)), by simp [show i < ws.length by omega], ?_⟩
     ((conv=>whnf)<;>repeat(with_reducible refine D1 ?_)<;>conv=>whnf)
     refine ⟨vs.length - (j + 1), ?_, by omega⟩
     refine ⟨[], [some 0, some 1], ?_⟩
     iterate 3 constructor
     refine ⟨⟨?_, ?_, ?_⟩, ⟨i + 1, j + 1, ws.set i vs[j], by omega, h, rfl, by simpa using hlen, (by rw [without_good _ _ _ h hv, List.take_succ_eq_append_getElem (by simp; omega), List.take_set_of_le (Nat.le_refl _), htk]; simp), (by rw [List.drop_set_of_lt (by omega)]; exact hdr1), rfl, rfl, rfl⟩⟩
     all_goals (repeat' first|with_reducible exact Lz.rfl|exact Lw.rfl|exact Lz.wrap (by omega)|(unfold goInt;with_reducible exact Lz.rfl)|exact flx _|constructor)
     refine Lz.of ?_
     rw [List.map_set]; rfl
    ·((conv=>whnf)<;>repeat(with_reducible refine D1 ?_)<;>conv=>whnf)
     refine ⟨vs.length - (j + 1), ?_, by omega⟩
     exact ⟨[], [some 0, some 1], _, _, _, t3, ⟨i, j + 1, ws, by omega, h, rfl, hlen, (by rw [without_bad _ _ _ h hv]; exact htk), hdr1, rfl, rfl, rfl⟩⟩
   ·have h' : j = vs.length := by have : ¬ (j : Int) < (((ws.map encI1).length : Nat) : Int) := h
                                  rw [List.length_map, hlen] at this; omega
    subst h'
    rw [List.take_length] at htk
    ((conv=>whnf)<;>repeat(with_reducible refine D1 ?_)<;>conv=>whnf)
    refine ⟨⟨by omega, by simp; try omega, by simp⟩, .inr ?_⟩
    ((conv=>whnf)<;>repeat(with_reducible refine D1 ?_)<;>conv=>whnf)
    refine ⟨fun hc => absurd hc (by simp; omega), fun _ => ?_⟩
    ((conv=>whnf)<;>repeat(with_reducible refine D1 ?_)<;>conv=>whnf)
    refine ⟨⟨by omega, by simp; try omega, by simp; try omega⟩, ?_⟩
    ((conv=>whnf)<;>repeat(with_reducible refine D1 ?_)<;>conv=>whnf)
    refine ⟨[], [some 0, some 1], ?_⟩
    iterate 3 constructor
    refine ⟨⟨?_, ?_, ?_⟩, rfl, rfl, rfl⟩
    all_goals (repeat' first|with_reducible exact Lz.rfl|exact Lw.rfl|exact Lz.wrap (by omega)|(unfold goInt;with_reducible exact Lz.rfl)|exact flx _|constructor)
    refine Lz.of ?_
    rw [← htk]
    simp [List.take_append, show i ≤ ws.length by omega]
theorem lastW {l : List Int} {K : List TV → Prop} (h : 1 ≤ l.length ∧ l.length ≤ 5) (hK : K (encI1 (l.getLast?.getD 0))) : (0 ≤ IntKind.i64.wrap ((((l.map encI1).length : Nat) : Int) - 1) ∧ IntKind.i64.wrap ((((l.map encI1).length : Nat) : Int) - 1) < (((l.map encI1).length : Nat) : Int)) ∧ ∃ e, (l.map encI1)[(IntKind.i64.wrap ((((l.map encI1).length : Nat) : Int) - 1)).toNat]? = some e ∧ K e := by
 obtain ⟨e, ⟨h0, h1⟩, h2⟩ := lastI h hK
 refine ⟨⟨h0, ?_⟩, e, h1, h2⟩
 have := (List.getElem?_eq_some_iff.1 h1).1
 omega
theorem lastN_ok (c : CF) (h5 : 1 ≤ c.nodes.length ∧ c.nodes.length ≤ 5) : VC E0 161 1 [.agg (namCF c 0)] [(0, .arr 1 true (c.nodes.map encI1))] (RR (.s (.int .i64 (lastL c))) 1 [(0, .arr 1 true (c.nodes.map encI1))]) := by
 refine VC.enterR L0 (show E0.func 161 = some Try.f161 by kernel_rfl) (fun _ _ => rfl) rfl rfl [] ?_
 ((conv=>whnf)<;>repeat(with_reducible refine D1 ?_)<;>conv=>whnf)
 refine lastW h5 ?_
 ((conv=>whnf)<;>repeat(with_reducible refine D1 ?_)<;>conv=>whnf)
 exact ⟨[], [some 0], _, _, _, t3, rfl, rfl, rfl⟩
end Go.M
namespace Go.M
open Go Go.Proofs
set_option maxRecDepth 100000
set_option maxHeartbeats 4000000
@[reducible] def stM (c : CF) : Ob := [(0, .arr 1 true (c.nodes.map encI1))]
def doK (x : CF) (k n : Int) : CF :=
 if k = 1 then (if x.join = n then ⟨x.chain, x.epoch, x.nodes, x.fresh, 0⟩ else ⟨x.chain, x.epoch, withoutL x.nodes n, x.fresh && decide (lastL x ≠ n), x.join⟩)
 else if k = 2 then ⟨x.chain, x.epoch, x.nodes, x.fresh, n⟩
 else if k = 3 then ⟨x.chain, x.epoch, x.nodes ++ [n], true, 0⟩
 else ⟨x.chain, x.epoch, x.nodes, false, x.join⟩
theorem doK_made (x : CF) (k n : Int) : madeL x k n = ⟨(doK x k n).chain, (doK x k n).epoch + 1, (doK x k n).nodes, (doK x k n).fresh, (doK x k n).join⟩ := by
 unfold madeL doK
 repeat' split
 all_goals rfl
theorem remove_ok (x : CF) (n : Int) (h5 : 1 ≤ x.nodes.length ∧ x.nodes.length ≤ 5) : VC E0 143 1 [.agg (namCF x 0), .s (.int .i64 n)] (stM x) (RR (.agg (encCF (doK x 1 n))) 1 []) := by
 refine VC.enterR L0 (show E0.func 143 = some Try.f143 by kernel_rfl) (fun _ _ => rfl) rfl rfl [] ?_
 ((conv=>whnf)<;>repeat(with_reducible refine D1 ?_)<;>conv=>whnf)
 (first|refine ⟨?_,?_⟩|refine nsplit ?_ ?_|refine bsplit ?_ ?_)<;>intro hj<;>have hz_:=True.intro<;>clear hz_
 ·have hj : x.join = n := hj
  have hC : doK x 1 n = ⟨x.chain, x.epoch, x.nodes, x.fresh, 0⟩ := by unfold doK; rw [if_pos rfl, if_pos hj]
  rw [hC]
  ((conv=>whnf)<;>repeat(with_reducible refine D1 ?_)<;>conv=>whnf)
  exact ⟨[0], [some 0], _, _, _, t3, rfl, rfl, rfl⟩
 ·have hj : ¬ x.join = n := hj
  have hC : doK x 1 n = ⟨x.chain, x.epoch, withoutL x.nodes n, x.fresh && decide (lastL x ≠ n), x.join⟩ := by unfold doK; rw [if_pos rfl, if_neg hj]
  rw [hC]
  ((conv=>whnf)<;>repeat(with_reducible refine D1 ?_)<;>conv=>whnf)
  cases hf : x.fresh
  ·((conv=>whnf)<;>repeat(with_reducible refine D1 ?_)<;>conv=>whnf)
   refine ⟨[], [some 0, some 2], _, _, _, _, delR_ok n x.nodes (by omega), t3, ?_⟩
   rintro r o' c' ⟨rfl, rfl, rfl⟩
   ((conv=>whnf)<;>repeat(with_reducible refine D1 ?_)<;>conv=>whnf)
   exact ⟨[], [some 0], _, _, _, t3, rfl, rfl, rfl⟩
  ·((conv=>whnf)<;>repeat(with_reducible refine D1 ?_)<;>conv=>whnf)
   refine ⟨[], [some 0], _, _, _, _, lastN_ok ⟨x.chain, x.epoch, x.nodes, true, x.join⟩ h5, t3, ?_⟩
   rintro r o' c' ⟨rfl, rfl, rfl⟩
   ((conv=>whnf)<;>repeat(with_reducible refine D1 ?_)<;>conv=>whnf)
   have hll : lastL ⟨x.chain, x.epoch, x.nodes, true, x.join⟩ = lastL x := rfl
   (first|refine ⟨?_,?_⟩|refine nsplit ?_ ?_|refine bsplit ?_ ?_)<;>intro hla<;>have hz_:=True.intro<;>clear hz_
   ·have hla : lastL x ≠ n := hla
    ((conv=>whnf)<;>repeat(with_reducible refine D1 ?_)<;>conv=>whnf)
    refine ⟨[], [some 0, some 2], _, _, _, _, delR_ok n x.nodes (by omega), t3, ?_⟩
    rintro r o' c' ⟨rfl, rfl, rfl⟩
    ((conv=>whnf)<;>repeat(with_reducible refine D1 ?_)<;>conv=>whnf)
    refine ⟨[], [some 0], ?_⟩
    iterate 3 constructor
    refine ⟨⟨?_, ?_, ?_⟩, rfl, rfl, rfl⟩
    all_goals (repeat' first|with_reducible exact Lz.rfl|exact Lw.rfl|exact Lz.wrap (by omega)|(unfold goInt;with_reducible exact Lz.rfl)|exact flx _|constructor)
    exact Lz.of (bool_eq (by simp [hla]))
   ·have hla : ¬ lastL x ≠ n := hla
    ((conv=>whnf)<;>repeat(with_reducible refine D1 ?_)<;>conv=>whnf)
    refine ⟨[], [some 0, some 2], _, _, _, _, delR_ok n x.nodes (by omega), t3, ?_⟩
    rintro r o' c' ⟨rfl, rfl, rfl⟩
    ((conv=>whnf)<;>repeat(with_reducible refine D1 ?_)<;>conv=>whnf)
    refine ⟨[], [some 0], ?_⟩
    iterate 3 constructor
    refine ⟨⟨?_, ?_, ?_⟩, rfl, rfl, rfl⟩
    all_goals (repeat' first|with_reducible exact Lz.rfl|exact Lw.rfl|exact Lz.wrap (by omega)|(unfold goInt;with_reducible exact Lz.rfl)|exact flx _|constructor)
    exact Lz.of (bool_eq (by simpa using hla))
theorem join_ok (x : CF) (n : Int) : VC E0 145 1 [.agg (namCF x 0), .s (.int .i64 n)] (stM x) (RR (.agg (encCF (doK x 2 n))) 1 []) := by
 refine VC.enterR L0 (show E0.func 145 = some Try.f145 by kernel_rfl) (fun _ _ => rfl) rfl rfl [] ?_
 ((conv=>whnf)<;>repeat(with_reducible refine D1 ?_)<;>conv=>whnf)
 exact ⟨[0], [some 0], _, _, _, t3, rfl, rfl, rfl⟩
theorem promote_ok (x : CF) (n : Int) (h5 : x.nodes.length ≤ 5) : VC E0 147 1 [.agg (namCF x 0), .s (.int .i64 n)] (stM x) (RR (.agg (encCF (doK x 3 n))) 1 []) := by
 have hC : doK x 3 n = ⟨x.chain, x.epoch, x.nodes ++ [n], true, 0⟩ := by unfold doK; rw [if_neg (by decide), if_neg (by decide), if_pos rfl]
 rw [hC]
 refine VC.enterR L0 (show E0.func 147 = some Try.f147 by kernel_rfl) (fun _ _ => rfl) rfl rfl [] ?_
 ((conv=>whnf)<;>repeat(with_reducible refine D1 ?_)<;>conv=>whnf)
 refine ⟨by simp; omega, ?_⟩
 ((conv=>whnf)<;>repeat(with_reducible refine D1 ?_)<;>conv=>whnf)
 refine ⟨[4], [some 0], ?_⟩
 iterate 3 constructor
 refine ⟨⟨?_, ?_, ?_⟩, rfl, rfl, rfl⟩
 all_goals (repeat' first|with_reducible exact Lz.rfl|exact Lw.rfl|exact Lz.wrap (by omega)|(unfold goInt;with_reducible exact Lz.rfl)|exact flx _|constructor)
 exact Lz.of (by simp)
theorem settle_ok (x : CF) (k n : Int) (k1 : k ≠ 1) (k2 : k ≠ 2) (k3 : k ≠ 3) : VC E0 149 1 [.agg (namCF x 0), .s (.int .i64 n)] (stM x) (RR (.agg (encCF (doK x k n))) 1 []) := by
 have hC : doK x k n = ⟨x.chain, x.epoch, x.nodes, false, x.join⟩ := by unfold doK; rw [if_neg k1, if_neg k2, if_neg k3]
 rw [hC]
 refine VC.enterR L0 (show E0.func 149 = some Try.f149 by kernel_rfl) (fun _ _ => rfl) rfl rfl [] ?_
 ((conv=>whnf)<;>repeat(with_reducible refine D1 ?_)<;>conv=>whnf)
 exact ⟨[0], [some 0], _, _, _, t3, rfl, rfl, rfl⟩
theorem of1_k (k : Int) (h : k = 1) : VC E0 116 0 [.s (.int .i64 k)] [] (RR (.agg [.clo 142 [] [], .clo 143 [] []]) 0 []) := by subst h; exact of1_ok
theorem of2_k (k : Int) (h : k = 2) : VC E0 116 0 [.s (.int .i64 k)] [] (RR (.agg [.clo 144 [] [], .clo 145 [] []]) 0 []) := by subst h; exact of2_ok
theorem of3_k (k : Int) (h : k = 3) : VC E0 116 0 [.s (.int .i64 k)] [] (RR (.agg [.clo 146 [] [], .clo 147 [] []]) 0 []) := by subst h; exact of3_ok
end Go.M
namespace Go.M
open Go Go.Proofs
set_option maxRecDepth 100000
set_option maxHeartbeats 4000000
theorem mixE_set (l : List CF) (i : Nat) (h : i < l.length) (x : CF) : (mixE (fun j => Nat.beq j i) l).set i (encCF x) = (l.set i x).map encCF := by
 apply List.ext_getElem?
 intro j
 rw [List.getElem?_set, List.getElem?_map, List.getElem?_set]
 by_cases e : i = j
 ·subst e
  simp [mixE_len, h]
 ·rw [if_neg e, if_neg e]
  by_cases hj : j < l.length
  ·rw [mixE_get _ _ _ hj, List.getElem?_eq_getElem hj]
   have hb : Nat.beq j i = false := by
    cases hq : Nat.beq j i with
    | false => rfl
    | true => rw [beq_iff] at hq; omega
   unfold pickE
   simp only [hb]
   rfl
  ·rw [List.getElem?_eq_none (by rw [mixE_len]; omega), List.getElem?_eq_none (by omega)]; rfl
theorem mixE_at (l : List CF) (i : Nat) (h : i < l.length) : (mixE (fun j => Nat.beq j i) l)[i]? = some (ownCF l[i]) := by
 rw [mixE_get _ _ _ h]
 unfold pickE
 simp only [beq_iff.2 (rfl : i = i)]
theorem encCF_fz (l : List CF) : ∀ e ∈ l.map encCF, ∀ t ∈ e, fz t = true := by
 intro e he t ht
 obtain ⟨x, _, rfl⟩ := List.mem_map.1 he
 simp only [encCF, List.mem_cons, List.not_mem_nil, or_false] at ht
 rcases ht with rfl | rfl | rfl | rfl | rfl <;> rfl
theorem doK_ep (x : CF) (k n : Int) : (doK x k n).epoch = x.epoch := by
 unfold doK
 repeat' split
 all_goals rfl
theorem doC_ok (l : List CF) (c : Cmd) (hl : l.length < 10000) (hn : ∀ c ∈ l, c.nodes.length < 1000000) (hep : ∀ c ∈ l, 0 ≤ c.epoch ∧ c.epoch ≤ 18446744073709551615) :
 VC E0 113 0 [.sl 5 (l.map encCF) false, cT4 c] [] (RR (.tup [.tk 0, .s (.bool (doL l c).2)]) 1 [(0, .arr 5 true ((doL l c).1.map encCF))]) := by
 by_cases h : canL l c = 0
 ·by_cases h0 : c.kind = 0
  ·have hC : doL l c = (l, true) := by unfold doL; rw [if_neg (fun q => q h), if_pos h0]
   rw [hC]
   refine VC.enterR L0 (show E0.func 113 = some Try.f113 by kernel_rfl) (fun _ _ => rfl) rfl rfl [] ?_
   ((conv=>whnf)<;>repeat(with_reducible refine D1 ?_)<;>conv=>whnf)
   refine ⟨[], [], _, _, _, _, copy_ok l hl hn, t3, ?_⟩
   rintro r o' c' ⟨rfl, rfl, rfl⟩
   ((conv=>whnf)<;>repeat(with_reducible refine D1 ?_)<;>conv=>whnf)
   refine ⟨[], [], _, _, _, _, can_ok l c, t3, ?_⟩
   rintro r o' c' ⟨rfl, rfl, rfl⟩
   ((conv=>whnf)<;>repeat(with_reducible refine D1 ?_)<;>conv=>whnf)
   (first|refine ⟨?_,?_⟩|refine nsplit ?_ ?_|refine bsplit ?_ ?_)<;>intro q<;>have hz_:=True.intro<;>clear hz_
   ·exact absurd h q
   ((conv=>whnf)<;>repeat(with_reducible refine D1 ?_)<;>conv=>whnf)
   (first|refine ⟨?_,?_⟩|refine nsplit ?_ ?_|refine bsplit ?_ ?_)<;>intro q2<;>have hz_:=True.intro<;>clear hz_
   ·exact absurd h0 q2
   ((conv=>whnf)<;>repeat(with_reducible refine D1 ?_)<;>conv=>whnf)
   exact ⟨[], [some 1], _, _, _, t3, rfl, rfl, rfl⟩
  ·obtain ⟨ha, hk, hlt, hm⟩ := can_in h h0
   have hrg := check_rng hk h0
   have hin := hep _ (List.getElem_mem hlt)
   have hrx := allP_in ha (List.getElem_mem hlt)
   have h5 := hrx.2.2.1
   have hC : doL l c = (l.set c.chain.toNat (madeL l[c.chain.toNat] c.kind c.node), true) := by unfold doL; rw [if_neg (fun q => q h), if_neg h0, List.getElem?_eq_getElem hlt]
   have hw : IntKind.u64.wrap ((doK l[c.chain.toNat] c.kind c.node).epoch + 1) = (doK l[c.chain.toNat] c.kind c.node).epoch + 1 := by rw [doK_ep]; exact IntWalk.u64_in _ (by omega)
   rw [hC, doK_made]
   refine VC.enterR L0 (show E0.func 113 = some Try.f113 by kernel_rfl) (fun _ _ => rfl) rfl rfl [] ?_
   ((conv=>whnf)<;>repeat(with_reducible refine D1 ?_)<;>conv=>whnf)
   refine ⟨[], [], _, _, _, _, copyM_ok (fun j => Nat.beq j c.chain.toNat) l hl hn, t3, ?_⟩
   rintro r o' c' ⟨rfl, rfl, rfl⟩
   ((conv=>whnf)<;>repeat(with_reducible refine D1 ?_)<;>conv=>whnf)
   refine ⟨[], [], _, _, _, _, can_ok l c, t3, ?_⟩
   rintro r o' c' ⟨rfl, rfl, rfl⟩
   ((conv=>whnf)<;>repeat(with_reducible refine D1 ?_)<;>conv=>whnf)
   (first|refine ⟨?_,?_⟩|refine nsplit ?_ ?_|refine bsplit ?_ ?_)<;>intro q<;>have hz_:=True.intro<;>clear hz_
   ·exact absurd h q
   ((conv=>whnf)<;>repeat(with_reducible refine D1 ?_)<;>conv=>whnf)
   (first|refine ⟨?_,?_⟩|refine nsplit ?_ ?_|refine bsplit ?_ ?_)<;>intro q2<;>have hz_:=True.intro<;>clear hz_
   ·((conv=>whnf)<;>repeat(with_reducible refine D1 ?_)<;>conv=>whnf)
    by_cases k1 : c.kind = 1
    ·refine ⟨[], [], _, _, _, _, of1_k c.kind k1, t3, ?_⟩
     have hdo := remove_ok l[c.chain.toNat] c.node h5
     rw [← k1] at hdo
     rintro r o' c' ⟨rfl, rfl, rfl⟩
     ((conv=>whnf)<;>repeat(with_reducible refine D1 ?_)<;>conv=>whnf)
     refine ⟨⟨hrg.1, by rw [mixE_len]; omega⟩, ?_⟩
     ((conv=>whnf)<;>repeat(with_reducible refine D1 ?_)<;>conv=>whnf)
     refine ⟨ownCF l[c.chain.toNat], mixE_at l _ hlt, ?_⟩
     ((conv=>whnf)<;>repeat(with_reducible refine D1 ?_)<;>conv=>whnf)
     refine ⟨[], [some 2], _, _, _, _, hdo, t3, ?_⟩
     rintro r o' c' ⟨rfl, rfl, rfl⟩
     ((conv=>whnf)<;>repeat(with_reducible refine D1 ?_)<;>conv=>whnf)
     refine ⟨⟨hrg.1, by rw [mixE_len]; omega⟩, ?_⟩
     ((conv=>whnf)<;>repeat(with_reducible refine D1 ?_)<;>conv=>whnf)
     refine ⟨fun _ => ?_, fun q => absurd rfl q⟩
     ((conv=>whnf)<;>repeat(with_reducible refine D1 ?_)<;>conv=>whnf)
     refine ⟨[], [some 1], _, _, _, ⟨by (repeat' first|with_reducible exact Lz.rfl|exact Lw.rfl|exact Lz.wrap (by omega)|(unfold goInt;with_reducible exact Lz.rfl)|exact flx _|constructor), .cons (.qarr (opc := [(_, encCF ⟨(doK l[c.chain.toNat] c.kind c.node).chain, (doK l[c.chain.toNat] c.kind c.node).epoch + 1, (doK l[c.chain.toNat] c.kind c.node).nodes, (doK l[c.chain.toNat] c.kind c.node).fresh, (doK l[c.chain.toNat] c.kind c.node).join⟩)]) .one (Lw.of (mixE_set l c.chain.toNat hlt _)) (encCF_fz _) (.q1 (by (repeat' first|with_reducible exact Lz.rfl|exact Lw.rfl|exact Lz.wrap (by omega)|(unfold goInt;with_reducible exact Lz.rfl)|exact flx _|constructor); exact Lz.int hw))) .nil, by rfl⟩, rfl, rfl, rfl⟩
    by_cases k2 : c.kind = 2
    ·refine ⟨[], [], _, _, _, _, of2_k c.kind k2, t3, ?_⟩
     have hdo := join_ok l[c.chain.toNat] c.node
     rw [← k2] at hdo
     rintro r o' c' ⟨rfl, rfl, rfl⟩
     ((conv=>whnf)<;>repeat(with_reducible refine D1 ?_)<;>conv=>whnf)
     refine ⟨⟨hrg.1, by rw [mixE_len]; omega⟩, ?_⟩
     ((conv=>whnf)<;>repeat(with_reducible refine D1 ?_)<;>conv=>whnf)
     refine ⟨ownCF l[c.chain.toNat], mixE_at l _ hlt, ?_⟩
     ((conv=>whnf)<;>repeat(with_reducible refine D1 ?_)<;>conv=>whnf)
     refine ⟨[], [some 2], _, _, _, _, hdo, t3, ?_⟩
     rintro r o' c' ⟨rfl, rfl, rfl⟩
     ((conv=>whnf)<;>repeat(with_reducible refine D1 ?_)<;>conv=>whnf)
     refine ⟨⟨hrg.1, by rw [mixE_len]; omega⟩, ?_⟩
     ((conv=>whnf)<;>repeat(with_reducible refine D1 ?_)<;>conv=>whnf)
     refine ⟨fun _ => ?_, fun q => absurd rfl q⟩
     ((conv=>whnf)<;>repeat(with_reducible refine D1 ?_)<;>conv=>whnf)
     refine ⟨[], [some 1], _, _, _, ⟨by (repeat' first|with_reducible exact Lz.rfl|exact Lw.rfl|exact Lz.wrap (by omega)|(unfold goInt;with_reducible exact Lz.rfl)|exact flx _|constructor), .cons (.qarr (opc := [(_, encCF ⟨(doK l[c.chain.toNat] c.kind c.node).chain, (doK l[c.chain.toNat] c.kind c.node).epoch + 1, (doK l[c.chain.toNat] c.kind c.node).nodes, (doK l[c.chain.toNat] c.kind c.node).fresh, (doK l[c.chain.toNat] c.kind c.node).join⟩)]) .one (Lw.of (mixE_set l c.chain.toNat hlt _)) (encCF_fz _) (.q1 (by (repeat' first|with_reducible exact Lz.rfl|exact Lw.rfl|exact Lz.wrap (by omega)|(unfold goInt;with_reducible exact Lz.rfl)|exact flx _|constructor); exact Lz.int hw))) .nil, by rfl⟩, rfl, rfl, rfl⟩
    by_cases k3 : c.kind = 3
    ·refine ⟨[], [], _, _, _, _, of3_k c.kind k3, t3, ?_⟩
     have hdo := promote_ok l[c.chain.toNat] c.node h5.2
     rw [← k3] at hdo
     rintro r o' c' ⟨rfl, rfl, rfl⟩
     ((conv=>whnf)<;>repeat(with_reducible refine D1 ?_)<;>conv=>whnf)
     refine ⟨⟨hrg.1, by rw [mixE_len]; omega⟩, ?_⟩
     ((conv=>whnf)<;>repeat(with_reducible refine D1 ?_)<;>conv=>whnf)
     refine ⟨ownCF l[c.chain.toNat], mixE_at l _ hlt, ?_⟩
     ((conv=>whnf)<;>repeat(with_reducible refine D1 ?_)<;>conv=>whnf)
     refine ⟨[], [some 2], _, _, _, _, hdo, t3, ?_⟩
     rintro r o' c' ⟨rfl, rfl, rfl⟩
     ((conv=>whnf)<;>repeat(with_reducible refine D1 ?_)<;>conv=>whnf)
     refine ⟨⟨hrg.1, by rw [mixE_len]; omega⟩, ?_⟩
     ((conv=>whnf)<;>repeat(with_reducible refine D1 ?_)<;>conv=>whnf)
     refine ⟨fun _ => ?_, fun q => absurd rfl q⟩
     ((conv=>whnf)<;>repeat(with_reducible refine D1 ?_)<;>conv=>whnf)
     refine ⟨[], [some 1], _, _, _, ⟨by (repeat' first|with_reducible exact Lz.rfl|exact Lw.rfl|exact Lz.wrap (by omega)|(unfold goInt;with_reducible exact Lz.rfl)|exact flx _|constructor), .cons (.qarr (opc := [(_, encCF ⟨(doK l[c.chain.toNat] c.kind c.node).chain, (doK l[c.chain.toNat] c.kind c.node).epoch + 1, (doK l[c.chain.toNat] c.kind c.node).nodes, (doK l[c.chain.toNat] c.kind c.node).fresh, (doK l[c.chain.toNat] c.kind c.node).join⟩)]) .one (Lw.of (mixE_set l c.chain.toNat hlt _)) (encCF_fz _) (.q1 (by (repeat' first|with_reducible exact Lz.rfl|exact Lw.rfl|exact Lz.wrap (by omega)|(unfold goInt;with_reducible exact Lz.rfl)|exact flx _|constructor); exact Lz.int hw))) .nil, by rfl⟩, rfl, rfl, rfl⟩
    ·refine ⟨[], [], _, _, _, _, of4_ok c.kind k1 k2 k3, t3, ?_⟩
     have hdo := settle_ok l[c.chain.toNat] c.kind c.node k1 k2 k3
     rintro r o' c' ⟨rfl, rfl, rfl⟩
     ((conv=>whnf)<;>repeat(with_reducible refine D1 ?_)<;>conv=>whnf)
     refine ⟨⟨hrg.1, by rw [mixE_len]; omega⟩, ?_⟩
     ((conv=>whnf)<;>repeat(with_reducible refine D1 ?_)<;>conv=>whnf)
     refine ⟨ownCF l[c.chain.toNat], mixE_at l _ hlt, ?_⟩
     ((conv=>whnf)<;>repeat(with_reducible refine D1 ?_)<;>conv=>whnf)
     refine ⟨[], [some 2], _, _, _, _, hdo, t3, ?_⟩
     rintro r o' c' ⟨rfl, rfl, rfl⟩
     ((conv=>whnf)<;>repeat(with_reducible refine D1 ?_)<;>conv=>whnf)
     refine ⟨⟨hrg.1, by rw [mixE_len]; omega⟩, ?_⟩
     ((conv=>whnf)<;>repeat(with_reducible refine D1 ?_)<;>conv=>whnf)
     refine ⟨fun _ => ?_, fun q => absurd rfl q⟩
     ((conv=>whnf)<;>repeat(with_reducible refine D1 ?_)<;>conv=>whnf)
     refine ⟨[], [some 1], _, _, _, ⟨by (repeat' first|with_reducible exact Lz.rfl|exact Lw.rfl|exact Lz.wrap (by omega)|(unfold goInt;with_reducible exact Lz.rfl)|exact flx _|constructor), .cons (.qarr (opc := [(_, encCF ⟨(doK l[c.chain.toNat] c.kind c.node).chain, (doK l[c.chain.toNat] c.kind c.node).epoch + 1, (doK l[c.chain.toNat] c.kind c.node).nodes, (doK l[c.chain.toNat] c.kind c.node).fresh, (doK l[c.chain.toNat] c.kind c.node).join⟩)]) .one (Lw.of (mixE_set l c.chain.toNat hlt _)) (encCF_fz _) (.q1 (by (repeat' first|with_reducible exact Lz.rfl|exact Lw.rfl|exact Lz.wrap (by omega)|(unfold goInt;with_reducible exact Lz.rfl)|exact flx _|constructor); exact Lz.int hw))) .nil, by rfl⟩, rfl, rfl, rfl⟩
   ·exact absurd h0 (fun q => q2 q)
 ·have hC : doL l c = (l, false) := by unfold doL; rw [if_pos h]
  rw [hC]
  refine VC.enterR L0 (show E0.func 113 = some Try.f113 by kernel_rfl) (fun _ _ => rfl) rfl rfl [] ?_
  ((conv=>whnf)<;>repeat(with_reducible refine D1 ?_)<;>conv=>whnf)
  refine ⟨[], [], _, _, _, _, copy_ok l hl hn, t3, ?_⟩
  rintro r o' c' ⟨rfl, rfl, rfl⟩
  ((conv=>whnf)<;>repeat(with_reducible refine D1 ?_)<;>conv=>whnf)
  refine ⟨[], [], _, _, _, _, can_ok l c, t3, ?_⟩
  rintro r o' c' ⟨rfl, rfl, rfl⟩
  ((conv=>whnf)<;>repeat(with_reducible refine D1 ?_)<;>conv=>whnf)
  (first|refine ⟨?_,?_⟩|refine nsplit ?_ ?_|refine bsplit ?_ ?_)<;>intro q<;>have hz_:=True.intro<;>clear hz_
  ·((conv=>whnf)<;>repeat(with_reducible refine D1 ?_)<;>conv=>whnf)
   exact ⟨[], [some 1], _, _, _, t3, rfl, rfl, rfl⟩
  ·exact absurd (Classical.not_not.1 q) h
end Go.M
namespace Go.M
open Go Go.Proofs
theorem atS_put {K : List Vote} (h : SS K) (v : Vote) (s : Int) : atS (put K v) s = if s = v.slot then some v else atS K s := by
 have hp : SS (put K v) := put_SS h
 split
 ·rename_i e; subst e
  exact (atS_some hp).2 ⟨(put_mem h).2 (.inl rfl), rfl⟩
 ·rename_i e
  cases ha : atS K s with
  | none =>
   cases hb : atS (put K v) s with
   | none => rfl
   | some w =>
    obtain ⟨h1, h2⟩ := (atS_some hp).1 hb
    rcases (put_mem h).1 h1 with rfl | ⟨_, h3⟩
    ·exact absurd h2.symm e
    ·have := (atS_some h).2 ⟨h3, h2⟩; rw [ha] at this; cases this
  | some w =>
   obtain ⟨h1, h2⟩ := (atS_some h).1 ha
   exact (atS_some hp).2 ⟨(put_mem h).2 (.inr ⟨by rw [h2]; exact e, h1⟩), h2⟩
theorem SS_len : ∀ {l : List Vote} {a b : Int}, SS l → (∀ v ∈ l, a ≤ v.slot ∧ v.slot < b) → (l.length : Int) ≤ max (b - a) 0
 | [], a, b, _, _ => by simp; omega
 | x :: l, a, b, h, hr => by
  obtain ⟨h1, h2⟩ := List.pairwise_cons.1 h
  have hx := hr x List.mem_cons_self
  have := SS_len (a := a + 1) (b := b) h2 (fun v hv => by
   have := h1 v hv
   have := hr v (List.mem_cons_of_mem _ hv)
   omega)
  rw [List.length_cons]
  omega
theorem okK.put {K : List Vote} (h : okK K) {slot : Int} {c : Cmd} (hs : 0 ≤ slot ∧ slot < 512) (hc : 0 ≤ c.epoch) : okK (put K (.of slot 0 c)) := by
 have hS : SS (M.put K (.of slot 0 c)) := put_SS h.ss
 have hr : ∀ v ∈ M.put K (.of slot 0 c), 0 ≤ v.slot ∧ v.slot < 512 := fun v hv => by
  rcases (put_mem h.ss).1 hv with rfl | ⟨_, q⟩
  ·exact hs
  ·exact h.rng v q
 refine ⟨hS, hr, ?_, fun v hv => ?_⟩
 ·have := SS_len hS hr; omega
 ·rcases (put_mem h.ss).1 hv with rfl | ⟨_, q⟩
  ·exact hc
  ·exact h.ep v q
theorem nf_at : ∀ (l : List Vote) (n : Nat), SS l → (∀ x ∈ l, (n : Int) ≤ x.slot) → (∀ i : Nat, n + i < nf n l → ∃ v, l[i]? = some v ∧ v.slot = ((n + i : Nat) : Int)) ∧ ∀ x ∈ l, x.slot ≠ ((nf n l : Nat) : Int)
 | [], n, _, _ => ⟨fun i h => by simp only [nf] at h; omega, by simp⟩
 | x :: l, n, hS, hge => by
  obtain ⟨hS1, hS2⟩ := List.pairwise_cons.1 hS
  by_cases hx : x.slot = (n : Int)
  ·have ih := nf_at l (n + 1) hS2 (fun y hy => by have := hS1 y hy; omega)
   have e : nf n (x :: l) = nf (n + 1) l := by rw [nf, if_pos hx]
   have hg := nf_ge l (n + 1)
   rw [e]
   refine ⟨fun i hi => ?_, fun y hy => ?_⟩
   ·cases i with
    | zero => exact ⟨x, rfl, by simpa using hx⟩
    | succ i =>
     obtain ⟨v, h1, h2⟩ := ih.1 i (by omega)
     exact ⟨v, by simpa using h1, by rw [h2]; congr 1; omega⟩
   ·rcases List.mem_cons.1 hy with rfl | hy
    ·omega
    ·exact ih.2 y hy
  ·have e : nf n (x :: l) = n := by rw [nf, if_neg hx]
   rw [e]
   refine ⟨fun i hi => by omega, fun y hy => ?_⟩
   have h0 := hge x List.mem_cons_self
   rcases List.mem_cons.1 hy with rfl | hy
   ·exact hx
   ·have := hS1 y hy; omega
theorem next_at {K : List Vote} (h : okK K) {n : Nat} (hn : n < nextG K) : ∃ v, K[n]? = some v ∧ atS K (n : Int) = some v := by
 rw [nextG_nf] at hn
 obtain ⟨v, h1, h2⟩ := (nf_at K 0 h.ss (fun x hx => by simpa using (h.rng x hx).1)).1 n (by omega)
 exact ⟨v, h1, (atS_some h.ss).2 ⟨List.mem_of_getElem? h1, by rw [h2]; congr 1; omega⟩⟩
theorem next_none {K : List Vote} (h : okK K) : atS K ((nextG K : Nat) : Int) = none := by
 have := (nf_at K 0 h.ss (fun x hx => by simpa using (h.rng x hx).1)).2
 rw [← nextG_nf] at this
 cases hq : atS K ((nextG K : Nat) : Int) with
 | none => rfl
 | some v =>
  obtain ⟨h1, h2⟩ := (atS_some h.ss).1 hq
  exact absurd h2 (this v h1)
theorem topG_max : ∀ {K : List Vote}, SS K → K ≠ [] → (∀ x ∈ K, x.slot + 1 ≤ topG K) ∧ ∃ x ∈ K, x.slot + 1 = topG K
 | [], _, h => absurd rfl h
 | [x], _, _ => by simp [topG]
 | x :: y :: l, h, _ => by
  have e : topG (x :: y :: l) = topG (y :: l) := by unfold topG; rw [List.getLast?_cons_cons]
  obtain ⟨h1, h2⟩ := List.pairwise_cons.1 h
  obtain ⟨a, z, hz, hze⟩ := topG_max h2 (by simp)
  rw [e]
  refine ⟨fun w hw => ?_, z, List.mem_cons_of_mem _ hz, hze⟩
  rcases List.mem_cons.1 hw with rfl | hw
  ·have := h1 z hz; omega
  ·exact a w hw
theorem topG_put {K : List Vote} (h : SS K) (v : Vote) (h0 : 0 ≤ v.slot) : topG (put K v) = max (topG K) (v.slot + 1) := by
 have hp : SS (put K v) := put_SS h
 have hv : v ∈ put K v := (put_mem h).2 (.inl rfl)
 obtain ⟨a, x, hx, hxe⟩ := topG_max hp (fun e => by rw [e] at hv; cases hv)
 have hvt := a v hv
 cases hK : K with
 | nil => simp [put, topG]; omega
 | cons y l =>
  rw [← hK]
  obtain ⟨b, y, hy, hye⟩ := topG_max h (by rw [hK]; simp)
  have hyt : y.slot + 1 ≤ topG (put K v) := by
   by_cases e : y.slot = v.slot
   ·omega
   ·exact a y ((put_mem h).2 (.inr ⟨e, hy⟩))
  rcases (put_mem h).1 hx with rfl | ⟨_, q⟩
  ·omega
  ·have := b x q; omega
theorem doL_no {l : List CF} {c : Cmd} (h : (doL l c).2 = false) : (doL l c).1 = l := by
 unfold doL at h ⊢
 by_cases hc : canL l c ≠ 0
 ·rw [if_pos hc]
 ·rw [if_neg hc] at h
  by_cases hk : c.kind = 0
  ·rw [if_pos hk] at h; cases h
  ·rw [if_neg hk] at h
   split at h <;> cases h
theorem doL_0 {l : List CF} {c : Cmd} (hk : c.kind = 0) : (doL l c).1 = l := by
 unfold doL
 by_cases hc : canL l c ≠ 0
 ·rw [if_pos hc]
 ·rw [if_neg hc, if_pos hk]
theorem came_none {K : List Vote} {l : List CF} {n : Nat} {v : Vote} (hv : K[n]? = some v) (h : (doL (cameG K l n).2 (cmdOf v)).2 = false ∨ v.kind = 0) : cameG K l (n + 1) = cameG K l n := by
 have e : (doL (cameG K l n).2 (cmdOf v)).1 = (cameG K l n).2 := by
  rcases h with h | h
  ·exact doL_no h
  ·exact doL_0 h
 rw [cameG, hv]
 dsimp only
 rw [if_neg (by rcases h with h | h <;> simp [h]), e]
theorem came_some {K : List Vote} {l : List CF} {n : Nat} {v : Vote} (hv : K[n]? = some v) (h : (doL (cameG K l n).2 (cmdOf v)).2 = true) (hk : v.kind ≠ 0) (hlt : v.chain.toNat < (doL (cameG K l n).2 (cmdOf v)).1.length) :
 cameG K l (n + 1) = ((cameG K l n).1 ++ [(doL (cameG K l n).2 (cmdOf v)).1[v.chain.toNat]], (doL (cameG K l n).2 (cmdOf v)).1) := by
 rw [cameG, hv]
 dsimp only
 rw [if_pos ⟨h, hk⟩, List.getElem?_eq_getElem hlt]
 rfl
theorem learn_same {K : List Vote} (h : okK K) {l : List CF} {slot : Int} {c : Cmd} (hs : 0 ≤ slot) (ho : other K slot c = false) : nextG K ≤ nextG (put K (.of slot 0 c)) ∧ cameG (put K (.of slot 0 c)) l (nextG K) = cameG K l (nextG K) := by
 have hp := nf_put (.of slot 0 c) K 0 h.ss (fun v hv => (h.rng v hv).1) hs (fun v hv e => by
  have hat : atS K slot = some v := (atS_some h.ss).2 ⟨hv, e⟩
  unfold other at ho
  rw [hat] at ho
  have : sameC (cmdOf v) c = true := by simpa using ho
  exact sameC_iff.1 this)
 rw [← nextG_nf, ← nextG_nf] at hp
 exact ⟨hp.1, (cameG_same (K' := put K (.of slot 0 c)) (fun i hi => hp.2 i (by omega))).symm⟩
def RiseI (came now : List CF) : Prop := came.Pairwise (fun a b => a.chain = b.chain → a.epoch < b.epoch) ∧ ∀ x ∈ came, 0 ≤ x.chain ∧ ∃ y, now[x.chain.toNat]? = some y ∧ x.epoch ≤ y.epoch
structure okW (K : List Vote) : Prop where
 ok : okK K
 of : ∀ v ∈ K, v = .of v.slot 0 (cmdOf v)
 ck : ∀ v ∈ K, (cmdOf v).check = 0
theorem okW.nil : okW [] := ⟨⟨.nil, by simp, by simp, by simp⟩, by simp, by simp⟩
theorem okW.put {K : List Vote} (h : okW K) {slot : Int} {c : Cmd} (hs : 0 ≤ slot ∧ slot < 512) (hc : 0 ≤ c.epoch) (hk : c.check = 0) : okW (put K (.of slot 0 c)) := by
 refine ⟨h.ok.put hs hc, fun v hv => ?_, fun v hv => ?_⟩
 ·rcases (put_mem h.ok.ss).1 hv with rfl | ⟨_, q⟩
  ·rfl
  ·exact h.of v q
 ·rcases (put_mem h.ok.ss).1 hv with rfl | ⟨_, q⟩
  ·exact hk
  ·exact h.ck v q
theorem okW.learn {K : List Vote} (h : okW K) (l : List CF) {slot : Int} {c : Cmd} (hc : 0 ≤ c.epoch) : okW (learnG K l slot c).1 := by
 unfold learnG
 by_cases h1 : slot < 0 ∨ slot > 511
 ·rw [if_pos h1]; exact h
 ·rw [if_neg h1]
  by_cases h2 : c.check ≠ 0
  ·rw [if_pos h2]; exact h
  ·rw [if_neg h2]
   by_cases h3 : other K slot c = true
   ·rw [if_pos h3]; exact h
   ·rw [if_neg h3]; exact h.put (by omega) hc (Classical.not_not.1 h2)
instance (c : CF) : Decidable (rightP c) := by unfold rightP; exact inferInstance
instance (l : List CF) : Decidable (eachP l) := by unfold eachP; exact inferInstance
instance (l : List CF) : Decidable (allP l) := by unfold allP; exact inferInstance
end Go.M
namespace Go.M
open Go Go.Proofs
set_option maxRecDepth 100000
set_option maxHeartbeats 4000000
theorem copyF (l : List CF) (hl : l.length < 10000) (hn : ∀ c ∈ l, c.nodes.length < 1000000) : VC E0 65 0 [.sl 5 (l.map encCF) false] [] (RR (.tk 0) 1 [(0, .arr 5 true (l.map encCF))]) := copy_ok l hl hn
@[reducible] noncomputable def lgN (kn : List (Int × Cmd)) (top : Int) (K : List Vote) (l : List CF) (n : Nat) : LogS := ⟨kn, n, top, (cameG K l n).1.length, (cameG K l n).2⟩
noncomputable def resG (K : List Vote) (l : List CF) (n0 : Nat) : List CF := (cameG K l (nextG K)).1.drop (cameG K l n0).1.length
theorem came_n6 {K : List Vote} {l : List CF} (hl : okE l) : ∀ n, ∀ c ∈ (cameG K l n).1, c.nodes.length ≤ 6
 | 0, c, hc => by cases hc
 | n + 1, c, hc => by
  have ih := came_n6 (K := K) hl n
  have hok := (hl.came K n)
  cases hv : K[n]? with
  | none => rw [cameG, hv] at hc; exact ih c hc
  | some v =>
   rw [cameG, hv] at hc
   dsimp only at hc
   split at hc
   ·rcases List.mem_append.1 hc with h | h
    ·exact ih c h
    ·exact (hok.do (cmdOf v)).n6 c (by
      cases hq : (doL (cameG K l n).2 (cmdOf v)).1[v.chain.toNat]? with
      | none => rw [hq] at h; simp at h
      | some y => rw [hq] at h; simp at h; subst h; exact List.mem_of_getElem? hq)
   ·exact ih c hc
theorem applyF {K : List Vote} {l : List CF} (hK : okK K) (hl : okE l) (n0 : Nat) (hn : n0 ≤ nextG K) (kn : List (Int × Cmd)) (hkn : ∀ s, lookA kn s = (atS K s).map cmdOf) (top : Int) :
 VC E0 71 2 [.ptr 0 0] (stG (lgN kn top K l n0)) (RR (.tk 2) 3 [(0, logO (lgN kn top K l (nextG K)) 1), (1, knownO (lgN kn top K l (nextG K))), (2, .arr 5 true ((resG K l n0).map encCF))]) := by
 have hlenK := hK.len
 have hnK := nextG_le K
 refine VC.enterR L0 (show E0.func 71 = some Try.f71 by kernel_rfl) (fun _ _ => rfl) rfl rfl [] ?_
 ((conv=>whnf)<;>repeat(with_reducible refine D1 ?_)<;>conv=>whnf)
 refine ⟨fun kk f o c => ∃ (n : Nat) (es : List (List TV)), n0 ≤ n ∧ n ≤ nextG K ∧ kk = nextG K - n ∧ es = ((cameG K l n).1.drop (cameG K l n0).1.length).map encCF ∧ c = 3 ∧ f = [(0, .ptr 0 0), (3, .tk 2)] ∧ o = [(0, logO (lgN kn top K l n) 1), (1, knownO (lgN kn top K l n)), (2, .arr 5 true es)], ⟨nextG K - n0, ?_⟩, ?_⟩
 ·exact ⟨[], [some 0, some 1, none], _, _, _, t3, ⟨n0, [], Nat.le_refl _, hn, rfl, by rw [List.drop_length]; rfl, rfl, rfl, rfl⟩⟩
 ·rintro kk f1 o1 c1 ⟨n, es, h1, h2, rfl, hes, rfl, rfl, rfl⟩
  have hlk := lookM_A .i64 .i64 encK4 (n : Int) kn
  rw [hkn] at hlk
  have hok := hl.came K n
  have hcl := cameG_len K l n
  have hel : es.length < 1000 := by rw [hes]; simp; omega
  ((conv=>whnf)<;>repeat(with_reducible refine D1 ?_)<;>conv=>whnf)
  by_cases hlt : n < nextG K
  ·obtain ⟨v, hv1, hv2⟩ := next_at hK hlt
   have hve := hK.ep v (List.mem_of_getElem? hv1)
   rw [hv2] at hlk
   refine ⟨_, hlk, ?_⟩
   ((conv=>whnf)<;>repeat(with_reducible refine D1 ?_)<;>conv=>whnf)
   refine ⟨[], [], _, _, _, _, doC_ok (cameG K l n).2 (cmdOf v) (by have := hok.len; omega) (fun c hc => by have := hok.n6 c hc; omega) hok.ep, t3, ?_⟩
   rintro r o' c' ⟨rfl, rfl, rfl⟩
   cases hd : (doL (cameG K l n).2 (cmdOf v)).2
   ·have hs := came_none (l := l) hv1 (.inl hd)
    ((conv=>whnf)<;>repeat(with_reducible refine D1 ?_)<;>conv=>whnf)
    refine ⟨nextG K - (n + 1), ?_, by omega⟩
    refine ⟨[], [some 0, some 1, some 2], ?_⟩
    iterate 3 constructor
    refine ⟨⟨?_, ?_, ?_⟩, ⟨n + 1, es, by omega, by omega, rfl, by rw [hs]; exact hes, rfl, rfl, rfl⟩⟩
    all_goals (repeat' first|with_reducible exact Lz.rfl|exact Lw.rfl|exact Lz.wrap (by omega)|(unfold goInt;with_reducible exact Lz.rfl)|exact flx _|constructor)
    all_goals exact Lz.of (by simp only [lgN, hs])
   ·((conv=>whnf)<;>repeat(with_reducible refine D1 ?_)<;>conv=>whnf)
    (first|refine ⟨?_,?_⟩|refine nsplit ?_ ?_|refine bsplit ?_ ?_)<;>intro hk<;>have hz_:=True.intro<;>clear hz_
    ·have hk : v.kind = 0 := hk
     have hs := came_none (l := l) hv1 (.inr hk)
     ((conv=>whnf)<;>repeat(with_reducible refine D1 ?_)<;>conv=>whnf)
     refine ⟨nextG K - (n + 1), ?_, by omega⟩
     refine ⟨[], [some 0, some 1, some 2], ?_⟩
     iterate 3 constructor
     refine ⟨⟨?_, ?_, ?_⟩, ⟨n + 1, es, by omega, by omega, rfl, by rw [hs]; exact hes, rfl, rfl, rfl⟩⟩
     all_goals (repeat' first|with_reducible exact Lz.rfl|exact Lw.rfl|exact Lz.wrap (by omega)|(unfold goInt;with_reducible exact Lz.rfl)|exact flx _|constructor)
     all_goals exact Lz.of (by simp only [lgN, hs])
    ·have hk : ¬ v.kind = 0 := hk
     have hcz := doL_done (c := cmdOf v) hd hk
     obtain ⟨ha, hck, hlt3, hm⟩ := can_in (c := cmdOf v) hcz hk
     have hrg : 0 ≤ v.chain ∧ v.chain < 4 := ⟨(check_rng hck hk).1, (check_rng hck hk).2.1⟩
     have hlt2 : v.chain.toNat < (doL (cameG K l n).2 (cmdOf v)).1.length := by rw [doL_len]; exact hlt3
     have hs := came_some hv1 hd hk hlt2
     have hpre := (cameG_mono K l n0 (n - n0)).length_le
     rw [show n0 + (n - n0) = n by omega] at hpre
     ((conv=>whnf)<;>repeat(with_reducible refine D1 ?_)<;>conv=>whnf)
     refine ⟨⟨hrg.1, by rw [List.length_map]; show v.chain < _; omega⟩, ?_⟩
     ((conv=>whnf)<;>repeat(with_reducible refine D1 ?_)<;>conv=>whnf)
     refine ⟨encCF (doL (cameG K l n).2 (cmdOf v)).1[v.chain.toNat], by show (List.map encCF (doL (cameG K l n).2 (cmdOf v)).1)[v.chain.toNat]? = _; rw [List.getElem?_map, List.getElem?_eq_getElem hlt2]; rfl, ?_⟩
     ((conv=>whnf)<;>repeat(with_reducible refine D1 ?_)<;>conv=>whnf)
     refine ⟨by simp; omega, ?_⟩
     ((conv=>whnf)<;>repeat(with_reducible refine D1 ?_)<;>conv=>whnf)
     refine ⟨nextG K - (n + 1), ?_, by omega⟩
     refine ⟨[4], [some 0, some 1, some 6], ?_⟩
     iterate 3 constructor
     refine ⟨⟨?_, ?_, ?_⟩, ⟨n + 1, ?_, by omega, by omega, rfl, ?_, rfl, rfl, rfl⟩⟩
     all_goals (repeat' first|with_reducible exact Lz.rfl|exact Lw.rfl|exact Lz.wrap (by omega)|(unfold goInt;with_reducible exact Lz.rfl)|exact flx _|constructor)
     ·exact Lz.int (by show IntKind.i64.wrap ((((cameG K l n).1.length : Nat) : Int) + 1) = (((cameG K l (n + 1)).1.length : Nat) : Int); rw [hs, List.length_append, IntWalk.i64_in _ (by omega)]; simp)
     ·exact Lz.of (by simp only [lgN, hs])
     ·rw [hs, hes, List.drop_append_of_le_length hpre, List.map_append]; rfl
  ·have hn' : n = nextG K := by omega
   subst hn'
   rw [next_none hK] at hlk
   refine ⟨_, hlk, ?_⟩
   ((conv=>whnf)<;>repeat(with_reducible refine D1 ?_)<;>conv=>whnf)
   subst hes
   refine ⟨[2], [], _, _, _, _, copyF (resG K l n0) (by simp [resG]; omega) (fun c hc => by have := came_n6 (K := K) hl _ c (List.mem_of_mem_drop hc); omega), t3, ?_⟩
   rintro r o' c' ⟨rfl, rfl, rfl⟩
   ((conv=>whnf)<;>repeat(with_reducible refine D1 ?_)<;>conv=>whnf)
   exact ⟨[], [some 0, some 1, some 4], _, _, _, t3, rfl, rfl, rfl⟩
@[reducible] noncomputable def lgS (kn : List (Int × Cmd)) (K : List Vote) (l : List CF) : LogS := lgN kn (topG K) K l (nextG K)
theorem learn_main {K : List Vote} (h : okK K) (l : List CF) {slot : Int} {c : Cmd} (hs : 0 ≤ slot ∧ slot < 512) (hc : c.check = 0) (ho : other K slot c = false) : learnG K l slot c = (put K (.of slot 0 c), resG (put K (.of slot 0 c)) l (nextG K), 0) := by
 have e : resG (put K (.of slot 0 c)) l (nextG K) = (cameN (put K (.of slot 0 c)) l).drop (cameN K l).length := by
  unfold resG cameN; rw [(learn_same h hs.1 ho).2]
 rw [e]
 unfold learnG
 rw [if_neg (by omega), if_neg (fun q => q hc), if_neg (by rw [ho]; simp)]
theorem known_put {K : List Vote} (h : SS K) {kn : List (Int × Cmd)} (hkn : ∀ s, lookA kn s = (atS K s).map cmdOf) (slot : Int) (c : Cmd) (s : Int) : lookA (putA kn slot c) s = (atS (put K (.of slot 0 c)) s).map cmdOf := by
 rw [lookA_put, atS_put h, hkn]
 show _ = (if s = slot then some (Vote.of slot 0 c) else atS K s).map cmdOf
 split <;> rfl
theorem topG_learn {K : List Vote} (h : okK K) {slot : Int} {c : Cmd} (hs : 0 ≤ slot ∧ slot < 512) : (if IntKind.i64.wrap (slot + 1) > topG K then IntKind.i64.wrap (slot + 1) else topG K) = topG (put K (.of slot 0 c)) := by
 rw [topG_put h.ss _ hs.1, IntWalk.i64_in _ (by omega)]
 show _ = max (topG K) (slot + 1)
 split <;> omega
theorem learnC_ok {K : List Vote} {l : List CF} (hK : okK K) (ho : okE l) (slot : Int) (c : Cmd) (hc : 0 ≤ c.epoch) (kn : List (Int × Cmd)) (hkn : ∀ s, lookA kn s = (atS K s).map cmdOf) :
 VC E0 17 2 [.ptr 0 0, .s (.int .i64 slot), cT4 c] (stG (lgS kn K l)) (fun r o c' => ∃ kn', (∀ s, lookA kn' s = (atS (learnG K l slot c).1 s).map cmdOf) ∧ c' = 3 ∧ r = .tup [.tk 2, .s (.int .i64 (learnG K l slot c).2.2)] ∧
  o = [(0, logO (lgS kn' (learnG K l slot c).1 l) 1), (1, knownO (lgS kn' (learnG K l slot c).1 l)), (2, .arr 5 true ((learnG K l slot c).2.1.map encCF))]) := by
 refine VC.enterR L0 (show E0.func 17 = some Try.f17 by kernel_rfl) (fun _ _ => rfl) rfl rfl [] ?_
 ((conv=>whnf)<;>repeat(with_reducible refine D1 ?_)<;>conv=>whnf)
 (first|refine ⟨?_,?_⟩|refine nsplit ?_ ?_|refine bsplit ?_ ?_)<;>intro h1<;>have hz_:=True.intro<;>clear hz_
 ·have h1 : slot < 0 := h1
  have hL : learnG K l slot c = (K, [], 1) := by unfold learnG; rw [if_pos (.inl h1)]
  rw [hL]
  ((conv=>whnf)<;>repeat(with_reducible refine D1 ?_)<;>conv=>whnf)
  exact ⟨[], [some 0, some 1, none], _, _, _, t3, kn, hkn, rfl, rfl, rfl⟩
 have h1 : ¬ slot < 0 := h1
 ((conv=>whnf)<;>repeat(with_reducible refine D1 ?_)<;>conv=>whnf)
 (first|refine ⟨?_,?_⟩|refine nsplit ?_ ?_|refine bsplit ?_ ?_)<;>intro h2<;>have hz_:=True.intro<;>clear hz_
 ·have h2 : slot ≥ 512 := h2
  have hL : learnG K l slot c = (K, [], 1) := by unfold learnG; rw [if_pos (.inr (by omega))]
  rw [hL]
  ((conv=>whnf)<;>repeat(with_reducible refine D1 ?_)<;>conv=>whnf)
  exact ⟨[], [some 0, some 1, none], _, _, _, t3, kn, hkn, rfl, rfl, rfl⟩
 have h2 : ¬ slot ≥ 512 := h2
 ((conv=>whnf)<;>repeat(with_reducible refine D1 ?_)<;>conv=>whnf)
 refine ⟨[], [], _, _, _, _, check_ok c.kind c.chain c.epoch c.node, t3, ?_⟩
 rintro r o' c' ⟨rfl, rfl, rfl⟩
 ((conv=>whnf)<;>repeat(with_reducible refine D1 ?_)<;>conv=>whnf)
 (first|refine ⟨?_,?_⟩|refine nsplit ?_ ?_|refine bsplit ?_ ?_)<;>intro h3<;>have hz_:=True.intro<;>clear hz_
 ·have h3 : c.check ≠ 0 := h3
  have hL : learnG K l slot c = (K, [], c.check) := by unfold learnG; rw [if_neg (by omega), if_pos h3]
  rw [hL]
  ((conv=>whnf)<;>repeat(with_reducible refine D1 ?_)<;>conv=>whnf)
  exact ⟨[], [some 0, some 1, none], _, _, _, t3, kn, hkn, rfl, rfl, rfl⟩
 have h3 : c.check = 0 := Classical.not_not.1 h3
 have hs : 0 ≤ slot ∧ slot < 512 := ⟨by omega, by omega⟩
 have hK' : okK (put K (.of slot 0 c)) := hK.put hs hc
 have hkn' := known_put hK.ss hkn slot c
 have htop := topG_learn (c := c) hK hs
 have hlk := lookM_A .i64 .i64 encK4 slot kn
 rw [hkn] at hlk
 ((conv=>whnf)<;>repeat(with_reducible refine D1 ?_)<;>conv=>whnf)
 cases hat : atS K slot with
 | none =>
  have hoth : other K slot c = false := by unfold other; rw [hat]
  obtain ⟨hge, hsame⟩ := learn_same (l := l) hK hs.1 hoth
  have hap := applyF hK' ho (nextG K) hge (putA kn slot c) hkn' (topG (put K (.of slot 0 c)))
  rw [hat] at hlk
  rw [learn_main hK l hs h3 hoth]
  refine ⟨_, hlk, ?_⟩
  ((conv=>whnf)<;>repeat(with_reducible refine D1 ?_)<;>conv=>whnf)
  refine ⟨[], [some 0, some 1], _, _, _, _, hap, ⟨by ((repeat' first|with_reducible exact Lz.rfl|exact Lw.rfl|exact Lz.wrap (by omega)|(unfold goInt;with_reducible exact Lz.rfl)|exact flx _|constructor); all_goals (first | exact Lz.of (putM_A .i64 encK4 slot c kn) | exact Lz.int htop | exact Lz.of (by simp only [lgS, lgN, hsame]))), by ((repeat' first|with_reducible exact Lz.rfl|exact Lw.rfl|exact Lz.wrap (by omega)|(unfold goInt;with_reducible exact Lz.rfl)|exact flx _|constructor); all_goals (first | exact Lz.of (putM_A .i64 encK4 slot c kn) | exact Lz.int htop | exact Lz.of (by simp only [lgS, lgN, hsame]))), by rfl⟩, ?_⟩
  rintro r o' c' ⟨rfl, rfl, rfl⟩
  ((conv=>whnf)<;>repeat(with_reducible refine D1 ?_)<;>conv=>whnf)
  exact ⟨[], [some 0, some 1, some 6], _, _, _, t3, putA kn slot c, hkn', rfl, rfl, rfl⟩
 | some v =>
  rw [hat] at hlk
  refine ⟨_, hlk, ?_⟩
  ((conv=>whnf)<;>repeat(with_reducible refine D1 ?_)<;>conv=>whnf)
  (first|refine ⟨?_,?_⟩|refine nsplit ?_ ?_|refine bsplit ?_ ?_)<;>intro hv<;>have hz_:=True.intro<;>clear hz_
  ·have hoth : other K slot c = true := by
    have q := (veq_cmd (cmdOf v) c).symm.trans hv
    unfold other; rw [hat]; simp only [q]; rfl
   have hL : learnG K l slot c = (K, [], 8) := by unfold learnG; rw [if_neg (by omega), if_neg (fun q => q h3), if_pos hoth]
   rw [hL]
   ((conv=>whnf)<;>repeat(with_reducible refine D1 ?_)<;>conv=>whnf)
   exact ⟨[], [some 0, some 1, none], _, _, _, t3, kn, hkn, rfl, rfl, rfl⟩
  ·have hoth : other K slot c = false := by
    have q := (veq_cmd (cmdOf v) c).symm.trans (Bool.not_eq_false _ ▸ hv)
    unfold other; rw [hat]; simp only [q]; rfl
   obtain ⟨hge, hsame⟩ := learn_same (l := l) hK hs.1 hoth
   have hap := applyF hK' ho (nextG K) hge (putA kn slot c) hkn' (topG (put K (.of slot 0 c)))
   rw [learn_main hK l hs h3 hoth]
   ((conv=>whnf)<;>repeat(with_reducible refine D1 ?_)<;>conv=>whnf)
   refine ⟨[], [some 0, some 1], _, _, _, _, hap, ⟨by ((repeat' first|with_reducible exact Lz.rfl|exact Lw.rfl|exact Lz.wrap (by omega)|(unfold goInt;with_reducible exact Lz.rfl)|exact flx _|constructor); all_goals (first | exact Lz.of (putM_A .i64 encK4 slot c kn) | exact Lz.int htop | exact Lz.of (by simp only [lgS, lgN, hsame]))), by ((repeat' first|with_reducible exact Lz.rfl|exact Lw.rfl|exact Lz.wrap (by omega)|(unfold goInt;with_reducible exact Lz.rfl)|exact flx _|constructor); all_goals (first | exact Lz.of (putM_A .i64 encK4 slot c kn) | exact Lz.int htop | exact Lz.of (by simp only [lgS, lgN, hsame]))), by rfl⟩, ?_⟩
   rintro r o' c' ⟨rfl, rfl, rfl⟩
   ((conv=>whnf)<;>repeat(with_reducible refine D1 ?_)<;>conv=>whnf)
   exact ⟨[], [some 0, some 1, some 6], _, _, _, t3, putA kn slot c, hkn', rfl, rfl, rfl⟩
end Go.M
namespace Go.M
open Go Go.Proofs
set_option maxRecDepth 100000
set_option maxHeartbeats 8000000
theorem awake12 : VC E0 14 0 [] [] (fun r o c => r = .s (.bool true) ∧ o = [] ∧ c = 0) := VC.awakeH (by kernel_rfl) (fun _ => rfl)
noncomputable def kAt (ls : List Vote) : Nat → List Vote
 | 0 => []
 | i + 1 => match ls[i]? with
  | some v => (learnG (kAt ls i) [] v.slot (cmdOf v)).1
  | none => kAt ls i
theorem same_self (l : List CF) (hl : l.length < 1000000) (hn : ∀ c ∈ l, c.nodes.length < 1000000) : VC E0 18 0 [.sl 5 (l.map encCF) false, .sl 5 (l.map encCF) false] [] (RR (.s (.bool true)) 0 []) := by
 have := sameAll_ok l l hl hn
 rwa [eqB_iff.2 rfl] at this
@[reducible] def fr12 (ls : List Vote) : Fr := [(2, .sl 6 (ls.map encV) false)]
end Go.M
namespace Go.M
open Go Go.Proofs
set_option maxRecDepth 100000
set_option maxHeartbeats 4000000
theorem gapsA_snoc (kn : List (Int × Cmd)) : ∀ (n : Nat) (a : Int), gapsA kn (n + 1) a = gapsA kn n a ++ (if (lookA kn (a + n)).isSome = true then [] else [a + n])
 | 0, a => by
  rw [gapsA]
  simp only [gapsA, List.nil_append, Int.natCast_zero, Int.add_zero]
 | n + 1, a => by
  have ih := gapsA_snoc kn n (a + 1)
  have e : a + 1 + (n : Int) = a + ((n + 1 : Nat) : Int) := by omega
  rw [e] at ih
  rw [gapsA, ih, gapsA]
  split <;> simp
theorem gapsN_0 {K : List Vote} : ∀ (a : Nat), (∀ i < a, (atS K (i : Int)).isSome = true) → gapsN K a = []
 | 0, _ => rfl
 | a + 1, h => by rw [gapsN_succ, gapsN_0 a (fun i hi => h i (by omega)), if_pos (h a (by omega))]; rfl
theorem gapsN_add {K : List Vote} {kn : List (Int × Cmd)} (hkn : ∀ s, lookA kn s = (atS K s).map cmdOf) (a : Nat) (hk : ∀ i < a, (atS K (i : Int)).isSome = true) : ∀ n : Nat, gapsN K (a + n) = gapsA kn n (a : Int)
 | 0 => by rw [Nat.add_zero, gapsN_0 a hk]; rfl
 | n + 1 => by
  rw [gapsA_snoc, ← gapsN_add hkn a hk n, ← Nat.add_assoc, gapsN_succ, hkn]
  have e : ((a + n : Nat) : Int) = (a : Int) + (n : Int) := by omega
  rw [e, Option.isSome_map]
theorem gapsG_A {K : List Vote} (hK : okK K) {kn : List (Int × Cmd)} (hkn : ∀ s, lookA kn s = (atS K s).map cmdOf) : gapsA kn (topG K - (nextG K : Int)).toNat (nextG K : Int) = gapsG K := by
 obtain ⟨t0, t1⟩ := topG_rng hK
 have hk : ∀ i < nextG K, (atS K (i : Int)).isSome = true := fun i hi => by
  obtain ⟨v, _, hv⟩ := next_at hK hi
  rw [hv]; rfl
 unfold gapsG
 by_cases h : (nextG K : Int) ≤ topG K
 ·obtain ⟨n, hn⟩ := Int.eq_ofNat_of_zero_le (show 0 ≤ topG K - (nextG K : Int) by omega)
  rw [show (topG K).toNat = nextG K + n by omega, hn, gapsN_add hkn (nextG K) hk n]
  rfl
 ·rw [show (topG K - (nextG K : Int)).toNat = 0 by omega, gapsN_0 _ (fun i hi => hk i (by omega))]
  rfl
theorem gapsC_ok {K : List Vote} (hK : okK K) (l : List CF) {kn : List (Int × Cmd)} (hkn : ∀ s, lookA kn s = (atS K s).map cmdOf) :
 VC E0 31 2 [.ptr 0 0] (stG (lgS kn K l)) (RR (.tk 2) 3 [(2, .arr 1 true ((gapsG K).map encI1)), (0, logO (lgS kn K l) 1), (1, knownO (lgS kn K l))]) := by
 have hlen := hK.len
 have hnl := nextG_le K
 obtain ⟨t0, t1⟩ := topG_rng hK
 have h := VC.gapsO (E := E0) (g := 31) (js := [31]) (f := encK4) (es := kn) (next := (nextG K : Int)) (top := topG K) (done := ((cameG K l (nextG K)).1.length : Nat)) (zc := 5) (cf := (cameG K l (nextG K)).2.map encCF) (by kernel_rfl)
  (fun a h r e => by show orcG [31] _ 31 a h = _; unfold orcG; rw [e]; rfl)
  (fun x => ⟨_, _, _, _, rfl, rfl, rfl, rfl, rfl⟩) (by omega) (by omega)
 rw [gapsG_A hK hkn] at h
 exact h
end Go.M
namespace Go.M
open Go Go.Proofs
structure okN (K : List Vote) (i : Nat) : Prop where
 v : okW K
 full : nextG K = K.length
 few : K.length ≤ i
theorem learn_n6 {K : List Vote} {l : List CF} (hl : okE l) (slot : Int) (c : Cmd) : ∀ x ∈ (learnG K l slot c).2.1, x.nodes.length < 1000 := by
 unfold learnG
 repeat' split
 ·intro x hx; cases hx
 ·intro x hx; cases hx
 ·intro x hx; cases hx
 ·intro x hx
  have := came_n6 hl _ x (List.mem_of_mem_drop hx)
  omega
theorem learn_len {K : List Vote} (h : okK K) (l : List CF) (slot : Int) (c : Cmd) : (learnG K l slot c).2.1.length < 1000 := by
 unfold learnG
 repeat' split
 ·show 0 < 1000; omega
 ·show 0 < 1000; omega
 ·show 0 < 1000; omega
 ·show ((cameN (put K (.of slot 0 c)) l).drop _).length < 1000
  have h1 := cameG_len (put K (.of slot 0 c)) l (nextG (put K (.of slot 0 c)))
  have h2 := nextG_le (put K (.of slot 0 c))
  have h3 := put_lenG (.of slot 0 c) K
  have h4 := h.len
  rw [List.length_drop]
  unfold cameN
  omega
def encC4 (c : Cmd) : List TV := [.s (.int .i64 c.kind), .s (.int .i64 c.chain), .s (.int .u64 c.epoch), .s (.int .i64 c.node)]
end Go.M
