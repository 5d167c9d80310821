/-
  Part 6 of the library that the proof leans on.
-/
import Derived.KernelRfl
import Derived.Test.YtmookciakjmjiaaL5
namespace Go.M
open Go Go.Proofs
set_option maxRecDepth 100000
set_option maxHeartbeats 2000000
def lastL (c : CF) : Int := c.nodes.getLast?.getD 0
def canF (x : CF) : Int := if x.epoch = 18446744073709551615 then 9 else 0
def canR (l : List CF) (x : CF) (c : Cmd) : Int :=
 if c.kind = 1 then (if c.node ∉ standL x then 7 else if (withoutL (settledL x) c.node).length = 0 then 12 else canF x)
 else if c.kind = 2 then (if c.node ∈ allS l then 8 else if x.join ≠ 0 ∨ x.fresh = true then 12 else if x.nodes.length = 5 then 9 else canF x)
 else if c.kind = 3 then (if x.join ≠ c.node then 7 else if x.nodes.length = 5 then 9 else canF x)
 else (if x.fresh = false ∨ lastL x ≠ c.node then 7 else canF x)
theorem lastI {l : List Int} {K : List TV → Prop} (h : 1 ≤ l.length ∧ l.length ≤ 5) (hK : K (encI1 (l.getLast?.getD 0))) : ∃ e, (0 ≤ IntKind.i64.wrap ((((l.map encI1).length : Nat) : Int) - 1) ∧ (l.map encI1)[(IntKind.i64.wrap ((((l.map encI1).length : Nat) : Int) - 1)).toNat]? = some e) ∧ K e := by
 have hw : IntKind.i64.wrap ((((l.map encI1).length : Nat) : Int) - 1) = ((l.length - 1 : Nat) : Int) := by
  rw [List.length_map, IntWalk.i64_in _ (by omega)]; omega
 rw [hw]
 refine ⟨_, ⟨by omega, ?_⟩, hK⟩
 rw [Int.toNat_natCast, List.getElem?_map, ← List.getLast?_eq_getElem?]
 cases hq : l.getLast? with
 | none => rw [List.getLast?_eq_none_iff] at hq; subst hq; exact absurd h.1 (by decide)
 | some a => rfl
theorem refcan_ok (l : List CF) (x : CF) (c : Cmd) (he : 0 ≤ x.epoch) (hr : rightP x) (hl : l.length < 10000) (hn : ∀ c ∈ l, c.nodes.length < 10000) : VC E0 79 0 [.sl 5 (l.map encCF) false, .agg (encCF x), cT4 c] [] (RR (.s (.int .i64 (canR l x c))) 0 []) := by
 have h5 := hr.2.2.1
 have hsl := standL_len x
 refine VC.enterR L0 (show E0.func 79 = some Try.f79 by kernel_rfl) (fun _ _ => rfl) rfl rfl [] ?_
 ((conv=>whnf)<;>repeat(with_reducible refine D1 ?_)<;>conv=>whnf)
 refine lastI h5 ?_
 ((conv=>whnf)<;>repeat(with_reducible refine D1 ?_)<;>conv=>whnf)
 (first|refine ⟨?_,?_⟩|refine nsplit ?_ ?_|refine bsplit ?_ ?_)<;>intro k1<;>have hz_:=True.intro<;>clear hz_
 ·have k1 : c.kind = 1 := k1
  have hC : canR l x c = if c.node ∉ standL x then 7 else if (withoutL (settledL x) c.node).length = 0 then 12 else canF x := by unfold canR; rw [if_pos k1]
  ((conv=>whnf)<;>repeat(with_reducible refine D1 ?_)<;>conv=>whnf)
  refine ⟨[], [], _, _, _, _, standsC x (by omega), t3, ?_⟩
  rintro r o' c' ⟨rfl, rfl, rfl⟩
  ((conv=>whnf)<;>repeat(with_reducible refine D1 ?_)<;>conv=>whnf)
  refine ⟨[2], [], _, _, _, _, has04_ok (standL x) c.node (by omega), t3, ?_⟩
  rintro r o' c' ⟨rfl, rfl, rfl⟩
  by_cases hm : c.node ∈ standL x
  ·rw [if_neg (fun q => q hm)] at hC
   rw [decide_eq_true hm]
   ((conv=>whnf)<;>repeat(with_reducible refine D1 ?_)<;>conv=>whnf)
   refine ⟨[], [], _, _, _, _, refSettled_ok x he hr, t3, ?_⟩
   rintro r o' c' ⟨rfl, rfl, rfl⟩
   ((conv=>whnf)<;>repeat(with_reducible refine D1 ?_)<;>conv=>whnf)
   have hsn : (settledL x).length ≤ x.nodes.length := by unfold settledL; split <;> simp
   refine ⟨[], [], _, _, _, _, without_ok (settledL x) c.node (by omega), t3, ?_⟩
   rintro r o' c' ⟨rfl, rfl, rfl⟩
   ((conv=>whnf)<;>repeat(with_reducible refine D1 ?_)<;>conv=>whnf)
   (first|refine ⟨?_,?_⟩|refine nsplit ?_ ?_|refine bsplit ?_ ?_)<;>intro hz<;>have hz_:=True.intro<;>clear hz_
   ·have hz : ((((withoutL (settledL x) c.node).map encI1).length : Nat) : Int) = 0 := hz
    rw [List.length_map] at hz
    rw [if_pos (by omega)] at hC
    ((conv=>whnf)<;>repeat(with_reducible refine D1 ?_)<;>conv=>whnf)
    refine ⟨[], [], ?_⟩
    iterate 3 constructor
    refine ⟨⟨?_, ?_, ?_⟩, rfl, rfl, rfl⟩
    all_goals (repeat' first|with_reducible exact Lz.rfl|exact Lw.rfl|exact Lz.wrap (by omega)|(unfold goInt;with_reducible exact Lz.rfl)|exact flx _|constructor)
    exact Lz.int hC.symm
   ·have hz : ¬ ((((withoutL (settledL x) c.node).map encI1).length : Nat) : Int) = 0 := hz
    rw [List.length_map] at hz
    rw [if_neg (by omega)] at hC
    ((conv=>whnf)<;>repeat(with_reducible refine D1 ?_)<;>conv=>whnf)
    (first|refine ⟨?_,?_⟩|refine nsplit ?_ ?_|refine bsplit ?_ ?_)<;>intro hm<;>have hz_:=True.intro<;>clear hz_
    ·have hm : x.epoch = 18446744073709551615 := hm
     ((conv=>whnf)<;>repeat(with_reducible refine D1 ?_)<;>conv=>whnf)
     refine ⟨[], [], ?_⟩
     iterate 3 constructor
     refine ⟨⟨?_, ?_, ?_⟩, rfl, rfl, rfl⟩
     all_goals (repeat' first|with_reducible exact Lz.rfl|exact Lw.rfl|exact Lz.wrap (by omega)|(unfold goInt;with_reducible exact Lz.rfl)|exact flx _|constructor)
     exact Lz.int (by rw [hC]; unfold canF; rw [if_pos hm])
    ·have hm : ¬ x.epoch = 18446744073709551615 := hm
     ((conv=>whnf)<;>repeat(with_reducible refine D1 ?_)<;>conv=>whnf)
     refine ⟨[], [], ?_⟩
     iterate 3 constructor
     refine ⟨⟨?_, ?_, ?_⟩, rfl, rfl, rfl⟩
     all_goals (repeat' first|with_reducible exact Lz.rfl|exact Lw.rfl|exact Lz.wrap (by omega)|(unfold goInt;with_reducible exact Lz.rfl)|exact flx _|constructor)
     exact Lz.int (by rw [hC]; unfold canF; rw [if_neg hm])
  ·rw [if_pos hm] at hC
   rw [decide_eq_false hm]
   ((conv=>whnf)<;>repeat(with_reducible refine D1 ?_)<;>conv=>whnf)
   refine ⟨[], [], ?_⟩
   iterate 3 constructor
   refine ⟨⟨?_, ?_, ?_⟩, rfl, rfl, rfl⟩
   all_goals (repeat' first|with_reducible exact Lz.rfl|exact Lw.rfl|exact Lz.wrap (by omega)|(unfold goInt;with_reducible exact Lz.rfl)|exact flx _|constructor)
   exact Lz.int hC.symm
 ·have k1 : ¬ c.kind = 1 := k1
  ((conv=>whnf)<;>repeat(with_reducible refine D1 ?_)<;>conv=>whnf)
  (first|refine ⟨?_,?_⟩|refine nsplit ?_ ?_|refine bsplit ?_ ?_)<;>intro k2<;>have hz_:=True.intro<;>clear hz_
  ·have k2 : c.kind = 2 := k2
   have hC : canR l x c = if c.node ∈ allS l then 8 else if x.join ≠ 0 ∨ x.fresh = true then 12 else if x.nodes.length = 5 then 9 else canF x := by unfold canR; rw [if_neg k1, if_pos k2]
   ((conv=>whnf)<;>repeat(with_reducible refine D1 ?_)<;>conv=>whnf)
   refine ⟨[], [], _, _, _, _, refUsed_ok l c.node hl hn, t3, ?_⟩
   rintro r o' c' ⟨rfl, rfl, rfl⟩
   by_cases hm : c.node ∈ allS l
   ·rw [if_pos hm] at hC
    rw [decide_eq_true hm]
    ((conv=>whnf)<;>repeat(with_reducible refine D1 ?_)<;>conv=>whnf)
    refine ⟨[], [], ?_⟩
    iterate 3 constructor
    refine ⟨⟨?_, ?_, ?_⟩, rfl, rfl, rfl⟩
    all_goals (repeat' first|with_reducible exact Lz.rfl|exact Lw.rfl|exact Lz.wrap (by omega)|(unfold goInt;with_reducible exact Lz.rfl)|exact flx _|constructor)
    exact Lz.int hC.symm
   ·rw [if_neg hm] at hC
    rw [decide_eq_false hm]
    ((conv=>whnf)<;>repeat(with_reducible refine D1 ?_)<;>conv=>whnf)
    (first|refine ⟨?_,?_⟩|refine nsplit ?_ ?_|refine bsplit ?_ ?_)<;>intro hj<;>have hz_:=True.intro<;>clear hz_
    ·have hj : x.join ≠ 0 := hj
     rw [if_pos (.inl hj)] at hC
     ((conv=>whnf)<;>repeat(with_reducible refine D1 ?_)<;>conv=>whnf)
     refine ⟨[], [], ?_⟩
     iterate 3 constructor
     refine ⟨⟨?_, ?_, ?_⟩, rfl, rfl, rfl⟩
     all_goals (repeat' first|with_reducible exact Lz.rfl|exact Lw.rfl|exact Lz.wrap (by omega)|(unfold goInt;with_reducible exact Lz.rfl)|exact flx _|constructor)
     exact Lz.int hC.symm
    ·have hj : x.join = 0 := Classical.not_not.1 hj
     ((conv=>whnf)<;>repeat(with_reducible refine D1 ?_)<;>conv=>whnf)
     cases hf : x.fresh
     ·rw [if_neg (by rw [hj, hf]; simp)] at hC
      ((conv=>whnf)<;>repeat(with_reducible refine D1 ?_)<;>conv=>whnf)
      (first|refine ⟨?_,?_⟩|refine nsplit ?_ ?_|refine bsplit ?_ ?_)<;>intro hz<;>have hz_:=True.intro<;>clear hz_
      ·have hz : (((x.nodes.map encI1).length : Nat) : Int) = 5 := hz
       rw [List.length_map] at hz
       rw [if_pos (by omega)] at hC
       ((conv=>whnf)<;>repeat(with_reducible refine D1 ?_)<;>conv=>whnf)
       refine ⟨[], [], ?_⟩
       iterate 3 constructor
       refine ⟨⟨?_, ?_, ?_⟩, rfl, rfl, rfl⟩
       all_goals (repeat' first|with_reducible exact Lz.rfl|exact Lw.rfl|exact Lz.wrap (by omega)|(unfold goInt;with_reducible exact Lz.rfl)|exact flx _|constructor)
       exact Lz.int hC.symm
      ·have hz : ¬ (((x.nodes.map encI1).length : Nat) : Int) = 5 := hz
       rw [List.length_map] at hz
       rw [if_neg (by omega)] at hC
       ((conv=>whnf)<;>repeat(with_reducible refine D1 ?_)<;>conv=>whnf)
       (first|refine ⟨?_,?_⟩|refine nsplit ?_ ?_|refine bsplit ?_ ?_)<;>intro hm<;>have hz_:=True.intro<;>clear hz_
       ·have hm : x.epoch = 18446744073709551615 := hm
        ((conv=>whnf)<;>repeat(with_reducible refine D1 ?_)<;>conv=>whnf)
        refine ⟨[], [], ?_⟩
        iterate 3 constructor
        refine ⟨⟨?_, ?_, ?_⟩, rfl, rfl, rfl⟩
        all_goals (repeat' first|with_reducible exact Lz.rfl|exact Lw.rfl|exact Lz.wrap (by omega)|(unfold goInt;with_reducible exact Lz.rfl)|exact flx _|constructor)
        exact Lz.int (by rw [hC]; unfold canF; rw [if_pos hm])
       ·have hm : ¬ x.epoch = 18446744073709551615 := hm
        ((conv=>whnf)<;>repeat(with_reducible refine D1 ?_)<;>conv=>whnf)
        refine ⟨[], [], ?_⟩
        iterate 3 constructor
        refine ⟨⟨?_, ?_, ?_⟩, rfl, rfl, rfl⟩
        all_goals (repeat' first|with_reducible exact Lz.rfl|exact Lw.rfl|exact Lz.wrap (by omega)|(unfold goInt;with_reducible exact Lz.rfl)|exact flx _|constructor)
        exact Lz.int (by rw [hC]; unfold canF; rw [if_neg hm])
     ·rw [if_pos (.inr hf)] at hC
      ((conv=>whnf)<;>repeat(with_reducible refine D1 ?_)<;>conv=>whnf)
      refine ⟨[], [], ?_⟩
      iterate 3 constructor
      refine ⟨⟨?_, ?_, ?_⟩, rfl, rfl, rfl⟩
      all_goals (repeat' first|with_reducible exact Lz.rfl|exact Lw.rfl|exact Lz.wrap (by omega)|(unfold goInt;with_reducible exact Lz.rfl)|exact flx _|constructor)
      exact Lz.int hC.symm
  ·have k2 : ¬ c.kind = 2 := k2
   ((conv=>whnf)<;>repeat(with_reducible refine D1 ?_)<;>conv=>whnf)
   (first|refine ⟨?_,?_⟩|refine nsplit ?_ ?_|refine bsplit ?_ ?_)<;>intro k3<;>have hz_:=True.intro<;>clear hz_
   ·have k3 : c.kind = 3 := k3
    have hC : canR l x c = if x.join ≠ c.node then 7 else if x.nodes.length = 5 then 9 else canF x := by unfold canR; rw [if_neg k1, if_neg k2, if_pos k3]
    ((conv=>whnf)<;>repeat(with_reducible refine D1 ?_)<;>conv=>whnf)
    (first|refine ⟨?_,?_⟩|refine nsplit ?_ ?_|refine bsplit ?_ ?_)<;>intro hj<;>have hz_:=True.intro<;>clear hz_
    ·have hj : x.join ≠ c.node := hj
     rw [if_pos hj] at hC
     ((conv=>whnf)<;>repeat(with_reducible refine D1 ?_)<;>conv=>whnf)
     refine ⟨[], [], ?_⟩
     iterate 3 constructor
     refine ⟨⟨?_, ?_, ?_⟩, rfl, rfl, rfl⟩
     all_goals (repeat' first|with_reducible exact Lz.rfl|exact Lw.rfl|exact Lz.wrap (by omega)|(unfold goInt;with_reducible exact Lz.rfl)|exact flx _|constructor)
     exact Lz.int hC.symm
    ·have hj : ¬ x.join ≠ c.node := hj
     rw [if_neg hj] at hC
     ((conv=>whnf)<;>repeat(with_reducible refine D1 ?_)<;>conv=>whnf)
     (first|refine ⟨?_,?_⟩|refine nsplit ?_ ?_|refine bsplit ?_ ?_)<;>intro hz<;>have hz_:=True.intro<;>clear hz_
     ·have hz : (((x.nodes.map encI1).length : Nat) : Int) = 5 := hz
      rw [List.length_map] at hz
      rw [if_pos (by omega)] at hC
      ((conv=>whnf)<;>repeat(with_reducible refine D1 ?_)<;>conv=>whnf)
      refine ⟨[], [], ?_⟩
      iterate 3 constructor
      refine ⟨⟨?_, ?_, ?_⟩, rfl, rfl, rfl⟩
      all_goals (repeat' first|with_reducible exact Lz.rfl|exact Lw.rfl|exact Lz.wrap (by omega)|(unfold goInt;with_reducible exact Lz.rfl)|exact flx _|constructor)
      exact Lz.int hC.symm
     ·have hz : ¬ (((x.nodes.map encI1).length : Nat) : Int) = 5 := hz
      rw [List.length_map] at hz
      rw [if_neg (by omega)] at hC
      ((conv=>whnf)<;>repeat(with_reducible refine D1 ?_)<;>conv=>whnf)
      (first|refine ⟨?_,?_⟩|refine nsplit ?_ ?_|refine bsplit ?_ ?_)<;>intro hm<;>have hz_:=True.intro<;>clear hz_
      ·have hm : x.epoch = 18446744073709551615 := hm
       ((conv=>whnf)<;>repeat(with_reducible refine D1 ?_)<;>conv=>whnf)
       refine ⟨[], [], ?_⟩
       iterate 3 constructor
       refine ⟨⟨?_, ?_, ?_⟩, rfl, rfl, rfl⟩
       all_goals (repeat' first|with_reducible exact Lz.rfl|exact Lw.rfl|exact Lz.wrap (by omega)|(unfold goInt;with_reducible exact Lz.rfl)|exact flx _|constructor)
       exact Lz.int (by rw [hC]; unfold canF; rw [if_pos hm])
      ·have hm : ¬ x.epoch = 18446744073709551615 := hm
       ((conv=>whnf)<;>repeat(with_reducible refine D1 ?_)<;>conv=>whnf)
       refine ⟨[], [], ?_⟩
       iterate 3 constructor
       refine ⟨⟨?_, ?_, ?_⟩, rfl, rfl, rfl⟩
       all_goals (repeat' first|with_reducible exact Lz.rfl|exact Lw.rfl|exact Lz.wrap (by omega)|(unfold goInt;with_reducible exact Lz.rfl)|exact flx _|constructor)
       exact Lz.int (by rw [hC]; unfold canF; rw [if_neg hm])
   ·have k3 : ¬ c.kind = 3 := k3
    have hC : canR l x c = if x.fresh = false ∨ lastL x ≠ c.node then 7 else canF x := by unfold canR; rw [if_neg k1, if_neg k2, if_neg k3]
    ((conv=>whnf)<;>repeat(with_reducible refine D1 ?_)<;>conv=>whnf)
    cases hf : x.fresh
    ·rw [if_pos (.inl hf)] at hC
     ((conv=>whnf)<;>repeat(with_reducible refine D1 ?_)<;>conv=>whnf)
     refine ⟨[], [], ?_⟩
     iterate 3 constructor
     refine ⟨⟨?_, ?_, ?_⟩, rfl, rfl, rfl⟩
     all_goals (repeat' first|with_reducible exact Lz.rfl|exact Lw.rfl|exact Lz.wrap (by omega)|(unfold goInt;with_reducible exact Lz.rfl)|exact flx _|constructor)
     exact Lz.int hC.symm
    ·((conv=>whnf)<;>repeat(with_reducible refine D1 ?_)<;>conv=>whnf)
     (first|refine ⟨?_,?_⟩|refine nsplit ?_ ?_|refine bsplit ?_ ?_)<;>intro hla<;>have hz_:=True.intro<;>clear hz_
     ·have hla : lastL x ≠ c.node := hla
      rw [if_pos (.inr hla)] at hC
      ((conv=>whnf)<;>repeat(with_reducible refine D1 ?_)<;>conv=>whnf)
      refine ⟨[], [], ?_⟩
      iterate 3 constructor
      refine ⟨⟨?_, ?_, ?_⟩, rfl, rfl, rfl⟩
      all_goals (repeat' first|with_reducible exact Lz.rfl|exact Lw.rfl|exact Lz.wrap (by omega)|(unfold goInt;with_reducible exact Lz.rfl)|exact flx _|constructor)
      exact Lz.int hC.symm
     ·have hla : ¬ lastL x ≠ c.node := hla
      rw [if_neg (by rw [hf]; simpa using hla)] at hC
      ((conv=>whnf)<;>repeat(with_reducible refine D1 ?_)<;>conv=>whnf)
      (first|refine ⟨?_,?_⟩|refine nsplit ?_ ?_|refine bsplit ?_ ?_)<;>intro hm<;>have hz_:=True.intro<;>clear hz_
      ·have hm : x.epoch = 18446744073709551615 := hm
       ((conv=>whnf)<;>repeat(with_reducible refine D1 ?_)<;>conv=>whnf)
       refine ⟨[], [], ?_⟩
       iterate 3 constructor
       refine ⟨⟨?_, ?_, ?_⟩, rfl, rfl, rfl⟩
       all_goals (repeat' first|with_reducible exact Lz.rfl|exact Lw.rfl|exact Lz.wrap (by omega)|(unfold goInt;with_reducible exact Lz.rfl)|exact flx _|constructor)
       exact Lz.int (by rw [hC]; unfold canF; rw [if_pos hm])
      ·have hm : ¬ x.epoch = 18446744073709551615 := hm
       ((conv=>whnf)<;>repeat(with_reducible refine D1 ?_)<;>conv=>whnf)
       refine ⟨[], [], ?_⟩
       iterate 3 constructor
       refine ⟨⟨?_, ?_, ?_⟩, rfl, rfl, rfl⟩
       all_goals (repeat' first|with_reducible exact Lz.rfl|exact Lw.rfl|exact Lz.wrap (by omega)|(unfold goInt;with_reducible exact Lz.rfl)|exact flx _|constructor)
       exact Lz.int (by rw [hC]; unfold canF; rw [if_neg hm])
end Go.M
namespace Go.M
open Go Go.Proofs
set_option maxRecDepth 100000
set_option maxHeartbeats 2000000
open Classical in
noncomputable def canL (l : List CF) (c : Cmd) : Int :=
 if ¬ allP l then 1 else if c.check ≠ 0 then c.check else if c.kind = 0 then 0 else
 match l[c.chain.toNat]? with
 | none => 7
 | some x => if x.epoch ≠ c.epoch then 10 else canR l x c
theorem check_rng {c : Cmd} (h : c.check = 0) (hk : c.kind ≠ 0) : 0 ≤ c.chain ∧ c.chain < 4 ∧ 1 ≤ c.epoch ∧ (0 ≤ c.kind ∧ c.kind < 5) ∧ 1 ≤ c.node ∧ c.node ≤ 24 := by
 unfold Cmd.check checkS at h
 repeat' split at h
 all_goals first | omega | (exact absurd h (by decide)) | (exfalso; omega)
theorem allP_in {l : List CF} (h : allP l) {c : CF} (hc : c ∈ l) : rightP c := by
 obtain ⟨i, hi, rfl⟩ := List.mem_iff_getElem.1 hc
 exact (h.2.1 i hi).2
open Classical in
theorem refCan_ok (l : List CF) (c : Cmd) (hep : ∀ c ∈ l, 0 ≤ c.epoch) (hc : 0 ≤ c.epoch) (hl : l.length < 10000) : VC E0 26 0 [.sl 5 (l.map encCF) false, cT4 c] [] (RR (.s (.int .i64 (canL l c))) 0 []) := by
 refine VC.enterR L0 (show E0.func 26 = some Try.f26 by kernel_rfl) (fun _ _ => rfl) rfl rfl [] ?_
 ((conv=>whnf)<;>repeat(with_reducible refine D1 ?_)<;>conv=>whnf)
 refine ⟨[], [], _, _, _, _, refAll_okC l hep hl, t3, ?_⟩
 rintro r o' c' ⟨rfl, rfl, rfl⟩
 by_cases ha : allP l
 rotate_left
 ·rw [decide_eq_false ha]
  ((conv=>whnf)<;>repeat(with_reducible refine D1 ?_)<;>conv=>whnf)
  refine ⟨[], [], ?_⟩
  iterate 3 constructor
  refine ⟨⟨?_, ?_, ?_⟩, rfl, rfl, rfl⟩
  all_goals (repeat' first|with_reducible exact Lz.rfl|exact Lw.rfl|exact Lz.wrap (by omega)|(unfold goInt;with_reducible exact Lz.rfl)|exact flx _|constructor)
  exact Lz.int (by unfold canL; rw [if_pos ha])
 rw [decide_eq_true ha]
 ((conv=>whnf)<;>repeat(with_reducible refine D1 ?_)<;>conv=>whnf)
 refine ⟨[], [], _, _, _, _, refCheck_ok c.kind c.chain c.epoch c.node hc, t3, ?_⟩
 rintro r o' c' ⟨rfl, rfl, rfl⟩
 ((conv=>whnf)<;>repeat(with_reducible refine D1 ?_)<;>conv=>whnf)
 (first|refine ⟨?_,?_⟩|refine nsplit ?_ ?_|refine bsplit ?_ ?_)<;>intro hk<;>have hz_:=True.intro<;>clear hz_
 ·have hk : c.check ≠ 0 := hk
  ((conv=>whnf)<;>repeat(with_reducible refine D1 ?_)<;>conv=>whnf)
  refine ⟨[], [], ?_⟩
  iterate 3 constructor
  refine ⟨⟨?_, ?_, ?_⟩, rfl, rfl, rfl⟩
  all_goals (repeat' first|with_reducible exact Lz.rfl|exact Lw.rfl|exact Lz.wrap (by omega)|(unfold goInt;with_reducible exact Lz.rfl)|exact flx _|constructor)
  exact Lz.int (by unfold canL; rw [if_neg (fun q => q ha), if_pos hk]; rfl)
 have hk : c.check = 0 := Classical.not_not.1 hk
 ((conv=>whnf)<;>repeat(with_reducible refine D1 ?_)<;>conv=>whnf)
 (first|refine ⟨?_,?_⟩|refine nsplit ?_ ?_|refine bsplit ?_ ?_)<;>intro h0<;>have hz_:=True.intro<;>clear hz_
 ·have h0 : c.kind = 0 := h0
  ((conv=>whnf)<;>repeat(with_reducible refine D1 ?_)<;>conv=>whnf)
  refine ⟨[], [], ?_⟩
  iterate 3 constructor
  refine ⟨⟨?_, ?_, ?_⟩, rfl, rfl, rfl⟩
  all_goals (repeat' first|with_reducible exact Lz.rfl|exact Lw.rfl|exact Lz.wrap (by omega)|(unfold goInt;with_reducible exact Lz.rfl)|exact flx _|constructor)
  exact Lz.int (by unfold canL; rw [if_neg (fun q => q ha), if_neg (fun q => q hk), if_pos h0])
 have h0 : ¬ c.kind = 0 := h0
 have hrg := check_rng hk h0
 ((conv=>whnf)<;>repeat(with_reducible refine D1 ?_)<;>conv=>whnf)
 (first|refine ⟨?_,?_⟩|refine nsplit ?_ ?_|refine bsplit ?_ ?_)<;>intro h1<;>have hz_:=True.intro<;>clear hz_
 ·have h1 : c.chain ≥ (((l.map encCF).length : Nat) : Int) := h1
  rw [List.length_map] at h1
  have hnone : l[c.chain.toNat]? = none := List.getElem?_eq_none (by omega)
  ((conv=>whnf)<;>repeat(with_reducible refine D1 ?_)<;>conv=>whnf)
  refine ⟨[], [], ?_⟩
  iterate 3 constructor
  refine ⟨⟨?_, ?_, ?_⟩, rfl, rfl, rfl⟩
  all_goals (repeat' first|with_reducible exact Lz.rfl|exact Lw.rfl|exact Lz.wrap (by omega)|(unfold goInt;with_reducible exact Lz.rfl)|exact flx _|constructor)
  exact Lz.int (by unfold canL; rw [if_neg (fun q => q ha), if_neg (fun q => q hk), if_neg h0, hnone])
 have h1 : ¬ c.chain ≥ (((l.map encCF).length : Nat) : Int) := h1
 rw [List.length_map] at h1
 have hlt : c.chain.toNat < l.length := by omega
 have hsome : l[c.chain.toNat]? = some l[c.chain.toNat] := List.getElem?_eq_getElem hlt
 have hC : canL l c = if l[c.chain.toNat].epoch ≠ c.epoch then 10 else canR l l[c.chain.toNat] c := by unfold canL; rw [if_neg (fun q => q ha), if_neg (fun q => q hk), if_neg h0, hsome]
 ((conv=>whnf)<;>repeat(with_reducible refine D1 ?_)<;>conv=>whnf)
 refine idxI' hrg.1 hlt ?_
 ((conv=>whnf)<;>repeat(with_reducible refine D1 ?_)<;>conv=>whnf)
 (first|refine ⟨?_,?_⟩|refine nsplit ?_ ?_|refine bsplit ?_ ?_)<;>intro h2<;>have hz_:=True.intro<;>clear hz_
 ·have h2 : l[c.chain.toNat].epoch ≠ c.epoch := h2
  rw [if_pos h2] at hC
  ((conv=>whnf)<;>repeat(with_reducible refine D1 ?_)<;>conv=>whnf)
  refine ⟨[], [], ?_⟩
  iterate 3 constructor
  refine ⟨⟨?_, ?_, ?_⟩, rfl, rfl, rfl⟩
  all_goals (repeat' first|with_reducible exact Lz.rfl|exact Lw.rfl|exact Lz.wrap (by omega)|(unfold goInt;with_reducible exact Lz.rfl)|exact flx _|constructor)
  exact Lz.int hC.symm
 have h2 : ¬ l[c.chain.toNat].epoch ≠ c.epoch := h2
 rw [if_neg h2] at hC
 ((conv=>whnf)<;>repeat(with_reducible refine D1 ?_)<;>conv=>whnf)
 refine idxI' hrg.1 hlt ?_
 ((conv=>whnf)<;>repeat(with_reducible refine D1 ?_)<;>conv=>whnf)
 refine ⟨[], [], _, _, _, _, refcan_ok l l[c.chain.toNat] c (hep _ (List.getElem_mem hlt)) (allP_in ha (List.getElem_mem hlt)) hl (fun x hx => by have := (allP_in ha hx).2.2.1; omega), t3, ?_⟩
 rintro r o' c' ⟨rfl, rfl, rfl⟩
 ((conv=>whnf)<;>repeat(with_reducible refine D1 ?_)<;>conv=>whnf)
 refine ⟨[], [], ?_⟩
 iterate 3 constructor
 refine ⟨⟨?_, ?_, ?_⟩, rfl, rfl, rfl⟩
 all_goals (repeat' first|with_reducible exact Lz.rfl|exact Lw.rfl|exact Lz.wrap (by omega)|(unfold goInt;with_reducible exact Lz.rfl)|exact flx _|constructor)
 exact Lz.int hC.symm
theorem last_ok (c : CF) (h5 : 1 ≤ c.nodes.length ∧ c.nodes.length ≤ 5) : VC E0 161 0 [.agg (encCF c)] [] (RR (.s (.int .i64 (lastL c))) 0 []) := by
 refine VC.enterR L0 (show E0.func 161 = some Try.f161 by kernel_rfl) (fun _ _ => rfl) rfl rfl [] ?_
 ((conv=>whnf)<;>repeat(with_reducible refine D1 ?_)<;>conv=>whnf)
 refine lastI h5 ?_
 ((conv=>whnf)<;>repeat(with_reducible refine D1 ?_)<;>conv=>whnf)
 exact ⟨[], [], _, _, _, t3, rfl, rfl, rfl⟩
theorem settled_ok (c : CF) (h5 : 1 ≤ c.nodes.length ∧ c.nodes.length ≤ 5) : VC E0 159 0 [.agg (encCF c)] [] (RR (.tk 0) 1 [(0, .arr 1 true ((settledL c).map encI1))]) := by
 refine VC.enterR L0 (show E0.func 159 = some Try.f159 by kernel_rfl) (fun _ _ => rfl) rfl rfl [] ?_
 ((conv=>whnf)<;>repeat(with_reducible refine D1 ?_)<;>conv=>whnf)
 cases hf : c.fresh
 ·((conv=>whnf)<;>repeat(with_reducible refine D1 ?_)<;>conv=>whnf)
  refine ⟨[], [], _, _, _, _, cloneI_ok c.nodes (by omega), t3, ?_⟩
  rintro r o' c' ⟨rfl, rfl, rfl⟩
  ((conv=>whnf)<;>repeat(with_reducible refine D1 ?_)<;>conv=>whnf)
  refine ⟨[], [some 1], ?_⟩
  iterate 3 constructor
  refine ⟨⟨?_, ?_, ?_⟩, rfl, rfl, rfl⟩
  all_goals (repeat' first|with_reducible exact Lz.rfl|exact Lw.rfl|exact Lz.wrap (by omega)|(unfold goInt;with_reducible exact Lz.rfl)|exact flx _|constructor)
  exact Lz.of (by unfold settledL; rw [hf]; simp)
 ·((conv=>whnf)<;>repeat(with_reducible refine D1 ?_)<;>conv=>whnf)
  have hw : IntKind.i64.wrap ((((c.nodes.map encI1).length : Nat) : Int) - 1) = ((c.nodes.length - 1 : Nat) : Int) := by
   rw [List.length_map, IntWalk.i64_in _ (by omega)]; omega
  refine ⟨by rw [hw, List.length_map]; omega, ?_⟩
  ((conv=>whnf)<;>repeat(with_reducible refine D1 ?_)<;>conv=>whnf)
  refine ⟨[], [], _, _, _, _, cloneI_ok (c.nodes.take (c.nodes.length - 1)) (by rw [List.length_take]; omega), ⟨by ((repeat' first|with_reducible exact Lz.rfl|exact Lw.rfl|exact Lz.wrap (by omega)|(unfold goInt;with_reducible exact Lz.rfl)|exact flx _|constructor); all_goals (exact Lz.of (by rw [hw]; simp [List.map_take]))), by ((repeat' first|with_reducible exact Lz.rfl|exact Lw.rfl|exact Lz.wrap (by omega)|(unfold goInt;with_reducible exact Lz.rfl)|exact flx _|constructor); all_goals (exact Lz.of (by rw [hw]; simp [List.map_take]))), by rfl⟩, ?_⟩
  rintro r o' c' ⟨rfl, rfl, rfl⟩
  ((conv=>whnf)<;>repeat(with_reducible refine D1 ?_)<;>conv=>whnf)
  refine ⟨[], [some 1], ?_⟩
  iterate 3 constructor
  refine ⟨⟨?_, ?_, ?_⟩, rfl, rfl, rfl⟩
  all_goals (repeat' first|with_reducible exact Lz.rfl|exact Lw.rfl|exact Lz.wrap (by omega)|(unfold goInt;with_reducible exact Lz.rfl)|exact flx _|constructor)
  exact Lz.of (by unfold settledL; rw [hf]; simp)
end Go.M
namespace Go.M
open Go Go.Proofs
set_option maxRecDepth 100000
set_option maxHeartbeats 2000000
@[reducible] def stN (n : Int) : Ob := [(0, .cells [.s (.int .i64 n)])]
def otherB (n m : Int) : Bool := decide (m ≠ n)
theorem otherC (n m : Int) : VC E0 160 1 [.s (.int .i64 m), .ptr 0 0] (stN n) (RR (.s (.bool (otherB n m))) 1 (stN n)) := by
 refine VC.enterR L0 (show E0.func 160 = some Try.f160 by kernel_rfl) (fun _ _ => rfl) rfl rfl [] ?_
 ((conv=>whnf)<;>repeat(with_reducible refine D1 ?_)<;>conv=>whnf)
 (first|refine ⟨?_,?_⟩|refine nsplit ?_ ?_|refine bsplit ?_ ?_)<;>intro h<;>have hz_:=True.intro<;>clear hz_
 ·have h : m ≠ n := h
  ((conv=>whnf)<;>repeat(with_reducible refine D1 ?_)<;>conv=>whnf)
  refine ⟨[], [some 0], ?_⟩
  iterate 3 constructor
  refine ⟨⟨?_, ?_, ?_⟩, rfl, rfl, rfl⟩
  all_goals (repeat' first|with_reducible exact Lz.rfl|exact Lw.rfl|exact Lz.wrap (by omega)|(unfold goInt;with_reducible exact Lz.rfl)|exact flx _|constructor)
  exact Lz.of (bool_eq (Eq.symm (decide_eq_true h)))
 ·have h : ¬ m ≠ n := h
  ((conv=>whnf)<;>repeat(with_reducible refine D1 ?_)<;>conv=>whnf)
  refine ⟨[], [some 0], ?_⟩
  iterate 3 constructor
  refine ⟨⟨?_, ?_, ?_⟩, rfl, rfl, rfl⟩
  all_goals (repeat' first|with_reducible exact Lz.rfl|exact Lw.rfl|exact Lz.wrap (by omega)|(unfold goInt;with_reducible exact Lz.rfl)|exact flx _|constructor)
  exact Lz.of (bool_eq (Eq.symm (decide_eq_false h)))
theorem idxOC (n : Int) (vs : List Int) (hl : vs.length < 1000000) : VC E0 178 1 [.sl 1 (vs.map encI1) false, .clo 160 [] [.ptr 0 0]] (stN n)
 (fun r o c' => ∃ i : Int, r = .s (.int .i64 i) ∧ c' = 1 ∧ o = stN n ∧ ((i = -1 ∧ ∀ v ∈ vs, otherB n v = false) ∨ 0 ≤ i ∧ ∃ v ∈ vs, otherB n v = true)) := by
 refine VC.enterR L0 (show E0.func 178 = some Try.f178 by kernel_rfl) (fun _ _ => rfl) rfl rfl [] ?_
 ((conv=>whnf)<;>repeat(with_reducible refine D1 ?_)<;>conv=>whnf)
 refine ⟨fun k f o c' => ∃ j : Nat, j ≤ vs.length ∧ k = vs.length - j ∧ (∀ v ∈ vs.take j, otherB n v = false) ∧ c' = 1 ∧ f = [(0, .sl 1 (vs.map encI1) false), (1, .clo 160 [] [.ptr 0 0]), (7, .s (.int .i64 vs.length)), (8, .s (.int .i64 j))] ∧ o = stN n, ⟨vs.length, ?_⟩, ?_⟩
 ·refine ⟨[], [some 0], ?_⟩
  iterate 3 constructor
  refine ⟨⟨?_, ?_, ?_⟩, ⟨0, Nat.zero_le _, rfl, by simp, rfl, rfl, rfl⟩⟩
  all_goals (repeat' first|with_reducible exact Lz.rfl|exact Lw.rfl|exact Lz.wrap (by omega)|(unfold goInt;with_reducible exact Lz.rfl)|exact flx _|constructor)
  all_goals first | exact Lz.of (by simp [goInt]) | exact Lz.rfl
 ·rintro k f1 o1 c1 ⟨j, hj, rfl, hb, rfl, rfl, rfl⟩
  ((conv=>whnf)<;>repeat(with_reducible refine D1 ?_)<;>conv=>whnf)
  (first|refine ⟨?_,?_⟩|refine nsplit ?_ ?_|refine bsplit ?_ ?_)<;>intro h<;>have hz_:=True.intro<;>clear hz_
  ·have h : j < vs.length := by simpa using h
   ((conv=>whnf)<;>repeat(with_reducible refine D1 ?_)<;>conv=>whnf)
   refine idxI h ?_
   ((conv=>whnf)<;>repeat(with_reducible refine D1 ?_)<;>conv=>whnf)
   refine ⟨[], [some 0], _, _, _, _, otherC n vs[j], t3, ?_⟩
   rintro r o' c' ⟨rfl, rfl, rfl⟩
   have hz_ := True.intro
   clear hz_
   cases hv : otherB n vs[j]
   ·((conv=>whnf)<;>repeat(with_reducible refine D1 ?_)<;>conv=>whnf)
    refine ⟨vs.length - (j + 1), ?_, by omega⟩
    exact ⟨[], [some 0], _, _, _, t3, ⟨j + 1, h, rfl, by intro v hv'; rw [List.take_succ_eq_append_getElem h] at hv'; rcases List.mem_append.1 hv' with h1 | h1; exact hb v h1; simp at h1; subst h1; exact hv, rfl, rfl, rfl⟩⟩
   ·((conv=>whnf)<;>repeat(with_reducible refine D1 ?_)<;>conv=>whnf)
    exact ⟨[], [some 0], _, _, _, t3, (j : Int), rfl, rfl, rfl, .inr ⟨by omega, _, List.getElem_mem h, hv⟩⟩
  ·have h' : j = vs.length := by have : ¬ j < vs.length := by simpa using h
                                 omega
   subst h'
   rw [List.take_length] at hb
   ((conv=>whnf)<;>repeat(with_reducible refine D1 ?_)<;>conv=>whnf)
   exact ⟨[], [some 0], _, _, _, t3, -1, rfl, rfl, rfl, .inl ⟨rfl, hb⟩⟩
theorem containsO_ok (n : Int) (vs : List Int) (hl : vs.length < 1000000) : VC E0 158 1 [.sl 1 (vs.map encI1) false, .clo 160 [] [.ptr 0 0]] (stN n) (RR (.s (.bool (vs.any (otherB n)))) 1 (stN n)) := by
 refine VC.enterR L0 (show E0.func 158 = some Try.f158 by kernel_rfl) (fun _ _ => rfl) rfl rfl [] ?_
 ((conv=>whnf)<;>repeat(with_reducible refine D1 ?_)<;>conv=>whnf)
 refine ⟨[], [some 0], _, _, _, _, idxOC n vs hl, t3, ?_⟩
 rintro r o' c' ⟨i, rfl, rfl, rfl, hi⟩
 ((conv=>whnf)<;>repeat(with_reducible refine D1 ?_)<;>conv=>whnf)
 (first|refine ⟨?_,?_⟩|refine nsplit ?_ ?_|refine bsplit ?_ ?_)<;>intro h<;>have hz_:=True.intro<;>clear hz_
 ·have h : i ≥ 0 := h
  ((conv=>whnf)<;>repeat(with_reducible refine D1 ?_)<;>conv=>whnf)
  refine ⟨[], [some 0], ?_⟩
  iterate 3 constructor
  refine ⟨⟨?_, ?_, ?_⟩, rfl, rfl, rfl⟩
  all_goals (repeat' first|with_reducible exact Lz.rfl|exact Lw.rfl|exact Lz.wrap (by omega)|(unfold goInt;with_reducible exact Lz.rfl)|exact flx _|constructor)
  refine Lz.of (bool_eq (Eq.symm ?_))
  rcases hi with ⟨e, _⟩ | ⟨_, v, hv, hs⟩
  ·omega
  ·exact List.any_eq_true.2 ⟨v, hv, hs⟩
 ·have h : ¬ i ≥ 0 := h
  ((conv=>whnf)<;>repeat(with_reducible refine D1 ?_)<;>conv=>whnf)
  refine ⟨[], [some 0], ?_⟩
  iterate 3 constructor
  refine ⟨⟨?_, ?_, ?_⟩, rfl, rfl, rfl⟩
  all_goals (repeat' first|with_reducible exact Lz.rfl|exact Lw.rfl|exact Lz.wrap (by omega)|(unfold goInt;with_reducible exact Lz.rfl)|exact flx _|constructor)
  refine Lz.of (bool_eq (Eq.symm ?_))
  rcases hi with ⟨_, hall⟩ | ⟨e, _⟩
  ·exact List.any_eq_false.2 fun v hv => by rw [hall v hv]; simp
  ·omega
def standB (n : Int) (c : CF) : Bool := decide (n ∈ standL c)
theorem usedOneC (n : Int) (c : CF) (h : c.nodes.length < 10000) : VC E0 180 1 [.agg (encCF c), .ptr 0 0] (stN n) (RR (.s (.bool (standB n c))) 1 (stN n)) := by
 have hsl := standL_len c
 refine VC.enterR L0 (show E0.func 180 = some Try.f180 by kernel_rfl) (fun _ _ => rfl) rfl rfl [] ?_
 ((conv=>whnf)<;>repeat(with_reducible refine D1 ?_)<;>conv=>whnf)
 refine ⟨[], [], _, _, _, _, everybodyC c (by omega), t3, ?_⟩
 rintro r o' c' ⟨rfl, rfl, rfl⟩
 ((conv=>whnf)<;>repeat(with_reducible refine D1 ?_)<;>conv=>whnf)
 refine ⟨[2], [], _, _, _, _, containsI_ok (standL c) n (by omega), t3, ?_⟩
 rintro r o' c' ⟨rfl, rfl, rfl⟩
 ((conv=>whnf)<;>repeat(with_reducible refine D1 ?_)<;>conv=>whnf)
 exact ⟨[], [some 0], _, _, _, t3, rfl, rfl, rfl⟩
theorem idxUC (n : Int) (vs : List CF) (hl : vs.length < 1000000) (hn : ∀ c ∈ vs, c.nodes.length < 10000) : VC E0 187 1 [.sl 5 (vs.map encCF) false, .clo 180 [] [.ptr 0 0]] (stN n)
 (fun r o c' => ∃ i : Int, r = .s (.int .i64 i) ∧ c' = 1 ∧ o = stN n ∧ ((i = -1 ∧ ∀ v ∈ vs, standB n v = false) ∨ 0 ≤ i ∧ ∃ v ∈ vs, standB n v = true)) := by
 have hnm : ∀ {j : Nat} (h : j < vs.length), vs[j].nodes.length < 10000 := fun h => hn _ (List.getElem_mem h)
 refine VC.enterR L0 (show E0.func 187 = some Try.f187 by kernel_rfl) (fun _ _ => rfl) rfl rfl [] ?_
 ((conv=>whnf)<;>repeat(with_reducible refine D1 ?_)<;>conv=>whnf)
 refine ⟨fun k f o c' => ∃ j : Nat, j ≤ vs.length ∧ k = vs.length - j ∧ (∀ v ∈ vs.take j, standB n v = false) ∧ c' = 1 ∧ f = [(0, .sl 5 (vs.map encCF) false), (1, .clo 180 [] [.ptr 0 0]), (7, .s (.int .i64 vs.length)), (8, .s (.int .i64 j))] ∧ o = stN n, ⟨vs.length, ?_⟩, ?_⟩
 ·refine ⟨[], [some 0], ?_⟩
  iterate 3 constructor
  refine ⟨⟨?_, ?_, ?_⟩, ⟨0, Nat.zero_le _, rfl, by simp, rfl, rfl, rfl⟩⟩
  all_goals (repeat' first|with_reducible exact Lz.rfl|exact Lw.rfl|exact Lz.wrap (by omega)|(unfold goInt;with_reducible exact Lz.rfl)|exact flx _|constructor)
  all_goals first | exact Lz.of (by simp [goInt]) | exact Lz.rfl
 ·rintro k f1 o1 c1 ⟨j, hj, rfl, hb, rfl, rfl, rfl⟩
  ((conv=>whnf)<;>repeat(with_reducible refine D1 ?_)<;>conv=>whnf)
  (first|refine ⟨?_,?_⟩|refine nsplit ?_ ?_|refine bsplit ?_ ?_)<;>intro h<;>have hz_:=True.intro<;>clear hz_
  ·have h : j < vs.length := by simpa using h
   ((conv=>whnf)<;>repeat(with_reducible refine D1 ?_)<;>conv=>whnf)
   refine idxI h ?_
   ((conv=>whnf)<;>repeat(with_reducible refine D1 ?_)<;>conv=>whnf)
   refine ⟨[], [some 0], _, _, _, _, usedOneC n vs[j] (hnm h), t3, ?_⟩
   rintro r o' c' ⟨rfl, rfl, rfl⟩
   have hz_ := True.intro
   clear hz_
   cases hv : standB n vs[j]
   ·((conv=>whnf)<;>repeat(with_reducible refine D1 ?_)<;>conv=>whnf)
    refine ⟨vs.length - (j + 1), ?_, by omega⟩
    exact ⟨[], [some 0], _, _, _, t3, ⟨j + 1, h, rfl, by intro v hv'; rw [List.take_succ_eq_append_getElem h] at hv'; rcases List.mem_append.1 hv' with h1 | h1; exact hb v h1; simp at h1; subst h1; exact hv, rfl, rfl, rfl⟩⟩
   ·((conv=>whnf)<;>repeat(with_reducible refine D1 ?_)<;>conv=>whnf)
    exact ⟨[], [some 0], _, _, _, t3, (j : Int), rfl, rfl, rfl, .inr ⟨by omega, _, List.getElem_mem h, hv⟩⟩
  ·have h' : j = vs.length := by have : ¬ j < vs.length := by simpa using h
                                 omega
   subst h'
   rw [List.take_length] at hb
   ((conv=>whnf)<;>repeat(with_reducible refine D1 ?_)<;>conv=>whnf)
   exact ⟨[], [some 0], _, _, _, t3, -1, rfl, rfl, rfl, .inl ⟨rfl, hb⟩⟩
theorem containsUC (n : Int) (vs : List CF) (hl : vs.length < 1000000) (hn : ∀ c ∈ vs, c.nodes.length < 10000) : VC E0 179 1 [.sl 5 (vs.map encCF) false, .clo 180 [] [.ptr 0 0]] (stN n) (RR (.s (.bool (vs.any (standB n)))) 1 (stN n)) := by
 refine VC.enterR L0 (show E0.func 179 = some Try.f179 by kernel_rfl) (fun _ _ => rfl) rfl rfl [] ?_
 ((conv=>whnf)<;>repeat(with_reducible refine D1 ?_)<;>conv=>whnf)
 refine ⟨[], [some 0], _, _, _, _, idxUC n vs hl hn, t3, ?_⟩
 rintro r o' c' ⟨i, rfl, rfl, rfl, hi⟩
 ((conv=>whnf)<;>repeat(with_reducible refine D1 ?_)<;>conv=>whnf)
 (first|refine ⟨?_,?_⟩|refine nsplit ?_ ?_|refine bsplit ?_ ?_)<;>intro h<;>have hz_:=True.intro<;>clear hz_
 ·have h : i ≥ 0 := h
  ((conv=>whnf)<;>repeat(with_reducible refine D1 ?_)<;>conv=>whnf)
  refine ⟨[], [some 0], ?_⟩
  iterate 3 constructor
  refine ⟨⟨?_, ?_, ?_⟩, rfl, rfl, rfl⟩
  all_goals (repeat' first|with_reducible exact Lz.rfl|exact Lw.rfl|exact Lz.wrap (by omega)|(unfold goInt;with_reducible exact Lz.rfl)|exact flx _|constructor)
  refine Lz.of (bool_eq (Eq.symm ?_))
  rcases hi with ⟨e, _⟩ | ⟨_, v, hv, hs⟩
  ·omega
  ·exact List.any_eq_true.2 ⟨v, hv, hs⟩
 ·have h : ¬ i ≥ 0 := h
  ((conv=>whnf)<;>repeat(with_reducible refine D1 ?_)<;>conv=>whnf)
  refine ⟨[], [some 0], ?_⟩
  iterate 3 constructor
  refine ⟨⟨?_, ?_, ?_⟩, rfl, rfl, rfl⟩
  all_goals (repeat' first|with_reducible exact Lz.rfl|exact Lw.rfl|exact Lz.wrap (by omega)|(unfold goInt;with_reducible exact Lz.rfl)|exact flx _|constructor)
  refine Lz.of (bool_eq (Eq.symm ?_))
  rcases hi with ⟨_, hall⟩ | ⟨e, _⟩
  ·exact List.any_eq_false.2 fun v hv => by rw [hall v hv]; simp
  ·omega
theorem any_stand (l : List CF) (n : Int) : l.any (standB n) = decide (n ∈ allS l) := by
 rw [Bool.eq_iff_iff, List.any_eq_true, decide_eq_true_iff]
 unfold allS standB
 rw [List.mem_flatMap]
 exact ⟨fun ⟨x, h, q⟩ => ⟨x, h, of_decide_eq_true q⟩, fun ⟨x, h, q⟩ => ⟨x, h, decide_eq_true q⟩⟩
theorem used_ok (l : List CF) (n : Int) (hl : l.length < 10000) (hn : ∀ c ∈ l, c.nodes.length < 10000) : VC E0 164 0 [.sl 5 (l.map encCF) false, .s (.int .i64 n)] [] (RR (.s (.bool (decide (n ∈ allS l)))) 0 []) := by
 refine VC.enterR L0 (show E0.func 164 = some Try.f164 by kernel_rfl) (fun _ _ => rfl) rfl rfl [] ?_
 ((conv=>whnf)<;>repeat(with_reducible refine D1 ?_)<;>conv=>whnf)
 refine ⟨[], [some 0], _, _, _, _, containsUC n l (by omega) hn, t3, ?_⟩
 rintro r o' c' ⟨rfl, rfl, rfl⟩
 rw [any_stand]
 ((conv=>whnf)<;>repeat(with_reducible refine D1 ?_)<;>conv=>whnf)
 exact ⟨[], [], _, _, _, t3, rfl, rfl, rfl⟩
end Go.M
namespace Go.M
open Go Go.Proofs
set_option maxRecDepth 100000
set_option maxHeartbeats 2000000
def canK (l : List CF) (x : CF) (k n : Int) : Int :=
 if k = 1 then (if n ∉ standL x then 7 else if (settledL x).any (otherB n) = false then 12 else 0)
 else if k = 2 then (if n ∈ allS l then 8 else if x.join ≠ 0 ∨ x.fresh = true then 12 else if x.nodes.length ≥ 5 then 9 else 0)
 else if k = 3 then (if x.join ≠ n then 7 else if x.nodes.length ≥ 5 then 9 else 0)
 else (if x.fresh = false ∨ lastL x ≠ n then 7 else 0)
theorem without_any (l : List Int) (n : Int) : (withoutL l n).length = 0 ↔ l.any (otherB n) = false := by
 rw [List.length_eq_zero_iff, List.any_eq_false]
 unfold withoutL otherB
 rw [List.filter_eq_nil_iff]
theorem canR_eq {l : List CF} {x : CF} {c : Cmd} (hr : rightP x) : canR l x c = if canK l x c.kind c.node ≠ 0 then canK l x c.kind c.node else canF x := by
 have h5 := hr.2.2.1
 unfold canR canK
 by_cases k1 : c.kind = 1
 ·rw [if_pos k1, if_pos k1]
  by_cases a : c.node ∉ standL x
  ·rw [if_pos a, if_pos a]; rfl
  ·rw [if_neg a, if_neg a]
   by_cases b : (settledL x).any (otherB c.node) = false
   ·rw [if_pos b, if_pos ((without_any _ _).2 b)]; rfl
   ·rw [if_neg b, if_neg (mt (without_any _ _).1 b)]; rfl
 rw [if_neg k1, if_neg k1]
 by_cases k2 : c.kind = 2
 ·rw [if_pos k2, if_pos k2]
  by_cases a : c.node ∈ allS l
  ·rw [if_pos a, if_pos a]; rfl
  ·rw [if_neg a, if_neg a]
   by_cases b : x.join ≠ 0 ∨ x.fresh = true
   ·rw [if_pos b, if_pos b]; rfl
   ·rw [if_neg b, if_neg b]
    by_cases d : x.nodes.length ≥ 5
    ·rw [if_pos d, if_pos (by omega)]; rfl
    ·rw [if_neg d, if_neg (by omega)]; rfl
 rw [if_neg k2, if_neg k2]
 by_cases k3 : c.kind = 3
 ·rw [if_pos k3, if_pos k3]
  by_cases a : x.join ≠ c.node
  ·rw [if_pos a, if_pos a]; rfl
  ·rw [if_neg a, if_neg a]
   by_cases d : x.nodes.length ≥ 5
   ·rw [if_pos d, if_pos (by omega)]; rfl
   ·rw [if_neg d, if_neg (by omega)]; rfl
 rw [if_neg k3, if_neg k3]
 by_cases a : x.fresh = false ∨ lastL x ≠ c.node
 ·rw [if_pos a, if_pos a]; rfl
 ·rw [if_neg a, if_neg a]; rfl
theorem canRemove_ok (l : List CF) (x : CF) (n : Int) (hr : rightP x) : VC E0 142 0 [.sl 5 (l.map encCF) false, .agg (encCF x), .s (.int .i64 n)] [] (RR (.s (.int .i64 (canK l x 1 n))) 0 []) := by
 have h5 := hr.2.2.1
 have hsl := standL_len x
 have hC : canK l x 1 n = if n ∉ standL x then 7 else if (settledL x).any (otherB n) = false then 12 else 0 := by unfold canK; rw [if_pos rfl]
 refine VC.enterR L0 (show E0.func 142 = some Try.f142 by kernel_rfl) (fun _ _ => rfl) rfl rfl [] ?_
 ((conv=>whnf)<;>repeat(with_reducible refine D1 ?_)<;>conv=>whnf)
 refine ⟨[], [], _, _, _, _, everybodyC x (by omega), t3, ?_⟩
 rintro r o' c' ⟨rfl, rfl, rfl⟩
 ((conv=>whnf)<;>repeat(with_reducible refine D1 ?_)<;>conv=>whnf)
 refine ⟨[2], [], _, _, _, _, containsI_ok (standL x) n (by omega), t3, ?_⟩
 rintro r o' c' ⟨rfl, rfl, rfl⟩
 by_cases hm : n ∈ standL x
 ·rw [if_neg (fun q => q hm)] at hC
  rw [decide_eq_true hm]
  ((conv=>whnf)<;>repeat(with_reducible refine D1 ?_)<;>conv=>whnf)
  have hsn : (settledL x).length ≤ x.nodes.length := by unfold settledL; split <;> simp
  refine ⟨[], [], _, _, _, _, settled_ok x h5, t3, ?_⟩
  rintro r o' c' ⟨rfl, rfl, rfl⟩
  ((conv=>whnf)<;>repeat(with_reducible refine D1 ?_)<;>conv=>whnf)
  refine ⟨[3], [some 1], _, _, _, _, containsO_ok n (settledL x) (by omega), t3, ?_⟩
  rintro r o' c' ⟨rfl, rfl, rfl⟩
  by_cases ha : (settledL x).any (otherB n) = true
  ·rw [if_neg (by rw [ha]; decide)] at hC
   rw [ha]
   ((conv=>whnf)<;>repeat(with_reducible refine D1 ?_)<;>conv=>whnf)
   refine ⟨[], [], ?_⟩
   iterate 3 constructor
   refine ⟨⟨?_, ?_, ?_⟩, rfl, rfl, rfl⟩
   all_goals (repeat' first|with_reducible exact Lz.rfl|exact Lw.rfl|exact Lz.wrap (by omega)|(unfold goInt;with_reducible exact Lz.rfl)|exact flx _|constructor)
   exact Lz.int hC.symm
  ·rw [if_pos (Bool.eq_false_iff.2 ha)] at hC
   rw [Bool.eq_false_iff.2 ha]
   ((conv=>whnf)<;>repeat(with_reducible refine D1 ?_)<;>conv=>whnf)
   refine ⟨[], [], ?_⟩
   iterate 3 constructor
   refine ⟨⟨?_, ?_, ?_⟩, rfl, rfl, rfl⟩
   all_goals (repeat' first|with_reducible exact Lz.rfl|exact Lw.rfl|exact Lz.wrap (by omega)|(unfold goInt;with_reducible exact Lz.rfl)|exact flx _|constructor)
   exact Lz.int hC.symm
 ·rw [if_pos hm] at hC
  rw [decide_eq_false hm]
  ((conv=>whnf)<;>repeat(with_reducible refine D1 ?_)<;>conv=>whnf)
  refine ⟨[], [], ?_⟩
  iterate 3 constructor
  refine ⟨⟨?_, ?_, ?_⟩, rfl, rfl, rfl⟩
  all_goals (repeat' first|with_reducible exact Lz.rfl|exact Lw.rfl|exact Lz.wrap (by omega)|(unfold goInt;with_reducible exact Lz.rfl)|exact flx _|constructor)
  exact Lz.int hC.symm
theorem canAppend_ok (l : List CF) (x : CF) (n : Int) (hl : l.length < 10000) (hn : ∀ c ∈ l, c.nodes.length < 10000) : VC E0 144 0 [.sl 5 (l.map encCF) false, .agg (encCF x), .s (.int .i64 n)] [] (RR (.s (.int .i64 (canK l x 2 n))) 0 []) := by
 have hC : canK l x 2 n = if n ∈ allS l then 8 else if x.join ≠ 0 ∨ x.fresh = true then 12 else if x.nodes.length ≥ 5 then 9 else 0 := by unfold canK; rw [if_neg (by decide), if_pos rfl]
 refine VC.enterR L0 (show E0.func 144 = some Try.f144 by kernel_rfl) (fun _ _ => rfl) rfl rfl [] ?_
 ((conv=>whnf)<;>repeat(with_reducible refine D1 ?_)<;>conv=>whnf)
 refine ⟨[], [], _, _, _, _, used_ok l n hl hn, t3, ?_⟩
 rintro r o' c' ⟨rfl, rfl, rfl⟩
 by_cases hm : n ∈ allS l
 ·rw [if_pos hm] at hC
  rw [decide_eq_true hm]
  ((conv=>whnf)<;>repeat(with_reducible refine D1 ?_)<;>conv=>whnf)
  refine ⟨[], [], ?_⟩
  iterate 3 constructor
  refine ⟨⟨?_, ?_, ?_⟩, rfl, rfl, rfl⟩
  all_goals (repeat' first|with_reducible exact Lz.rfl|exact Lw.rfl|exact Lz.wrap (by omega)|(unfold goInt;with_reducible exact Lz.rfl)|exact flx _|constructor)
  exact Lz.int hC.symm
 ·rw [if_neg hm] at hC
  rw [decide_eq_false hm]
  ((conv=>whnf)<;>repeat(with_reducible refine D1 ?_)<;>conv=>whnf)
  (first|refine ⟨?_,?_⟩|refine nsplit ?_ ?_|refine bsplit ?_ ?_)<;>intro hj<;>have hz_:=True.intro<;>clear hz_
  ·have hj : x.join ≠ 0 := hj
   rw [if_pos (.inl hj)] at hC
   ((conv=>whnf)<;>repeat(with_reducible refine D1 ?_)<;>conv=>whnf)
   refine ⟨[], [], ?_⟩
   iterate 3 constructor
   refine ⟨⟨?_, ?_, ?_⟩, rfl, rfl, rfl⟩
   all_goals (repeat' first|with_reducible exact Lz.rfl|exact Lw.rfl|exact Lz.wrap (by omega)|(unfold goInt;with_reducible exact Lz.rfl)|exact flx _|constructor)
   exact Lz.int hC.symm
  ·have hj : x.join = 0 := Classical.not_not.1 hj
   ((conv=>whnf)<;>repeat(with_reducible refine D1 ?_)<;>conv=>whnf)
   cases hf : x.fresh
   ·rw [if_neg (by rw [hj, hf]; simp)] at hC
    ((conv=>whnf)<;>repeat(with_reducible refine D1 ?_)<;>conv=>whnf)
    (first|refine ⟨?_,?_⟩|refine nsplit ?_ ?_|refine bsplit ?_ ?_)<;>intro hz<;>have hz_:=True.intro<;>clear hz_
    ·have hz : (((x.nodes.map encI1).length : Nat) : Int) ≥ 5 := hz
     rw [List.length_map] at hz
     rw [if_pos (by omega)] at hC
     ((conv=>whnf)<;>repeat(with_reducible refine D1 ?_)<;>conv=>whnf)
     refine ⟨[], [], ?_⟩
     iterate 3 constructor
     refine ⟨⟨?_, ?_, ?_⟩, rfl, rfl, rfl⟩
     all_goals (repeat' first|with_reducible exact Lz.rfl|exact Lw.rfl|exact Lz.wrap (by omega)|(unfold goInt;with_reducible exact Lz.rfl)|exact flx _|constructor)
     exact Lz.int hC.symm
    ·have hz : ¬ (((x.nodes.map encI1).length : Nat) : Int) ≥ 5 := hz
     rw [List.length_map] at hz
     rw [if_neg (by omega)] at hC
     ((conv=>whnf)<;>repeat(with_reducible refine D1 ?_)<;>conv=>whnf)
     refine ⟨[], [], ?_⟩
     iterate 3 constructor
     refine ⟨⟨?_, ?_, ?_⟩, rfl, rfl, rfl⟩
     all_goals (repeat' first|with_reducible exact Lz.rfl|exact Lw.rfl|exact Lz.wrap (by omega)|(unfold goInt;with_reducible exact Lz.rfl)|exact flx _|constructor)
     exact Lz.int hC.symm
   ·rw [if_pos (.inr hf)] at hC
    ((conv=>whnf)<;>repeat(with_reducible refine D1 ?_)<;>conv=>whnf)
    refine ⟨[], [], ?_⟩
    iterate 3 constructor
    refine ⟨⟨?_, ?_, ?_⟩, rfl, rfl, rfl⟩
    all_goals (repeat' first|with_reducible exact Lz.rfl|exact Lw.rfl|exact Lz.wrap (by omega)|(unfold goInt;with_reducible exact Lz.rfl)|exact flx _|constructor)
    exact Lz.int hC.symm
theorem canPromote_ok (l : List CF) (x : CF) (n : Int) : VC E0 146 0 [.sl 5 (l.map encCF) false, .agg (encCF x), .s (.int .i64 n)] [] (RR (.s (.int .i64 (canK l x 3 n))) 0 []) := by
 have hC : canK l x 3 n = if x.join ≠ n then 7 else if x.nodes.length ≥ 5 then 9 else 0 := by unfold canK; rw [if_neg (by decide), if_neg (by decide), if_pos rfl]
 refine VC.enterR L0 (show E0.func 146 = some Try.f146 by kernel_rfl) (fun _ _ => rfl) rfl rfl [] ?_
 ((conv=>whnf)<;>repeat(with_reducible refine D1 ?_)<;>conv=>whnf)
 (first|refine ⟨?_,?_⟩|refine nsplit ?_ ?_|refine bsplit ?_ ?_)<;>intro hj<;>have hz_:=True.intro<;>clear hz_
 ·have hj : x.join ≠ n := hj
  rw [if_pos hj] at hC
  ((conv=>whnf)<;>repeat(with_reducible refine D1 ?_)<;>conv=>whnf)
  refine ⟨[], [], ?_⟩
  iterate 3 constructor
  refine ⟨⟨?_, ?_, ?_⟩, rfl, rfl, rfl⟩
  all_goals (repeat' first|with_reducible exact Lz.rfl|exact Lw.rfl|exact Lz.wrap (by omega)|(unfold goInt;with_reducible exact Lz.rfl)|exact flx _|constructor)
  exact Lz.int hC.symm
 ·have hj : ¬ x.join ≠ n := hj
  rw [if_neg hj] at hC
  ((conv=>whnf)<;>repeat(with_reducible refine D1 ?_)<;>conv=>whnf)
  (first|refine ⟨?_,?_⟩|refine nsplit ?_ ?_|refine bsplit ?_ ?_)<;>intro hz<;>have hz_:=True.intro<;>clear hz_
  ·have hz : (((x.nodes.map encI1).length : Nat) : Int) ≥ 5 := hz
   rw [List.length_map] at hz
   rw [if_pos (by omega)] at hC
   ((conv=>whnf)<;>repeat(with_reducible refine D1 ?_)<;>conv=>whnf)
   refine ⟨[], [], ?_⟩
   iterate 3 constructor
   refine ⟨⟨?_, ?_, ?_⟩, rfl, rfl, rfl⟩
   all_goals (repeat' first|with_reducible exact Lz.rfl|exact Lw.rfl|exact Lz.wrap (by omega)|(unfold goInt;with_reducible exact Lz.rfl)|exact flx _|constructor)
   exact Lz.int hC.symm
  ·have hz : ¬ (((x.nodes.map encI1).length : Nat) : Int) ≥ 5 := hz
   rw [List.length_map] at hz
   rw [if_neg (by omega)] at hC
   ((conv=>whnf)<;>repeat(with_reducible refine D1 ?_)<;>conv=>whnf)
   refine ⟨[], [], ?_⟩
   iterate 3 constructor
   refine ⟨⟨?_, ?_, ?_⟩, rfl, rfl, rfl⟩
   all_goals (repeat' first|with_reducible exact Lz.rfl|exact Lw.rfl|exact Lz.wrap (by omega)|(unfold goInt;with_reducible exact Lz.rfl)|exact flx _|constructor)
   exact Lz.int hC.symm
theorem canSettle_ok (l : List CF) (x : CF) (k n : Int) (hr : rightP x) (k1 : k ≠ 1) (k2 : k ≠ 2) (k3 : k ≠ 3) : VC E0 148 0 [.sl 5 (l.map encCF) false, .agg (encCF x), .s (.int .i64 n)] [] (RR (.s (.int .i64 (canK l x k n))) 0 []) := by
 have hC : canK l x k n = if x.fresh = false ∨ lastL x ≠ n then 7 else 0 := by unfold canK; rw [if_neg k1, if_neg k2, if_neg k3]
 refine VC.enterR L0 (show E0.func 148 = some Try.f148 by kernel_rfl) (fun _ _ => rfl) rfl rfl [] ?_
 ((conv=>whnf)<;>repeat(with_reducible refine D1 ?_)<;>conv=>whnf)
 cases hf : x.fresh
 ·rw [if_pos (.inl hf)] at hC
  ((conv=>whnf)<;>repeat(with_reducible refine D1 ?_)<;>conv=>whnf)
  refine ⟨[], [], ?_⟩
  iterate 3 constructor
  refine ⟨⟨?_, ?_, ?_⟩, rfl, rfl, rfl⟩
  all_goals (repeat' first|with_reducible exact Lz.rfl|exact Lw.rfl|exact Lz.wrap (by omega)|(unfold goInt;with_reducible exact Lz.rfl)|exact flx _|constructor)
  exact Lz.int hC.symm
 ·((conv=>whnf)<;>repeat(with_reducible refine D1 ?_)<;>conv=>whnf)
  refine ⟨[], [], _, _, _, _, last_ok x hr.2.2.1, ⟨by ((repeat' first|with_reducible exact Lz.rfl|exact Lw.rfl|exact Lz.wrap (by omega)|(unfold goInt;with_reducible exact Lz.rfl)|exact flx _|constructor); all_goals (exact Lz.of (bool_eq hf.symm))), by ((repeat' first|with_reducible exact Lz.rfl|exact Lw.rfl|exact Lz.wrap (by omega)|(unfold goInt;with_reducible exact Lz.rfl)|exact flx _|constructor); all_goals (exact Lz.of (bool_eq hf.symm))), by rfl⟩, ?_⟩
  rintro r o' c' ⟨rfl, rfl, rfl⟩
  ((conv=>whnf)<;>repeat(with_reducible refine D1 ?_)<;>conv=>whnf)
  (first|refine ⟨?_,?_⟩|refine nsplit ?_ ?_|refine bsplit ?_ ?_)<;>intro hla<;>have hz_:=True.intro<;>clear hz_
  ·have hla : lastL x ≠ n := hla
   rw [if_pos (.inr hla)] at hC
   ((conv=>whnf)<;>repeat(with_reducible refine D1 ?_)<;>conv=>whnf)
   refine ⟨[], [], ?_⟩
   iterate 3 constructor
   refine ⟨⟨?_, ?_, ?_⟩, rfl, rfl, rfl⟩
   all_goals (repeat' first|with_reducible exact Lz.rfl|exact Lw.rfl|exact Lz.wrap (by omega)|(unfold goInt;with_reducible exact Lz.rfl)|exact flx _|constructor)
   exact Lz.int hC.symm
  ·have hla : ¬ lastL x ≠ n := hla
   rw [if_neg (by rw [hf]; simpa using hla)] at hC
   ((conv=>whnf)<;>repeat(with_reducible refine D1 ?_)<;>conv=>whnf)
   refine ⟨[], [], ?_⟩
   iterate 3 constructor
   refine ⟨⟨?_, ?_, ?_⟩, rfl, rfl, rfl⟩
   all_goals (repeat' first|with_reducible exact Lz.rfl|exact Lw.rfl|exact Lz.wrap (by omega)|(unfold goInt;with_reducible exact Lz.rfl)|exact flx _|constructor)
   exact Lz.int hC.symm
theorem of1_ok : VC E0 116 0 [.s (.int .i64 1)] [] (RR (.agg [.clo 142 [] [], .clo 143 [] []]) 0 []) := by
 refine VC.enterR L0 (show E0.func 116 = some Try.f116 by kernel_rfl) (fun _ _ => rfl) rfl rfl [] ?_
 ((conv=>whnf)<;>repeat(with_reducible refine D1 ?_)<;>conv=>whnf)
 repeat ((first | (refine ⟨fun h_ => ?_, fun h_ => ?_⟩) | (refine nsplit (fun h_ => ?_) (fun h_ => ?_)) | (refine bsplit (fun h_ => ?_) (fun h_ => ?_))) <;> first | (exfalso; revert h_; decide; done) | (exact absurd rfl h_) | (have hz_ := True.intro; clear hz_; ((conv=>whnf)<;>repeat(with_reducible refine D1 ?_)<;>conv=>whnf)))
 exact ⟨[], [], _, _, _, t3, rfl, rfl, rfl⟩
theorem of2_ok : VC E0 116 0 [.s (.int .i64 2)] [] (RR (.agg [.clo 144 [] [], .clo 145 [] []]) 0 []) := by
 refine VC.enterR L0 (show E0.func 116 = some Try.f116 by kernel_rfl) (fun _ _ => rfl) rfl rfl [] ?_
 ((conv=>whnf)<;>repeat(with_reducible refine D1 ?_)<;>conv=>whnf)
 repeat ((first | (refine ⟨fun h_ => ?_, fun h_ => ?_⟩) | (refine nsplit (fun h_ => ?_) (fun h_ => ?_)) | (refine bsplit (fun h_ => ?_) (fun h_ => ?_))) <;> first | (exfalso; revert h_; decide; done) | (exact absurd rfl h_) | (have hz_ := True.intro; clear hz_; ((conv=>whnf)<;>repeat(with_reducible refine D1 ?_)<;>conv=>whnf)))
 exact ⟨[], [], _, _, _, t3, rfl, rfl, rfl⟩
theorem of3_ok : VC E0 116 0 [.s (.int .i64 3)] [] (RR (.agg [.clo 146 [] [], .clo 147 [] []]) 0 []) := by
 refine VC.enterR L0 (show E0.func 116 = some Try.f116 by kernel_rfl) (fun _ _ => rfl) rfl rfl [] ?_
 ((conv=>whnf)<;>repeat(with_reducible refine D1 ?_)<;>conv=>whnf)
 repeat ((first | (refine ⟨fun h_ => ?_, fun h_ => ?_⟩) | (refine nsplit (fun h_ => ?_) (fun h_ => ?_)) | (refine bsplit (fun h_ => ?_) (fun h_ => ?_))) <;> first | (exfalso; revert h_; decide; done) | (exact absurd rfl h_) | (have hz_ := True.intro; clear hz_; ((conv=>whnf)<;>repeat(with_reducible refine D1 ?_)<;>conv=>whnf)))
 exact ⟨[], [], _, _, _, t3, rfl, rfl, rfl⟩
theorem of4_ok (k : Int) (k1 : k ≠ 1) (k2 : k ≠ 2) (k3 : k ≠ 3) : VC E0 116 0 [.s (.int .i64 k)] [] (RR (.agg [.clo 148 [] [], .clo 149 [] []]) 0 []) := by
 refine VC.enterR L0 (show E0.func 116 = some Try.f116 by kernel_rfl) (fun _ _ => rfl) rfl rfl [] ?_
 ((conv=>whnf)<;>repeat(with_reducible refine D1 ?_)<;>conv=>whnf)
 (first|refine ⟨?_,?_⟩|refine nsplit ?_ ?_|refine bsplit ?_ ?_)<;>intro h<;>have hz_:=True.intro<;>clear hz_
 ·exact absurd h k1
 ((conv=>whnf)<;>repeat(with_reducible refine D1 ?_)<;>conv=>whnf)
 (first|refine ⟨?_,?_⟩|refine nsplit ?_ ?_|refine bsplit ?_ ?_)<;>intro h<;>have hz_:=True.intro<;>clear hz_
 ·exact absurd h k2
 ((conv=>whnf)<;>repeat(with_reducible refine D1 ?_)<;>conv=>whnf)
 (first|refine ⟨?_,?_⟩|refine nsplit ?_ ?_|refine bsplit ?_ ?_)<;>intro h<;>have hz_:=True.intro<;>clear hz_
 ·exact absurd h k3
 ((conv=>whnf)<;>repeat(with_reducible refine D1 ?_)<;>conv=>whnf)
 exact ⟨[], [], _, _, _, t3, rfl, rfl, rfl⟩
end Go.M
namespace Go.M
open Go Go.Proofs
set_option maxRecDepth 100000
set_option maxHeartbeats 4000000
open Classical in
theorem can_ok (l : List CF) (c : Cmd) : VC E0 78 0 [.sl 5 (l.map encCF) false, cT4 c] [] (RR (.s (.int .i64 (canL l c))) 0 []) := by
 refine VC.enterR L0 (show E0.func 78 = some Try.f78 by kernel_rfl) (fun _ _ => rfl) rfl rfl [] ?_
 ((conv=>whnf)<;>repeat(with_reducible refine D1 ?_)<;>conv=>whnf)
 refine ⟨[], [], _, _, _, _, all_okC l, t3, ?_⟩
 rintro r o' c' ⟨rfl, rfl, rfl⟩
 by_cases ha : allP l
 rotate_left
 ·rw [decide_eq_false ha]
  ((conv=>whnf)<;>repeat(with_reducible refine D1 ?_)<;>conv=>whnf)
  refine ⟨[], [], ?_⟩
  iterate 3 constructor
  refine ⟨⟨?_, ?_, ?_⟩, rfl, rfl, rfl⟩
  all_goals (repeat' first|with_reducible exact Lz.rfl|exact Lw.rfl|exact Lz.wrap (by omega)|(unfold goInt;with_reducible exact Lz.rfl)|exact flx _|constructor)
  exact Lz.int (by unfold canL; rw [if_pos ha])
 rw [decide_eq_true ha]
 ((conv=>whnf)<;>repeat(with_reducible refine D1 ?_)<;>conv=>whnf)
 refine ⟨[], [], _, _, _, _, check_ok c.kind c.chain c.epoch c.node, t3, ?_⟩
 rintro r o' c' ⟨rfl, rfl, rfl⟩
 ((conv=>whnf)<;>repeat(with_reducible refine D1 ?_)<;>conv=>whnf)
 (first|refine ⟨?_,?_⟩|refine nsplit ?_ ?_|refine bsplit ?_ ?_)<;>intro hk<;>have hz_:=True.intro<;>clear hz_
 ·have hk : c.check ≠ 0 := hk
  ((conv=>whnf)<;>repeat(with_reducible refine D1 ?_)<;>conv=>whnf)
  refine ⟨[], [], ?_⟩
  iterate 3 constructor
  refine ⟨⟨?_, ?_, ?_⟩, rfl, rfl, rfl⟩
  all_goals (repeat' first|with_reducible exact Lz.rfl|exact Lw.rfl|exact Lz.wrap (by omega)|(unfold goInt;with_reducible exact Lz.rfl)|exact flx _|constructor)
  exact Lz.int (by unfold canL; rw [if_neg (fun q => q ha), if_pos hk]; rfl)
 have hk : c.check = 0 := Classical.not_not.1 hk
 ((conv=>whnf)<;>repeat(with_reducible refine D1 ?_)<;>conv=>whnf)
 (first|refine ⟨?_,?_⟩|refine nsplit ?_ ?_|refine bsplit ?_ ?_)<;>intro h0<;>have hz_:=True.intro<;>clear hz_
 ·have h0 : c.kind = 0 := h0
  ((conv=>whnf)<;>repeat(with_reducible refine D1 ?_)<;>conv=>whnf)
  refine ⟨[], [], ?_⟩
  iterate 3 constructor
  refine ⟨⟨?_, ?_, ?_⟩, rfl, rfl, rfl⟩
  all_goals (repeat' first|with_reducible exact Lz.rfl|exact Lw.rfl|exact Lz.wrap (by omega)|(unfold goInt;with_reducible exact Lz.rfl)|exact flx _|constructor)
  exact Lz.int (by unfold canL; rw [if_neg (fun q => q ha), if_neg (fun q => q hk), if_pos h0]; exact hk)
 have h0 : ¬ c.kind = 0 := h0
 have hrg := check_rng hk h0
 have hl4 := ha.1.2
 ((conv=>whnf)<;>repeat(with_reducible refine D1 ?_)<;>conv=>whnf)
 (first|refine ⟨?_,?_⟩|refine nsplit ?_ ?_|refine bsplit ?_ ?_)<;>intro h1<;>have hz_:=True.intro<;>clear hz_
 ·have h1 : c.chain ≥ (((l.map encCF).length : Nat) : Int) := h1
  rw [List.length_map] at h1
  have hnone : l[c.chain.toNat]? = none := List.getElem?_eq_none (by omega)
  ((conv=>whnf)<;>repeat(with_reducible refine D1 ?_)<;>conv=>whnf)
  refine ⟨[], [], ?_⟩
  iterate 3 constructor
  refine ⟨⟨?_, ?_, ?_⟩, rfl, rfl, rfl⟩
  all_goals (repeat' first|with_reducible exact Lz.rfl|exact Lw.rfl|exact Lz.wrap (by omega)|(unfold goInt;with_reducible exact Lz.rfl)|exact flx _|constructor)
  exact Lz.int (by unfold canL; rw [if_neg (fun q => q ha), if_neg (fun q => q hk), if_neg h0, hnone])
 have h1 : ¬ c.chain ≥ (((l.map encCF).length : Nat) : Int) := h1
 rw [List.length_map] at h1
 have hlt : c.chain.toNat < l.length := by omega
 have hsome : l[c.chain.toNat]? = some l[c.chain.toNat] := List.getElem?_eq_getElem hlt
 have hr := allP_in ha (List.getElem_mem hlt)
 have hC : canL l c = if l[c.chain.toNat].epoch ≠ c.epoch then 10 else canR l l[c.chain.toNat] c := by unfold canL; rw [if_neg (fun q => q ha), if_neg (fun q => q hk), if_neg h0, hsome]
 rw [canR_eq hr] at hC
 ((conv=>whnf)<;>repeat(with_reducible refine D1 ?_)<;>conv=>whnf)
 refine idxI' hrg.1 hlt ?_
 ((conv=>whnf)<;>repeat(with_reducible refine D1 ?_)<;>conv=>whnf)
 (first|refine ⟨?_,?_⟩|refine nsplit ?_ ?_|refine bsplit ?_ ?_)<;>intro h2<;>have hz_:=True.intro<;>clear hz_
 ·have h2 : l[c.chain.toNat].epoch ≠ c.epoch := h2
  rw [if_pos h2] at hC
  ((conv=>whnf)<;>repeat(with_reducible refine D1 ?_)<;>conv=>whnf)
  refine ⟨[], [], ?_⟩
  iterate 3 constructor
  refine ⟨⟨?_, ?_, ?_⟩, rfl, rfl, rfl⟩
  all_goals (repeat' first|with_reducible exact Lz.rfl|exact Lw.rfl|exact Lz.wrap (by omega)|(unfold goInt;with_reducible exact Lz.rfl)|exact flx _|constructor)
  exact Lz.int hC.symm
 have h2 : ¬ l[c.chain.toNat].epoch ≠ c.epoch := h2
 rw [if_neg h2] at hC
 ((conv=>whnf)<;>repeat(with_reducible refine D1 ?_)<;>conv=>whnf)
 by_cases k1 : c.kind = 1
 ·rw [k1] at hC
  refine ⟨[], [], _, _, _, _, of1_ok, ⟨by ((repeat' first|with_reducible exact Lz.rfl|exact Lw.rfl|exact Lz.wrap (by omega)|(unfold goInt;with_reducible exact Lz.rfl)|exact flx _|constructor); all_goals (exact Lz.int k1)), by ((repeat' first|with_reducible exact Lz.rfl|exact Lw.rfl|exact Lz.wrap (by omega)|(unfold goInt;with_reducible exact Lz.rfl)|exact flx _|constructor); all_goals (exact Lz.int k1)), by rfl⟩, ?_⟩
  rintro r o' c' ⟨rfl, rfl, rfl⟩
  ((conv=>whnf)<;>repeat(with_reducible refine D1 ?_)<;>conv=>whnf)
  refine ⟨[], [], _, _, _, _, canRemove_ok l l[c.chain.toNat] c.node hr, t3, ?_⟩
  rintro r o' c' ⟨rfl, rfl, rfl⟩
  ((conv=>whnf)<;>repeat(with_reducible refine D1 ?_)<;>conv=>whnf)
  (first|refine ⟨?_,?_⟩|refine nsplit ?_ ?_|refine bsplit ?_ ?_)<;>intro he<;>have hz_:=True.intro<;>clear hz_
  ·have he : canK l l[c.chain.toNat] 1 c.node ≠ 0 := he
   rw [if_pos he] at hC
   ((conv=>whnf)<;>repeat(with_reducible refine D1 ?_)<;>conv=>whnf)
   refine ⟨[], [], ?_⟩
   iterate 3 constructor
   refine ⟨⟨?_, ?_, ?_⟩, rfl, rfl, rfl⟩
   all_goals (repeat' first|with_reducible exact Lz.rfl|exact Lw.rfl|exact Lz.wrap (by omega)|(unfold goInt;with_reducible exact Lz.rfl)|exact flx _|constructor)
   exact Lz.int hC.symm
  ·have he : ¬ canK l l[c.chain.toNat] 1 c.node ≠ 0 := he
   rw [if_neg he] at hC
   ((conv=>whnf)<;>repeat(with_reducible refine D1 ?_)<;>conv=>whnf)
   (first|refine ⟨?_,?_⟩|refine nsplit ?_ ?_|refine bsplit ?_ ?_)<;>intro hm<;>have hz_:=True.intro<;>clear hz_
   ·have hm : l[c.chain.toNat].epoch = 18446744073709551615 := hm
    ((conv=>whnf)<;>repeat(with_reducible refine D1 ?_)<;>conv=>whnf)
    refine ⟨[], [], ?_⟩
    iterate 3 constructor
    refine ⟨⟨?_, ?_, ?_⟩, rfl, rfl, rfl⟩
    all_goals (repeat' first|with_reducible exact Lz.rfl|exact Lw.rfl|exact Lz.wrap (by omega)|(unfold goInt;with_reducible exact Lz.rfl)|exact flx _|constructor)
    exact Lz.int (by rw [hC]; unfold canF; rw [if_pos hm])
   ·have hm : ¬ l[c.chain.toNat].epoch = 18446744073709551615 := hm
    ((conv=>whnf)<;>repeat(with_reducible refine D1 ?_)<;>conv=>whnf)
    refine ⟨[], [], ?_⟩
    iterate 3 constructor
    refine ⟨⟨?_, ?_, ?_⟩, rfl, rfl, rfl⟩
    all_goals (repeat' first|with_reducible exact Lz.rfl|exact Lw.rfl|exact Lz.wrap (by omega)|(unfold goInt;with_reducible exact Lz.rfl)|exact flx _|constructor)
    exact Lz.int (by rw [hC]; unfold canF; rw [if_neg hm])
 by_cases k2 : c.kind = 2
 ·rw [k2] at hC
  refine ⟨[], [], _, _, _, _, of2_ok, ⟨by ((repeat' first|with_reducible exact Lz.rfl|exact Lw.rfl|exact Lz.wrap (by omega)|(unfold goInt;with_reducible exact Lz.rfl)|exact flx _|constructor); all_goals (exact Lz.int k2)), by ((repeat' first|with_reducible exact Lz.rfl|exact Lw.rfl|exact Lz.wrap (by omega)|(unfold goInt;with_reducible exact Lz.rfl)|exact flx _|constructor); all_goals (exact Lz.int k2)), by rfl⟩, ?_⟩
  rintro r o' c' ⟨rfl, rfl, rfl⟩
  ((conv=>whnf)<;>repeat(with_reducible refine D1 ?_)<;>conv=>whnf)
  refine ⟨[], [], _, _, _, _, canAppend_ok l l[c.chain.toNat] c.node (by omega) (fun x hx => by have := (allP_in ha hx).2.2.1; omega), t3, ?_⟩
  rintro r o' c' ⟨rfl, rfl, rfl⟩
  ((conv=>whnf)<;>repeat(with_reducible refine D1 ?_)<;>conv=>whnf)
  (first|refine ⟨?_,?_⟩|refine nsplit ?_ ?_|refine bsplit ?_ ?_)<;>intro he<;>have hz_:=True.intro<;>clear hz_
  ·have he : canK l l[c.chain.toNat] 2 c.node ≠ 0 := he
   rw [if_pos he] at hC
   ((conv=>whnf)<;>repeat(with_reducible refine D1 ?_)<;>conv=>whnf)
   refine ⟨[], [], ?_⟩
   iterate 3 constructor
   refine ⟨⟨?_, ?_, ?_⟩, rfl, rfl, rfl⟩
   all_goals (repeat' first|with_reducible exact Lz.rfl|exact Lw.rfl|exact Lz.wrap (by omega)|(unfold goInt;with_reducible exact Lz.rfl)|exact flx _|constructor)
   exact Lz.int hC.symm
  ·have he : ¬ canK l l[c.chain.toNat] 2 c.node ≠ 0 := he
   rw [if_neg he] at hC
   ((conv=>whnf)<;>repeat(with_reducible refine D1 ?_)<;>conv=>whnf)
   (first|refine ⟨?_,?_⟩|refine nsplit ?_ ?_|refine bsplit ?_ ?_)<;>intro hm<;>have hz_:=True.intro<;>clear hz_
   ·have hm : l[c.chain.toNat].epoch = 18446744073709551615 := hm
    ((conv=>whnf)<;>repeat(with_reducible refine D1 ?_)<;>conv=>whnf)
    refine ⟨[], [], ?_⟩
    iterate 3 constructor
    refine ⟨⟨?_, ?_, ?_⟩, rfl, rfl, rfl⟩
    all_goals (repeat' first|with_reducible exact Lz.rfl|exact Lw.rfl|exact Lz.wrap (by omega)|(unfold goInt;with_reducible exact Lz.rfl)|exact flx _|constructor)
    exact Lz.int (by rw [hC]; unfold canF; rw [if_pos hm])
   ·have hm : ¬ l[c.chain.toNat].epoch = 18446744073709551615 := hm
    ((conv=>whnf)<;>repeat(with_reducible refine D1 ?_)<;>conv=>whnf)
    refine ⟨[], [], ?_⟩
    iterate 3 constructor
    refine ⟨⟨?_, ?_, ?_⟩, rfl, rfl, rfl⟩
    all_goals (repeat' first|with_reducible exact Lz.rfl|exact Lw.rfl|exact Lz.wrap (by omega)|(unfold goInt;with_reducible exact Lz.rfl)|exact flx _|constructor)
    exact Lz.int (by rw [hC]; unfold canF; rw [if_neg hm])
 by_cases k3 : c.kind = 3
 ·rw [k3] at hC
  refine ⟨[], [], _, _, _, _, of3_ok, ⟨by ((repeat' first|with_reducible exact Lz.rfl|exact Lw.rfl|exact Lz.wrap (by omega)|(unfold goInt;with_reducible exact Lz.rfl)|exact flx _|constructor); all_goals (exact Lz.int k3)), by ((repeat' first|with_reducible exact Lz.rfl|exact Lw.rfl|exact Lz.wrap (by omega)|(unfold goInt;with_reducible exact Lz.rfl)|exact flx _|constructor); all_goals (exact Lz.int k3)), by rfl⟩, ?_⟩
  rintro r o' c' ⟨rfl, rfl, rfl⟩
  ((conv=>whnf)<;>repeat(with_reducible refine D1 ?_)<;>conv=>whnf)
  refine ⟨[], [], _, _, _, _, canPromote_ok l l[c.chain.toNat] c.node, t3, ?_⟩
  rintro r o' c' ⟨rfl, rfl, rfl⟩
  ((conv=>whnf)<;>repeat(with_reducible refine D1 ?_)<;>conv=>whnf)
  (first|refine ⟨?_,?_⟩|refine nsplit ?_ ?_|refine bsplit ?_ ?_)<;>intro he<;>have hz_:=True.intro<;>clear hz_
  ·have he : canK l l[c.chain.toNat] 3 c.node ≠ 0 := he
   rw [if_pos he] at hC
   ((conv=>whnf)<;>repeat(with_reducible refine D1 ?_)<;>conv=>whnf)
   refine ⟨[], [], ?_⟩
   iterate 3 constructor
   refine ⟨⟨?_, ?_, ?_⟩, rfl, rfl, rfl⟩
   all_goals (repeat' first|with_reducible exact Lz.rfl|exact Lw.rfl|exact Lz.wrap (by omega)|(unfold goInt;with_reducible exact Lz.rfl)|exact flx _|constructor)
   exact Lz.int hC.symm
  ·have he : ¬ canK l l[c.chain.toNat] 3 c.node ≠ 0 := he
   rw [if_neg he] at hC
   ((conv=>whnf)<;>repeat(with_reducible refine D1 ?_)<;>conv=>whnf)
   (first|refine ⟨?_,?_⟩|refine nsplit ?_ ?_|refine bsplit ?_ ?_)<;>intro hm<;>have hz_:=True.intro<;>clear hz_
   ·have hm : l[c.chain.toNat].epoch = 18446744073709551615 := hm
    ((conv=>whnf)<;>repeat(with_reducible refine D1 ?_)<;>conv=>whnf)
    refine ⟨[], [], ?_⟩
    iterate 3 constructor
    refine ⟨⟨?_, ?_, ?_⟩, rfl, rfl, rfl⟩
    all_goals (repeat' first|with_reducible exact Lz.rfl|exact Lw.rfl|exact Lz.wrap (by omega)|(unfold goInt;with_reducible exact Lz.rfl)|exact flx _|constructor)
    exact Lz.int (by rw [hC]; unfold canF; rw [if_pos hm])
   ·have hm : ¬ l[c.chain.toNat].epoch = 18446744073709551615 := hm
    ((conv=>whnf)<;>repeat(with_reducible refine D1 ?_)<;>conv=>whnf)
    refine ⟨[], [], ?_⟩
    iterate 3 constructor
    refine ⟨⟨?_, ?_, ?_⟩, rfl, rfl, rfl⟩
    all_goals (repeat' first|with_reducible exact Lz.rfl|exact Lw.rfl|exact Lz.wrap (by omega)|(unfold goInt;with_reducible exact Lz.rfl)|exact flx _|constructor)
    exact Lz.int (by rw [hC]; unfold canF; rw [if_neg hm])
 refine ⟨[], [], _, _, _, _, of4_ok c.kind k1 k2 k3, t3, ?_⟩
 rintro r o' c' ⟨rfl, rfl, rfl⟩
 ((conv=>whnf)<;>repeat(with_reducible refine D1 ?_)<;>conv=>whnf)
 refine ⟨[], [], _, _, _, _, canSettle_ok l l[c.chain.toNat] c.kind c.node hr k1 k2 k3, t3, ?_⟩
 rintro r o' c' ⟨rfl, rfl, rfl⟩
 ((conv=>whnf)<;>repeat(with_reducible refine D1 ?_)<;>conv=>whnf)
 (first|refine ⟨?_,?_⟩|refine nsplit ?_ ?_|refine bsplit ?_ ?_)<;>intro he<;>have hz_:=True.intro<;>clear hz_
 ·have he : canK l l[c.chain.toNat] c.kind c.node ≠ 0 := he
  rw [if_pos he] at hC
  ((conv=>whnf)<;>repeat(with_reducible refine D1 ?_)<;>conv=>whnf)
  refine ⟨[], [], ?_⟩
  iterate 3 constructor
  refine ⟨⟨?_, ?_, ?_⟩, rfl, rfl, rfl⟩
  all_goals (repeat' first|with_reducible exact Lz.rfl|exact Lw.rfl|exact Lz.wrap (by omega)|(unfold goInt;with_reducible exact Lz.rfl)|exact flx _|constructor)
  exact Lz.int hC.symm
 ·have he : ¬ canK l l[c.chain.toNat] c.kind c.node ≠ 0 := he
  rw [if_neg he] at hC
  ((conv=>whnf)<;>repeat(with_reducible refine D1 ?_)<;>conv=>whnf)
  (first|refine ⟨?_,?_⟩|refine nsplit ?_ ?_|refine bsplit ?_ ?_)<;>intro hm<;>have hz_:=True.intro<;>clear hz_
  ·have hm : l[c.chain.toNat].epoch = 18446744073709551615 := hm
   ((conv=>whnf)<;>repeat(with_reducible refine D1 ?_)<;>conv=>whnf)
   refine ⟨[], [], ?_⟩
   iterate 3 constructor
   refine ⟨⟨?_, ?_, ?_⟩, rfl, rfl, rfl⟩
   all_goals (repeat' first|with_reducible exact Lz.rfl|exact Lw.rfl|exact Lz.wrap (by omega)|(unfold goInt;with_reducible exact Lz.rfl)|exact flx _|constructor)
   exact Lz.int (by rw [hC]; unfold canF; rw [if_pos hm])
  ·have hm : ¬ l[c.chain.toNat].epoch = 18446744073709551615 := hm
   ((conv=>whnf)<;>repeat(with_reducible refine D1 ?_)<;>conv=>whnf)
   refine ⟨[], [], ?_⟩
   iterate 3 constructor
   refine ⟨⟨?_, ?_, ?_⟩, rfl, rfl, rfl⟩
   all_goals (repeat' first|with_reducible exact Lz.rfl|exact Lw.rfl|exact Lz.wrap (by omega)|(unfold goInt;with_reducible exact Lz.rfl)|exact flx _|constructor)
   exact Lz.int (by rw [hC]; unfold canF; rw [if_neg hm])
end Go.M
namespace Go.M
open Go Go.Proofs
set_option maxRecDepth 100000
set_option maxHeartbeats 4000000
def madeL (x : CF) (k n : Int) : CF :=
 if k = 1 then (if x.join = n then ⟨x.chain, x.epoch + 1, x.nodes, x.fresh, 0⟩ else ⟨x.chain, x.epoch + 1, withoutL x.nodes n, x.fresh && decide (lastL x ≠ n), x.join⟩)
 else if k = 2 then ⟨x.chain, x.epoch + 1, x.nodes, x.fresh, n⟩
 else if k = 3 then ⟨x.chain, x.epoch + 1, x.nodes ++ [n], true, 0⟩
 else ⟨x.chain, x.epoch + 1, x.nodes, false, x.join⟩
theorem made_ok (x : CF) (c : Cmd) (hr : rightP x) (he : x.epoch < 18446744073709551615) : VC E0 72 0 [.agg (encCF x), cT4 c] [] (RR (.agg (encCF (madeL x c.kind c.node))) 0 []) := by
 have h5 := hr.2.2.1
 have he0 := hr.2.1
 have hw : IntKind.u64.wrap (x.epoch + 1) = x.epoch + 1 := IntWalk.u64_in _ (by omega)
 refine VC.enterR L0 (show E0.func 72 = some Try.f72 by kernel_rfl) (fun _ _ => rfl) rfl rfl [] ?_
 ((conv=>whnf)<;>repeat(with_reducible refine D1 ?_)<;>conv=>whnf)
 refine ⟨by simp; omega, ?_⟩
 ((conv=>whnf)<;>repeat(with_reducible refine D1 ?_)<;>conv=>whnf)
 (first|refine ⟨?_,?_⟩|refine nsplit ?_ ?_|refine bsplit ?_ ?_)<;>intro k1<;>have hz_:=True.intro<;>clear hz_
 ·have k1 : c.kind = 1 := k1
  ((conv=>whnf)<;>repeat(with_reducible refine D1 ?_)<;>conv=>whnf)
  (first|refine ⟨?_,?_⟩|refine nsplit ?_ ?_|refine bsplit ?_ ?_)<;>intro hj<;>have hz_:=True.intro<;>clear hz_
  ·have hj : x.join = c.node := hj
   have hC : madeL x c.kind c.node = ⟨x.chain, x.epoch + 1, x.nodes, x.fresh, 0⟩ := by unfold madeL; rw [if_pos k1, if_pos hj]
   rw [hC]
   ((conv=>whnf)<;>repeat(with_reducible refine D1 ?_)<;>conv=>whnf)
   refine ⟨[3], [], ?_⟩
   iterate 3 constructor
   refine ⟨⟨?_, ?_, ?_⟩, rfl, rfl, rfl⟩
   all_goals (repeat' first|with_reducible exact Lz.rfl|exact Lw.rfl|exact Lz.wrap (by omega)|(unfold goInt;with_reducible exact Lz.rfl)|exact flx _|constructor)
   exact Lz.int hw
  ·have hj : ¬ x.join = c.node := hj
   have hC : madeL x c.kind c.node = ⟨x.chain, x.epoch + 1, withoutL x.nodes c.node, x.fresh && decide (lastL x ≠ c.node), x.join⟩ := by unfold madeL; rw [if_pos k1, if_neg hj]
   rw [hC]
   ((conv=>whnf)<;>repeat(with_reducible refine D1 ?_)<;>conv=>whnf)
   refine lastI h5 ?_
   ((conv=>whnf)<;>repeat(with_reducible refine D1 ?_)<;>conv=>whnf)
   (first|refine ⟨?_,?_⟩|refine nsplit ?_ ?_|refine bsplit ?_ ?_)<;>intro hla<;>have hz_:=True.intro<;>clear hz_
   ·have hla : lastL x = c.node := hla
    ((conv=>whnf)<;>repeat(with_reducible refine D1 ?_)<;>conv=>whnf)
    refine ⟨[], [], _, _, _, _, without_ok x.nodes c.node (by omega), t3, ?_⟩
    rintro r o' c' ⟨rfl, rfl, rfl⟩
    ((conv=>whnf)<;>repeat(with_reducible refine D1 ?_)<;>conv=>whnf)
    refine ⟨[5], [], ?_⟩
    iterate 3 constructor
    refine ⟨⟨?_, ?_, ?_⟩, rfl, rfl, rfl⟩
    all_goals (repeat' first|with_reducible exact Lz.rfl|exact Lw.rfl|exact Lz.wrap (by omega)|(unfold goInt;with_reducible exact Lz.rfl)|exact flx _|constructor)
    ·exact Lz.int hw
    ·exact Lz.of (bool_eq (by simp [hla]))
   ·have hla : ¬ lastL x = c.node := hla
    ((conv=>whnf)<;>repeat(with_reducible refine D1 ?_)<;>conv=>whnf)
    refine ⟨[], [], _, _, _, _, without_ok x.nodes c.node (by omega), t3, ?_⟩
    rintro r o' c' ⟨rfl, rfl, rfl⟩
    ((conv=>whnf)<;>repeat(with_reducible refine D1 ?_)<;>conv=>whnf)
    refine ⟨[5], [], ?_⟩
    iterate 3 constructor
    refine ⟨⟨?_, ?_, ?_⟩, rfl, rfl, rfl⟩
    all_goals (repeat' first|with_reducible exact Lz.rfl|exact Lw.rfl|exact Lz.wrap (by omega)|(unfold goInt;with_reducible exact Lz.rfl)|exact flx _|constructor)
    ·exact Lz.int hw
    ·exact Lz.of (bool_eq (by simp [hla]))
 ·have k1 : ¬ c.kind = 1 := k1
  ((conv=>whnf)<;>repeat(with_reducible refine D1 ?_)<;>conv=>whnf)
  (first|refine ⟨?_,?_⟩|refine nsplit ?_ ?_|refine bsplit ?_ ?_)<;>intro k2<;>have hz_:=True.intro<;>clear hz_
  ·have k2 : c.kind = 2 := k2
   have hC : madeL x c.kind c.node = ⟨x.chain, x.epoch + 1, x.nodes, x.fresh, c.node⟩ := by unfold madeL; rw [if_neg k1, if_pos k2]
   rw [hC]
   ((conv=>whnf)<;>repeat(with_reducible refine D1 ?_)<;>conv=>whnf)
   refine ⟨[3], [], ?_⟩
   iterate 3 constructor
   refine ⟨⟨?_, ?_, ?_⟩, rfl, rfl, rfl⟩
   all_goals (repeat' first|with_reducible exact Lz.rfl|exact Lw.rfl|exact Lz.wrap (by omega)|(unfold goInt;with_reducible exact Lz.rfl)|exact flx _|constructor)
   exact Lz.int hw
  ·have k2 : ¬ c.kind = 2 := k2
   ((conv=>whnf)<;>repeat(with_reducible refine D1 ?_)<;>conv=>whnf)
   (first|refine ⟨?_,?_⟩|refine nsplit ?_ ?_|refine bsplit ?_ ?_)<;>intro k3<;>have hz_:=True.intro<;>clear hz_
   ·have k3 : c.kind = 3 := k3
    have hC : madeL x c.kind c.node = ⟨x.chain, x.epoch + 1, x.nodes ++ [c.node], true, 0⟩ := by unfold madeL; rw [if_neg k1, if_neg k2, if_pos k3]
    rw [hC]
    ((conv=>whnf)<;>repeat(with_reducible refine D1 ?_)<;>conv=>whnf)
    refine ⟨by simp; omega, ?_⟩
    ((conv=>whnf)<;>repeat(with_reducible refine D1 ?_)<;>conv=>whnf)
    refine ⟨[6], [], ?_⟩
    iterate 3 constructor
    refine ⟨⟨?_, ?_, ?_⟩, rfl, rfl, rfl⟩
    all_goals (repeat' first|with_reducible exact Lz.rfl|exact Lw.rfl|exact Lz.wrap (by omega)|(unfold goInt;with_reducible exact Lz.rfl)|exact flx _|constructor)
    ·exact Lz.int hw
    ·exact Lz.of (by simp)
   ·have k3 : ¬ c.kind = 3 := k3
    have hC : madeL x c.kind c.node = ⟨x.chain, x.epoch + 1, x.nodes, false, x.join⟩ := by unfold madeL; rw [if_neg k1, if_neg k2, if_neg k3]
    rw [hC]
    ((conv=>whnf)<;>repeat(with_reducible refine D1 ?_)<;>conv=>whnf)
    refine ⟨[3], [], ?_⟩
    iterate 3 constructor
    refine ⟨⟨?_, ?_, ?_⟩, rfl, rfl, rfl⟩
    all_goals (repeat' first|with_reducible exact Lz.rfl|exact Lw.rfl|exact Lz.wrap (by omega)|(unfold goInt;with_reducible exact Lz.rfl)|exact flx _|constructor)
    exact Lz.int hw
noncomputable def doL (l : List CF) (c : Cmd) : List CF × Bool :=
 if canL l c ≠ 0 then (l, false) else if c.kind = 0 then (l, true) else
 match l[c.chain.toNat]? with
 | none => (l, true)
 | some x => (l.set c.chain.toNat (madeL x c.kind c.node), true)
theorem can_in {l : List CF} {c : Cmd} (h : canL l c = 0) (hk : c.kind ≠ 0) : allP l ∧ c.check = 0 ∧ ∃ hlt : c.chain.toNat < l.length, l[c.chain.toNat].epoch < 18446744073709551615 ∨ 18446744073709551615 < l[c.chain.toNat].epoch := by
 unfold canL at h
 by_cases ha : allP l
 ·rw [if_neg (fun q => q ha)] at h
  by_cases hc : c.check ≠ 0
  ·rw [if_pos hc] at h; exact absurd h hc
  ·rw [if_neg hc, if_neg hk] at h
   have hc0 : c.check = 0 := Classical.not_not.1 hc
   refine ⟨ha, hc0, ?_⟩
   cases hq : l[c.chain.toNat]? with
   | none => rw [hq] at h; exact absurd (show (7 : Int) = 0 from h) (by decide)
   | some x =>
    rw [hq] at h
    obtain ⟨hlt, hx⟩ := List.getElem?_eq_some_iff.1 hq
    refine ⟨hlt, ?_⟩
    dsimp only at h
    by_cases he : x.epoch ≠ c.epoch
    ·rw [if_pos he] at h; exact absurd h (by decide)
    ·rw [if_neg he, canR_eq (hx ▸ allP_in ha (List.getElem_mem hlt))] at h
     by_cases hz : canK l x c.kind c.node ≠ 0
     ·rw [if_pos hz] at h; exact absurd h hz
     ·rw [if_neg hz] at h
      unfold canF at h
      by_cases hm : x.epoch = 18446744073709551615
      ·rw [if_pos hm] at h; exact absurd h (by decide)
      ·rw [hx]; omega
 ·rw [if_pos ha] at h; exact absurd h (by decide)
theorem refDo_ok (l : List CF) (c : Cmd) (hep : ∀ c ∈ l, 0 ≤ c.epoch ∧ c.epoch ≤ 18446744073709551615) (hc : 0 ≤ c.epoch) (hl : l.length < 10000) : VC E0 22 0 [.sl 5 (l.map encCF) false, cT4 c] [] (RR (.tup [.sl 5 ((doL l c).1.map encCF) false, .s (.bool (doL l c).2)]) 0 []) := by
 refine VC.enterR L0 (show E0.func 22 = some Try.f22 by kernel_rfl) (fun _ _ => rfl) rfl rfl [] ?_
 ((conv=>whnf)<;>repeat(with_reducible refine D1 ?_)<;>conv=>whnf)
 refine ⟨[], [], _, _, _, _, refCan_ok l c (fun x hx => (hep x hx).1) hc hl, t3, ?_⟩
 rintro r o' c' ⟨rfl, rfl, rfl⟩
 ((conv=>whnf)<;>repeat(with_reducible refine D1 ?_)<;>conv=>whnf)
 (first|refine ⟨?_,?_⟩|refine nsplit ?_ ?_|refine bsplit ?_ ?_)<;>intro h<;>have hz_:=True.intro<;>clear hz_
 ·have h : canL l c ≠ 0 := h
  have hC : doL l c = (l, false) := by unfold doL; rw [if_pos h]
  rw [hC]
  ((conv=>whnf)<;>repeat(with_reducible refine D1 ?_)<;>conv=>whnf)
  exact ⟨[], [], _, _, _, t3, rfl, rfl, rfl⟩
 have h : canL l c = 0 := Classical.not_not.1 h
 ((conv=>whnf)<;>repeat(with_reducible refine D1 ?_)<;>conv=>whnf)
 (first|refine ⟨?_,?_⟩|refine nsplit ?_ ?_|refine bsplit ?_ ?_)<;>intro h0<;>have hz_:=True.intro<;>clear hz_
 ·have h0 : c.kind = 0 := h0
  have hC : doL l c = (l, true) := by unfold doL; rw [if_neg (fun q => q h), if_pos h0]
  rw [hC]
  ((conv=>whnf)<;>repeat(with_reducible refine D1 ?_)<;>conv=>whnf)
  exact ⟨[], [], _, _, _, t3, rfl, rfl, rfl⟩
 have h0 : ¬ c.kind = 0 := h0
 obtain ⟨ha, hk, hlt, hm⟩ := can_in h h0
 have hrg := check_rng hk h0
 have hin := hep _ (List.getElem_mem hlt)
 have hC : doL l c = (l.set c.chain.toNat (madeL l[c.chain.toNat] c.kind c.node), true) := by unfold doL; rw [if_neg (fun q => q h), if_neg h0, List.getElem?_eq_getElem hlt]
 rw [hC]
 ((conv=>whnf)<;>repeat(with_reducible refine D1 ?_)<;>conv=>whnf)
 refine ⟨by simp; omega, ?_⟩
 ((conv=>whnf)<;>repeat(with_reducible refine D1 ?_)<;>conv=>whnf)
 refine idxI' hrg.1 hlt ?_
 ((conv=>whnf)<;>repeat(with_reducible refine D1 ?_)<;>conv=>whnf)
 refine ⟨[], [], _, _, _, _, made_ok l[c.chain.toNat] c (allP_in ha (List.getElem_mem hlt)) (by omega), t3, ?_⟩
 rintro r o' c' ⟨rfl, rfl, rfl⟩
 ((conv=>whnf)<;>repeat(with_reducible refine D1 ?_)<;>conv=>whnf)
 refine ⟨⟨hrg.1, by rw [List.length_map]; omega⟩, ?_⟩
 ((conv=>whnf)<;>repeat(with_reducible refine D1 ?_)<;>conv=>whnf)
 refine ⟨encCF l[c.chain.toNat], by rw [List.getElem?_map, List.getElem?_eq_getElem hlt]; rfl, ?_⟩
 ((conv=>whnf)<;>repeat(with_reducible refine D1 ?_)<;>conv=>whnf)
 refine ⟨[1], [], ?_⟩
 iterate 3 constructor
 refine ⟨⟨?_, ?_, ?_⟩, rfl, rfl, rfl⟩
 all_goals (repeat' first|with_reducible exact Lz.rfl|exact Lw.rfl|exact Lz.wrap (by omega)|(unfold goInt;with_reducible exact Lz.rfl)|exact flx _|constructor)
 exact Lz.of (by rw [List.map_set]; rfl)
end Go.M
namespace Go.M
open Go Go.Proofs
set_option maxRecDepth 100000
set_option maxHeartbeats 4000000
@[reducible] def refG (K : List Vote) (l : List CF) : TV := .agg [encVs K, .sl 5 (l.map encCF) false]
def nxtG (K : List Vote) : Nat → Nat → Nat
 | 0, n => n
 | m + 1, n => match K[n]? with
  | some v => if v.slot = (n : Int) then nxtG K m (n + 1) else n
  | none => n
def nextG (K : List Vote) : Nat := nxtG K K.length 0
def topG (K : List Vote) : Int := match K.getLast? with
 | none => 0
 | some v => v.slot + 1
noncomputable def cameG (K : List Vote) (l : List CF) : Nat → List CF × List CF
 | 0 => ([], l)
 | n + 1 => match K[n]? with
  | none => cameG K l n
  | some v => (if (doL (cameG K l n).2 (cmdOf v)).2 = true ∧ v.kind ≠ 0 then (cameG K l n).1 ++ ((doL (cameG K l n).2 (cmdOf v)).1[v.chain.toNat]?).toList else (cameG K l n).1, (doL (cameG K l n).2 (cmdOf v)).1)
end Go.M
namespace Go.M
open Go Go.Proofs
set_option maxRecDepth 100000
set_option maxHeartbeats 4000000
structure okE (l : List CF) : Prop where
 len : l.length ≤ 6
 ep : ∀ c ∈ l, 0 ≤ c.epoch ∧ c.epoch ≤ 18446744073709551615
 n6 : ∀ c ∈ l, c.nodes.length ≤ 6
theorem doL_len (l : List CF) (c : Cmd) : (doL l c).1.length = l.length := by
 unfold doL
 split
 ·rfl
 ·split
  ·rfl
  ·split
   ·rfl
   ·simp
theorem doL_done {l : List CF} {c : Cmd} (h : (doL l c).2 = true) (hk : c.kind ≠ 0) : canL l c = 0 := by
 unfold doL at h
 by_cases hc : canL l c ≠ 0
 ·rw [if_pos hc] at h; exact absurd (show false = true from h) Bool.false_ne_true
 ·exact Classical.not_not.1 hc
theorem madeL_ok {x : CF} {k n : Int} (h5 : x.nodes.length ≤ 5) (he : 0 ≤ x.epoch ∧ x.epoch < 18446744073709551615) : (0 ≤ (madeL x k n).epoch ∧ (madeL x k n).epoch ≤ 18446744073709551615) ∧ (madeL x k n).nodes.length ≤ 6 := by
 have hw := withoutL_len x.nodes n
 unfold madeL
 repeat' split
 all_goals (dsimp only; first | exact ⟨⟨by omega, by omega⟩, by omega⟩ | exact ⟨⟨by omega, by omega⟩, by simp; omega⟩)
theorem okE.do {l : List CF} (h : okE l) (c : Cmd) : okE (doL l c).1 := by
 by_cases hc : canL l c = 0
 ·by_cases hk : c.kind = 0
  ·have : doL l c = (l, true) := by unfold doL; rw [if_neg (fun q => q hc), if_pos hk]
   rw [this]; exact h
  ·obtain ⟨ha, hck, hlt, hm⟩ := can_in hc hk
   have hC : doL l c = (l.set c.chain.toNat (madeL l[c.chain.toNat] c.kind c.node), true) := by unfold doL; rw [if_neg (fun q => q hc), if_neg hk, List.getElem?_eq_getElem hlt]
   have h5 := (allP_in ha (List.getElem_mem hlt)).2.2.1
   have hep := h.ep _ (List.getElem_mem hlt)
   have hmo := madeL_ok (x := l[c.chain.toNat]) (k := c.kind) (n := c.node) h5.2 ⟨hep.1, by omega⟩
   rw [hC]
   refine ⟨by simpa using h.len, fun x hx => ?_, fun x hx => ?_⟩
   ·rcases List.mem_or_eq_of_mem_set hx with q | rfl
    ·exact h.ep x q
    ·exact hmo.1
   ·rcases List.mem_or_eq_of_mem_set hx with q | rfl
    ·exact h.n6 x q
    ·exact hmo.2
 ·have : doL l c = (l, false) := by unfold doL; rw [if_pos hc]
  rw [this]; exact h
theorem okE.came {l : List CF} (h : okE l) (K : List Vote) : ∀ n, okE (cameG K l n).2
 | 0 => h
 | n + 1 => by
  have ih := h.came K n
  unfold cameG
  cases K[n]? with
  | none => exact ih
  | some v => exact ih.do _
theorem cameG_len (K : List Vote) (l : List CF) : ∀ n, (cameG K l n).1.length ≤ n
 | 0 => by simp [cameG]
 | n + 1 => by
  have ih := cameG_len K l n
  unfold cameG
  cases K[n]? with
  | none => dsimp only; omega
  | some v =>
   dsimp only
   split
   ·rw [List.length_append]
    have : ((doL (cameG K l n).2 (cmdOf v)).1[v.chain.toNat]?).toList.length ≤ 1 := by
     cases (doL (cameG K l n).2 (cmdOf v)).1[v.chain.toNat]? <;> simp
    omega
   ·omega
end Go.M
namespace Go.M
open Go Go.Proofs
set_option maxRecDepth 100000
set_option maxHeartbeats 4000000
def nf : Nat → List Vote → Nat
 | n, [] => n
 | n, x :: l => if x.slot = (n : Int) then nf (n + 1) l else n
theorem nf_ge : ∀ (l : List Vote) (n : Nat), n ≤ nf n l
 | [], n => Nat.le_refl n
 | x :: l, n => by
  unfold nf
  split
  ·exact Nat.le_trans (Nat.le_succ n) (nf_ge l (n + 1))
  ·exact Nat.le_refl n
theorem nf_le : ∀ (l : List Vote) (n : Nat), nf n l ≤ n + l.length
 | [], n => Nat.le_refl n
 | x :: l, n => by
  have := nf_le l (n + 1)
  unfold nf
  rw [List.length_cons]
  split <;> omega
theorem nxtG_nf (K : List Vote) : ∀ (m n : Nat), m + n = K.length → nxtG K m n = nf n (K.drop n)
 | 0, n, h => by
  rw [List.drop_eq_nil_of_le (by omega)]; rfl
 | m + 1, n, h => by
  have hlt : n < K.length := by omega
  have ih := nxtG_nf K m (n + 1) (by omega)
  rw [List.drop_eq_getElem_cons hlt]
  unfold nxtG nf
  rw [List.getElem?_eq_getElem hlt]
  dsimp only
  split
  ·exact ih
  ·rfl
theorem nextG_nf (K : List Vote) : nextG K = nf 0 K := nxtG_nf K K.length 0 (by omega)
theorem nextG_le (K : List Vote) : nextG K ≤ K.length := by rw [nextG_nf]; have := nf_le K 0; omega
theorem nf_put (v : Vote) : ∀ (l : List Vote) (n : Nat), SS l → (∀ x ∈ l, (n : Int) ≤ x.slot) → (n : Int) ≤ v.slot → (∀ x ∈ l, x.slot = v.slot → cmdOf x = cmdOf v) →
 nf n l ≤ nf n (put l v) ∧ ∀ i, n + i < nf n l → (l[i]?).map cmdOf = ((put l v)[i]?).map cmdOf
 | [], n, _, _, _, _ => ⟨nf_ge _ n, fun i h => by simp only [nf] at h; omega⟩
 | x :: l, n, hS, hge, hv, hc => by
  obtain ⟨hS1, hS2⟩ := List.pairwise_cons.1 hS
  by_cases hx : x.slot = (n : Int)
  ·by_cases h1 : x.slot < v.slot
   ·have ih := nf_put v l (n + 1) hS2 (fun y hy => by have := hS1 y hy; omega) (by omega) (fun y hy => hc y (List.mem_cons_of_mem _ hy))
    have e1 : nf n (x :: l) = nf (n + 1) l := by rw [nf, if_pos hx]
    have e2 : put (x :: l) v = x :: put l v := by rw [put, if_pos h1]
    have e3 : nf n (x :: put l v) = nf (n + 1) (put l v) := by rw [nf, if_pos hx]
    rw [e1, e2, e3]
    refine ⟨ih.1, fun i hi => ?_⟩
    cases i with
    | zero => rfl
    | succ i => simpa using ih.2 i (by omega)
   ·have h2 : x.slot = v.slot := by omega
    have e2 : put (x :: l) v = v :: l := by rw [put, if_neg h1, if_pos h2]
    have e1 : nf n (x :: l) = nf (n + 1) l := by rw [nf, if_pos hx]
    have e3 : nf n (v :: l) = nf (n + 1) l := by rw [nf, if_pos (h2 ▸ hx)]
    rw [e1, e2, e3]
    refine ⟨Nat.le_refl _, fun i hi => ?_⟩
    cases i with
    | zero => simp [hc x List.mem_cons_self h2]
    | succ i => rfl
  ·have e1 : nf n (x :: l) = n := by rw [nf, if_neg hx]
   rw [e1]
   exact ⟨nf_ge _ n, fun i hi => by omega⟩
theorem cameG_same {K K' : List Vote} {l : List CF} : ∀ {n : Nat}, (∀ i < n, (K[i]?).map cmdOf = (K'[i]?).map cmdOf) → cameG K l n = cameG K' l n
 | 0, _ => rfl
 | n + 1, h => by
  have ih := cameG_same (l := l) (n := n) fun i hi => h i (by omega)
  have hn := h n (Nat.lt_succ_self n)
  unfold cameG
  rw [ih]
  cases h1 : K[n]? with
  | none =>
   cases h2 : K'[n]? with
   | none => rfl
   | some w => rw [h1, h2] at hn; cases hn
  | some v =>
   cases h2 : K'[n]? with
   | none => rw [h1, h2] at hn; cases hn
   | some w =>
    rw [h1, h2] at hn
    have e : cmdOf v = cmdOf w := by simpa using hn
    have ek : v.kind = w.kind := congrArg Cmd.kind e
    have ec : v.chain = w.chain := congrArg Cmd.chain e
    dsimp only
    rw [e, ek, ec]
theorem cameG_mono (K : List Vote) (l : List CF) (n : Nat) : ∀ m, (cameG K l n).1 <+: (cameG K l (n + m)).1
 | 0 => List.prefix_rfl
 | m + 1 => by
  have ih := cameG_mono K l n m
  show _ <+: (cameG K l ((n + m) + 1)).1
  rw [cameG]
  cases K[n + m]? with
  | none => exact ih
  | some v =>
   dsimp only
   split
   ·exact ih.trans (List.prefix_append _ _)
   ·exact ih
end Go.M
namespace Go.M
open Go Go.Proofs
set_option maxRecDepth 100000
set_option maxHeartbeats 4000000
structure okK (K : List Vote) : Prop where
 ss : SS K
 rng : ∀ v ∈ K, 0 ≤ v.slot ∧ v.slot < 512
 len : K.length < 900
 ep : ∀ v ∈ K, 0 ≤ v.epoch
noncomputable def cameN (K : List Vote) (l : List CF) : List CF := (cameG K l (nextG K)).1
def other (K : List Vote) (slot : Int) (c : Cmd) : Bool := match atS K slot with
 | none => false
 | some v => !(sameC (cmdOf v) c)
noncomputable def learnG (K : List Vote) (l : List CF) (slot : Int) (c : Cmd) : List Vote × List CF × Int :=
 if slot < 0 ∨ slot > 511 then (K, [], 1) else if c.check ≠ 0 then (K, [], c.check) else if other K slot c = true then (K, [], 8)
 else (put K (.of slot 0 c), (cameN (put K (.of slot 0 c)) l).drop (cameN K l).length, 0)
theorem put_lenG (v : Vote) : ∀ l : List Vote, (put l v).length ≤ l.length + 1
 | [] => by simp [put]
 | x :: l => by
  have := put_lenG v l
  unfold put
  split
  ·simp only [List.length_cons]; omega
  ·split <;> simp
end Go.M
namespace Go.M
open Go Go.Proofs
set_option maxRecDepth 100000
set_option maxHeartbeats 4000000
def gapsN (K : List Vote) (n : Nat) : List Int := (List.range n).filterMap fun (i : Nat) => if (atS K i).isSome = true then none else some (i : Int)
def gapsG (K : List Vote) : List Int := gapsN K (topG K).toNat
end Go.M
namespace Go.M
open Go Go.Proofs
set_option maxRecDepth 100000
set_option maxHeartbeats 4000000
def nodesB (base : Nat) (k : Nat) : List Int := (List.range k).map fun (q : Nat) => ((base + q + 1 : Nat) : Int)
theorem nodesB_succ (b k : Nat) : nodesB b (k + 1) = nodesB b k ++ [((b + k + 1 : Nat) : Int)] := by simp [nodesB, List.range_succ]
def confB (per : Nat) (i : Nat) : CF := ⟨i, 1, nodesB (i * per) per, false, 0⟩
def beginL (per : Nat) (i : Nat) : List CF := (List.range i).map (confB per)
theorem beginL_succ (per i : Nat) : beginL per (i + 1) = beginL per i ++ [confB per i] := by simp [beginL, List.range_succ]
def rightB (chains per : Int) : Prop := (1 ≤ chains ∧ chains ≤ 4) ∧ 1 ≤ per ∧ per ≤ 5
theorem refBegin_ok (chains per : Nat) (h : rightB chains per) : VC E0 13 0 [.s (.int .i64 chains), .s (.int .i64 per)] [] (RR (.tup [.sl 5 ((beginL per chains).map encCF) false, .s (.int .i64 0)]) 0 []) := by
 obtain ⟨⟨a1, a2⟩, a3, a4⟩ := h
 have hmul : ∀ i : Nat, i ≤ chains → i * per ≤ 20 := fun i hi => by
  have h1 : i ≤ 4 := by omega
  have h2 : per ≤ 5 := by omega
  exact Nat.mul_le_mul h1 h2
 refine VC.enterR L0 (show E0.func 13 = some Try.f13 by kernel_rfl) (fun _ _ => rfl) rfl rfl [] ?_
 ((conv=>whnf)<;>repeat(with_reducible refine D1 ?_)<;>conv=>whnf)
 (first|refine ⟨?_,?_⟩|refine nsplit ?_ ?_|refine bsplit ?_ ?_)<;>intro q1<;>have hz_:=True.intro<;>clear hz_
 ·have q1 : (chains : Int) < 1 := q1
  omega
 ((conv=>whnf)<;>repeat(with_reducible refine D1 ?_)<;>conv=>whnf)
 (first|refine ⟨?_,?_⟩|refine nsplit ?_ ?_|refine bsplit ?_ ?_)<;>intro q2<;>have hz_:=True.intro<;>clear hz_
 ·have q2 : (chains : Int) > 4 := q2
  omega
 ((conv=>whnf)<;>repeat(with_reducible refine D1 ?_)<;>conv=>whnf)
 (first|refine ⟨?_,?_⟩|refine nsplit ?_ ?_|refine bsplit ?_ ?_)<;>intro q3<;>have hz_:=True.intro<;>clear hz_
 ·have q3 : (per : Int) < 1 := q3
  omega
 ((conv=>whnf)<;>repeat(with_reducible refine D1 ?_)<;>conv=>whnf)
 (first|refine ⟨?_,?_⟩|refine nsplit ?_ ?_|refine bsplit ?_ ?_)<;>intro q4<;>have hz_:=True.intro<;>clear hz_
 ·have q4 : (per : Int) > 5 := q4
  omega
 ((conv=>whnf)<;>repeat(with_reducible refine D1 ?_)<;>conv=>whnf)
 refine ⟨fun kk f o c => ∃ i : Nat, i ≤ chains ∧ kk = chains - i ∧ c = 1 ∧ f = [(0, .s (.int .i64 chains)), (1, .s (.int .i64 per)), (6, .tk 0), (7, .s (.int .i64 (i * per : Nat))), (8, .s (.int .i64 i))] ∧ o = [(0, .arr 5 true ((beginL per i).map encCF))], ⟨chains, ?_⟩, ?_⟩
 ·refine ⟨[], [none], ?_⟩
  iterate 3 constructor
  refine ⟨⟨?_, ?_, ?_⟩, ⟨0, Nat.zero_le _, rfl, rfl, rfl, rfl⟩⟩
  all_goals (repeat' first|with_reducible exact Lz.rfl|exact Lw.rfl|exact Lz.wrap (by omega)|(unfold goInt;with_reducible exact Lz.rfl)|exact flx _|constructor)
  all_goals exact Lz.int (by simp)
 ·rintro kk f1 o1 c1 ⟨i, hi, rfl, rfl, rfl, rfl⟩
  ((conv=>whnf)<;>repeat(with_reducible refine D1 ?_)<;>conv=>whnf)
  (first|refine ⟨?_,?_⟩|refine nsplit ?_ ?_|refine bsplit ?_ ?_)<;>intro hl<;>have hz_:=True.intro<;>clear hz_
  ·have hl : i < chains := by have : (i : Int) < (chains : Int) := hl
                              omega
   have hm := hmul (i + 1) hl
   have hm' : (i + 1) * per = i * per + per := Nat.succ_mul i per
   ((conv=>whnf)<;>repeat(with_reducible refine D1 ?_)<;>conv=>whnf)
   refine ⟨fun kk f o c => ∃ k : Nat, k ≤ per ∧ kk = per - k ∧ c = 3 ∧ f = [(0, .s (.int .i64 chains)), (1, .s (.int .i64 per)), (6, .tk 0), (7, .s (.int .i64 (i * per + k : Nat))), (8, .s (.int .i64 i)), (9, .ptr 1 0), (10, .s (.int .i64 k))] ∧
    o = [(0, .arr 5 true ((beginL per i).map encCF)), (1, .cells [.s (.int .i64 i), .s (.int .u64 1), .tk 2, .s (.bool false), .s (.int .i64 0)]), (2, .arr 1 true ((nodesB (i * per) k).map encI1))], ⟨per, ?_⟩, ?_⟩
   ·exact ⟨[], [some 0, some 1, none], _, _, _, t3, ⟨0, Nat.zero_le _, rfl, rfl, rfl, rfl⟩⟩
   ·rintro kk f2 o2 c2 ⟨k, hk, rfl, rfl, rfl, rfl⟩
    ((conv=>whnf)<;>repeat(with_reducible refine D1 ?_)<;>conv=>whnf)
    (first|refine ⟨?_,?_⟩|refine nsplit ?_ ?_|refine bsplit ?_ ?_)<;>intro hkl<;>have hz_:=True.intro<;>clear hz_
    ·have hkl : k < per := by have : (k : Int) < (per : Int) := hkl
                              omega
     ((conv=>whnf)<;>repeat(with_reducible refine D1 ?_)<;>conv=>whnf)
     refine ⟨by simp [nodesB]; omega, ?_⟩
     ((conv=>whnf)<;>repeat(with_reducible refine D1 ?_)<;>conv=>whnf)
     refine ⟨per - (k + 1), ?_, by omega⟩
     refine ⟨[], [some 0, some 1, some 4], ?_⟩
     iterate 3 constructor
     refine ⟨⟨?_, ?_, ?_⟩, ⟨k + 1, hkl, rfl, rfl, rfl, rfl⟩⟩
     all_goals (repeat' first|with_reducible exact Lz.rfl|exact Lw.rfl|exact Lz.wrap (by omega)|(unfold goInt;with_reducible exact Lz.rfl)|exact flx _|constructor)
     exact Lz.of (by rw [nodesB_succ, List.map_append, IntWalk.i64_in _ (by omega)]; rfl)
    ·have hkl : k = per := by have : ¬ (k : Int) < (per : Int) := hkl
                              omega
     subst hkl
     ((conv=>whnf)<;>repeat(with_reducible refine D1 ?_)<;>conv=>whnf)
     refine ⟨by simp [beginL]; omega, ?_⟩
     ((conv=>whnf)<;>repeat(with_reducible refine D1 ?_)<;>conv=>whnf)
     refine ⟨chains - (i + 1), ?_, by omega⟩
     refine ⟨[], [some 4], ?_⟩
     iterate 3 constructor
     refine ⟨⟨?_, ?_, ?_⟩, ⟨i + 1, hl, rfl, rfl, rfl, rfl⟩⟩
     all_goals (repeat' first|with_reducible exact Lz.rfl|exact Lw.rfl|exact Lz.wrap (by omega)|(unfold goInt;with_reducible exact Lz.rfl)|exact flx _|constructor)
     ·exact Lz.int (by rw [hm'])
     ·exact Lz.of (by rw [beginL_succ, List.map_append]; rfl)
  ·have hl : i = chains := by have : ¬ (i : Int) < (chains : Int) := hl
                              omega
   subst hl
   have hm := hmul i (Nat.le_refl _)
   ((conv=>whnf)<;>repeat(with_reducible refine D1 ?_)<;>conv=>whnf)
   (first|refine ⟨?_,?_⟩|refine nsplit ?_ ?_|refine bsplit ?_ ?_)<;>intro q5<;>have hz_:=True.intro<;>clear hz_
   ·have q5 : ((i * per : Nat) : Int) > 24 := q5
    omega
   ((conv=>whnf)<;>repeat(with_reducible refine D1 ?_)<;>conv=>whnf)
   exact ⟨[0], [], _, _, _, t3, rfl, rfl, rfl⟩
end Go.M
namespace Go.M
open Go Go.Proofs
set_option maxRecDepth 100000
set_option maxHeartbeats 4000000
theorem refBeginNo_ok (chains per : Int) (h : ¬ rightB chains per) : VC E0 13 0 [.s (.int .i64 chains), .s (.int .i64 per)] [] (RR (.tup [.sl 5 [] false, .s (.int .i64 1)]) 0 []) := by
 unfold rightB at h
 refine VC.enterR L0 (show E0.func 13 = some Try.f13 by kernel_rfl) (fun _ _ => rfl) rfl rfl [] ?_
 ((conv=>whnf)<;>repeat(with_reducible refine D1 ?_)<;>conv=>whnf)
 (first|refine ⟨?_,?_⟩|refine nsplit ?_ ?_|refine bsplit ?_ ?_)<;>intro q1<;>have hz_:=True.intro<;>clear hz_
 ·((conv=>whnf)<;>repeat(with_reducible refine D1 ?_)<;>conv=>whnf)
  exact ⟨[], [], _, _, _, t3, rfl, rfl, rfl⟩
 have q1 : ¬ chains < 1 := q1
 ((conv=>whnf)<;>repeat(with_reducible refine D1 ?_)<;>conv=>whnf)
 (first|refine ⟨?_,?_⟩|refine nsplit ?_ ?_|refine bsplit ?_ ?_)<;>intro q2<;>have hz_:=True.intro<;>clear hz_
 ·((conv=>whnf)<;>repeat(with_reducible refine D1 ?_)<;>conv=>whnf)
  exact ⟨[], [], _, _, _, t3, rfl, rfl, rfl⟩
 have q2 : ¬ chains > 4 := q2
 ((conv=>whnf)<;>repeat(with_reducible refine D1 ?_)<;>conv=>whnf)
 (first|refine ⟨?_,?_⟩|refine nsplit ?_ ?_|refine bsplit ?_ ?_)<;>intro q3<;>have hz_:=True.intro<;>clear hz_
 ·((conv=>whnf)<;>repeat(with_reducible refine D1 ?_)<;>conv=>whnf)
  exact ⟨[], [], _, _, _, t3, rfl, rfl, rfl⟩
 have q3 : ¬ per < 1 := q3
 ((conv=>whnf)<;>repeat(with_reducible refine D1 ?_)<;>conv=>whnf)
 (first|refine ⟨?_,?_⟩|refine nsplit ?_ ?_|refine bsplit ?_ ?_)<;>intro q4<;>have hz_:=True.intro<;>clear hz_
 ·((conv=>whnf)<;>repeat(with_reducible refine D1 ?_)<;>conv=>whnf)
  exact ⟨[], [], _, _, _, t3, rfl, rfl, rfl⟩
 have q4 : ¬ per > 5 := q4
 exact absurd ⟨⟨by omega, by omega⟩, by omega, by omega⟩ h
theorem own_ok (c : CF) (hn : c.nodes.length < 1000000) : VC E0 112 0 [.agg (encCF c)] [] (RR (.agg (encCF c)) 0 []) := by
 refine VC.enterR L0 (show E0.func 112 = some Try.f112 by kernel_rfl) (fun _ _ => rfl) rfl rfl [] ?_
 ((conv=>whnf)<;>repeat(with_reducible refine D1 ?_)<;>conv=>whnf)
 refine ⟨[], [], _, _, _, _, cloneI_ok c.nodes hn, t3, ?_⟩
 rintro r o' c' ⟨rfl, rfl, rfl⟩
 ((conv=>whnf)<;>repeat(with_reducible refine D1 ?_)<;>conv=>whnf)
 exact ⟨[2], [], _, _, _, t3, rfl, rfl, rfl⟩
@[reducible] def zCF : List TV := [.s (.int .i64 0), .s (.int .u64 0), .sl 0 [] true, .s (.bool false), .s (.int .i64 0)]
def copyE (l : List CF) (j : Nat) : List (List TV) := (l.take j).map encCF ++ List.replicate (l.length - j) zCF
theorem copyE_len (l : List CF) (j : Nat) (h : j ≤ l.length) : (copyE l j).length = l.length := by unfold copyE; simp; omega
theorem copyE_set (l : List CF) (j : Nat) (h : j < l.length) : (copyE l j).set j (encCF l[j]) = copyE l (j + 1) := by
 unfold copyE
 have e : l.length - j = (l.length - (j + 1)) + 1 := by omega
 have hlen : ((l.take j).map encCF).length = j := by rw [List.length_map, List.length_take]; omega
 rw [e, List.replicate_succ, List.set_append, if_neg (by omega), hlen, Nat.sub_self, List.take_succ_eq_append_getElem h, List.map_append, List.append_assoc]
 rfl
theorem copyE_get (l : List CF) (j : Nat) (h : j < l.length) : (copyE l j)[j]? = some zCF := by
 unfold copyE
 have e : l.length - j = (l.length - (j + 1)) + 1 := by omega
 have hlen : ((l.take j).map encCF).length = j := by rw [List.length_map, List.length_take]; omega
 rw [e, List.replicate_succ, List.getElem?_append_right (by omega), hlen, Nat.sub_self]
 rfl
theorem copy_ok (l : List CF) (hl : l.length < 10000) (hn : ∀ c ∈ l, c.nodes.length < 1000000) : VC E0 65 0 [.sl 5 (l.map encCF) false] [] (RR (.tk 0) 1 [(0, .arr 5 true (l.map encCF))]) := by
 refine VC.enterR L0 (show E0.func 65 = some Try.f65 by kernel_rfl) (fun _ _ => rfl) rfl rfl [] ?_
 ((conv=>whnf)<;>repeat(with_reducible refine D1 ?_)<;>conv=>whnf)
 refine ⟨⟨by omega, by omega, by simp; omega⟩, ?_⟩
 ((conv=>whnf)<;>repeat(with_reducible refine D1 ?_)<;>conv=>whnf)
 refine ⟨fun k f o c => ∃ j : Nat, j ≤ l.length ∧ k = l.length - j ∧ c = 1 ∧ f = [(3, .tk 0), (9, .sl 5 (l.map encCF) false), (10, .s (.int .i64 l.length)), (11, .s (.int .i64 j))] ∧ o = [(0, .arr 5 true (copyE l j))], ⟨l.length, ?_⟩, ?_⟩
 ·refine ⟨[], [some 0], ?_⟩
  iterate 3 constructor
  refine ⟨⟨?_, ?_, ?_⟩, ⟨0, Nat.zero_le _, rfl, rfl, rfl, rfl⟩⟩
  all_goals (repeat' first|with_reducible exact Lz.rfl|exact Lw.rfl|exact Lz.wrap (by omega)|(unfold goInt;with_reducible exact Lz.rfl)|exact flx _|constructor)
  ·exact Lz.int (by rw [List.length_map])
  ·exact Lz.of (by simp [copyE]; exact .inr rfl)
 ·rintro k f1 o1 c1 ⟨j, hj, rfl, rfl, rfl, rfl⟩
  ((conv=>whnf)<;>repeat(with_reducible refine D1 ?_)<;>conv=>whnf)
  (first|refine ⟨?_,?_⟩|refine nsplit ?_ ?_|refine bsplit ?_ ?_)<;>intro h<;>have hz_:=True.intro<;>clear hz_
  ·have h : j < l.length := by have : (j : Int) < (l.length : Nat) := h
                               omega
   ((conv=>whnf)<;>repeat(with_reducible refine D1 ?_)<;>conv=>whnf)
   refine idxI h ?_
   ((conv=>whnf)<;>repeat(with_reducible refine D1 ?_)<;>conv=>whnf)
   refine ⟨[], [], _, _, _, _, own_ok l[j] (hn _ (List.getElem_mem h)), t3, ?_⟩
   rintro r o' c' ⟨rfl, rfl, rfl⟩
   ((conv=>whnf)<;>repeat(with_reducible refine D1 ?_)<;>conv=>whnf)
   refine ⟨⟨by omega, by rw [copyE_len l j hj]; omega⟩, ?_⟩
   ((conv=>whnf)<;>repeat(with_reducible refine D1 ?_)<;>conv=>whnf)
   refine ⟨zCF, by rw [Int.toNat_natCast]; exact copyE_get l j h, ?_⟩
   ((conv=>whnf)<;>repeat(with_reducible refine D1 ?_)<;>conv=>whnf)
   refine ⟨l.length - (j + 1), ?_, by omega⟩
   refine ⟨[], [some 0], ?_⟩
   iterate 3 constructor
   refine ⟨⟨?_, ?_, ?_⟩, ⟨j + 1, h, rfl, rfl, rfl, rfl⟩⟩
   all_goals (repeat' first|with_reducible exact Lz.rfl|exact Lw.rfl|exact Lz.wrap (by omega)|(unfold goInt;with_reducible exact Lz.rfl)|exact flx _|constructor)
   exact Lz.of (by rw [Int.toNat_natCast]; exact copyE_set l j h)
  ·have hj' : j = l.length := by have : ¬ (j : Int) < (l.length : Nat) := h
                                 omega
   subst hj'
   have hc : copyE l l.length = l.map encCF := by unfold copyE; simp
   rw [hc]
   ((conv=>whnf)<;>repeat(with_reducible refine D1 ?_)<;>conv=>whnf)
   exact ⟨[], [some 0], _, _, _, t3, rfl, rfl, rfl⟩
end Go.M
namespace Go.M
open Go Go.Proofs
set_option maxRecDepth 100000
set_option maxHeartbeats 4000000
structure LogS where
 known : List (Int × Cmd)
 next : Int
 top : Int
 done : Int
 confs : List CF
def encK4 (c : Cmd) : TV := .agg [.s (.int .i64 c.kind), .s (.int .i64 c.chain), .s (.int .u64 c.epoch), .s (.int .i64 c.node)]
@[reducible] def logO (x : LogS) (i : Nat) : TO := .cells [.mp i, .s (.int .i64 x.next), .s (.int .i64 x.top), .s (.int .i64 x.done), .sl 5 (x.confs.map encCF) false]
@[reducible] def knownO (x : LogS) : TO := .map (kIdx .i64) (x.known.map (encA .i64 encK4))
@[reducible] def stG (x : LogS) : Ob := [(0, logO x 1), (1, knownO x)]
@[reducible] def logN (l : List CF) : LogS := ⟨[], 0, 0, 0, l⟩
open Classical in
theorem newG_ok (l : List CF) (h : allP l) : VC E0 15 0 [.sl 5 (l.map encCF) false] [] (RR (.tup [.ptr 0 0, .s (.int .i64 0)]) 2 (stG (logN l))) := by
 have h4 := h.1.2
 refine VC.enterR L0 (show E0.func 15 = some Try.f15 by kernel_rfl) (fun _ _ => rfl) rfl rfl [] ?_
 ((conv=>whnf)<;>repeat(with_reducible refine D1 ?_)<;>conv=>whnf)
 refine ⟨[], [], _, _, _, _, all_okC l, t3, ?_⟩
 rintro r o' c' ⟨rfl, rfl, rfl⟩
 rw [decide_eq_true h]
 ((conv=>whnf)<;>repeat(with_reducible refine D1 ?_)<;>conv=>whnf)
 refine ⟨[], [], _, _, _, _, copy_ok l (by omega) (fun c hc => by have := (allP_in h hc).2.2.1; omega), t3, ?_⟩
 rintro r o' c' ⟨rfl, rfl, rfl⟩
 ((conv=>whnf)<;>repeat(with_reducible refine D1 ?_)<;>conv=>whnf)
 exact ⟨[1], [some 2, some 0], _, _, _, t3, rfl, rfl, rfl⟩
open Classical in
theorem nextC_ok (x : LogS) : VC E0 20 2 [.ptr 0 0] (stG x) (RR (.s (.int .i64 x.next)) 2 (stG x)) := by
 refine VC.enterR L0 (show E0.func 20 = some Try.f20 by kernel_rfl) (fun _ _ => rfl) rfl rfl [] ?_
 ((conv=>whnf)<;>repeat(with_reducible refine D1 ?_)<;>conv=>whnf)
 exact ⟨[], [some 0, some 1], _, _, _, t3, rfl, rfl, rfl⟩
theorem confsC_ok (x : LogS) (hl : x.confs.length < 10000) (hn : ∀ c ∈ x.confs, c.nodes.length < 1000000) : VC E0 19 2 [.ptr 0 0] (stG x) (RR (.sl 5 (x.confs.map encCF) false) 2 (stG x)) := by
 refine VC.enterR L0 (show E0.func 19 = some Try.f19 by kernel_rfl) (fun _ _ => rfl) rfl rfl [] ?_
 ((conv=>whnf)<;>repeat(with_reducible refine D1 ?_)<;>conv=>whnf)
 refine ⟨[], [], _, _, _, _, copy_ok x.confs hl hn, t3, ?_⟩
 rintro r o' c' ⟨rfl, rfl, rfl⟩
 ((conv=>whnf)<;>repeat(with_reducible refine D1 ?_)<;>conv=>whnf)
 exact ⟨[2], [some 0, some 1], _, _, _, t3, rfl, rfl, rfl⟩
end Go.M
namespace Go.M
open Go Go.Proofs
set_option maxRecDepth 100000
set_option maxHeartbeats 4000000
def noCF : CF := ⟨0, 0, [], false, 0⟩
def confAt (l : List CF) (n : Int) : Option CF := if n < 0 then none else l[n.toNat]?
end Go.M
namespace Go.M
open Go Go.Proofs
set_option maxRecDepth 100000
set_option maxHeartbeats 4000000
@[reducible] def ownCF (c : CF) : List TV := [.s (.int .i64 c.chain), .s (.int .u64 c.epoch), .own (.arr 1 true (c.nodes.map encI1)), .s (.bool c.fresh), .s (.int .i64 c.join)]
@[reducible] def namCF (c : CF) (n : Nat) : List TV := [.s (.int .i64 c.chain), .s (.int .u64 c.epoch), .tk n, .s (.bool c.fresh), .s (.int .i64 c.join)]
theorem own_okN (c : CF) (hn : c.nodes.length < 1000000) : VC E0 112 0 [.agg (encCF c)] [] (RR (.agg (namCF c 0)) 1 [(0, .arr 1 true (c.nodes.map encI1))]) := by
 refine VC.enterR L0 (show E0.func 112 = some Try.f112 by kernel_rfl) (fun _ _ => rfl) rfl rfl [] ?_
 ((conv=>whnf)<;>repeat(with_reducible refine D1 ?_)<;>conv=>whnf)
 refine ⟨[], [], _, _, _, _, cloneI_ok c.nodes hn, t3, ?_⟩
 rintro r o' c' ⟨rfl, rfl, rfl⟩
 ((conv=>whnf)<;>repeat(with_reducible refine D1 ?_)<;>conv=>whnf)
 exact ⟨[], [some 2], _, _, _, t3, rfl, rfl, rfl⟩
def pickE (p : Nat → Bool) (i : Nat) (c : CF) : List TV := match p i with
 | true => ownCF c
 | false => encCF c
def mixE (p : Nat → Bool) (l : List CF) : List (List TV) := l.mapIdx (pickE p)
def mixC (p : Nat → Bool) (l : List CF) (j : Nat) : List (List TV) := mixE p (l.take j) ++ List.replicate (l.length - j) zCF
theorem mixE_len (p : Nat → Bool) (l : List CF) : (mixE p l).length = l.length := by simp [mixE]
theorem mixC_len (p : Nat → Bool) (l : List CF) (j : Nat) (h : j ≤ l.length) : (mixC p l j).length = l.length := by unfold mixC; rw [List.length_append, mixE_len]; simp; omega
theorem mixC_set (p : Nat → Bool) (l : List CF) (j : Nat) (h : j < l.length) : (mixC p l j).set j (pickE p j l[j]) = mixC p l (j + 1) := by
 unfold mixC
 have e : l.length - j = (l.length - (j + 1)) + 1 := by omega
 have hlen : (mixE p (l.take j)).length = j := by rw [mixE_len, List.length_take]; omega
 rw [e, List.replicate_succ, List.set_append, if_neg (by omega), hlen, Nat.sub_self, List.take_succ_eq_append_getElem h]
 unfold mixE
 rw [List.mapIdx_concat, List.append_assoc, List.length_take, show min j l.length = j by omega]
 rfl
theorem mixC_get (p : Nat → Bool) (l : List CF) (j : Nat) (h : j < l.length) : (mixC p l j)[j]? = some zCF := by
 unfold mixC
 have e : l.length - j = (l.length - (j + 1)) + 1 := by omega
 have hlen : (mixE p (l.take j)).length = j := by rw [mixE_len, List.length_take]; omega
 rw [e, List.replicate_succ, List.getElem?_append_right (by omega), hlen, Nat.sub_self]
 rfl
theorem mixC_0 (p : Nat → Bool) (l : List CF) : mixC p l 0 = List.replicate l.length zCF := by simp [mixC, mixE]
theorem mixC_all (p : Nat → Bool) (l : List CF) : mixC p l l.length = mixE p l := by simp [mixC]
theorem mixE_own (l : List CF) : mixE (fun _ => true) l = l.map ownCF := by
 unfold mixE
 rw [List.mapIdx_eq_iff]
 intro i
 simp [pickE]
 rfl
theorem mixE_get (p : Nat → Bool) (l : List CF) (j : Nat) (h : j < l.length) : (mixE p l)[j]? = some (pickE p j l[j]) := by simp [mixE, h]
theorem copyM_ok (p : Nat → Bool) (l : List CF) (hl : l.length < 10000) (hn : ∀ c ∈ l, c.nodes.length < 1000000) : VC E0 65 0 [.sl 5 (l.map encCF) false] [] (RR (.tk 0) 1 [(0, .arq 5 (mixE p l) [])]) := by
 refine VC.enterR L0 (show E0.func 65 = some Try.f65 by kernel_rfl) (fun _ _ => rfl) rfl rfl [] ?_
 ((conv=>whnf)<;>repeat(with_reducible refine D1 ?_)<;>conv=>whnf)
 refine ⟨⟨by omega, by omega, by simp; omega⟩, ?_⟩
 ((conv=>whnf)<;>repeat(with_reducible refine D1 ?_)<;>conv=>whnf)
 refine ⟨fun k f o c => ∃ j : Nat, j ≤ l.length ∧ k = l.length - j ∧ c = 1 ∧ f = [(3, .tk 0), (9, .sl 5 (l.map encCF) false), (10, .s (.int .i64 l.length)), (11, .s (.int .i64 j))] ∧ o = [(0, .arq 5 (mixC p l j) [])], ⟨l.length, ?_⟩, ?_⟩
 ·refine ⟨[], [some 0], ?_⟩
  iterate 3 constructor
  refine ⟨⟨?_, ?_, ?_⟩, ⟨0, Nat.zero_le _, rfl, rfl, rfl, rfl⟩⟩
  all_goals (repeat' first|with_reducible exact Lz.rfl|exact Lw.rfl|exact Lz.wrap (by omega)|(unfold goInt;with_reducible exact Lz.rfl)|exact flx _|constructor)
  ·exact Lz.int (by rw [List.length_map])
  ·exact Lz.of (by rw [mixC_0]; simp; exact .inr rfl)
 ·rintro k f1 o1 c1 ⟨j, hj, rfl, rfl, rfl, rfl⟩
  ((conv=>whnf)<;>repeat(with_reducible refine D1 ?_)<;>conv=>whnf)
  (first|refine ⟨?_,?_⟩|refine nsplit ?_ ?_|refine bsplit ?_ ?_)<;>intro h<;>have hz_:=True.intro<;>clear hz_
  ·have h : j < l.length := by have : (j : Int) < (l.length : Nat) := h
                               omega
   ((conv=>whnf)<;>repeat(with_reducible refine D1 ?_)<;>conv=>whnf)
   refine idxI h ?_
   ((conv=>whnf)<;>repeat(with_reducible refine D1 ?_)<;>conv=>whnf)
   have hs := mixC_set p l j h
   unfold pickE at hs
   cases hp : p j
   ·rw [hp] at hs
    refine ⟨[], [], _, _, _, _, own_ok l[j] (hn _ (List.getElem_mem h)), t3, ?_⟩
    rintro r o' c' ⟨rfl, rfl, rfl⟩
    ((conv=>whnf)<;>repeat(with_reducible refine D1 ?_)<;>conv=>whnf)
    refine ⟨⟨by omega, by rw [mixC_len p l j hj]; omega⟩, ?_⟩
    ((conv=>whnf)<;>repeat(with_reducible refine D1 ?_)<;>conv=>whnf)
    refine ⟨zCF, by rw [Int.toNat_natCast]; exact mixC_get p l j h, ?_⟩
    ((conv=>whnf)<;>repeat(with_reducible refine D1 ?_)<;>conv=>whnf)
    refine ⟨l.length - (j + 1), ?_, by omega⟩
    refine ⟨[], [some 0], _, _, _, ⟨by (repeat' first|with_reducible exact Lz.rfl|exact Lw.rfl|exact Lz.wrap (by omega)|(unfold goInt;with_reducible exact Lz.rfl)|exact flx _|constructor), .cons (.arq (opc := [(_, encCF l[j])]) .one (Lw.of ?_) (.q1 (by (repeat' first|with_reducible exact Lz.rfl|exact Lw.rfl|exact Lz.wrap (by omega)|(unfold goInt;with_reducible exact Lz.rfl)|exact flx _|constructor)))) .nil, by rfl⟩, ⟨j + 1, h, rfl, rfl, rfl, rfl⟩⟩
    exact (by rw [← hs, Int.toNat_natCast]; rfl)
   ·rw [hp] at hs
    refine ⟨[], [], _, _, _, _, own_okN l[j] (hn _ (List.getElem_mem h)), t3, ?_⟩
    rintro r o' c' ⟨rfl, rfl, rfl⟩
    ((conv=>whnf)<;>repeat(with_reducible refine D1 ?_)<;>conv=>whnf)
    refine ⟨⟨by omega, by rw [mixC_len p l j hj]; omega⟩, ?_⟩
    ((conv=>whnf)<;>repeat(with_reducible refine D1 ?_)<;>conv=>whnf)
    refine ⟨zCF, by rw [Int.toNat_natCast]; exact mixC_get p l j h, ?_⟩
    ((conv=>whnf)<;>repeat(with_reducible refine D1 ?_)<;>conv=>whnf)
    refine ⟨l.length - (j + 1), ?_, by omega⟩
    refine ⟨[], [some 0], _, _, _, ⟨by (repeat' first|with_reducible exact Lz.rfl|exact Lw.rfl|exact Lz.wrap (by omega)|(unfold goInt;with_reducible exact Lz.rfl)|exact flx _|constructor), .cons (.arq (opc := [(_, ownCF l[j])]) .one (Lw.of ?_) (.q1 (by (repeat' first|with_reducible exact Lz.rfl|exact Lw.rfl|exact Lz.wrap (by omega)|(unfold goInt;with_reducible exact Lz.rfl)|exact flx _|constructor)))) .nil, by rfl⟩, ⟨j + 1, h, rfl, rfl, rfl, rfl⟩⟩
    exact (by rw [← hs, Int.toNat_natCast]; rfl)
  ·have hj' : j = l.length := by have : ¬ (j : Int) < (l.length : Nat) := h
                                 omega
   subst hj'
   rw [mixC_all]
   ((conv=>whnf)<;>repeat(with_reducible refine D1 ?_)<;>conv=>whnf)
   exact ⟨[], [some 0], _, _, _, t3, rfl, rfl, rfl⟩
end Go.M
namespace Go.M
open Go Go.Proofs
set_option maxRecDepth 100000
set_option maxHeartbeats 4000000
def isB (n m : Int) : Bool := decide (m = n)
theorem isC (n m : Int) : VC E0 163 1 [.s (.int .i64 m), .ptr 0 0] (stN n) (RR (.s (.bool (isB n m))) 1 (stN n)) := by
 refine VC.enterR L0 (show E0.func 163 = some Try.f163 by kernel_rfl) (fun _ _ => rfl) rfl rfl [] ?_
 ((conv=>whnf)<;>repeat(with_reducible refine D1 ?_)<;>conv=>whnf)
 (first|refine ⟨?_,?_⟩|refine nsplit ?_ ?_|refine bsplit ?_ ?_)<;>intro h<;>have hz_:=True.intro<;>clear hz_
 ·have h : m = n := h
  ((conv=>whnf)<;>repeat(with_reducible refine D1 ?_)<;>conv=>whnf)
  refine ⟨[], [some 0], ?_⟩
  iterate 3 constructor
  refine ⟨⟨?_, ?_, ?_⟩, rfl, rfl, rfl⟩
  all_goals (repeat' first|with_reducible exact Lz.rfl|exact Lw.rfl|exact Lz.wrap (by omega)|(unfold goInt;with_reducible exact Lz.rfl)|exact flx _|constructor)
  exact Lz.of (bool_eq (Eq.symm (decide_eq_true h)))
 ·have h : ¬ m = n := h
  ((conv=>whnf)<;>repeat(with_reducible refine D1 ?_)<;>conv=>whnf)
  refine ⟨[], [some 0], ?_⟩
  iterate 3 constructor
  refine ⟨⟨?_, ?_, ?_⟩, rfl, rfl, rfl⟩
  all_goals (repeat' first|with_reducible exact Lz.rfl|exact Lw.rfl|exact Lz.wrap (by omega)|(unfold goInt;with_reducible exact Lz.rfl)|exact flx _|constructor)
  exact Lz.of (bool_eq (Eq.symm (decide_eq_false h)))
@[reducible] def stR (n : Int) (vs : List Int) : Ob := [(0, .arr 1 true (vs.map encI1)), (1, .cells [.s (.int .i64 n)])]
theorem idxR_ok (n : Int) (vs : List Int) (hl : vs.length < 1000000) : VC E0 178 2 [.tk 0, .clo 163 [] [.ptr 1 0]] (stR n vs)
 (fun r o c => ∃ i : Int, r = .s (.int .i64 i) ∧ c = 2 ∧ o = stR n vs ∧ ((i = -1 ∧ ∀ v ∈ vs, isB n v = false) ∨ ∃ j : Nat, ∃ h : j < vs.length, i = j ∧ (∀ v ∈ vs.take j, isB n v = false) ∧ isB n vs[j] = true)) := by
 refine VC.enterR L0 (show E0.func 178 = some Try.f178 by kernel_rfl) (fun _ _ => rfl) rfl rfl [] ?_
 ((conv=>whnf)<;>repeat(with_reducible refine D1 ?_)<;>conv=>whnf)
 refine ⟨fun k f o c => ∃ j : Nat, j ≤ vs.length ∧ k = vs.length - j ∧ (∀ v ∈ vs.take j, isB n v = false) ∧ c = 2 ∧ f = [(0, .tk 0), (1, .clo 163 [] [.ptr 1 0]), (7, .s (.int .i64 vs.length)), (8, .s (.int .i64 j))] ∧ o = stR n vs, ⟨vs.length, ?_⟩, ?_⟩
 ·refine ⟨[], [some 0, some 1], ?_⟩
  iterate 3 constructor
  refine ⟨⟨?_, ?_, ?_⟩, ⟨0, Nat.zero_le _, rfl, by simp, rfl, rfl, rfl⟩⟩
  all_goals (repeat' first|with_reducible exact Lz.rfl|exact Lw.rfl|exact Lz.wrap (by omega)|(unfold goInt;with_reducible exact Lz.rfl)|exact flx _|constructor)
  all_goals exact Lz.of (by simp [goInt])
 ·rintro k f1 o1 c1 ⟨j, hj, rfl, hb, rfl, rfl, rfl⟩
  ((conv=>whnf)<;>repeat(with_reducible refine D1 ?_)<;>conv=>whnf)
  (first|refine ⟨?_,?_⟩|refine nsplit ?_ ?_|refine bsplit ?_ ?_)<;>intro h<;>have hz_:=True.intro<;>clear hz_
  ·have h : j < vs.length := by simpa using h
   ((conv=>whnf)<;>repeat(with_reducible refine D1 ?_)<;>conv=>whnf)
   refine ⟨⟨by omega, by simp; omega⟩, encI1 vs[j], by simp [h], ?_⟩
   ((conv=>whnf)<;>repeat(with_reducible refine D1 ?_)<;>conv=>whnf)
   refine ⟨[], [some 1], _, _, _, _, isC n vs[j], t3, ?_⟩
   rintro r o' c' ⟨rfl, rfl, rfl⟩
   have hz_ := True.intro
   clear hz_
   cases hv : isB n vs[j]
   ·((conv=>whnf)<;>repeat(with_reducible refine D1 ?_)<;>conv=>whnf)
    refine ⟨vs.length - (j + 1), ?_, by omega⟩
    exact ⟨[], [some 0, some 1], _, _, _, t3, ⟨j + 1, h, rfl, by intro v hv'; rw [List.take_succ_eq_append_getElem h] at hv'; rcases List.mem_append.1 hv' with h1 | h1; exact hb v h1; simp at h1; subst h1; exact hv, rfl, rfl, rfl⟩⟩
   ·((conv=>whnf)<;>repeat(with_reducible refine D1 ?_)<;>conv=>whnf)
    exact ⟨[], [some 0, some 1], _, _, _, t3, (j : Int), rfl, rfl, rfl, .inr ⟨j, h, rfl, hb, hv⟩⟩
  ·have h' : j = vs.length := by have : ¬ j < vs.length := by simpa using h
                                 omega
   subst h'
   rw [List.take_length] at hb
   ((conv=>whnf)<;>repeat(with_reducible refine D1 ?_)<;>conv=>whnf)
   exact ⟨[], [some 0, some 1], _, _, _, t3, -1, rfl, rfl, rfl, .inl ⟨rfl, hb⟩⟩
theorem without_all {n : Int} {vs : List Int} (h : ∀ v ∈ vs, isB n v = false) : withoutL vs n = vs := by
 unfold withoutL
 rw [List.filter_eq_self]
 intro v hv
 have := of_decide_eq_false (h v hv)
 simpa using this
theorem without_bad (n : Int) (vs : List Int) (j : Nat) (h : j < vs.length) (hb : isB n vs[j] = true) : withoutL (vs.take (j + 1)) n = withoutL (vs.take j) n := by
 rw [withoutL_snoc _ _ _ h, if_pos (of_decide_eq_true hb), List.append_nil]
theorem without_good (n : Int) (vs : List Int) (j : Nat) (h : j < vs.length) (hb : isB n vs[j] = false) : withoutL (vs.take (j + 1)) n = withoutL (vs.take j) n ++ [vs[j]] := by
 rw [withoutL_snoc _ _ _ h, if_neg (of_decide_eq_false hb)]
theorem delR_ok (n : Int) (vs : List Int) (hl : vs.length < 1000000) : VC E0 162 2 [.tk 0, .clo 163 [] [.ptr 1 0]] (stR n vs)
 (RR (.sl 1 ((withoutL vs n).map encI1) false) 2 [(1, .cells [.s (.int .i64 n)])]) := by
 refine VC.enterR L0 (show E0.func 162 = some Try.f162 by kernel_rfl) (fun _ _ => rfl) rfl rfl [] ?_
 ((conv=>whnf)<;>repeat(with_reducible refine D1 ?_)<;>conv=>whnf)
 refine ⟨[], [some 0, some 1], _, _, _, _, idxR_ok n vs hl, t3, ?_⟩
 rintro r o' c' ⟨i0, rfl, rfl, rfl, hi0⟩
 ((conv=>whnf)<;>repeat(with_reducible refine D1 ?_)<;>conv=>whnf)
 (first|refine ⟨?_,?_⟩|refine nsplit ?_ ?_|refine bsplit ?_ ?_)<;>intro hm<;>have hz_:=True.intro<;>clear hz_
 ·have hm : i0 = -1 := hm
  rcases hi0 with ⟨_, hall⟩ | ⟨j, h, e, _, _⟩
  ·((conv=>whnf)<;>repeat(with_reducible refine D1 ?_)<;>conv=>whnf)
   refine ⟨[0], [some 0, some 1], ?_⟩
   iterate 3 constructor
   refine ⟨⟨?_, ?_, ?_⟩, rfl, rfl, rfl⟩
   all_goals (repeat' first|with_reducible exact Lz.rfl|exact Lw.rfl|exact Lz.wrap (by omega)|(unfold goInt;with_reducible exact Lz.rfl)|exact flx _|constructor)
   rw [without_all hall]; exact Lz.rfl
  ·omega
 ·have hm : ¬ i0 = -1 := hm
  rcases hi0 with ⟨e, _⟩ | ⟨j0, h0, rfl, hb0, hv0⟩
  ·exact absurd e hm
  ((conv=>whnf)<;>repeat(with_reducible refine D1 ?_)<;>conv=>whnf)
  refine ⟨fun k f o c => ∃ (i j : Nat) (ws : List Int), i < j ∧ j ≤ vs.length ∧ k = vs.length - j ∧ ws.length = vs.length ∧ ws.take i = withoutL (vs.take j) n ∧ ws.drop j = vs.drop j ∧ c = 2 ∧ f = [(0, .tk 0), (1, .clo 163 [] [.ptr 1 0]), (5, .s (.int .i64 i)), (6, .s (.int .i64 j))] ∧ o = stR n ws, ⟨vs.length - (j0 + 1), ?_⟩, ?_⟩
  ·exact ⟨[], [some 0, some 1], _, _, _, t3, ⟨j0, j0 + 1, vs, by omega, h0, rfl, rfl, (by rw [without_bad _ _ _ h0 hv0]; exact (without_all hb0).symm), rfl, rfl, rfl, rfl⟩⟩
  ·rintro k f1 o1 c1 ⟨i, j, ws, hij, hj, rfl, hlen, htk, hdr, rfl, rfl, rfl⟩
   ((conv=>whnf)<;>repeat(with_reducible refine D1 ?_)<;>conv=>whnf)
   (first|refine ⟨?_,?_⟩|refine nsplit ?_ ?_|refine bsplit ?_ ?_)<;>intro h<;>have hz_:=True.intro<;>clear hz_
   ·have h : j < vs.length := by rw [List.length_map, hlen] at h; omega
    have hw : ws[j]? = some vs[j] := by
     have := congrArg (fun l => l[0]?) hdr
     simpa [h] using this
    have hdr1 : ws.drop (j + 1) = vs.drop (j + 1) := by
     have := congrArg (List.drop 1) hdr
     simpa [List.drop_drop, Nat.add_comm] using this
    ((conv=>whnf)<;>repeat(with_reducible refine D1 ?_)<;>conv=>whnf)
    refine ⟨⟨by omega, by simp; omega⟩, encI1 vs[j], by simp [hw], ?_⟩
    ((conv=>whnf)<;>repeat(with_reducible refine D1 ?_)<;>conv=>whnf)
    refine ⟨[], [some 1], _, _, _, _, isC n vs[j], t3, ?_⟩
    rintro r o' c' ⟨rfl, rfl, rfl⟩
    have hz_ := True.intro
    clear hz_
    cases hv : isB n vs[j]
    ·((conv=>whnf)<;>repeat(with_reducible refine D1 ?_)<;>conv=>whnf)
     refine ⟨⟨by omega, by simp; omega⟩, encI1 (ws[i]'(by omega)), by simp [show i < ws.length by omega], ?_⟩
     ((conv=>whnf)<;>repeat(with_reducible refine D1 ?_)<;>conv=>whnf)
     refine ⟨vs.length - (j + 1), ?_, by omega⟩
     refine ⟨[], [some 0, some 1], ?_⟩
     iterate 3 constructor
     refine ⟨⟨?_, ?_, ?_⟩, ⟨i + 1, j + 1, ws.set i vs[j], by omega, h, rfl, by simpa using hlen, (by rw [without_good _ _ _ h hv, List.take_succ_eq_append_getElem (by simp; omega), List.take_set_of_le (Nat.le_refl _), htk]; simp), (by rw [List.drop_set_of_lt (by omega)]; exact hdr1), rfl, rfl, rfl⟩⟩
     all_goals (repeat' first|with_reducible exact Lz.rfl|exact Lw.rfl|exact Lz.wrap (by omega)|(unfold goInt;with_reducible exact Lz.rfl)|exact flx _|constructor)
     refine Lz.of ?_
     rw [List.map_set]; rfl
    ·((conv=>whnf)<;>repeat(with_reducible refine D1 ?_)<;>conv=>whnf)
     refine ⟨vs.length - (j + 1), ?_, by omega⟩
     exact ⟨[], [some 0, some 1], _, _, _, t3, ⟨i, j + 1, ws, by omega, h, rfl, hlen, (by rw [without_bad _ _ _ h hv]; exact htk), hdr1, rfl, rfl, rfl⟩⟩
   ·have h' : j = vs.length := by have : ¬ (j : Int) < (((ws.map encI1).length : Nat) : Int) := h
                                  rw [List.length_map, hlen] at this; omega
    subst h'
    rw [List.take_length] at htk
    ((conv=>whnf)<;>repeat(with_reducible refine D1 ?_)<;>conv=>whnf)
    refine ⟨⟨by omega, by simp; try omega, by simp⟩, .inr ?_⟩
    ((conv=>whnf)<;>repeat(with_reducible refine D1 ?_)<;>conv=>whnf)
    refine ⟨fun hc => absurd hc (by simp; omega), fun _ => ?_⟩
    ((conv=>whnf)<;>repeat(with_reducible refine D1 ?_)<;>conv=>whnf)
    refine ⟨⟨by omega, by simp; try omega, by simp; try omega⟩, ?_⟩
    ((conv=>whnf)<;>repeat(with_reducible refine D1 ?_)<;>conv=>whnf)
    refine ⟨[], [some 0, some 1], ?_⟩
    iterate 3 constructor
    refine ⟨⟨?_, ?_, ?_⟩, rfl, rfl, rfl⟩
    all_goals (repeat' first|with_reducible exact Lz.rfl|exact Lw.rfl|exact Lz.wrap (by omega)|(unfold goInt;with_reducible exact Lz.rfl)|exact flx _|constructor)
    refine Lz.of ?_
    rw [← htk]
    simp [List.take_append, show i ≤ ws.length by omega]
theorem lastW {l : List Int} {K : List TV → Prop} (h : 1 ≤ l.length ∧ l.length ≤ 5) (hK : K (encI1 (l.getLast?.getD 0))) : (0 ≤ IntKind.i64.wrap ((((l.map encI1).length : Nat) : Int) - 1) ∧ IntKind.i64.wrap ((((l.map encI1).length : Nat) : Int) - 1) < (((l.map encI1).length : Nat) : Int)) ∧ ∃ e, (l.map encI1)[(IntKind.i64.wrap ((((l.map encI1).length : Nat) : Int) - 1)).toNat]? = some e ∧ K e := by
 obtain ⟨e, ⟨h0, h1⟩, h2⟩ := lastI h hK
 refine ⟨⟨h0, ?_⟩, e, h1, h2⟩
 have := (List.getElem?_eq_some_iff.1 h1).1
 omega
theorem lastN_ok (c : CF) (h5 : 1 ≤ c.nodes.length ∧ c.nodes.length ≤ 5) : VC E0 161 1 [.agg (namCF c 0)] [(0, .arr 1 true (c.nodes.map encI1))] (RR (.s (.int .i64 (lastL c))) 1 [(0, .arr 1 true (c.nodes.map encI1))]) := by
 refine VC.enterR L0 (show E0.func 161 = some Try.f161 by kernel_rfl) (fun _ _ => rfl) rfl rfl [] ?_
 ((conv=>whnf)<;>repeat(with_reducible refine D1 ?_)<;>conv=>whnf)
 refine lastW h5 ?_
 ((conv=>whnf)<;>repeat(with_reducible refine D1 ?_)<;>conv=>whnf)
 exact ⟨[], [some 0], _, _, _, t3, rfl, rfl, rfl⟩
end Go.M
namespace Go.M
open Go Go.Proofs
set_option maxRecDepth 100000
set_option maxHeartbeats 4000000
@[reducible] def stM (c : CF) : Ob := [(0, .arr 1 true (c.nodes.map encI1))]
def doK (x : CF) (k n : Int) : CF :=
 if k = 1 then (if x.join = n then ⟨x.chain, x.epoch, x.nodes, x.fresh, 0⟩ else ⟨x.chain, x.epoch, withoutL x.nodes n, x.fresh && decide (lastL x ≠ n), x.join⟩)
 else if k = 2 then ⟨x.chain, x.epoch, x.nodes, x.fresh, n⟩
 else if k = 3 then ⟨x.chain, x.epoch, x.nodes ++ [n], true, 0⟩
 else ⟨x.chain, x.epoch, x.nodes, false, x.join⟩
theorem doK_made (x : CF) (k n : Int) : madeL x k n = ⟨(doK x k n).chain, (doK x k n).epoch + 1, (doK x k n).nodes, (doK x k n).fresh, (doK x k n).join⟩ := by
 unfold madeL doK
 repeat' split
 all_goals rfl
theorem remove_ok (x : CF) (n : Int) (h5 : 1 ≤ x.nodes.length ∧ x.nodes.length ≤ 5) : VC E0 143 1 [.agg (namCF x 0), .s (.int .i64 n)] (stM x) (RR (.agg (encCF (doK x 1 n))) 1 []) := by
 refine VC.enterR L0 (show E0.func 143 = some Try.f143 by kernel_rfl) (fun _ _ => rfl) rfl rfl [] ?_
 ((conv=>whnf)<;>repeat(with_reducible refine D1 ?_)<;>conv=>whnf)
 (first|refine ⟨?_,?_⟩|refine nsplit ?_ ?_|refine bsplit ?_ ?_)<;>intro hj<;>have hz_:=True.intro<;>clear hz_
 ·have hj : x.join = n := hj
  have hC : doK x 1 n = ⟨x.chain, x.epoch, x.nodes, x.fresh, 0⟩ := by unfold doK; rw [if_pos rfl, if_pos hj]
  rw [hC]
  ((conv=>whnf)<;>repeat(with_reducible refine D1 ?_)<;>conv=>whnf)
  exact ⟨[0], [some 0], _, _, _, t3, rfl, rfl, rfl⟩
 ·have hj : ¬ x.join = n := hj
  have hC : doK x 1 n = ⟨x.chain, x.epoch, withoutL x.nodes n, x.fresh && decide (lastL x ≠ n), x.join⟩ := by unfold doK; rw [if_pos rfl, if_neg hj]
  rw [hC]
  ((conv=>whnf)<;>repeat(with_reducible refine D1 ?_)<;>conv=>whnf)
  cases hf : x.fresh
  ·((conv=>whnf)<;>repeat(with_reducible refine D1 ?_)<;>conv=>whnf)
   refine ⟨[], [some 0, some 2], _, _, _, _, delR_ok n x.nodes (by omega), t3, ?_⟩
   rintro r o' c' ⟨rfl, rfl, rfl⟩
   ((conv=>whnf)<;>repeat(with_reducible refine D1 ?_)<;>conv=>whnf)
   exact ⟨[], [some 0], _, _, _, t3, rfl, rfl, rfl⟩
  ·((conv=>whnf)<;>repeat(with_reducible refine D1 ?_)<;>conv=>whnf)
   refine ⟨[], [some 0], _, _, _, _, lastN_ok ⟨x.chain, x.epoch, x.nodes, true, x.join⟩ h5, t3, ?_⟩
   rintro r o' c' ⟨rfl, rfl, rfl⟩
   ((conv=>whnf)<;>repeat(with_reducible refine D1 ?_)<;>conv=>whnf)
   have hll : lastL ⟨x.chain, x.epoch, x.nodes, true, x.join⟩ = lastL x := rfl
   (first|refine ⟨?_,?_⟩|refine nsplit ?_ ?_|refine bsplit ?_ ?_)<;>intro hla<;>have hz_:=True.intro<;>clear hz_
   ·have hla : lastL x ≠ n := hla
    ((conv=>whnf)<;>repeat(with_reducible refine D1 ?_)<;>conv=>whnf)
    refine ⟨[], [some 0, some 2], _, _, _, _, delR_ok n x.nodes (by omega), t3, ?_⟩
    rintro r o' c' ⟨rfl, rfl, rfl⟩
    ((conv=>whnf)<;>repeat(with_reducible refine D1 ?_)<;>conv=>whnf)
    refine ⟨[], [some 0], ?_⟩
    iterate 3 constructor
    refine ⟨⟨?_, ?_, ?_⟩, rfl, rfl, rfl⟩
    all_goals (repeat' first|with_reducible exact Lz.rfl|exact Lw.rfl|exact Lz.wrap (by omega)|(unfold goInt;with_reducible exact Lz.rfl)|exact flx _|constructor)
    exact Lz.of (bool_eq (by simp [hla]))
   ·have hla : ¬ lastL x ≠ n := hla
    ((conv=>whnf)<;>repeat(with_reducible refine D1 ?_)<;>conv=>whnf)
    refine ⟨[], [some 0, some 2], _, _, _, _, delR_ok n x.nodes (by omega), t3, ?_⟩
    rintro r o' c' ⟨rfl, rfl, rfl⟩
    ((conv=>whnf)<;>repeat(with_reducible refine D1 ?_)<;>conv=>whnf)
    refine ⟨[], [some 0], ?_⟩
    iterate 3 constructor
    refine ⟨⟨?_, ?_, ?_⟩, rfl, rfl, rfl⟩
    all_goals (repeat' first|with_reducible exact Lz.rfl|exact Lw.rfl|exact Lz.wrap (by omega)|(unfold goInt;with_reducible exact Lz.rfl)|exact flx _|constructor)
    exact Lz.of (bool_eq (by simpa using hla))
theorem join_ok (x : CF) (n : Int) : VC E0 145 1 [.agg (namCF x 0), .s (.int .i64 n)] (stM x) (RR (.agg (encCF (doK x 2 n))) 1 []) := by
 refine VC.enterR L0 (show E0.func 145 = some Try.f145 by kernel_rfl) (fun _ _ => rfl) rfl rfl [] ?_
 ((conv=>whnf)<;>repeat(with_reducible refine D1 ?_)<;>conv=>whnf)
 exact ⟨[0], [some 0], _, _, _, t3, rfl, rfl, rfl⟩
theorem promote_ok (x : CF) (n : Int) (h5 : x.nodes.length ≤ 5) : VC E0 147 1 [.agg (namCF x 0), .s (.int .i64 n)] (stM x) (RR (.agg (encCF (doK x 3 n))) 1 []) := by
 have hC : doK x 3 n = ⟨x.chain, x.epoch, x.nodes ++ [n], true, 0⟩ := by unfold doK; rw [if_neg (by decide), if_neg (by decide), if_pos rfl]
 rw [hC]
 refine VC.enterR L0 (show E0.func 147 = some Try.f147 by kernel_rfl) (fun _ _ => rfl) rfl rfl [] ?_
 ((conv=>whnf)<;>repeat(with_reducible refine D1 ?_)<;>conv=>whnf)
 refine ⟨by simp; omega, ?_⟩
 ((conv=>whnf)<;>repeat(with_reducible refine D1 ?_)<;>conv=>whnf)
 refine ⟨[4], [some 0], ?_⟩
 iterate 3 constructor
 refine ⟨⟨?_, ?_, ?_⟩, rfl, rfl, rfl⟩
 all_goals (repeat' first|with_reducible exact Lz.rfl|exact Lw.rfl|exact Lz.wrap (by omega)|(unfold goInt;with_reducible exact Lz.rfl)|exact flx _|constructor)
 exact Lz.of (by simp)
theorem settle_ok (x : CF) (k n : Int) (k1 : k ≠ 1) (k2 : k ≠ 2) (k3 : k ≠ 3) : VC E0 149 1 [.agg (namCF x 0), .s (.int .i64 n)] (stM x) (RR (.agg (encCF (doK x k n))) 1 []) := by
 have hC : doK x k n = ⟨x.chain, x.epoch, x.nodes, false, x.join⟩ := by unfold doK; rw [if_neg k1, if_neg k2, if_neg k3]
 rw [hC]
 refine VC.enterR L0 (show E0.func 149 = some Try.f149 by kernel_rfl) (fun _ _ => rfl) rfl rfl [] ?_
 ((conv=>whnf)<;>repeat(with_reducible refine D1 ?_)<;>conv=>whnf)
 exact ⟨[0], [some 0], _, _, _, t3, rfl, rfl, rfl⟩
theorem of1_k (k : Int) (h : k = 1) : VC E0 116 0 [.s (.int .i64 k)] [] (RR (.agg [.clo 142 [] [], .clo 143 [] []]) 0 []) := by subst h; exact of1_ok
theorem of2_k (k : Int) (h : k = 2) : VC E0 116 0 [.s (.int .i64 k)] [] (RR (.agg [.clo 144 [] [], .clo 145 [] []]) 0 []) := by subst h; exact of2_ok
theorem of3_k (k : Int) (h : k = 3) : VC E0 116 0 [.s (.int .i64 k)] [] (RR (.agg [.clo 146 [] [], .clo 147 [] []]) 0 []) := by subst h; exact of3_ok
end Go.M
namespace Go.M
open Go Go.Proofs
set_option maxRecDepth 100000
set_option maxHeartbeats 4000000
theorem mixE_set (l : List CF) (i : Nat) (h : i < l.length) (x : CF) : (mixE (fun j => Nat.beq j i) l).set i (encCF x) = (l.set i x).map encCF := by
 apply List.ext_getElem?
 intro j
 rw [List.getElem?_set, List.getElem?_map, List.getElem?_set]
 by_cases e : i = j
 ·subst e
  simp [mixE_len, h]
 ·rw [if_neg e, if_neg e]
  by_cases hj : j < l.length
  ·rw [mixE_get _ _ _ hj, List.getElem?_eq_getElem hj]
   have hb : Nat.beq j i = false := by
    cases hq : Nat.beq j i with
    | false => rfl
    | true => rw [beq_iff] at hq; omega
   unfold pickE
   simp only [hb]
   rfl
  ·rw [List.getElem?_eq_none (by rw [mixE_len]; omega), List.getElem?_eq_none (by omega)]; rfl
theorem mixE_at (l : List CF) (i : Nat) (h : i < l.length) : (mixE (fun j => Nat.beq j i) l)[i]? = some (ownCF l[i]) := by
 rw [mixE_get _ _ _ h]
 unfold pickE
 simp only [beq_iff.2 (rfl : i = i)]
theorem encCF_fz (l : List CF) : ∀ e ∈ l.map encCF, ∀ t ∈ e, fz t = true := by
 intro e he t ht
 obtain ⟨x, _, rfl⟩ := List.mem_map.1 he
 simp only [encCF, List.mem_cons, List.not_mem_nil, or_false] at ht
 rcases ht with rfl | rfl | rfl | rfl | rfl <;> rfl
theorem doK_ep (x : CF) (k n : Int) : (doK x k n).epoch = x.epoch := by
 unfold doK
 repeat' split
 all_goals rfl
theorem doC_ok (l : List CF) (c : Cmd) (hl : l.length < 10000) (hn : ∀ c ∈ l, c.nodes.length < 1000000) (hep : ∀ c ∈ l, 0 ≤ c.epoch ∧ c.epoch ≤ 18446744073709551615) :
 VC E0 113 0 [.sl 5 (l.map encCF) false, cT4 c] [] (RR (.tup [.tk 0, .s (.bool (doL l c).2)]) 1 [(0, .arr 5 true ((doL l c).1.map encCF))]) := by
 by_cases h : canL l c = 0
 ·by_cases h0 : c.kind = 0
  ·have hC : doL l c = (l, true) := by unfold doL; rw [if_neg (fun q => q h), if_pos h0]
   rw [hC]
   refine VC.enterR L0 (show E0.func 113 = some Try.f113 by kernel_rfl) (fun _ _ => rfl) rfl rfl [] ?_
   ((conv=>whnf)<;>repeat(with_reducible refine D1 ?_)<;>conv=>whnf)
   refine ⟨[], [], _, _, _, _, copy_ok l hl hn, t3, ?_⟩
   rintro r o' c' ⟨rfl, rfl, rfl⟩
   ((conv=>whnf)<;>repeat(with_reducible refine D1 ?_)<;>conv=>whnf)
   refine ⟨[], [], _, _, _, _, can_ok l c, t3, ?_⟩
   rintro r o' c' ⟨rfl, rfl, rfl⟩
   ((conv=>whnf)<;>repeat(with_reducible refine D1 ?_)<;>conv=>whnf)
   (first|refine ⟨?_,?_⟩|refine nsplit ?_ ?_|refine bsplit ?_ ?_)<;>intro q<;>have hz_:=True.intro<;>clear hz_
   ·exact absurd h q
   ((conv=>whnf)<;>repeat(with_reducible refine D1 ?_)<;>conv=>whnf)
   (first|refine ⟨?_,?_⟩|refine nsplit ?_ ?_|refine bsplit ?_ ?_)<;>intro q2<;>have hz_:=True.intro<;>clear hz_
   ·exact absurd h0 q2
   ((conv=>whnf)<;>repeat(with_reducible refine D1 ?_)<;>conv=>whnf)
   exact ⟨[], [some 1], _, _, _, t3, rfl, rfl, rfl⟩
  ·obtain ⟨ha, hk, hlt, hm⟩ := can_in h h0
   have hrg := check_rng hk h0
   have hin := hep _ (List.getElem_mem hlt)
   have hrx := allP_in ha (List.getElem_mem hlt)
   have h5 := hrx.2.2.1
   have hC : doL l c = (l.set c.chain.toNat (madeL l[c.chain.toNat] c.kind c.node), true) := by unfold doL; rw [if_neg (fun q => q h), if_neg h0, List.getElem?_eq_getElem hlt]
   have hw : IntKind.u64.wrap ((doK l[c.chain.toNat] c.kind c.node).epoch + 1) = (doK l[c.chain.toNat] c.kind c.node).epoch + 1 := by rw [doK_ep]; exact IntWalk.u64_in _ (by omega)
   rw [hC, doK_made]
   refine VC.enterR L0 (show E0.func 113 = some Try.f113 by kernel_rfl) (fun _ _ => rfl) rfl rfl [] ?_
   ((conv=>whnf)<;>repeat(with_reducible refine D1 ?_)<;>conv=>whnf)
   refine ⟨[], [], _, _, _, _, copyM_ok (fun j => Nat.beq j c.chain.toNat) l hl hn, t3, ?_⟩
   rintro r o' c' ⟨rfl, rfl, rfl⟩
   ((conv=>whnf)<;>repeat(with_reducible refine D1 ?_)<;>conv=>whnf)
   refine ⟨[], [], _, _, _, _, can_ok l c, t3, ?_⟩
   rintro r o' c' ⟨rfl, rfl, rfl⟩
   ((conv=>whnf)<;>repeat(with_reducible refine D1 ?_)<;>conv=>whnf)
   (first|refine ⟨?_,?_⟩|refine nsplit ?_ ?_|refine bsplit ?_ ?_)<;>intro q<;>have hz_:=True.intro<;>clear hz_
   ·exact absurd h q
   ((conv=>whnf)<;>repeat(with_reducible refine D1 ?_)<;>conv=>whnf)
   (first|refine ⟨?_,?_⟩|refine nsplit ?_ ?_|refine bsplit ?_ ?_)<;>intro q2<;>have hz_:=True.intro<;>clear hz_
   ·((conv=>whnf)<;>repeat(with_reducible refine D1 ?_)<;>conv=>whnf)
    by_cases k1 : c.kind = 1
    ·refine ⟨[], [], _, _, _, _, of1_k c.kind k1, t3, ?_⟩
     have hdo := remove_ok l[c.chain.toNat] c.node h5
     rw [← k1] at hdo
     rintro r o' c' ⟨rfl, rfl, rfl⟩
     ((conv=>whnf)<;>repeat(with_reducible refine D1 ?_)<;>conv=>whnf)
     refine ⟨⟨hrg.1, by rw [mixE_len]; omega⟩, ?_⟩
     ((conv=>whnf)<;>repeat(with_reducible refine D1 ?_)<;>conv=>whnf)
     refine ⟨ownCF l[c.chain.toNat], mixE_at l _ hlt, ?_⟩
     ((conv=>whnf)<;>repeat(with_reducible refine D1 ?_)<;>conv=>whnf)
     refine ⟨[], [some 2], _, _, _, _, hdo, t3, ?_⟩
     rintro r o' c' ⟨rfl, rfl, rfl⟩
     ((conv=>whnf)<;>repeat(with_reducible refine D1 ?_)<;>conv=>whnf)
     refine ⟨⟨hrg.1, by rw [mixE_len]; omega⟩, ?_⟩
     ((conv=>whnf)<;>repeat(with_reducible refine D1 ?_)<;>conv=>whnf)
     refine ⟨fun _ => ?_, fun q => absurd rfl q⟩
     ((conv=>whnf)<;>repeat(with_reducible refine D1 ?_)<;>conv=>whnf)
     refine ⟨[], [some 1], _, _, _, ⟨by (repeat' first|with_reducible exact Lz.rfl|exact Lw.rfl|exact Lz.wrap (by omega)|(unfold goInt;with_reducible exact Lz.rfl)|exact flx _|constructor), .cons (.qarr (opc := [(_, encCF ⟨(doK l[c.chain.toNat] c.kind c.node).chain, (doK l[c.chain.toNat] c.kind c.node).epoch + 1, (doK l[c.chain.toNat] c.kind c.node).nodes, (doK l[c.chain.toNat] c.kind c.node).fresh, (doK l[c.chain.toNat] c.kind c.node).join⟩)]) .one (Lw.of (mixE_set l c.chain.toNat hlt _)) (encCF_fz _) (.q1 (by (repeat' first|with_reducible exact Lz.rfl|exact Lw.rfl|exact Lz.wrap (by omega)|(unfold goInt;with_reducible exact Lz.rfl)|exact flx _|constructor); exact Lz.int hw))) .nil, by rfl⟩, rfl, rfl, rfl⟩
    by_cases k2 : c.kind = 2
    ·refine ⟨[], [], _, _, _, _, of2_k c.kind k2, t3, ?_⟩
     have hdo := join_ok l[c.chain.toNat] c.node
     rw [← k2] at hdo
     rintro r o' c' ⟨rfl, rfl, rfl⟩
     ((conv=>whnf)<;>repeat(with_reducible refine D1 ?_)<;>conv=>whnf)
     refine ⟨⟨hrg.1, by rw [mixE_len]; omega⟩, ?_⟩
     ((conv=>whnf)<;>repeat(with_reducible refine D1 ?_)<;>conv=>whnf)
     refine ⟨ownCF l[c.chain.toNat], mixE_at l _ hlt, ?_⟩
     ((conv=>whnf)<;>repeat(with_reducible refine D1 ?_)<;>conv=>whnf)
     refine ⟨[], [some 2], _, _, _, _, hdo, t3, ?_⟩
     rintro r o' c' ⟨rfl, rfl, rfl⟩
     ((conv=>whnf)<;>repeat(with_reducible refine D1 ?_)<;>conv=>whnf)
     refine ⟨⟨hrg.1, by rw [mixE_len]; omega⟩, ?_⟩
     ((conv=>whnf)<;>repeat(with_reducible refine D1 ?_)<;>conv=>whnf)
     refine ⟨fun _ => ?_, fun q => absurd rfl q⟩
     ((conv=>whnf)<;>repeat(with_reducible refine D1 ?_)<;>conv=>whnf)
     refine ⟨[], [some 1], _, _, _, ⟨by (repeat' first|with_reducible exact Lz.rfl|exact Lw.rfl|exact Lz.wrap (by omega)|(unfold goInt;with_reducible exact Lz.rfl)|exact flx _|constructor), .cons (.qarr (opc := [(_, encCF ⟨(doK l[c.chain.toNat] c.kind c.node).chain, (doK l[c.chain.toNat] c.kind c.node).epoch + 1, (doK l[c.chain.toNat] c.kind c.node).nodes, (doK l[c.chain.toNat] c.kind c.node).fresh, (doK l[c.chain.toNat] c.kind c.node).join⟩)]) .one (Lw.of (mixE_set l c.chain.toNat hlt _)) (encCF_fz _) (.q1 (by (repeat' first|with_reducible exact Lz.rfl|exact Lw.rfl|exact Lz.wrap (by omega)|(unfold goInt;with_reducible exact Lz.rfl)|exact flx _|constructor); exact Lz.int hw))) .nil, by rfl⟩, rfl, rfl, rfl⟩
    by_cases k3 : c.kind = 3
    ·refine ⟨[], [], _, _, _, _, of3_k c.kind k3, t3, ?_⟩
     have hdo := promote_ok l[c.chain.toNat] c.node h5.2
     rw [← k3] at hdo
     rintro r o' c' ⟨rfl, rfl, rfl⟩
     ((conv=>whnf)<;>repeat(with_reducible refine D1 ?_)<;>conv=>whnf)
     refine ⟨⟨hrg.1, by rw [mixE_len]; omega⟩, ?_⟩
     ((conv=>whnf)<;>repeat(with_reducible refine D1 ?_)<;>conv=>whnf)
     refine ⟨ownCF l[c.chain.toNat], mixE_at l _ hlt, ?_⟩
     ((conv=>whnf)<;>repeat(with_reducible refine D1 ?_)<;>conv=>whnf)
     refine ⟨[], [some 2], _, _, _, _, hdo, t3, ?_⟩
     rintro r o' c' ⟨rfl, rfl, rfl⟩
     ((conv=>whnf)<;>repeat(with_reducible refine D1 ?_)<;>conv=>whnf)
     refine ⟨⟨hrg.1, by rw [mixE_len]; omega⟩, ?_⟩
     ((conv=>whnf)<;>repeat(with_reducible refine D1 ?_)<;>conv=>whnf)
     refine ⟨fun _ => ?_, fun q => absurd rfl q⟩
     ((conv=>whnf)<;>repeat(with_reducible refine D1 ?_)<;>conv=>whnf)
     refine ⟨[], [some 1], _, _, _, ⟨by (repeat' first|with_reducible exact Lz.rfl|exact Lw.rfl|exact Lz.wrap (by omega)|(unfold goInt;with_reducible exact Lz.rfl)|exact flx _|constructor), .cons (.qarr (opc := [(_, encCF ⟨(doK l[c.chain.toNat] c.kind c.node).chain, (doK l[c.chain.toNat] c.kind c.node).epoch + 1, (doK l[c.chain.toNat] c.kind c.node).nodes, (doK l[c.chain.toNat] c.kind c.node).fresh, (doK l[c.chain.toNat] c.kind c.node).join⟩)]) .one (Lw.of (mixE_set l c.chain.toNat hlt _)) (encCF_fz _) (.q1 (by (repeat' first|with_reducible exact Lz.rfl|exact Lw.rfl|exact Lz.wrap (by omega)|(unfold goInt;with_reducible exact Lz.rfl)|exact flx _|constructor); exact Lz.int hw))) .nil, by rfl⟩, rfl, rfl, rfl⟩
    ·refine ⟨[], [], _, _, _, _, of4_ok c.kind k1 k2 k3, t3, ?_⟩
     have hdo := settle_ok l[c.chain.toNat] c.kind c.node k1 k2 k3
     rintro r o' c' ⟨rfl, rfl, rfl⟩
     ((conv=>whnf)<;>repeat(with_reducible refine D1 ?_)<;>conv=>whnf)
     refine ⟨⟨hrg.1, by rw [mixE_len]; omega⟩, ?_⟩
     ((conv=>whnf)<;>repeat(with_reducible refine D1 ?_)<;>conv=>whnf)
     refine ⟨ownCF l[c.chain.toNat], mixE_at l _ hlt, ?_⟩
     ((conv=>whnf)<;>repeat(with_reducible refine D1 ?_)<;>conv=>whnf)
     refine ⟨[], [some 2], _, _, _, _, hdo, t3, ?_⟩
     rintro r o' c' ⟨rfl, rfl, rfl⟩
     ((conv=>whnf)<;>repeat(with_reducible refine D1 ?_)<;>conv=>whnf)
     refine ⟨⟨hrg.1, by rw [mixE_len]; omega⟩, ?_⟩
     ((conv=>whnf)<;>repeat(with_reducible refine D1 ?_)<;>conv=>whnf)
     refine ⟨fun _ => ?_, fun q => absurd rfl q⟩
     ((conv=>whnf)<;>repeat(with_reducible refine D1 ?_)<;>conv=>whnf)
     refine ⟨[], [some 1], _, _, _, ⟨by (repeat' first|with_reducible exact Lz.rfl|exact Lw.rfl|exact Lz.wrap (by omega)|(unfold goInt;with_reducible exact Lz.rfl)|exact flx _|constructor), .cons (.qarr (opc := [(_, encCF ⟨(doK l[c.chain.toNat] c.kind c.node).chain, (doK l[c.chain.toNat] c.kind c.node).epoch + 1, (doK l[c.chain.toNat] c.kind c.node).nodes, (doK l[c.chain.toNat] c.kind c.node).fresh, (doK l[c.chain.toNat] c.kind c.node).join⟩)]) .one (Lw.of (mixE_set l c.chain.toNat hlt _)) (encCF_fz _) (.q1 (by (repeat' first|with_reducible exact Lz.rfl|exact Lw.rfl|exact Lz.wrap (by omega)|(unfold goInt;with_reducible exact Lz.rfl)|exact flx _|constructor); exact Lz.int hw))) .nil, by rfl⟩, rfl, rfl, rfl⟩
   ·exact absurd h0 (fun q => q2 q)
 ·have hC : doL l c = (l, false) := by unfold doL; rw [if_pos h]
  rw [hC]
  refine VC.enterR L0 (show E0.func 113 = some Try.f113 by kernel_rfl) (fun _ _ => rfl) rfl rfl [] ?_
  ((conv=>whnf)<;>repeat(with_reducible refine D1 ?_)<;>conv=>whnf)
  refine ⟨[], [], _, _, _, _, copy_ok l hl hn, t3, ?_⟩
  rintro r o' c' ⟨rfl, rfl, rfl⟩
  ((conv=>whnf)<;>repeat(with_reducible refine D1 ?_)<;>conv=>whnf)
  refine ⟨[], [], _, _, _, _, can_ok l c, t3, ?_⟩
  rintro r o' c' ⟨rfl, rfl, rfl⟩
  ((conv=>whnf)<;>repeat(with_reducible refine D1 ?_)<;>conv=>whnf)
  (first|refine ⟨?_,?_⟩|refine nsplit ?_ ?_|refine bsplit ?_ ?_)<;>intro q<;>have hz_:=True.intro<;>clear hz_
  ·((conv=>whnf)<;>repeat(with_reducible refine D1 ?_)<;>conv=>whnf)
   exact ⟨[], [some 1], _, _, _, t3, rfl, rfl, rfl⟩
  ·exact absurd (Classical.not_not.1 q) h
end Go.M
namespace Go.M
open Go Go.Proofs
theorem atS_put {K : List Vote} (h : SS K) (v : Vote) (s : Int) : atS (put K v) s = if s = v.slot then some v else atS K s := by
 have hp : SS (put K v) := put_SS h
 split
 ·rename_i e; subst e
  exact (atS_some hp).2 ⟨(put_mem h).2 (.inl rfl), rfl⟩
 ·rename_i e
  cases ha : atS K s with
  | none =>
   cases hb : atS (put K v) s with
   | none => rfl
   | some w =>
    obtain ⟨h1, h2⟩ := (atS_some hp).1 hb
    rcases (put_mem h).1 h1 with rfl | ⟨_, h3⟩
    ·exact absurd h2.symm e
    ·have := (atS_some h).2 ⟨h3, h2⟩; rw [ha] at this; cases this
  | some w =>
   obtain ⟨h1, h2⟩ := (atS_some h).1 ha
   exact (atS_some hp).2 ⟨(put_mem h).2 (.inr ⟨by rw [h2]; exact e, h1⟩), h2⟩
theorem SS_len : ∀ {l : List Vote} {a b : Int}, SS l → (∀ v ∈ l, a ≤ v.slot ∧ v.slot < b) → (l.length : Int) ≤ max (b - a) 0
 | [], a, b, _, _ => by simp; omega
 | x :: l, a, b, h, hr => by
  obtain ⟨h1, h2⟩ := List.pairwise_cons.1 h
  have hx := hr x List.mem_cons_self
  have := SS_len (a := a + 1) (b := b) h2 (fun v hv => by
   have := h1 v hv
   have := hr v (List.mem_cons_of_mem _ hv)
   omega)
  rw [List.length_cons]
  omega
theorem okK.put {K : List Vote} (h : okK K) {slot : Int} {c : Cmd} (hs : 0 ≤ slot ∧ slot < 512) (hc : 0 ≤ c.epoch) : okK (put K (.of slot 0 c)) := by
 have hS : SS (M.put K (.of slot 0 c)) := put_SS h.ss
 have hr : ∀ v ∈ M.put K (.of slot 0 c), 0 ≤ v.slot ∧ v.slot < 512 := fun v hv => by
  rcases (put_mem h.ss).1 hv with rfl | ⟨_, q⟩
  ·exact hs
  ·exact h.rng v q
 refine ⟨hS, hr, ?_, fun v hv => ?_⟩
 ·have := SS_len hS hr; omega
 ·rcases (put_mem h.ss).1 hv with rfl | ⟨_, q⟩
  ·exact hc
  ·exact h.ep v q
theorem nf_at : ∀ (l : List Vote) (n : Nat), SS l → (∀ x ∈ l, (n : Int) ≤ x.slot) → (∀ i : Nat, n + i < nf n l → ∃ v, l[i]? = some v ∧ v.slot = ((n + i : Nat) : Int)) ∧ ∀ x ∈ l, x.slot ≠ ((nf n l : Nat) : Int)
 | [], n, _, _ => ⟨fun i h => by simp only [nf] at h; omega, by simp⟩
 | x :: l, n, hS, hge => by
  obtain ⟨hS1, hS2⟩ := List.pairwise_cons.1 hS
  by_cases hx : x.slot = (n : Int)
  ·have ih := nf_at l (n + 1) hS2 (fun y hy => by have := hS1 y hy; omega)
   have e : nf n (x :: l) = nf (n + 1) l := by rw [nf, if_pos hx]
   have hg := nf_ge l (n + 1)
   rw [e]
   refine ⟨fun i hi => ?_, fun y hy => ?_⟩
   ·cases i with
    | zero => exact ⟨x, rfl, by simpa using hx⟩
    | succ i =>
     obtain ⟨v, h1, h2⟩ := ih.1 i (by omega)
     exact ⟨v, by simpa using h1, by rw [h2]; congr 1; omega⟩
   ·rcases List.mem_cons.1 hy with rfl | hy
    ·omega
    ·exact ih.2 y hy
  ·have e : nf n (x :: l) = n := by rw [nf, if_neg hx]
   rw [e]
   refine ⟨fun i hi => by omega, fun y hy => ?_⟩
   have h0 := hge x List.mem_cons_self
   rcases List.mem_cons.1 hy with rfl | hy
   ·exact hx
   ·have := hS1 y hy; omega
theorem next_at {K : List Vote} (h : okK K) {n : Nat} (hn : n < nextG K) : ∃ v, K[n]? = some v ∧ atS K (n : Int) = some v := by
 rw [nextG_nf] at hn
 obtain ⟨v, h1, h2⟩ := (nf_at K 0 h.ss (fun x hx => by simpa using (h.rng x hx).1)).1 n (by omega)
 exact ⟨v, h1, (atS_some h.ss).2 ⟨List.mem_of_getElem? h1, by rw [h2]; congr 1; omega⟩⟩
theorem next_none {K : List Vote} (h : okK K) : atS K ((nextG K : Nat) : Int) = none := by
 have := (nf_at K 0 h.ss (fun x hx => by simpa using (h.rng x hx).1)).2
 rw [← nextG_nf] at this
 cases hq : atS K ((nextG K : Nat) : Int) with
 | none => rfl
 | some v =>
  obtain ⟨h1, h2⟩ := (atS_some h.ss).1 hq
  exact absurd h2 (this v h1)
theorem topG_max : ∀ {K : List Vote}, SS K → K ≠ [] → (∀ x ∈ K, x.slot + 1 ≤ topG K) ∧ ∃ x ∈ K, x.slot + 1 = topG K
 | [], _, h => absurd rfl h
 | [x], _, _ => by simp [topG]
 | x :: y :: l, h, _ => by
  have e : topG (x :: y :: l) = topG (y :: l) := by unfold topG; rw [List.getLast?_cons_cons]
  obtain ⟨h1, h2⟩ := List.pairwise_cons.1 h
  obtain ⟨a, z, hz, hze⟩ := topG_max h2 (by simp)
  rw [e]
  refine ⟨fun w hw => ?_, z, List.mem_cons_of_mem _ hz, hze⟩
  rcases List.mem_cons.1 hw with rfl | hw
  ·have := h1 z hz; omega
  ·exact a w hw
theorem topG_put {K : List Vote} (h : SS K) (v : Vote) (h0 : 0 ≤ v.slot) : topG (put K v) = max (topG K) (v.slot + 1) := by
 have hp : SS (put K v) := put_SS h
 have hv : v ∈ put K v := (put_mem h).2 (.inl rfl)
 obtain ⟨a, x, hx, hxe⟩ := topG_max hp (fun e => by rw [e] at hv; cases hv)
 have hvt := a v hv
 cases hK : K with
 | nil => simp [put, topG]; omega
 | cons y l =>
  rw [← hK]
  obtain ⟨b, y, hy, hye⟩ := topG_max h (by rw [hK]; simp)
  have hyt : y.slot + 1 ≤ topG (put K v) := by
   by_cases e : y.slot = v.slot
   ·omega
   ·exact a y ((put_mem h).2 (.inr ⟨e, hy⟩))
  rcases (put_mem h).1 hx with rfl | ⟨_, q⟩
  ·omega
  ·have := b x q; omega
theorem doL_no {l : List CF} {c : Cmd} (h : (doL l c).2 = false) : (doL l c).1 = l := by
 unfold doL at h ⊢
 by_cases hc : canL l c ≠ 0
 ·rw [if_pos hc]
 ·rw [if_neg hc] at h
  by_cases hk : c.kind = 0
  ·rw [if_pos hk] at h; cases h
  ·rw [if_neg hk] at h
   split at h <;> cases h
theorem doL_0 {l : List CF} {c : Cmd} (hk : c.kind = 0) : (doL l c).1 = l := by
 unfold doL
 by_cases hc : canL l c ≠ 0
 ·rw [if_pos hc]
 ·rw [if_neg hc, if_pos hk]
theorem came_none {K : List Vote} {l : List CF} {n : Nat} {v : Vote} (hv : K[n]? = some v) (h : (doL (cameG K l n).2 (cmdOf v)).2 = false ∨ v.kind = 0) : cameG K l (n + 1) = cameG K l n := by
 have e : (doL (cameG K l n).2 (cmdOf v)).1 = (cameG K l n).2 := by
  rcases h with h | h
  ·exact doL_no h
  ·exact doL_0 h
 rw [cameG, hv]
 dsimp only
 rw [if_neg (by rcases h with h | h <;> simp [h]), e]
theorem came_some {K : List Vote} {l : List CF} {n : Nat} {v : Vote} (hv : K[n]? = some v) (h : (doL (cameG K l n).2 (cmdOf v)).2 = true) (hk : v.kind ≠ 0) (hlt : v.chain.toNat < (doL (cameG K l n).2 (cmdOf v)).1.length) :
 cameG K l (n + 1) = ((cameG K l n).1 ++ [(doL (cameG K l n).2 (cmdOf v)).1[v.chain.toNat]], (doL (cameG K l n).2 (cmdOf v)).1) := by
 rw [cameG, hv]
 dsimp only
 rw [if_pos ⟨h, hk⟩, List.getElem?_eq_getElem hlt]
 rfl
theorem learn_same {K : List Vote} (h : okK K) {l : List CF} {slot : Int} {c : Cmd} (hs : 0 ≤ slot) (ho : other K slot c = false) : nextG K ≤ nextG (put K (.of slot 0 c)) ∧ cameG (put K (.of slot 0 c)) l (nextG K) = cameG K l (nextG K) := by
 have hp := nf_put (.of slot 0 c) K 0 h.ss (fun v hv => (h.rng v hv).1) hs (fun v hv e => by
  have hat : atS K slot = some v := (atS_some h.ss).2 ⟨hv, e⟩
  unfold other at ho
  rw [hat] at ho
  have : sameC (cmdOf v) c = true := by simpa using ho
  exact sameC_iff.1 this)
 rw [← nextG_nf, ← nextG_nf] at hp
 exact ⟨hp.1, (cameG_same (K' := put K (.of slot 0 c)) (fun i hi => hp.2 i (by omega))).symm⟩
def RiseI (came now : List CF) : Prop := came.Pairwise (fun a b => a.chain = b.chain → a.epoch < b.epoch) ∧ ∀ x ∈ came, 0 ≤ x.chain ∧ ∃ y, now[x.chain.toNat]? = some y ∧ x.epoch ≤ y.epoch
theorem put_last : ∀ {l : List Vote} {v : Vote}, (∀ x ∈ l, x.slot < v.slot) → put l v = l ++ [v]
 | [], v, _ => rfl
 | x :: l, v, h => by
  rw [put, if_pos (h x List.mem_cons_self), put_last fun y hy => h y (List.mem_cons_of_mem _ hy)]
  rfl
structure okW (K : List Vote) : Prop where
 ok : okK K
 of : ∀ v ∈ K, v = .of v.slot 0 (cmdOf v)
 ck : ∀ v ∈ K, (cmdOf v).check = 0
theorem okW.nil : okW [] := ⟨⟨.nil, by simp, by simp, by simp⟩, by simp, by simp⟩
theorem okW.put {K : List Vote} (h : okW K) {slot : Int} {c : Cmd} (hs : 0 ≤ slot ∧ slot < 512) (hc : 0 ≤ c.epoch) (hk : c.check = 0) : okW (put K (.of slot 0 c)) := by
 refine ⟨h.ok.put hs hc, fun v hv => ?_, fun v hv => ?_⟩
 ·rcases (put_mem h.ok.ss).1 hv with rfl | ⟨_, q⟩
  ·rfl
  ·exact h.of v q
 ·rcases (put_mem h.ok.ss).1 hv with rfl | ⟨_, q⟩
  ·exact hk
  ·exact h.ck v q
instance (c : CF) : Decidable (rightP c) := by unfold rightP; exact inferInstance
instance (l : List CF) : Decidable (eachP l) := by unfold eachP; exact inferInstance
instance (l : List CF) : Decidable (allP l) := by unfold allP; exact inferInstance
theorem begin_all : ∀ ch < 5, ∀ per < 6, 1 ≤ ch → 1 ≤ per → allP (beginL per ch) := by decide +kernel
theorem begin_okE {per ch : Nat} (h : ch ≤ 4) (h2 : per ≤ 5) : okE (beginL per ch) := by
 refine ⟨by simp [beginL]; omega, fun c hc => ?_, fun c hc => ?_⟩
 ·obtain ⟨i, _, rfl⟩ := List.mem_map.1 hc; exact ⟨by show (0 : Int) ≤ 1; omega, by show (1 : Int) ≤ _; omega⟩
 ·obtain ⟨i, _, rfl⟩ := List.mem_map.1 hc; show (nodesB (i * per) per).length ≤ 6; simp [nodesB]; omega
end Go.M
namespace Go.M
open Go Go.Proofs
set_option maxRecDepth 100000
set_option maxHeartbeats 4000000
theorem copyO_ok (l : List CF) (hl : l.length < 10000) (hn : ∀ c ∈ l, c.nodes.length < 1000000) : VC E0 65 0 [.sl 5 (l.map encCF) false] [] (RR (.tk 0) 1 [(0, .arq 5 (l.map ownCF) [])]) := by
 have := copyM_ok (fun _ => true) l hl hn
 rw [mixE_own] at this
 exact this
theorem copyO (l : List CF) (hl : l.length < 10000) (hn : ∀ c ∈ l, c.nodes.length < 1000000) : VC E0 65 0 [.sl 5 (l.map encCF) false] [] (RR (.tk 0) 1 [(0, .arq 5 (l.map ownCF) [])]) := copyO_ok l hl hn
@[reducible] noncomputable def lgN (kn : List (Int × Cmd)) (top : Int) (K : List Vote) (l : List CF) (n : Nat) : LogS := ⟨kn, n, top, (cameG K l n).1.length, (cameG K l n).2⟩
noncomputable def resG (K : List Vote) (l : List CF) (n0 : Nat) : List CF := (cameG K l (nextG K)).1.drop (cameG K l n0).1.length
theorem came_n6 {K : List Vote} {l : List CF} (hl : okE l) : ∀ n, ∀ c ∈ (cameG K l n).1, c.nodes.length ≤ 6
 | 0, c, hc => by cases hc
 | n + 1, c, hc => by
  have ih := came_n6 (K := K) hl n
  have hok := (hl.came K n)
  cases hv : K[n]? with
  | none => rw [cameG, hv] at hc; exact ih c hc
  | some v =>
   rw [cameG, hv] at hc
   dsimp only at hc
   split at hc
   ·rcases List.mem_append.1 hc with h | h
    ·exact ih c h
    ·exact (hok.do (cmdOf v)).n6 c (by
      cases hq : (doL (cameG K l n).2 (cmdOf v)).1[v.chain.toNat]? with
      | none => rw [hq] at h; simp at h
      | some y => rw [hq] at h; simp at h; subst h; exact List.mem_of_getElem? hq)
   ·exact ih c hc
theorem applyW {K : List Vote} {l : List CF} (hK : okK K) (hl : okE l) (n0 : Nat) (hn : n0 ≤ nextG K) (kn : List (Int × Cmd)) (hkn : ∀ s, lookA kn s = (atS K s).map cmdOf) (top : Int) :
 VC E0 71 2 [.ptr 0 0] (stG (lgN kn top K l n0)) (RR (.tk 2) 3 [(0, logO (lgN kn top K l (nextG K)) 1), (1, knownO (lgN kn top K l (nextG K))), (2, .arq 5 ((resG K l n0).map ownCF) [])]) := by
 have hlenK := hK.len
 have hnK := nextG_le K
 refine VC.enterR L0 (show E0.func 71 = some Try.f71 by kernel_rfl) (fun _ _ => rfl) rfl rfl [] ?_
 ((conv=>whnf)<;>repeat(with_reducible refine D1 ?_)<;>conv=>whnf)
 refine ⟨fun kk f o c => ∃ (n : Nat) (es : List (List TV)), n0 ≤ n ∧ n ≤ nextG K ∧ kk = nextG K - n ∧ es = ((cameG K l n).1.drop (cameG K l n0).1.length).map encCF ∧ c = 3 ∧ f = [(0, .ptr 0 0), (3, .tk 2)] ∧ o = [(0, logO (lgN kn top K l n) 1), (1, knownO (lgN kn top K l n)), (2, .arr 5 true es)], ⟨nextG K - n0, ?_⟩, ?_⟩
 ·exact ⟨[], [some 0, some 1, none], _, _, _, t3, ⟨n0, [], Nat.le_refl _, hn, rfl, by rw [List.drop_length]; rfl, rfl, rfl, rfl⟩⟩
 ·rintro kk f1 o1 c1 ⟨n, es, h1, h2, rfl, hes, rfl, rfl, rfl⟩
  have hlk := lookM_A .i64 .i64 encK4 (n : Int) kn
  rw [hkn] at hlk
  have hok := hl.came K n
  have hcl := cameG_len K l n
  have hel : es.length < 1000 := by rw [hes]; simp; omega
  ((conv=>whnf)<;>repeat(with_reducible refine D1 ?_)<;>conv=>whnf)
  by_cases hlt : n < nextG K
  ·obtain ⟨v, hv1, hv2⟩ := next_at hK hlt
   have hve := hK.ep v (List.mem_of_getElem? hv1)
   rw [hv2] at hlk
   refine ⟨_, hlk, ?_⟩
   ((conv=>whnf)<;>repeat(with_reducible refine D1 ?_)<;>conv=>whnf)
   refine ⟨[], [], _, _, _, _, doC_ok (cameG K l n).2 (cmdOf v) (by have := hok.len; omega) (fun c hc => by have := hok.n6 c hc; omega) hok.ep, t3, ?_⟩
   rintro r o' c' ⟨rfl, rfl, rfl⟩
   cases hd : (doL (cameG K l n).2 (cmdOf v)).2
   ·have hs := came_none (l := l) hv1 (.inl hd)
    ((conv=>whnf)<;>repeat(with_reducible refine D1 ?_)<;>conv=>whnf)
    refine ⟨nextG K - (n + 1), ?_, by omega⟩
    refine ⟨[], [some 0, some 1, some 2], ?_⟩
    iterate 3 constructor
    refine ⟨⟨?_, ?_, ?_⟩, ⟨n + 1, es, by omega, by omega, rfl, by rw [hs]; exact hes, rfl, rfl, rfl⟩⟩
    all_goals (repeat' first|with_reducible exact Lz.rfl|exact Lw.rfl|exact Lz.wrap (by omega)|(unfold goInt;with_reducible exact Lz.rfl)|exact flx _|constructor)
    all_goals exact Lz.of (by simp only [lgN, hs])
   ·((conv=>whnf)<;>repeat(with_reducible refine D1 ?_)<;>conv=>whnf)
    (first|refine ⟨?_,?_⟩|refine nsplit ?_ ?_|refine bsplit ?_ ?_)<;>intro hk<;>have hz_:=True.intro<;>clear hz_
    ·have hk : v.kind = 0 := hk
     have hs := came_none (l := l) hv1 (.inr hk)
     ((conv=>whnf)<;>repeat(with_reducible refine D1 ?_)<;>conv=>whnf)
     refine ⟨nextG K - (n + 1), ?_, by omega⟩
     refine ⟨[], [some 0, some 1, some 2], ?_⟩
     iterate 3 constructor
     refine ⟨⟨?_, ?_, ?_⟩, ⟨n + 1, es, by omega, by omega, rfl, by rw [hs]; exact hes, rfl, rfl, rfl⟩⟩
     all_goals (repeat' first|with_reducible exact Lz.rfl|exact Lw.rfl|exact Lz.wrap (by omega)|(unfold goInt;with_reducible exact Lz.rfl)|exact flx _|constructor)
     all_goals exact Lz.of (by simp only [lgN, hs])
    ·have hk : ¬ v.kind = 0 := hk
     have hcz := doL_done (c := cmdOf v) hd hk
     obtain ⟨ha, hck, hlt3, hm⟩ := can_in (c := cmdOf v) hcz hk
     have hrg : 0 ≤ v.chain ∧ v.chain < 4 := ⟨(check_rng hck hk).1, (check_rng hck hk).2.1⟩
     have hlt2 : v.chain.toNat < (doL (cameG K l n).2 (cmdOf v)).1.length := by rw [doL_len]; exact hlt3
     have hs := came_some hv1 hd hk hlt2
     have hpre := (cameG_mono K l n0 (n - n0)).length_le
     rw [show n0 + (n - n0) = n by omega] at hpre
     ((conv=>whnf)<;>repeat(with_reducible refine D1 ?_)<;>conv=>whnf)
     refine ⟨⟨hrg.1, by rw [List.length_map]; show v.chain < _; omega⟩, ?_⟩
     ((conv=>whnf)<;>repeat(with_reducible refine D1 ?_)<;>conv=>whnf)
     refine ⟨encCF (doL (cameG K l n).2 (cmdOf v)).1[v.chain.toNat], by show (List.map encCF (doL (cameG K l n).2 (cmdOf v)).1)[v.chain.toNat]? = _; rw [List.getElem?_map, List.getElem?_eq_getElem hlt2]; rfl, ?_⟩
     ((conv=>whnf)<;>repeat(with_reducible refine D1 ?_)<;>conv=>whnf)
     refine ⟨by simp; omega, ?_⟩
     ((conv=>whnf)<;>repeat(with_reducible refine D1 ?_)<;>conv=>whnf)
     refine ⟨nextG K - (n + 1), ?_, by omega⟩
     refine ⟨[4], [some 0, some 1, some 6], ?_⟩
     iterate 3 constructor
     refine ⟨⟨?_, ?_, ?_⟩, ⟨n + 1, ?_, by omega, by omega, rfl, ?_, rfl, rfl, rfl⟩⟩
     all_goals (repeat' first|with_reducible exact Lz.rfl|exact Lw.rfl|exact Lz.wrap (by omega)|(unfold goInt;with_reducible exact Lz.rfl)|exact flx _|constructor)
     ·exact Lz.int (by show IntKind.i64.wrap ((((cameG K l n).1.length : Nat) : Int) + 1) = (((cameG K l (n + 1)).1.length : Nat) : Int); rw [hs, List.length_append, IntWalk.i64_in _ (by omega)]; simp)
     ·exact Lz.of (by simp only [lgN, hs])
     ·rw [hs, hes, List.drop_append_of_le_length hpre, List.map_append]; rfl
  ·have hn' : n = nextG K := by omega
   subst hn'
   rw [next_none hK] at hlk
   refine ⟨_, hlk, ?_⟩
   ((conv=>whnf)<;>repeat(with_reducible refine D1 ?_)<;>conv=>whnf)
   subst hes
   refine ⟨[2], [], _, _, _, _, copyO (resG K l n0) (by simp [resG]; omega) (fun c hc => by have := came_n6 (K := K) hl _ c (List.mem_of_mem_drop hc); omega), t3, ?_⟩
   rintro r o' c' ⟨rfl, rfl, rfl⟩
   ((conv=>whnf)<;>repeat(with_reducible refine D1 ?_)<;>conv=>whnf)
   exact ⟨[], [some 0, some 1, some 4], _, _, _, t3, rfl, rfl, rfl⟩
@[reducible] noncomputable def lgS (kn : List (Int × Cmd)) (K : List Vote) (l : List CF) : LogS := lgN kn (topG K) K l (nextG K)
theorem learn_main {K : List Vote} (h : okK K) (l : List CF) {slot : Int} {c : Cmd} (hs : 0 ≤ slot ∧ slot < 512) (hc : c.check = 0) (ho : other K slot c = false) : learnG K l slot c = (put K (.of slot 0 c), resG (put K (.of slot 0 c)) l (nextG K), 0) := by
 have e : resG (put K (.of slot 0 c)) l (nextG K) = (cameN (put K (.of slot 0 c)) l).drop (cameN K l).length := by
  unfold resG cameN; rw [(learn_same h hs.1 ho).2]
 rw [e]
 unfold learnG
 rw [if_neg (by omega), if_neg (fun q => q hc), if_neg (by rw [ho]; simp)]
theorem known_put {K : List Vote} (h : SS K) {kn : List (Int × Cmd)} (hkn : ∀ s, lookA kn s = (atS K s).map cmdOf) (slot : Int) (c : Cmd) (s : Int) : lookA (putA kn slot c) s = (atS (put K (.of slot 0 c)) s).map cmdOf := by
 rw [lookA_put, atS_put h, hkn]
 show _ = (if s = slot then some (Vote.of slot 0 c) else atS K s).map cmdOf
 split <;> rfl
theorem topG_learn {K : List Vote} (h : okK K) {slot : Int} {c : Cmd} (hs : 0 ≤ slot ∧ slot < 512) : (if IntKind.i64.wrap (slot + 1) > topG K then IntKind.i64.wrap (slot + 1) else topG K) = topG (put K (.of slot 0 c)) := by
 rw [topG_put h.ss _ hs.1, IntWalk.i64_in _ (by omega)]
 show _ = max (topG K) (slot + 1)
 split <;> omega
theorem learnO_ok {K : List Vote} {l : List CF} (hK : okK K) (ho : okE l) (slot : Int) (c : Cmd) (hc : 0 ≤ c.epoch) (kn : List (Int × Cmd)) (hkn : ∀ s, lookA kn s = (atS K s).map cmdOf) :
 VC E0 17 2 [.ptr 0 0, .s (.int .i64 slot), cT4 c] (stG (lgS kn K l)) (fun r o c' => ∃ kn', (∀ s, lookA kn' s = (atS (learnG K l slot c).1 s).map cmdOf) ∧ c' = 3 ∧ r = .tup [.tk 2, .s (.int .i64 (learnG K l slot c).2.2)] ∧
  o = [(0, logO (lgS kn' (learnG K l slot c).1 l) 1), (1, knownO (lgS kn' (learnG K l slot c).1 l)), (2, .arq 5 ((learnG K l slot c).2.1.map ownCF) [])]) := by
 refine VC.enterR L0 (show E0.func 17 = some Try.f17 by kernel_rfl) (fun _ _ => rfl) rfl rfl [] ?_
 ((conv=>whnf)<;>repeat(with_reducible refine D1 ?_)<;>conv=>whnf)
 (first|refine ⟨?_,?_⟩|refine nsplit ?_ ?_|refine bsplit ?_ ?_)<;>intro h1<;>have hz_:=True.intro<;>clear hz_
 ·have h1 : slot < 0 := h1
  have hL : learnG K l slot c = (K, [], 1) := by unfold learnG; rw [if_pos (.inl h1)]
  rw [hL]
  ((conv=>whnf)<;>repeat(with_reducible refine D1 ?_)<;>conv=>whnf)
  exact ⟨[], [some 0, some 1, none], _, _, _, t3, kn, hkn, rfl, rfl, rfl⟩
 have h1 : ¬ slot < 0 := h1
 ((conv=>whnf)<;>repeat(with_reducible refine D1 ?_)<;>conv=>whnf)
 (first|refine ⟨?_,?_⟩|refine nsplit ?_ ?_|refine bsplit ?_ ?_)<;>intro h2<;>have hz_:=True.intro<;>clear hz_
 ·have h2 : slot ≥ 512 := h2
  have hL : learnG K l slot c = (K, [], 1) := by unfold learnG; rw [if_pos (.inr (by omega))]
  rw [hL]
  ((conv=>whnf)<;>repeat(with_reducible refine D1 ?_)<;>conv=>whnf)
  exact ⟨[], [some 0, some 1, none], _, _, _, t3, kn, hkn, rfl, rfl, rfl⟩
 have h2 : ¬ slot ≥ 512 := h2
 ((conv=>whnf)<;>repeat(with_reducible refine D1 ?_)<;>conv=>whnf)
 refine ⟨[], [], _, _, _, _, check_ok c.kind c.chain c.epoch c.node, t3, ?_⟩
 rintro r o' c' ⟨rfl, rfl, rfl⟩
 ((conv=>whnf)<;>repeat(with_reducible refine D1 ?_)<;>conv=>whnf)
 (first|refine ⟨?_,?_⟩|refine nsplit ?_ ?_|refine bsplit ?_ ?_)<;>intro h3<;>have hz_:=True.intro<;>clear hz_
 ·have h3 : c.check ≠ 0 := h3
  have hL : learnG K l slot c = (K, [], c.check) := by unfold learnG; rw [if_neg (by omega), if_pos h3]
  rw [hL]
  ((conv=>whnf)<;>repeat(with_reducible refine D1 ?_)<;>conv=>whnf)
  exact ⟨[], [some 0, some 1, none], _, _, _, t3, kn, hkn, rfl, rfl, rfl⟩
 have h3 : c.check = 0 := Classical.not_not.1 h3
 have hs : 0 ≤ slot ∧ slot < 512 := ⟨by omega, by omega⟩
 have hK' : okK (put K (.of slot 0 c)) := hK.put hs hc
 have hkn' := known_put hK.ss hkn slot c
 have htop := topG_learn (c := c) hK hs
 have hlk := lookM_A .i64 .i64 encK4 slot kn
 rw [hkn] at hlk
 ((conv=>whnf)<;>repeat(with_reducible refine D1 ?_)<;>conv=>whnf)
 cases hat : atS K slot with
 | none =>
  have hoth : other K slot c = false := by unfold other; rw [hat]
  obtain ⟨hge, hsame⟩ := learn_same (l := l) hK hs.1 hoth
  have hap := applyW hK' ho (nextG K) hge (putA kn slot c) hkn' (topG (put K (.of slot 0 c)))
  rw [hat] at hlk
  rw [learn_main hK l hs h3 hoth]
  refine ⟨_, hlk, ?_⟩
  ((conv=>whnf)<;>repeat(with_reducible refine D1 ?_)<;>conv=>whnf)
  refine ⟨[], [some 0, some 1], _, _, _, _, hap, ⟨by ((repeat' first|with_reducible exact Lz.rfl|exact Lw.rfl|exact Lz.wrap (by omega)|(unfold goInt;with_reducible exact Lz.rfl)|exact flx _|constructor); all_goals (first | exact Lz.of (putM_A .i64 encK4 slot c kn) | exact Lz.int htop | exact Lz.of (by simp only [lgS, lgN, hsame]))), by ((repeat' first|with_reducible exact Lz.rfl|exact Lw.rfl|exact Lz.wrap (by omega)|(unfold goInt;with_reducible exact Lz.rfl)|exact flx _|constructor); all_goals (first | exact Lz.of (putM_A .i64 encK4 slot c kn) | exact Lz.int htop | exact Lz.of (by simp only [lgS, lgN, hsame]))), by rfl⟩, ?_⟩
  rintro r o' c' ⟨rfl, rfl, rfl⟩
  ((conv=>whnf)<;>repeat(with_reducible refine D1 ?_)<;>conv=>whnf)
  exact ⟨[], [some 0, some 1, some 6], _, _, _, t3, putA kn slot c, hkn', rfl, rfl, rfl⟩
 | some v =>
  rw [hat] at hlk
  refine ⟨_, hlk, ?_⟩
  ((conv=>whnf)<;>repeat(with_reducible refine D1 ?_)<;>conv=>whnf)
  (first|refine ⟨?_,?_⟩|refine nsplit ?_ ?_|refine bsplit ?_ ?_)<;>intro hv<;>have hz_:=True.intro<;>clear hz_
  ·have hoth : other K slot c = true := by
    have q := (veq_cmd (cmdOf v) c).symm.trans hv
    unfold other; rw [hat]; simp only [q]; rfl
   have hL : learnG K l slot c = (K, [], 8) := by unfold learnG; rw [if_neg (by omega), if_neg (fun q => q h3), if_pos hoth]
   rw [hL]
   ((conv=>whnf)<;>repeat(with_reducible refine D1 ?_)<;>conv=>whnf)
   exact ⟨[], [some 0, some 1, none], _, _, _, t3, kn, hkn, rfl, rfl, rfl⟩
  ·have hoth : other K slot c = false := by
    have q := (veq_cmd (cmdOf v) c).symm.trans (Bool.not_eq_false _ ▸ hv)
    unfold other; rw [hat]; simp only [q]; rfl
   obtain ⟨hge, hsame⟩ := learn_same (l := l) hK hs.1 hoth
   have hap := applyW hK' ho (nextG K) hge (putA kn slot c) hkn' (topG (put K (.of slot 0 c)))
   rw [learn_main hK l hs h3 hoth]
   ((conv=>whnf)<;>repeat(with_reducible refine D1 ?_)<;>conv=>whnf)
   refine ⟨[], [some 0, some 1], _, _, _, _, hap, ⟨by ((repeat' first|with_reducible exact Lz.rfl|exact Lw.rfl|exact Lz.wrap (by omega)|(unfold goInt;with_reducible exact Lz.rfl)|exact flx _|constructor); all_goals (first | exact Lz.of (putM_A .i64 encK4 slot c kn) | exact Lz.int htop | exact Lz.of (by simp only [lgS, lgN, hsame]))), by ((repeat' first|with_reducible exact Lz.rfl|exact Lw.rfl|exact Lz.wrap (by omega)|(unfold goInt;with_reducible exact Lz.rfl)|exact flx _|constructor); all_goals (first | exact Lz.of (putM_A .i64 encK4 slot c kn) | exact Lz.int htop | exact Lz.of (by simp only [lgS, lgN, hsame]))), by rfl⟩, ?_⟩
   rintro r o' c' ⟨rfl, rfl, rfl⟩
   ((conv=>whnf)<;>repeat(with_reducible refine D1 ?_)<;>conv=>whnf)
   exact ⟨[], [some 0, some 1, some 6], _, _, _, t3, putA kn slot c, hkn', rfl, rfl, rfl⟩
end Go.M
namespace Go.M
open Go Go.Proofs
set_option maxRecDepth 100000
set_option maxHeartbeats 8000000
theorem awake12 : VC E0 14 0 [] [] (fun r o c => r = .s (.bool true) ∧ o = [] ∧ c = 0) := VC.awakeW (by kernel_rfl) rfl rfl rfl
noncomputable def kAt (ls : List Vote) : Nat → List Vote
 | 0 => []
 | i + 1 => match ls[i]? with
  | some v => (learnG (kAt ls i) [] v.slot (cmdOf v)).1
  | none => kAt ls i
theorem same_self (l : List CF) (hl : l.length < 1000000) (hn : ∀ c ∈ l, c.nodes.length < 1000000) : VC E0 18 0 [.sl 5 (l.map encCF) false, .sl 5 (l.map encCF) false] [] (RR (.s (.bool true)) 0 []) := by
 have := sameAll_ok l l hl hn
 rwa [eqB_iff.2 rfl] at this
@[reducible] def fr12 (ls : List Vote) : Fr := [(2, .sl 6 (ls.map encV) false)]
end Go.M
namespace Go.M
open Go Go.Proofs
theorem nf_app (v : Vote) : ∀ (l : List Vote) (n : Nat), nf n l = n + l.length → v.slot = ((n + l.length : Nat) : Int) → nf n (l ++ [v]) = n + l.length + 1
 | [], n, _, hv => by
  have : v.slot = (n : Int) := by simpa using hv
  simp [nf, this]
 | x :: l, n, h, hv => by
  by_cases hx : x.slot = (n : Int)
  ·rw [nf, if_pos hx, List.length_cons] at h
   rw [List.cons_append, nf, if_pos hx, nf_app v l (n + 1) (by omega) (by rw [hv, List.length_cons]; congr 1; omega), List.length_cons]
   omega
  ·rw [nf, if_neg hx, List.length_cons] at h; omega
structure okN (K : List Vote) (i : Nat) : Prop where
 v : okW K
 full : nextG K = K.length
 few : K.length ≤ i
theorem canL_check {l : List CF} {c : Cmd} (h : c.check ≠ 0) : canL l c ≠ 0 := by
 unfold canL
 by_cases ha : allP l
 ·rw [if_neg (fun q => q ha), if_pos h]; exact h
 ·rw [if_pos ha]; decide
theorem own_step {K : List Vote} {i : Nat} (h : okN K i) (hi : i < 20) (l : List CF) {c : Cmd} (hc : 0 ≤ c.epoch) :
 okN (learnG K l (nextG K : Nat) c).1 (i + 1) ∧ (cameG (learnG K l (nextG K : Nat) c).1 l (nextG (learnG K l (nextG K : Nat) c).1)).2 = (doL (cameG K l (nextG K)).2 c).1 := by
 have hf := h.full
 have hfew := h.few
 by_cases hck : c.check = 0
 ·have hoth : other K (nextG K : Nat) c = false := by unfold other; rw [next_none h.v.ok]
  have hrs : 0 ≤ ((nextG K : Nat) : Int) ∧ ((nextG K : Nat) : Int) < 512 := ⟨by omega, by omega⟩
  have hL : (learnG K l (nextG K : Nat) c).1 = put K (.of (nextG K : Nat) 0 c) := by rw [learn_main h.v.ok l hrs hck hoth]
  have hlast : ∀ x ∈ K, x.slot < (Vote.of (nextG K : Nat) 0 c).slot := fun x hx => by
   obtain ⟨j, hj, rfl⟩ := List.mem_iff_getElem.1 hx
   have := (nf_at K 0 h.v.ok.ss (fun x hx => by simpa using (h.v.ok.rng x hx).1)).1 j (by rw [← nextG_nf]; omega)
   obtain ⟨v, h1, h2⟩ := this
   rw [List.getElem?_eq_getElem hj] at h1
   cases h1
   rw [h2]
   show _ < ((nextG K : Nat) : Int)
   omega
  have hp : put K (.of (nextG K : Nat) 0 c) = K ++ [.of (nextG K : Nat) 0 c] := put_last hlast
  have hnx : nextG (K ++ [.of (nextG K : Nat) 0 c]) = nextG K + 1 := by
   rw [nextG_nf, nf_app _ K 0 (by rw [← nextG_nf, hf]; omega) (by show ((nextG K : Nat) : Int) = _; rw [hf]; congr 1; omega)]
   omega
  have hs := (learn_same (l := l) h.v.ok hrs.1 hoth).2
  refine ⟨⟨?_, ?_, ?_⟩, ?_⟩
  ·rw [hL]; exact h.v.put hrs hc hck
  ·rw [hL, hp, hnx, List.length_append]; simp; omega
  ·rw [hL, hp, List.length_append]; simp; omega
  ·rw [hL, hp, hnx]
   rw [hp] at hs
   have hv : (K ++ [Vote.of (nextG K : Nat) 0 c])[nextG K]? = some (.of (nextG K : Nat) 0 c) := by
    rw [List.getElem?_append_right (by omega), hf]; simp
   rw [cameG, hv]
   dsimp only
   rw [hs]
   rfl
 ·have hL : (learnG K l (nextG K : Nat) c).1 = K := by
   unfold learnG
   rw [if_neg (by omega), if_pos hck]
  rw [hL]
  refine ⟨⟨h.v, hf, by omega⟩, ?_⟩
  unfold doL
  rw [if_pos (canL_check hck)]
theorem learn_n6 {K : List Vote} {l : List CF} (hl : okE l) (slot : Int) (c : Cmd) : ∀ x ∈ (learnG K l slot c).2.1, x.nodes.length < 1000 := by
 unfold learnG
 repeat' split
 ·intro x hx; cases hx
 ·intro x hx; cases hx
 ·intro x hx; cases hx
 ·intro x hx
  have := came_n6 hl _ x (List.mem_of_mem_drop hx)
  omega
theorem learn_len {K : List Vote} (h : okK K) (l : List CF) (slot : Int) (c : Cmd) : (learnG K l slot c).2.1.length < 1000 := by
 unfold learnG
 repeat' split
 ·show 0 < 1000; omega
 ·show 0 < 1000; omega
 ·show 0 < 1000; omega
 ·show ((cameN (put K (.of slot 0 c)) l).drop _).length < 1000
  have h1 := cameG_len (put K (.of slot 0 c)) l (nextG (put K (.of slot 0 c)))
  have h2 := nextG_le (put K (.of slot 0 c))
  have h3 := put_lenG (.of slot 0 c) K
  have h4 := h.len
  rw [List.length_drop]
  unfold cameN
  omega
def encC4 (c : Cmd) : List TV := [.s (.int .i64 c.kind), .s (.int .i64 c.chain), .s (.int .u64 c.epoch), .s (.int .i64 c.node)]
end Go.M
namespace Go.M
open Go Go.Proofs
set_option maxRecDepth 100000
set_option maxHeartbeats 8000000
def spoilL (l : List Int) (j : Nat) : List Int := List.replicate j 99 ++ l.drop j
theorem spoilL_len (l : List Int) {j : Nat} (h : j ≤ l.length) : (spoilL l j).length = l.length := by simp [spoilL]; omega
@[reducible] def spoilC (c : CF) : CF := ⟨c.chain, c.epoch, spoilL c.nodes c.nodes.length, c.fresh, c.join⟩
theorem spoil_n {cs : List CF} (h : ∀ c ∈ cs, c.nodes.length < 1000) (m : Nat) (hm : m < cs.length) : ∀ c ∈ cs.set m (spoilC cs[m]), c.nodes.length < 1000 := by
 intro c hc
 rcases List.mem_or_eq_of_mem_set hc with q | rfl
 ·exact h c q
 ·show (spoilL cs[m].nodes cs[m].nodes.length).length < 1000
  rw [spoilL_len _ (Nat.le_refl _)]; exact h _ (List.getElem_mem hm)
theorem own_set (cs : List CF) (m : Nat) (x : CF) : apOp (cs.map ownCF) [(m, ownCF x)] = (cs.set m x).map ownCF := by
 rw [List.map_set]; rfl
theorem spoilL_set (l : List Int) {j : Nat} (h : j < l.length) : (spoilL l j).set j 99 = spoilL l (j + 1) := by
 unfold spoilL
 rw [List.set_append, if_neg (by simp), List.length_replicate, Nat.sub_self, List.drop_eq_getElem_cons h, List.set_cons_zero, List.replicate_succ', List.append_assoc]
 rfl
theorem spoil_ok (l : List Int) (hl : l.length < 1000000) : VC E0 21 1 [.tk 0] [(0, .arr 1 true (l.map encI1))] (RR (.tup []) 1 [(0, .arr 1 true ((spoilL l l.length).map encI1))]) := by
 refine VC.enterR L0 (show E0.func 21 = some Try.f21 by kernel_rfl) (fun _ _ => rfl) rfl rfl [] ?_
 ((conv=>whnf)<;>repeat(with_reducible refine D1 ?_)<;>conv=>whnf)
 refine ⟨fun k f o c => ∃ j : Nat, j ≤ l.length ∧ k = l.length - j ∧ c = 1 ∧ f = [(0, .tk 0), (2, .s (.int .i64 j))] ∧ o = [(0, .arr 1 true ((spoilL l j).map encI1))], ⟨l.length, ?_⟩, ?_⟩
 ·exact ⟨[], [some 0], _, _, _, t3, ⟨0, Nat.zero_le _, rfl, rfl, rfl, rfl⟩⟩
 ·rintro k f1 o1 c1 ⟨j, hj, rfl, rfl, rfl, rfl⟩
  have hsl := spoilL_len l hj
  ((conv=>whnf)<;>repeat(with_reducible refine D1 ?_)<;>conv=>whnf)
  (first|refine ⟨?_,?_⟩|refine nsplit ?_ ?_|refine bsplit ?_ ?_)<;>intro h<;>have hz_:=True.intro<;>clear hz_
  ·have h : j < l.length := by have := lenlt.1 h
                               omega
   ((conv=>whnf)<;>repeat(with_reducible refine D1 ?_)<;>conv=>whnf)
   refine ⟨⟨by omega, by rw [List.length_map]; omega⟩, ?_⟩
   ((conv=>whnf)<;>repeat(with_reducible refine D1 ?_)<;>conv=>whnf)
   refine ⟨encI1 ((spoilL l j)[j]'(by omega)), by rw [Int.toNat_natCast, List.getElem?_map, List.getElem?_eq_getElem (by omega)]; rfl, ?_⟩
   ((conv=>whnf)<;>repeat(with_reducible refine D1 ?_)<;>conv=>whnf)
   refine ⟨l.length - (j + 1), ?_, by omega⟩
   refine ⟨[], [some 0], ?_⟩
   iterate 3 constructor
   refine ⟨⟨?_, ?_, ?_⟩, ⟨j + 1, h, rfl, rfl, rfl, rfl⟩⟩
   all_goals (repeat' first|with_reducible exact Lz.rfl|exact Lw.rfl|exact Lz.wrap (by omega)|(unfold goInt;with_reducible exact Lz.rfl)|exact flx _|constructor)
   exact Lz.of (by rw [Int.toNat_natCast, ← spoilL_set l h, List.map_set])
  ·have hj' : j = l.length := by have := mt lenlt.2 h
                                 omega
   subst hj'
   ((conv=>whnf)<;>repeat(with_reducible refine D1 ?_)<;>conv=>whnf)
   exact ⟨[], [some 0], _, _, _, t3, rfl, rfl, rfl⟩
theorem confsO_ok (x : LogS) (hl : x.confs.length < 10000) (hn : ∀ c ∈ x.confs, c.nodes.length < 1000000) : VC E0 19 2 [.ptr 0 0] (stG x) (RR (.tk 2) 3 [(0, logO x 1), (1, knownO x), (2, .arq 5 (x.confs.map ownCF) [])]) := by
 refine VC.enterR L0 (show E0.func 19 = some Try.f19 by kernel_rfl) (fun _ _ => rfl) rfl rfl [] ?_
 ((conv=>whnf)<;>repeat(with_reducible refine D1 ?_)<;>conv=>whnf)
 refine ⟨[], [], _, _, _, _, copyO x.confs hl hn, t3, ?_⟩
 rintro r o' c' ⟨rfl, rfl, rfl⟩
 ((conv=>whnf)<;>repeat(with_reducible refine D1 ?_)<;>conv=>whnf)
 exact ⟨[], [some 0, some 1, some 2], _, _, _, t3, rfl, rfl, rfl⟩
theorem chosenOwn_ok (chains per : Int) (cmds : List Cmd) (hep : ∀ c ∈ cmds, 0 ≤ c.epoch) : VC E0 4 0 [.s (.int .i64 chains), .s (.int .i64 per), .sl 4 (cmds.map encC4) false] [] (fun r _ _ => r = .s (.bool true)) := by
 by_cases hb : rightB chains per
 ·obtain ⟨ch, rfl⟩ : ∃ n : Nat, chains = n := ⟨chains.toNat, by have := hb.1; omega⟩
  obtain ⟨pr, rfl⟩ : ∃ n : Nat, per = n := ⟨per.toNat, by have := hb.2; omega⟩
  have hb' := hb
  obtain ⟨⟨b1, b2⟩, b3, b4⟩ := hb'
  have hall : allP (beginL pr ch) := begin_all ch (by omega) pr (by omega) (by omega) (by omega)
  have hE : okE (beginL pr ch) := begin_okE (by omega) (by omega)
  generalize hl : beginL pr ch = l at hall hE
  have hbeg := refBegin_ok ch pr hb
  rw [hl] at hbeg
  refine VC.enterR L0 (show E0.func 4 = some Try.f4 by kernel_rfl) (fun _ _ => rfl) rfl rfl [] ?_
  ((conv=>whnf)<;>repeat(with_reducible refine D1 ?_)<;>conv=>whnf)
  refine ⟨[], [], _, _, _, _, hbeg, t3, ?_⟩
  rintro r o' c' ⟨rfl, rfl, rfl⟩
  ((conv=>whnf)<;>repeat(with_reducible refine D1 ?_)<;>conv=>whnf)
  repeat ((first | (refine ⟨fun h_ => ?_, fun h_ => ?_⟩) | (refine nsplit (fun h_ => ?_) (fun h_ => ?_)) | (refine bsplit (fun h_ => ?_) (fun h_ => ?_))) <;> first | (exfalso; revert h_; decide; done) | (exact absurd rfl h_) | (have hz_ := True.intro; clear hz_; ((conv=>whnf)<;>repeat(with_reducible refine D1 ?_)<;>conv=>whnf)))
  refine ⟨[], [], _, _, _, _, newG_ok l hall, t3, ?_⟩
  rintro r o' c' ⟨rfl, rfl, rfl⟩
  ((conv=>whnf)<;>repeat(with_reducible refine D1 ?_)<;>conv=>whnf)
  refine ⟨fun kk f o c => ∃ (i : Nat) (K : List Vote) (kn : List (Int × Cmd)), i ≤ cmds.length ∧ i ≤ 20 ∧ kk = cmds.length - i ∧ okN K i ∧ (∀ s, lookA kn s = (atS K s).map cmdOf) ∧ c = 2 ∧
   f = [(2, .sl 4 (cmds.map encC4) false), (9, .ptr 0 0), (11, .sl 5 (((cameG K l (nextG K)).2).map encCF) false), (12, .s (.int .i64 i))] ∧ o = [(0, logO (lgS kn K l) 1), (1, knownO (lgS kn K l))], ⟨cmds.length, ?_⟩, ?_⟩
  ·refine ⟨[], [some 0, some 1], ?_⟩
   iterate 3 constructor
   refine ⟨⟨?_, ?_, ?_⟩, ⟨0, [], [], Nat.zero_le _, by omega, rfl, ⟨.nil, rfl, Nat.le_refl _⟩, fun s => rfl, rfl, rfl, rfl⟩⟩
   all_goals (repeat' first|with_reducible exact Lz.rfl|exact Lw.rfl|exact Lz.wrap (by omega)|(unfold goInt;with_reducible exact Lz.rfl)|exact flx _|constructor)
   all_goals exact Lz.of rfl
  ·rintro kk f1 o1 c1 ⟨i, K, kn, hi, hi2, rfl, hN, hkn, rfl, rfl, rfl⟩
   have hok := hE.came K (nextG K)
   ((conv=>whnf)<;>repeat(with_reducible refine D1 ?_)<;>conv=>whnf)
   (first|refine ⟨?_,?_⟩|refine nsplit ?_ ?_|refine bsplit ?_ ?_)<;>intro hlt<;>have hz_:=True.intro<;>clear hz_
   rotate_left
   ·((conv=>whnf)<;>repeat(with_reducible refine D1 ?_)<;>conv=>whnf)
    repeat ((first | (refine ⟨fun h_ => ?_, fun h_ => ?_⟩) | (refine nsplit (fun h_ => ?_) (fun h_ => ?_)) | (refine bsplit (fun h_ => ?_) (fun h_ => ?_))) <;> first | (exfalso; revert h_; decide; done) | (exact absurd rfl h_) | (have hz_ := True.intro; clear hz_; ((conv=>whnf)<;>repeat(with_reducible refine D1 ?_)<;>conv=>whnf)))
    refine ⟨[], [], _, _, _, _, awake12, t3, ?_⟩
    rintro r o' c' ⟨rfl, rfl, rfl⟩
    ((conv=>whnf)<;>repeat(with_reducible refine D1 ?_)<;>conv=>whnf)
    exact ⟨[], [], [], .s (.bool true), [], ⟨.s Lz.rfl, .nil, rfl⟩, rfl⟩
   have hlt := lenlt.1 hlt
   ((conv=>whnf)<;>repeat(with_reducible refine D1 ?_)<;>conv=>whnf)
   (first|refine ⟨?_,?_⟩|refine nsplit ?_ ?_|refine bsplit ?_ ?_)<;>intro h20<;>have hz_:=True.intro<;>clear hz_
   rotate_left
   ·((conv=>whnf)<;>repeat(with_reducible refine D1 ?_)<;>conv=>whnf)
    repeat ((first | (refine ⟨fun h_ => ?_, fun h_ => ?_⟩) | (refine nsplit (fun h_ => ?_) (fun h_ => ?_)) | (refine bsplit (fun h_ => ?_) (fun h_ => ?_))) <;> first | (exfalso; revert h_; decide; done) | (exact absurd rfl h_) | (have hz_ := True.intro; clear hz_; ((conv=>whnf)<;>repeat(with_reducible refine D1 ?_)<;>conv=>whnf)))
    refine ⟨[], [], _, _, _, _, awake12, t3, ?_⟩
    rintro r o' c' ⟨rfl, rfl, rfl⟩
    ((conv=>whnf)<;>repeat(with_reducible refine D1 ?_)<;>conv=>whnf)
    exact ⟨[], [], [], .s (.bool true), [], ⟨.s Lz.rfl, .nil, rfl⟩, rfl⟩
   have h20 : i < 20 := by have : (i : Int) < 20 := h20
                           omega
   have hce := hep _ (List.getElem_mem hlt)
   ((conv=>whnf)<;>repeat(with_reducible refine D1 ?_)<;>conv=>whnf)
   refine ⟨[], [some 0, some 1], _, _, _, _, nextC_ok (lgS kn K l), t3, ?_⟩
   rintro r o' c' ⟨rfl, rfl, rfl⟩
   ((conv=>whnf)<;>repeat(with_reducible refine D1 ?_)<;>conv=>whnf)
   refine idxI hlt ?_
   ((conv=>whnf)<;>repeat(with_reducible refine D1 ?_)<;>conv=>whnf)
   obtain ⟨hN2, hst⟩ := own_step hN h20 l hce
   have hcs0 := learn_n6 (K := K) hE (nextG K : Nat) cmds[i]
   have hcl0 := learn_len hN.v.ok l (nextG K : Nat) cmds[i]
   have hok3 := hok.do cmds[i]
   have hlo := learnO_ok hN.v.ok hE (nextG K : Nat) cmds[i] hce kn hkn
   generalize (learnG K l (nextG K : Nat) cmds[i]).2.2 = er at hlo
   generalize (learnG K l (nextG K : Nat) cmds[i]).2.1 = cs0 at hlo hcs0 hcl0
   generalize (learnG K l (nextG K : Nat) cmds[i]).1 = K' at hlo hN2 hst
   have hok2 := hE.came K' (nextG K')
   refine ⟨[], [some 0, some 1], _, _, _, _, hlo, t3, ?_⟩
   rintro r o' c' ⟨kn', hkn', rfl, rfl, rfl⟩
   ((conv=>whnf)<;>repeat(with_reducible refine D1 ?_)<;>conv=>whnf)
   refine ⟨fun kk f o c' => ∃ (m : Nat) (cs : List CF), m ≤ cs.length ∧ kk = cs.length - m ∧ cs.length < 10000 ∧ (∀ c ∈ cs, c.nodes.length < 1000) ∧ c' = 3 ∧ f = [(2, .sl 4 (cmds.map encC4) false), (9, .ptr 0 0), (11, .sl 5 (((cameG K l (nextG K)).2).map encCF) false), (12, .s (.int .i64 i)), (13, .tk 2), (15, .s (.int .i64 m))] ∧ o = [(0, logO (lgS kn' K' l) 1), (1, knownO (lgS kn' K' l)), (2, .arq 5 (cs.map ownCF) [])], ⟨cs0.length, ?_⟩, ?_⟩
   ·exact ⟨[], [some 0, some 1, some 6], _, _, _, t3, ⟨0, cs0, Nat.zero_le _, rfl, by omega, hcs0, rfl, rfl, rfl⟩⟩
   ·rintro kk f2 o2 c2 ⟨m, cs, hm, rfl, hcl, hcs, rfl, rfl, rfl⟩
    ((conv=>whnf)<;>repeat(with_reducible refine D1 ?_)<;>conv=>whnf)
    (first|refine ⟨?_,?_⟩|refine nsplit ?_ ?_|refine bsplit ?_ ?_)<;>intro hlt2<;>have hz_:=True.intro<;>clear hz_
    ·have hlt2 : m < cs.length := lenlt.1 hlt2
     have hn2 := hcs _ (List.getElem_mem hlt2)
     ((conv=>whnf)<;>repeat(with_reducible refine D1 ?_)<;>conv=>whnf)
     refine ⟨⟨by omega, by rw [List.length_map]; omega⟩, ?_⟩
     ((conv=>whnf)<;>repeat(with_reducible refine D1 ?_)<;>conv=>whnf)
     refine ⟨ownCF cs[m], by rw [Int.toNat_natCast, List.getElem?_map, List.getElem?_eq_getElem hlt2]; rfl, ?_⟩
     ((conv=>whnf)<;>repeat(with_reducible refine D1 ?_)<;>conv=>whnf)
     refine ⟨[], [some 3], _, _, _, _, spoil_ok cs[m].nodes (by omega), t3, ?_⟩
     rintro r o' c' ⟨rfl, rfl, rfl⟩
     ((conv=>whnf)<;>repeat(with_reducible refine D1 ?_)<;>conv=>whnf)
     refine ⟨cs.length - (m + 1), ?_, by omega⟩
     have hlen : (cs.set m (spoilC cs[m])).length = cs.length := List.length_set
     refine ⟨[], [some 0, some 1, some 2], _, _, _, ⟨by (repeat' first|with_reducible exact Lz.rfl|exact Lw.rfl|exact Lz.wrap (by omega)|(unfold goInt;with_reducible exact Lz.rfl)|exact flx _|constructor), .cons (.cells (by (repeat' first|with_reducible exact Lz.rfl|exact Lw.rfl|exact Lz.wrap (by omega)|(unfold goInt;with_reducible exact Lz.rfl)|exact flx _|constructor))) (.cons (.map Lz.rfl) (.cons (.arq (opc := [(_, ownCF (spoilC cs[m]))]) .one (Lw.of (own_set cs m _)) (.q1 (by (repeat' first|with_reducible exact Lz.rfl|exact Lw.rfl|exact Lz.wrap (by omega)|(unfold goInt;with_reducible exact Lz.rfl)|exact flx _|constructor)))) .nil)), by rfl⟩, ⟨m + 1, cs.set m (spoilC cs[m]), by omega, by rw [hlen], by omega, spoil_n hcs m hlt2, rfl, rfl, rfl⟩⟩
    ·((conv=>whnf)<;>repeat(with_reducible refine D1 ?_)<;>conv=>whnf)
     ((conv=>whnf)<;>repeat(with_reducible refine D1 ?_)<;>conv=>whnf)
     refine ⟨[], [some 0, some 1], _, _, _, _, confsO_ok (lgS kn' K' l) (by have := hok2.len; show (cameG K' l (nextG K')).2.length < 10000; omega) (fun c hc => by have := hok2.n6 c hc; omega), t3, ?_⟩
     rintro r o' c' ⟨rfl, rfl, rfl⟩
     ((conv=>whnf)<;>repeat(with_reducible refine D1 ?_)<;>conv=>whnf)
     refine ⟨fun kk f o c' => ∃ (m : Nat) (cs : List CF), m ≤ cs.length ∧ kk = cs.length - m ∧ cs.length < 10000 ∧ (∀ c ∈ cs, c.nodes.length < 1000) ∧ c' = 3 ∧ f = [(2, .sl 4 (cmds.map encC4) false), (9, .ptr 0 0), (11, .sl 5 (((cameG K l (nextG K)).2).map encCF) false), (12, .s (.int .i64 i)), (16, .tk 2), (17, .s (.int .i64 m))] ∧ o = [(0, logO (lgS kn' K' l) 1), (1, knownO (lgS kn' K' l)), (2, .arq 5 (cs.map ownCF) [])], ⟨((cameG K' l (nextG K')).2).length, ?_⟩, ?_⟩
     ·exact ⟨[], [some 0, some 1, some 5], _, _, _, t3, ⟨0, ((cameG K' l (nextG K')).2), Nat.zero_le _, rfl, by have := hok2.len; omega, (fun c hc => by have := hok2.n6 c hc; omega), rfl, rfl, rfl⟩⟩
     ·rintro kk f2 o2 c2 ⟨m, cs, hm, rfl, hcl, hcs, rfl, rfl, rfl⟩
      ((conv=>whnf)<;>repeat(with_reducible refine D1 ?_)<;>conv=>whnf)
      (first|refine ⟨?_,?_⟩|refine nsplit ?_ ?_|refine bsplit ?_ ?_)<;>intro hlt2<;>have hz_:=True.intro<;>clear hz_
      ·have hlt2 : m < cs.length := lenlt.1 hlt2
       have hn2 := hcs _ (List.getElem_mem hlt2)
       ((conv=>whnf)<;>repeat(with_reducible refine D1 ?_)<;>conv=>whnf)
       refine ⟨⟨by omega, by rw [List.length_map]; omega⟩, ?_⟩
       ((conv=>whnf)<;>repeat(with_reducible refine D1 ?_)<;>conv=>whnf)
       refine ⟨ownCF cs[m], by rw [Int.toNat_natCast, List.getElem?_map, List.getElem?_eq_getElem hlt2]; rfl, ?_⟩
       ((conv=>whnf)<;>repeat(with_reducible refine D1 ?_)<;>conv=>whnf)
       refine ⟨[], [some 3], _, _, _, _, spoil_ok cs[m].nodes (by omega), t3, ?_⟩
       rintro r o' c' ⟨rfl, rfl, rfl⟩
       ((conv=>whnf)<;>repeat(with_reducible refine D1 ?_)<;>conv=>whnf)
       refine ⟨cs.length - (m + 1), ?_, by omega⟩
       have hlen : (cs.set m (spoilC cs[m])).length = cs.length := List.length_set
       refine ⟨[], [some 0, some 1, some 2], _, _, _, ⟨by (repeat' first|with_reducible exact Lz.rfl|exact Lw.rfl|exact Lz.wrap (by omega)|(unfold goInt;with_reducible exact Lz.rfl)|exact flx _|constructor), .cons (.cells (by (repeat' first|with_reducible exact Lz.rfl|exact Lw.rfl|exact Lz.wrap (by omega)|(unfold goInt;with_reducible exact Lz.rfl)|exact flx _|constructor))) (.cons (.map Lz.rfl) (.cons (.arq (opc := [(_, ownCF (spoilC cs[m]))]) .one (Lw.of (own_set cs m _)) (.q1 (by (repeat' first|with_reducible exact Lz.rfl|exact Lw.rfl|exact Lz.wrap (by omega)|(unfold goInt;with_reducible exact Lz.rfl)|exact flx _|constructor)))) .nil)), by rfl⟩, ⟨m + 1, cs.set m (spoilC cs[m]), by omega, by rw [hlen], by omega, spoil_n hcs m hlt2, rfl, rfl, rfl⟩⟩
      ·((conv=>whnf)<;>repeat(with_reducible refine D1 ?_)<;>conv=>whnf)
       ((conv=>whnf)<;>repeat(with_reducible refine D1 ?_)<;>conv=>whnf)
       refine idxI hlt ?_
       ((conv=>whnf)<;>repeat(with_reducible refine D1 ?_)<;>conv=>whnf)
       refine ⟨[], [], _, _, _, _, refDo_ok (cameG K l (nextG K)).2 cmds[i] hok.ep hce (by have := hok.len; omega), t3, ?_⟩
       rintro r o' c' ⟨rfl, rfl, rfl⟩
       ((conv=>whnf)<;>repeat(with_reducible refine D1 ?_)<;>conv=>whnf)
       refine ⟨[], [some 0, some 1], _, _, _, _, confsC_ok (lgS kn' K' l) (by have := hok2.len; show (cameG K' l (nextG K')).2.length < 10000; omega) (fun c hc => by have := hok2.n6 c hc; omega), t3, ?_⟩
       rintro r o' c' ⟨rfl, rfl, rfl⟩
       ((conv=>whnf)<;>repeat(with_reducible refine D1 ?_)<;>conv=>whnf)
       refine ⟨[], [], _, _, _, _, same_self (doL (cameG K l (nextG K)).2 cmds[i]).1 (by have := hok3.len; omega) (fun c hc => by have := hok3.n6 c hc; omega), ⟨by ((repeat' first|with_reducible exact Lz.rfl|exact Lw.rfl|exact Lz.wrap (by omega)|(unfold goInt;with_reducible exact Lz.rfl)|exact flx _|constructor); all_goals (exact Lz.of (by simp only [lgS, lgN, hst]))), by ((repeat' first|with_reducible exact Lz.rfl|exact Lw.rfl|exact Lz.wrap (by omega)|(unfold goInt;with_reducible exact Lz.rfl)|exact flx _|constructor); all_goals (exact Lz.of (by simp only [lgS, lgN, hst]))), by rfl⟩, ?_⟩
       rintro r o' c' ⟨rfl, rfl, rfl⟩
       ((conv=>whnf)<;>repeat(with_reducible refine D1 ?_)<;>conv=>whnf)
       refine ⟨cmds.length - (i + 1), ?_, by omega⟩
       refine ⟨[], [some 0, some 1], ?_⟩
       iterate 3 constructor
       refine ⟨⟨?_, ?_, ?_⟩, ⟨i + 1, K', kn', hlt, by omega, rfl, hN2, hkn', rfl, rfl, rfl⟩⟩
       all_goals (repeat' first|with_reducible exact Lz.rfl|exact Lw.rfl|exact Lz.wrap (by omega)|(unfold goInt;with_reducible exact Lz.rfl)|exact flx _|constructor)
       exact Lz.of (by rw [hst])
 ·refine VC.enterR L0 (show E0.func 4 = some Try.f4 by kernel_rfl) (fun _ _ => rfl) rfl rfl [] ?_
  ((conv=>whnf)<;>repeat(with_reducible refine D1 ?_)<;>conv=>whnf)
  refine ⟨[], [], _, _, _, _, refBeginNo_ok chains per hb, t3, ?_⟩
  rintro r o' c' ⟨rfl, rfl, rfl⟩
  ((conv=>whnf)<;>repeat(with_reducible refine D1 ?_)<;>conv=>whnf)
  repeat ((first | (refine ⟨fun h_ => ?_, fun h_ => ?_⟩) | (refine nsplit (fun h_ => ?_) (fun h_ => ?_)) | (refine bsplit (fun h_ => ?_) (fun h_ => ?_))) <;> first | (exfalso; revert h_; decide; done) | (exact absurd rfl h_) | (have hz_ := True.intro; clear hz_; ((conv=>whnf)<;>repeat(with_reducible refine D1 ?_)<;>conv=>whnf)))
  refine ⟨[], [], _, _, _, _, awake12, t3, ?_⟩
  rintro r o' c' ⟨rfl, rfl, rfl⟩
  ((conv=>whnf)<;>repeat(with_reducible refine D1 ?_)<;>conv=>whnf)
  exact ⟨[], [], [], .s (.bool true), [], ⟨.s Lz.rfl, .nil, rfl⟩, rfl⟩
end Go.M
namespace Go.M
open Go Go.Proofs Go.RowKit Go.Maps Go.Sort Go.Shelf
set_option maxRecDepth 1000000
def keys102_ren : Go.Shelf.Ren := ⟨fun | 7 => 102 | 10 => 134 | n => n, fun | 23 => 145 | 26 => 3 | 3 => 160 | 28 => 131 | 0 => 0 | 27 => 130 | 33 => 149 | 4 => 4 | n => n, fun | n => n⟩
theorem keys102 : Go.Proofs.SlLaysZI.n7 Try.prog keys102_ren where
 mixed := by kernel_rfl
 f7 := ⟨Try.f102.name, by kernel_rfl, Try.func102.trans (congrArg some (by kernel_rfl))⟩
 f10 := ⟨Try.f134.name, by kernel_rfl, Try.func134.trans (congrArg some (by kernel_rfl))⟩
 t0 := Try.underlying0
 a0 := Try.isAgg0
 z0 := Try.sizeOf0
 v0 := Try.zeroValue0
 t4 := Try.underlying4
 a4 := Try.isAgg4
 z4 := Try.sizeOf4
 v4 := Try.zeroValue4
 t23 := Try.underlying145
 a23 := Try.isAgg145
 z23 := Try.sizeOf145
 v23 := Try.zeroValue145
 t26 := Try.underlying3
 a26 := Try.isAgg3
 z26 := Try.sizeOf3
 v26 := Try.zeroValue3
 t27 := Try.underlying130
 a27 := Try.isAgg130
 z27 := Try.sizeOf130
 v27 := Try.zeroValue130
 t28 := Try.underlying131
 a28 := Try.isAgg131
 z28 := Try.sizeOf131
 v28 := Try.zeroValue131
 t33 := Try.underlying149
 a33 := Try.isAgg149
 z33 := Try.sizeOf149
 v33 := Try.zeroValue149
theorem sorts101_134 : SortsKeys Try.prog 101 134 :=
 sortsKeys_of (ρ := sorted101_ren) (σ := keys102_ren) sorted101 { keys102 with } sortsIn101 (enters_of Try.func133 (by kernel_rfl) rfl) (enters_of Try.func134 (by kernel_rfl) rfl)
def keys95_ren : Go.Shelf.Ren := ⟨fun | 7 => 95 | 10 => 127 | n => n, fun | 23 => 144 | 26 => 3 | 3 => 22 | 28 => 131 | 0 => 0 | 27 => 130 | 33 => 149 | 4 => 4 | n => n, fun | n => n⟩
theorem keys95 : Go.Proofs.SlLaysZI.n7 Try.prog keys95_ren where
 mixed := by kernel_rfl
 f7 := ⟨Try.f95.name, by kernel_rfl, Try.func95.trans (congrArg some (by kernel_rfl))⟩
 f10 := ⟨Try.f127.name, by kernel_rfl, Try.func127.trans (congrArg some (by kernel_rfl))⟩
 t0 := Try.underlying0
 a0 := Try.isAgg0
 z0 := Try.sizeOf0
 v0 := Try.zeroValue0
 t4 := Try.underlying4
 a4 := Try.isAgg4
 z4 := Try.sizeOf4
 v4 := Try.zeroValue4
 t23 := Try.underlying144
 a23 := Try.isAgg144
 z23 := Try.sizeOf144
 v23 := Try.zeroValue144
 t26 := Try.underlying3
 a26 := Try.isAgg3
 z26 := Try.sizeOf3
 v26 := Try.zeroValue3
 t27 := Try.underlying130
 a27 := Try.isAgg130
 z27 := Try.sizeOf130
 v27 := Try.zeroValue130
 t28 := Try.underlying131
 a28 := Try.isAgg131
 z28 := Try.sizeOf131
 v28 := Try.zeroValue131
 t33 := Try.underlying149
 a33 := Try.isAgg149
 z33 := Try.sizeOf149
 v33 := Try.zeroValue149
theorem sorts101_127 : SortsKeys Try.prog 101 127 :=
 sortsKeys_of (ρ := sorted101_ren) (σ := keys95_ren) sorted101 { keys95 with } sortsIn101 (enters_of Try.func133 (by kernel_rfl) rfl) (enters_of Try.func127 (by kernel_rfl) rfl)
theorem collects80_127 : CollectsKeys Try.prog 80 127 :=
 collectsKeys_of (ρ := sorted101_ren) (σ := keys95_ren) { sorted101 with } { keys95 with } (enters_of Try.func127 (by kernel_rfl) rfl)
end Go.M
namespace Go.M
open Go Go.Proofs
set_option maxRecDepth 1000000
theorem mixed0 : Try.prog.follows .mixedOrders = true := by kernel_rfl
theorem awake14 : Awake Try.prog 14 := awake_of mixed0 (fs := []) (bs := []) (ps := []) (m := 0) (n := 100000) (by kernel_rfl)
theorem awake43 : Awake Try.prog 43 := awake_of mixed0 (fs := []) (bs := []) (ps := []) (m := 0) (n := 100000) (by kernel_rfl)
theorem awake49 : Awake Try.prog 49 := awake_of mixed0 (fs := [101]) (bs := [80]) (ps := [94]) (m := 100000) (n := 100000) (by kernel_rfl)
theorem orc0 (base B : Nat) : OrcOk Try.prog E0 base B := by
 refine orcW_ok (fun g hg => ?_) (fun g its hi k hk => ?_) (fun g its hi k hk => ?_) (fun g val hv => ?_) base B
 ·simp only [List.mem_cons, List.not_mem_nil, or_false] at hg
  rcases hg with rfl | rfl | rfl
  ·exact awake14
  ·exact awake43
  ·exact awake49
 ·simp only [look] at hi
  split at hi
  ·rename_i h
   have h := beq_iff.1 h
   subst h
   cases hi
   simp only [List.mem_cons, List.not_mem_nil, or_false] at hk
   rcases hk with rfl | rfl | rfl
   ·exact sorts101_123
   ·exact sorts101_134
   ·exact sorts101_127
  ·cases hi
 ·simp only [look] at hi
  split at hi
  ·rename_i h
   have h := beq_iff.1 h
   subst h
   cases hi
   simp only [List.mem_cons, List.not_mem_nil, or_false] at hk
   rcases hk with rfl | rfl
   ·exact collects80_123
   ·exact collects80_127
  ·cases hi
 ·simp only [look] at hv
  split at hv
  ·rename_i h
   have h := beq_iff.1 h
   subst h
   cases hv
   exact minBag
  ·split at hv
   ·rename_i h
    have h := beq_iff.1 h
    subst h
    cases hv
    exact withBag
   ·cases hv
end Go.M
