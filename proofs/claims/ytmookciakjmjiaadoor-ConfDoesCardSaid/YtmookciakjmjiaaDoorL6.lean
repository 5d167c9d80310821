/-
  Part 6 of the library that the proof leans on.
-/
import Derived.KernelRfl
import Derived.OpenShut
import Derived.ChangeArms
import Derived.Test.YtmookciakjmjiaaDoorL5
namespace Go.M
open Go Go.Proofs
set_option maxRecDepth 100000
set_option maxHeartbeats 4000000
theorem mixE_set (l : List CF) (i : Nat) (h : i < l.length) (x : CF) : (mixE (fun j => Nat.beq j i) l).set i (encCF x) = (l.set i x).map encCF := by
 apply List.ext_getElem?
 intro j
 rw [List.getElem?_set, List.getElem?_map, List.getElem?_set]
 by_cases e : i = j
 ·subst e
  simp [mixE_len, h]
 ·rw [if_neg e, if_neg e]
  by_cases hj : j < l.length
  ·rw [mixE_get _ _ _ hj, List.getElem?_eq_getElem hj]
   have hb : Nat.beq j i = false := by
    cases hq : Nat.beq j i with
    | false => rfl
    | true => rw [beq_iff] at hq; omega
   unfold pickE
   simp only [hb]
   rfl
  ·rw [List.getElem?_eq_none (by rw [mixE_len]; omega), List.getElem?_eq_none (by omega)]; rfl
theorem mixE_at (l : List CF) (i : Nat) (h : i < l.length) : (mixE (fun j => Nat.beq j i) l)[i]? = some (ownCF l[i]) := by
 rw [mixE_get _ _ _ h]
 unfold pickE
 simp only [beq_iff.2 (rfl : i = i)]
theorem encCF_fz (l : List CF) : ∀ e ∈ l.map encCF, ∀ t ∈ e, fz t = true := by
 intro e he t ht
 obtain ⟨x, _, rfl⟩ := List.mem_map.1 he
 simp only [encCF, List.mem_cons, List.not_mem_nil, or_false] at ht
 rcases ht with rfl | rfl | rfl | rfl | rfl <;> rfl
theorem doK_ep (x : CF) (k n : Int) : (doK x k n).epoch = x.epoch := by
 unfold doK
 repeat' split
 all_goals rfl
theorem doC_ok (l : List CF) (c : Cmd) (hl : l.length < 10000) (hn : ∀ c ∈ l, c.nodes.length < 1000000) (hep : ∀ c ∈ l, 0 ≤ c.epoch ∧ c.epoch ≤ 18446744073709551615) :
 VC E0 10 0 [.sl 5 (l.map encCF) false, cT4 c] [] (RR (.tup [.tk 0, .s (.bool (doL l c).2)]) 1 [(0, .arr 5 true ((doL l c).1.map encCF))]) := by
 by_cases h : canL l c = 0
 ·by_cases h0 : c.kind = 0
  ·have hC : doL l c = (l, true) := by unfold doL; rw [if_neg (fun q => q h), if_pos h0]
   rw [hC]
   refine VC.enterR L0 (show E0.func 10 = some Tryd.f10 by kernel_rfl) (fun _ _ => rfl) rfl rfl [] ?_
   ((conv=>whnf)<;>repeat(with_reducible refine D1 ?_)<;>conv=>whnf)
   refine ⟨[], [], _, _, _, _, copy_ok l hl hn, t3, ?_⟩
   rintro r o' c' ⟨rfl, rfl, rfl⟩
   ((conv=>whnf)<;>repeat(with_reducible refine D1 ?_)<;>conv=>whnf)
   refine ⟨[], [], _, _, _, _, can_ok l c, t3, ?_⟩
   rintro r o' c' ⟨rfl, rfl, rfl⟩
   ((conv=>whnf)<;>repeat(with_reducible refine D1 ?_)<;>conv=>whnf)
   (first|refine ⟨?_,?_⟩|refine nsplit ?_ ?_|refine bsplit ?_ ?_)<;>intro q<;>have hz_:=True.intro<;>clear hz_
   ·exact absurd h q
   ((conv=>whnf)<;>repeat(with_reducible refine D1 ?_)<;>conv=>whnf)
   (first|refine ⟨?_,?_⟩|refine nsplit ?_ ?_|refine bsplit ?_ ?_)<;>intro q2<;>have hz_:=True.intro<;>clear hz_
   ·exact absurd h0 q2
   ((conv=>whnf)<;>repeat(with_reducible refine D1 ?_)<;>conv=>whnf)
   exact ⟨[], [some 1], _, _, _, t3, rfl, rfl, rfl⟩
  ·obtain ⟨ha, hk, hlt, hm⟩ := can_in h h0
   have hrg := check_rng hk h0
   have hin := hep _ (List.getElem_mem hlt)
   have hrx := allP_in ha (List.getElem_mem hlt)
   have h5 := hrx.2.2.1
   have hC : doL l c = (l.set c.chain.toNat (madeL l[c.chain.toNat] c.kind c.node), true) := by unfold doL; rw [if_neg (fun q => q h), if_neg h0, List.getElem?_eq_getElem hlt]
   have hw : IntKind.u64.wrap ((doK l[c.chain.toNat] c.kind c.node).epoch + 1) = (doK l[c.chain.toNat] c.kind c.node).epoch + 1 := by rw [doK_ep]; exact IntWalk.u64_in _ (by omega)
   rw [hC, doK_made]
   refine VC.enterR L0 (show E0.func 10 = some Tryd.f10 by kernel_rfl) (fun _ _ => rfl) rfl rfl [] ?_
   ((conv=>whnf)<;>repeat(with_reducible refine D1 ?_)<;>conv=>whnf)
   refine ⟨[], [], _, _, _, _, copyM_ok (fun j => Nat.beq j c.chain.toNat) l hl hn, t3, ?_⟩
   rintro r o' c' ⟨rfl, rfl, rfl⟩
   ((conv=>whnf)<;>repeat(with_reducible refine D1 ?_)<;>conv=>whnf)
   refine ⟨[], [], _, _, _, _, can_ok l c, t3, ?_⟩
   rintro r o' c' ⟨rfl, rfl, rfl⟩
   ((conv=>whnf)<;>repeat(with_reducible refine D1 ?_)<;>conv=>whnf)
   (first|refine ⟨?_,?_⟩|refine nsplit ?_ ?_|refine bsplit ?_ ?_)<;>intro q<;>have hz_:=True.intro<;>clear hz_
   ·exact absurd h q
   ((conv=>whnf)<;>repeat(with_reducible refine D1 ?_)<;>conv=>whnf)
   (first|refine ⟨?_,?_⟩|refine nsplit ?_ ?_|refine bsplit ?_ ?_)<;>intro q2<;>have hz_:=True.intro<;>clear hz_
   ·((conv=>whnf)<;>repeat(with_reducible refine D1 ?_)<;>conv=>whnf)
    by_cases k1 : c.kind = 1
    ·refine ⟨[], [], _, _, _, _, of1_k c.kind k1, t3, ?_⟩
     have hdo := remove_ok l[c.chain.toNat] c.node h5
     rw [← k1] at hdo
     rintro r o' c' ⟨rfl, rfl, rfl⟩
     ((conv=>whnf)<;>repeat(with_reducible refine D1 ?_)<;>conv=>whnf)
     refine ⟨⟨hrg.1, by rw [mixE_len]; omega⟩, ?_⟩
     ((conv=>whnf)<;>repeat(with_reducible refine D1 ?_)<;>conv=>whnf)
     refine ⟨ownCF l[c.chain.toNat], mixE_at l _ hlt, ?_⟩
     ((conv=>whnf)<;>repeat(with_reducible refine D1 ?_)<;>conv=>whnf)
     refine ⟨[], [some 2], _, _, _, _, hdo, t3, ?_⟩
     rintro r o' c' ⟨rfl, rfl, rfl⟩
     ((conv=>whnf)<;>repeat(with_reducible refine D1 ?_)<;>conv=>whnf)
     refine ⟨⟨hrg.1, by rw [mixE_len]; omega⟩, ?_⟩
     ((conv=>whnf)<;>repeat(with_reducible refine D1 ?_)<;>conv=>whnf)
     refine ⟨fun _ => ?_, fun q => absurd rfl q⟩
     ((conv=>whnf)<;>repeat(with_reducible refine D1 ?_)<;>conv=>whnf)
     refine ⟨[], [some 1], _, _, _, ⟨by (repeat' first|with_reducible exact Lz.rfl|exact Lw.rfl|exact Lz.wrap (by omega)|(unfold goInt;with_reducible exact Lz.rfl)|exact flx _|constructor), .cons (.qarr (opc := [(_, encCF ⟨(doK l[c.chain.toNat] c.kind c.node).chain, (doK l[c.chain.toNat] c.kind c.node).epoch + 1, (doK l[c.chain.toNat] c.kind c.node).nodes, (doK l[c.chain.toNat] c.kind c.node).fresh, (doK l[c.chain.toNat] c.kind c.node).join⟩)]) .one (Lw.of (mixE_set l c.chain.toNat hlt _)) (encCF_fz _) (.q1 (by (repeat' first|with_reducible exact Lz.rfl|exact Lw.rfl|exact Lz.wrap (by omega)|(unfold goInt;with_reducible exact Lz.rfl)|exact flx _|constructor); exact Lz.int hw))) .nil, by rfl⟩, rfl, rfl, rfl⟩
    by_cases k2 : c.kind = 2
    ·refine ⟨[], [], _, _, _, _, of2_k c.kind k2, t3, ?_⟩
     have hdo := join_ok l[c.chain.toNat] c.node
     rw [← k2] at hdo
     rintro r o' c' ⟨rfl, rfl, rfl⟩
     ((conv=>whnf)<;>repeat(with_reducible refine D1 ?_)<;>conv=>whnf)
     refine ⟨⟨hrg.1, by rw [mixE_len]; omega⟩, ?_⟩
     ((conv=>whnf)<;>repeat(with_reducible refine D1 ?_)<;>conv=>whnf)
     refine ⟨ownCF l[c.chain.toNat], mixE_at l _ hlt, ?_⟩
     ((conv=>whnf)<;>repeat(with_reducible refine D1 ?_)<;>conv=>whnf)
     refine ⟨[], [some 2], _, _, _, _, hdo, t3, ?_⟩
     rintro r o' c' ⟨rfl, rfl, rfl⟩
     ((conv=>whnf)<;>repeat(with_reducible refine D1 ?_)<;>conv=>whnf)
     refine ⟨⟨hrg.1, by rw [mixE_len]; omega⟩, ?_⟩
     ((conv=>whnf)<;>repeat(with_reducible refine D1 ?_)<;>conv=>whnf)
     refine ⟨fun _ => ?_, fun q => absurd rfl q⟩
     ((conv=>whnf)<;>repeat(with_reducible refine D1 ?_)<;>conv=>whnf)
     refine ⟨[], [some 1], _, _, _, ⟨by (repeat' first|with_reducible exact Lz.rfl|exact Lw.rfl|exact Lz.wrap (by omega)|(unfold goInt;with_reducible exact Lz.rfl)|exact flx _|constructor), .cons (.qarr (opc := [(_, encCF ⟨(doK l[c.chain.toNat] c.kind c.node).chain, (doK l[c.chain.toNat] c.kind c.node).epoch + 1, (doK l[c.chain.toNat] c.kind c.node).nodes, (doK l[c.chain.toNat] c.kind c.node).fresh, (doK l[c.chain.toNat] c.kind c.node).join⟩)]) .one (Lw.of (mixE_set l c.chain.toNat hlt _)) (encCF_fz _) (.q1 (by (repeat' first|with_reducible exact Lz.rfl|exact Lw.rfl|exact Lz.wrap (by omega)|(unfold goInt;with_reducible exact Lz.rfl)|exact flx _|constructor); exact Lz.int hw))) .nil, by rfl⟩, rfl, rfl, rfl⟩
    by_cases k3 : c.kind = 3
    ·refine ⟨[], [], _, _, _, _, of3_k c.kind k3, t3, ?_⟩
     have hdo := promote_ok l[c.chain.toNat] c.node h5.2
     rw [← k3] at hdo
     rintro r o' c' ⟨rfl, rfl, rfl⟩
     ((conv=>whnf)<;>repeat(with_reducible refine D1 ?_)<;>conv=>whnf)
     refine ⟨⟨hrg.1, by rw [mixE_len]; omega⟩, ?_⟩
     ((conv=>whnf)<;>repeat(with_reducible refine D1 ?_)<;>conv=>whnf)
     refine ⟨ownCF l[c.chain.toNat], mixE_at l _ hlt, ?_⟩
     ((conv=>whnf)<;>repeat(with_reducible refine D1 ?_)<;>conv=>whnf)
     refine ⟨[], [some 2], _, _, _, _, hdo, t3, ?_⟩
     rintro r o' c' ⟨rfl, rfl, rfl⟩
     ((conv=>whnf)<;>repeat(with_reducible refine D1 ?_)<;>conv=>whnf)
     refine ⟨⟨hrg.1, by rw [mixE_len]; omega⟩, ?_⟩
     ((conv=>whnf)<;>repeat(with_reducible refine D1 ?_)<;>conv=>whnf)
     refine ⟨fun _ => ?_, fun q => absurd rfl q⟩
     ((conv=>whnf)<;>repeat(with_reducible refine D1 ?_)<;>conv=>whnf)
     refine ⟨[], [some 1], _, _, _, ⟨by (repeat' first|with_reducible exact Lz.rfl|exact Lw.rfl|exact Lz.wrap (by omega)|(unfold goInt;with_reducible exact Lz.rfl)|exact flx _|constructor), .cons (.qarr (opc := [(_, encCF ⟨(doK l[c.chain.toNat] c.kind c.node).chain, (doK l[c.chain.toNat] c.kind c.node).epoch + 1, (doK l[c.chain.toNat] c.kind c.node).nodes, (doK l[c.chain.toNat] c.kind c.node).fresh, (doK l[c.chain.toNat] c.kind c.node).join⟩)]) .one (Lw.of (mixE_set l c.chain.toNat hlt _)) (encCF_fz _) (.q1 (by (repeat' first|with_reducible exact Lz.rfl|exact Lw.rfl|exact Lz.wrap (by omega)|(unfold goInt;with_reducible exact Lz.rfl)|exact flx _|constructor); exact Lz.int hw))) .nil, by rfl⟩, rfl, rfl, rfl⟩
    ·refine ⟨[], [], _, _, _, _, of4_ok c.kind k1 k2 k3, t3, ?_⟩
     have hdo := settle_ok l[c.chain.toNat] c.kind c.node k1 k2 k3
     rintro r o' c' ⟨rfl, rfl, rfl⟩
     ((conv=>whnf)<;>repeat(with_reducible refine D1 ?_)<;>conv=>whnf)
     refine ⟨⟨hrg.1, by rw [mixE_len]; omega⟩, ?_⟩
     ((conv=>whnf)<;>repeat(with_reducible refine D1 ?_)<;>conv=>whnf)
     refine ⟨ownCF l[c.chain.toNat], mixE_at l _ hlt, ?_⟩
     ((conv=>whnf)<;>repeat(with_reducible refine D1 ?_)<;>conv=>whnf)
     refine ⟨[], [some 2], _, _, _, _, hdo, t3, ?_⟩
     rintro r o' c' ⟨rfl, rfl, rfl⟩
     ((conv=>whnf)<;>repeat(with_reducible refine D1 ?_)<;>conv=>whnf)
     refine ⟨⟨hrg.1, by rw [mixE_len]; omega⟩, ?_⟩
     ((conv=>whnf)<;>repeat(with_reducible refine D1 ?_)<;>conv=>whnf)
     refine ⟨fun _ => ?_, fun q => absurd rfl q⟩
     ((conv=>whnf)<;>repeat(with_reducible refine D1 ?_)<;>conv=>whnf)
     refine ⟨[], [some 1], _, _, _, ⟨by (repeat' first|with_reducible exact Lz.rfl|exact Lw.rfl|exact Lz.wrap (by omega)|(unfold goInt;with_reducible exact Lz.rfl)|exact flx _|constructor), .cons (.qarr (opc := [(_, encCF ⟨(doK l[c.chain.toNat] c.kind c.node).chain, (doK l[c.chain.toNat] c.kind c.node).epoch + 1, (doK l[c.chain.toNat] c.kind c.node).nodes, (doK l[c.chain.toNat] c.kind c.node).fresh, (doK l[c.chain.toNat] c.kind c.node).join⟩)]) .one (Lw.of (mixE_set l c.chain.toNat hlt _)) (encCF_fz _) (.q1 (by (repeat' first|with_reducible exact Lz.rfl|exact Lw.rfl|exact Lz.wrap (by omega)|(unfold goInt;with_reducible exact Lz.rfl)|exact flx _|constructor); exact Lz.int hw))) .nil, by rfl⟩, rfl, rfl, rfl⟩
   ·exact absurd h0 (fun q => q2 q)
 ·have hC : doL l c = (l, false) := by unfold doL; rw [if_pos h]
  rw [hC]
  refine VC.enterR L0 (show E0.func 10 = some Tryd.f10 by kernel_rfl) (fun _ _ => rfl) rfl rfl [] ?_
  ((conv=>whnf)<;>repeat(with_reducible refine D1 ?_)<;>conv=>whnf)
  refine ⟨[], [], _, _, _, _, copy_ok l hl hn, t3, ?_⟩
  rintro r o' c' ⟨rfl, rfl, rfl⟩
  ((conv=>whnf)<;>repeat(with_reducible refine D1 ?_)<;>conv=>whnf)
  refine ⟨[], [], _, _, _, _, can_ok l c, t3, ?_⟩
  rintro r o' c' ⟨rfl, rfl, rfl⟩
  ((conv=>whnf)<;>repeat(with_reducible refine D1 ?_)<;>conv=>whnf)
  (first|refine ⟨?_,?_⟩|refine nsplit ?_ ?_|refine bsplit ?_ ?_)<;>intro q<;>have hz_:=True.intro<;>clear hz_
  ·((conv=>whnf)<;>repeat(with_reducible refine D1 ?_)<;>conv=>whnf)
   exact ⟨[], [some 1], _, _, _, t3, rfl, rfl, rfl⟩
  ·exact absurd (Classical.not_not.1 q) h
end Go.M
namespace Go.M
open Go Go.Proofs
set_option maxRecDepth 100000
set_option maxHeartbeats 4000000
def encC4 (c : Cmd) : List TV := [.s (.int .i64 c.kind), .s (.int .i64 c.chain), .s (.int .u64 c.epoch), .s (.int .i64 c.node)]
structure okF (l : List CF) : Prop where
 len : l.length ≤ 6
 ep : ∀ c ∈ l, 0 ≤ c.epoch ∧ c.epoch ≤ 18446744073709551615
 n30 : ∀ c ∈ l, c.nodes.length ≤ 30
theorem okF.do {l : List CF} (h : okF l) (c : Cmd) : okF (doL l c).1 := by
 by_cases hc : canL l c = 0
 ·by_cases hk : c.kind = 0
  ·have : doL l c = (l, true) := by unfold doL; rw [if_neg (fun q => q hc), if_pos hk]
   rw [this]; exact h
  ·obtain ⟨ha, hck, hlt, hm⟩ := can_in hc hk
   have hC : doL l c = (l.set c.chain.toNat (madeL l[c.chain.toNat] c.kind c.node), true) := by unfold doL; rw [if_neg (fun q => q hc), if_neg hk, List.getElem?_eq_getElem hlt]
   have h5 := (allP_in ha (List.getElem_mem hlt)).2.2.1
   have hep := h.ep _ (List.getElem_mem hlt)
   have hmo := madeL_ok (x := l[c.chain.toNat]) (k := c.kind) (n := c.node) h5.2 ⟨hep.1, by omega⟩
   rw [hC]
   refine ⟨by simpa using h.len, fun x hx => ?_, fun x hx => ?_⟩
   ·rcases List.mem_or_eq_of_mem_set hx with q | rfl
    ·exact h.ep x q
    ·exact hmo.1
   ·rcases List.mem_or_eq_of_mem_set hx with q | rfl
    ·exact h.n30 x q
    ·exact Nat.le_trans hmo.2 (by decide)
 ·have : doL l c = (l, false) := by unfold doL; rw [if_pos hc]
  rw [this]; exact h
theorem wrap_big (n : Nat) (h : n < 9223372036854775807) : IntKind.i64.wrap ((n : Int) + 1) = ((n + 1 : Nat) : Int) := by
 rw [IntWalk.i64_in _ (by omega)]; rfl
theorem few_ok (l : List CF) (hl : l.length ≤ maxLen) : VC E0 5 0 [.sl 5 (l.map encCF) false] [] (fun r o c => ∃ b : Bool, r = .s (.bool b) ∧ c = 0 ∧ o = [] ∧ (b = true → l.length ≤ 6 ∧ ∀ x ∈ l, x.nodes.length ≤ 30)) := by
 have hl : l.length ≤ 9223372036854775807 := hl
 refine VC.enterR L0 (show E0.func 5 = some Tryd.f5 by kernel_rfl) (fun _ _ => rfl) rfl rfl [] ?_
 ((conv=>whnf)<;>repeat(with_reducible refine D1 ?_)<;>conv=>whnf)
 refine ⟨fun k f o c => ∃ j : Nat, j ≤ l.length ∧ k = l.length - j ∧ (∀ x ∈ l.take j, x.nodes.length ≤ 30) ∧ c = 0 ∧ f = [(0, .sl 5 (l.map encCF) false), (3, .s (.int .i64 j))] ∧ o = [], ⟨l.length, ?_⟩, ?_⟩
 ·exact ⟨[], [], _, _, _, t3, ⟨0, Nat.zero_le _, rfl, by simp, rfl, rfl, rfl⟩⟩
 ·rintro k f1 o1 c1 ⟨j, hj, rfl, hn, rfl, rfl, rfl⟩
  ((conv=>whnf)<;>repeat(with_reducible refine D1 ?_)<;>conv=>whnf)
  (first|refine ⟨?_,?_⟩|refine nsplit ?_ ?_|refine bsplit ?_ ?_)<;>intro h<;>have hz_:=True.intro<;>clear hz_
  ·have h : j < l.length := lenlt.1 h
   ((conv=>whnf)<;>repeat(with_reducible refine D1 ?_)<;>conv=>whnf)
   refine idxI h ?_
   ((conv=>whnf)<;>repeat(with_reducible refine D1 ?_)<;>conv=>whnf)
   (first|refine ⟨?_,?_⟩|refine nsplit ?_ ?_|refine bsplit ?_ ?_)<;>intro he<;>have hz_:=True.intro<;>clear hz_
   ·((conv=>whnf)<;>repeat(with_reducible refine D1 ?_)<;>conv=>whnf)
    exact ⟨[], [], _, _, _, t3, false, rfl, rfl, rfl, by simp⟩
   ·have he : ¬ ((((l[j].nodes.map encI1).length : Nat) : Int) > 30) := he
    rw [List.length_map] at he
    ((conv=>whnf)<;>repeat(with_reducible refine D1 ?_)<;>conv=>whnf)
    refine ⟨l.length - (j + 1), ?_, by omega⟩
    refine ⟨[], [], ?_⟩
    iterate 3 constructor
    refine ⟨⟨?_, ?_, ?_⟩, ⟨j + 1, h, rfl, (fun x hx => by rw [List.take_succ_eq_append_getElem h] at hx; rcases List.mem_append.1 hx with q | q; exact hn x q; simp at q; subst q; omega), rfl, rfl, rfl⟩⟩
    all_goals (repeat' first|with_reducible exact Lz.rfl|exact Lw.rfl|exact Lz.wrap (by omega)|(unfold goInt;with_reducible exact Lz.rfl)|exact flx _|constructor)
    exact .of (congrArg _ (wrap_big j (by omega)))
  ·have hj' : j = l.length := by have := mt lenlt.2 h
                                 omega
   subst hj'
   rw [List.take_length] at hn
   ((conv=>whnf)<;>repeat(with_reducible refine D1 ?_)<;>conv=>whnf)
   (first|refine ⟨?_,?_⟩|refine nsplit ?_ ?_|refine bsplit ?_ ?_)<;>intro h6<;>have hz_:=True.intro<;>clear hz_
   ·have h6 : (((l.map encCF).length : Nat) : Int) ≤ 6 := h6
    rw [List.length_map] at h6
    ((conv=>whnf)<;>repeat(with_reducible refine D1 ?_)<;>conv=>whnf)
    exact ⟨[], [], _, _, _, t3, true, rfl, rfl, rfl, fun _ => ⟨by omega, hn⟩⟩
   ·((conv=>whnf)<;>repeat(with_reducible refine D1 ?_)<;>conv=>whnf)
    exact ⟨[], [], _, _, _, t3, false, rfl, rfl, rfl, by simp⟩
theorem awake_r : VC E0 6 0 [] [] (RR (.s (.bool true)) 0 []) := (VC.awakeX (n := 0) (by kernel_rfl) (by kernel_rfl) rfl).mono fun r o c h => ⟨h.1, h.2.2, h.2.1⟩
theorem confDoes_ok (l : List CF) (cmds : List Cmd) (hl : l.length ≤ maxLen) (hep : ∀ c ∈ l, 0 ≤ c.epoch ∧ c.epoch ≤ 18446744073709551615) (hce : ∀ c ∈ cmds, 0 ≤ c.epoch) :
 VC E0 3 0 [.sl 5 (l.map encCF) false, .sl 4 (cmds.map encC4) false] [] (fun r _ _ => r = .s (.bool true)) := by
 refine VC.enterR L0 (show E0.func 3 = some Tryd.f3 by kernel_rfl) (fun _ _ => rfl) rfl rfl [] ?_
 ((conv=>whnf)<;>repeat(with_reducible refine D1 ?_)<;>conv=>whnf)
 refine ⟨[], [], _, _, _, _, few_ok l hl, t3, ?_⟩
 rintro r o c ⟨b, rfl, rfl, rfl, hb⟩
 have hz_ := True.intro
 clear hz_
 cases b
 ·((conv=>whnf)<;>repeat(with_reducible refine D1 ?_)<;>conv=>whnf)
  refine ⟨[], [], _, _, _, _, awake_r, t3, ?_⟩
  rintro r o' c' ⟨rfl, rfl, rfl⟩
  ((conv=>whnf)<;>repeat(with_reducible refine D1 ?_)<;>conv=>whnf)
  exact ⟨[], [], [], .s (.bool true), [], ⟨.s Lz.rfl, .nil, rfl⟩, rfl⟩
 ·have hF : okF l := ⟨(hb rfl).1, hep, (hb rfl).2⟩
  ((conv=>whnf)<;>repeat(with_reducible refine D1 ?_)<;>conv=>whnf)
  refine ⟨[], [], _, _, _, _, copy_ok l (by have := hF.len; omega) (fun c hc => by have := hF.n30 c hc; omega), t3, ?_⟩
  rintro r o' c' ⟨rfl, rfl, rfl⟩
  ((conv=>whnf)<;>repeat(with_reducible refine D1 ?_)<;>conv=>whnf)
  refine ⟨fun kk f o c => ∃ (i : Nat) (m : List CF), i ≤ cmds.length ∧ i ≤ 40 ∧ kk = cmds.length - i ∧ okF m ∧ c = 0 ∧
   f = [(1, .sl 4 (cmds.map encC4) false), (5, .sl 5 (m.map encCF) false), (6, .sl 5 (m.map encCF) false), (7, .s (.int .i64 i))] ∧ o = [], ⟨cmds.length, ?_⟩, ?_⟩
  ·exact ⟨[0], [], _, _, _, t3, ⟨0, l, Nat.zero_le _, by omega, rfl, hF, rfl, rfl, rfl⟩⟩
  ·rintro kk f1 o1 c1 ⟨i, m, hi, hi2, rfl, hm, rfl, rfl, rfl⟩
   ((conv=>whnf)<;>repeat(with_reducible refine D1 ?_)<;>conv=>whnf)
   (first|refine ⟨?_,?_⟩|refine nsplit ?_ ?_|refine bsplit ?_ ?_)<;>intro h<;>have hz_:=True.intro<;>clear hz_
   rotate_left
   ·((conv=>whnf)<;>repeat(with_reducible refine D1 ?_)<;>conv=>whnf)
    repeat ((first | (refine ⟨fun h_ => ?_, fun h_ => ?_⟩) | (refine nsplit (fun h_ => ?_) (fun h_ => ?_)) | (refine bsplit (fun h_ => ?_) (fun h_ => ?_))) <;> first | (exfalso; revert h_; decide; done) | (exact absurd rfl h_) | (have hz_ := True.intro; clear hz_; ((conv=>whnf)<;>repeat(with_reducible refine D1 ?_)<;>conv=>whnf)))
    refine ⟨[], [], _, _, _, _, awake_r, t3, ?_⟩
    rintro r o' c' ⟨rfl, rfl, rfl⟩
    ((conv=>whnf)<;>repeat(with_reducible refine D1 ?_)<;>conv=>whnf)
    exact ⟨[], [], [], .s (.bool true), [], ⟨.s Lz.rfl, .nil, rfl⟩, rfl⟩
   have hlt := lenlt.1 h
   ((conv=>whnf)<;>repeat(with_reducible refine D1 ?_)<;>conv=>whnf)
   (first|refine ⟨?_,?_⟩|refine nsplit ?_ ?_|refine bsplit ?_ ?_)<;>intro h40<;>have hz_:=True.intro<;>clear hz_
   rotate_left
   ·((conv=>whnf)<;>repeat(with_reducible refine D1 ?_)<;>conv=>whnf)
    refine ⟨[], [], _, _, _, _, awake_r, t3, ?_⟩
    rintro r o' c' ⟨rfl, rfl, rfl⟩
    ((conv=>whnf)<;>repeat(with_reducible refine D1 ?_)<;>conv=>whnf)
    exact ⟨[], [], [], .s (.bool true), [], ⟨.s Lz.rfl, .nil, rfl⟩, rfl⟩
   ((conv=>whnf)<;>repeat(with_reducible refine D1 ?_)<;>conv=>whnf)
   have h40 : (i : Int) < 40 := h40
   have hcl := hce _ (List.getElem_mem hlt)
   have hl4 : m.length < 10000 := by have := hm.len; omega
   have hn4 : ∀ c ∈ m, c.nodes.length < 1000000 := fun c hc => by have := hm.n30 c hc; omega
   have hm' := hm.do cmds[i]
   have hl5 : (doL m cmds[i]).1.length < 10000 := by have := hm'.len; omega
   have hn5 : ∀ c ∈ (doL m cmds[i]).1, c.nodes.length < 1000000 := fun c hc => by have := hm'.n30 c hc; omega
   refine idxI hlt ?_
   ((conv=>whnf)<;>repeat(with_reducible refine D1 ?_)<;>conv=>whnf)
   refine ⟨[], [], _, _, _, _, can_ok m cmds[i], t3, ?_⟩
   rintro r o' c' ⟨rfl, rfl, rfl⟩
   ((conv=>whnf)<;>repeat(with_reducible refine D1 ?_)<;>conv=>whnf)
   refine idxI hlt ?_
   ((conv=>whnf)<;>repeat(with_reducible refine D1 ?_)<;>conv=>whnf)
   refine ⟨[], [], _, _, _, _, refCan_ok m cmds[i] (fun c hc => (hm.ep c hc).1) hcl hl4, t3, ?_⟩
   rintro r o' c' ⟨rfl, rfl, rfl⟩
   ((conv=>whnf)<;>repeat(with_reducible refine D1 ?_)<;>conv=>whnf)
   (first|refine ⟨?_,?_⟩|refine nsplit ?_ ?_|refine bsplit ?_ ?_)<;>intro q<;>have hz_:=True.intro<;>clear hz_
   ·exact absurd rfl q
   ((conv=>whnf)<;>repeat(with_reducible refine D1 ?_)<;>conv=>whnf)
   refine idxI hlt ?_
   ((conv=>whnf)<;>repeat(with_reducible refine D1 ?_)<;>conv=>whnf)
   have hdo := doC_ok m cmds[i] hl4 hn4 hm.ep
   have hre := refDo_ok m cmds[i] hm.ep hcl hl4
   have hsa := sameAll_ok (doL m cmds[i]).1 (doL m cmds[i]).1 (by omega) hn5
   have hsb := sameAll_ok m m (by omega) hn4
   rw [eqB_iff.2 rfl] at hsa hsb
   generalize (doL m cmds[i]).2 = e at hdo hre
   generalize (doL m cmds[i]).1 = m' at hdo hre hsa hm'
   refine ⟨[], [], _, _, _, _, hdo, t3, ?_⟩
   rintro r o' c' ⟨rfl, rfl, rfl⟩
   ((conv=>whnf)<;>repeat(with_reducible refine D1 ?_)<;>conv=>whnf)
   refine idxI hlt ?_
   ((conv=>whnf)<;>repeat(with_reducible refine D1 ?_)<;>conv=>whnf)
   refine ⟨[], [], _, _, _, _, hre, t3, ?_⟩
   rintro r o c ⟨rfl, rfl, rfl⟩
   have hz_ := True.intro
   clear hz_
   cases e
   ·((conv=>whnf)<;>repeat(with_reducible refine D1 ?_)<;>conv=>whnf)
    refine ⟨[0], [], _, _, _, _, hsa, t3, ?_⟩
    rintro r o' c' ⟨rfl, rfl, rfl⟩
    ((conv=>whnf)<;>repeat(with_reducible refine D1 ?_)<;>conv=>whnf)
    refine ⟨[], [], _, _, _, _, hsb, t3, ?_⟩
    rintro r o' c' ⟨rfl, rfl, rfl⟩
    ((conv=>whnf)<;>repeat(with_reducible refine D1 ?_)<;>conv=>whnf)
    refine ⟨cmds.length - (i + 1), ?_, by omega⟩
    exact ⟨[0], [], _, _, _, t3, ⟨i + 1, m', hlt, by omega, rfl, hm', rfl, rfl, rfl⟩⟩
   ·((conv=>whnf)<;>repeat(with_reducible refine D1 ?_)<;>conv=>whnf)
    refine ⟨[0], [], _, _, _, _, hsa, t3, ?_⟩
    rintro r o' c' ⟨rfl, rfl, rfl⟩
    ((conv=>whnf)<;>repeat(with_reducible refine D1 ?_)<;>conv=>whnf)
    refine ⟨[], [], _, _, _, _, hsb, t3, ?_⟩
    rintro r o' c' ⟨rfl, rfl, rfl⟩
    ((conv=>whnf)<;>repeat(with_reducible refine D1 ?_)<;>conv=>whnf)
    refine ⟨cmds.length - (i + 1), ?_, by omega⟩
    exact ⟨[0], [], _, _, _, t3, ⟨i + 1, m', hlt, by omega, rfl, hm', rfl, rfl, rfl⟩⟩
end Go.M
namespace Go.M
open Go Go.Proofs Go.RowKit Go.Shelf
set_option maxRecDepth 1000000
def join44_ren : Go.Shelf.Ren := ⟨fun | 156 => 44 | 165 => 62 | 166 => 63 | 169 => 64 | 240 => 75 | 241 => 76 | 276 => 83 | 277 => 84 | n => n, fun | 31 => 62 | 9 => 9 | 3 => 3 | 4 => 4 | 0 => 0 | 20 => 20 | 72 => 73 | 76 => 77 | 70 => 70 | 37 => 71 | 75 => 76 | 127 => 89 | 164 => 98 | 5 => 5 | 80 => 79 | n => n, fun | n => n⟩
theorem join44 : Go.Proofs.Lays.n156 Tryd.prog join44_ren where
 mixed := by kernel_rfl
 f156 := Tryd.func44.trans (congrArg some (by kernel_rfl))
 f165 := Tryd.func62.trans (congrArg some (by kernel_rfl))
 f166 := Tryd.func63.trans (congrArg some (by kernel_rfl))
 f169 := Tryd.func64.trans (congrArg some (by kernel_rfl))
 f240 := Tryd.func75.trans (congrArg some (by kernel_rfl))
 f241 := Tryd.func76.trans (congrArg some (by kernel_rfl))
 f276 := Tryd.func83.trans (congrArg some (by kernel_rfl))
 f277 := Tryd.func84.trans (congrArg some (by kernel_rfl))
 t0 := Tryd.underlying0
 a0 := Tryd.isAgg0
 z0 := Tryd.sizeOf0
 v0 := Tryd.zeroValue0
 t3 := Tryd.underlying3
 a3 := Tryd.isAgg3
 z3 := Tryd.sizeOf3
 v3 := Tryd.zeroValue3
 t4 := Tryd.underlying4
 a4 := Tryd.isAgg4
 z4 := Tryd.sizeOf4
 v4 := Tryd.zeroValue4
 t9 := Tryd.underlying9
 a9 := Tryd.isAgg9
 z9 := Tryd.sizeOf9
 v9 := Tryd.zeroValue9
 t20 := Tryd.underlying20
 a20 := Tryd.isAgg20
 z20 := Tryd.sizeOf20
 v20 := Tryd.zeroValue20
 t31 := Tryd.underlying62
 a31 := Tryd.isAgg62
 z31 := Tryd.sizeOf62
 v31 := Tryd.zeroValue62
 t37 := Tryd.underlying71
 a37 := Tryd.isAgg71
 z37 := Tryd.sizeOf71
 v37 := Tryd.zeroValue71
 t70 := Tryd.underlying70
 a70 := Tryd.isAgg70
 z70 := Tryd.sizeOf70
 v70 := Tryd.zeroValue70
 t72 := Tryd.underlying73
 a72 := Tryd.isAgg73
 z72 := Tryd.sizeOf73
 v72 := Tryd.zeroValue73
 t75 := Tryd.underlying76
 a75 := Tryd.isAgg76
 z75 := Tryd.sizeOf76
 v75 := Tryd.zeroValue76
 t76 := Tryd.underlying77
 a76 := Tryd.isAgg77
 z76 := Tryd.sizeOf77
 v76 := Tryd.zeroValue77
 t127 := Tryd.underlying89
 a127 := Tryd.isAgg89
 z127 := Tryd.sizeOf89
 v127 := Tryd.zeroValue89
 t164 := Tryd.underlying98
 a164 := Tryd.isAgg98
 z164 := Tryd.sizeOf98
 v164 := Tryd.zeroValue98
theorem joinX : Builder.Extra Tryd.prog join44_ren where
 sizeBuilder := by kernel_rfl
 liesBuilder := by kernel_rfl
 t5 := Tryd.underlying5
 a5 := Tryd.isAgg5
 z5 := Tryd.sizeOf5
 v5 := Tryd.zeroValue5
 infoByte := by kernel_rfl
 cellsByte := by kernel_rfl
 sizeByte := by kernel_rfl
 neB5 := by decide
theorem joins : JoinsIn Tryd.prog 44 := joinsIn_of join44 joinX rfl
theorem mixed0 : Tryd.prog.follows .mixedOrders = true := by kernel_rfl
theorem tabsB0 : tabsB tabs0 0 = true := by kernel_rfl
theorem orcA (base B : Nat) : OrcOk Tryd.prog (envT Tryd.prog tabs0 (orcJ [44] noOrc)) base B :=
 orcJ_ok (fun g hg => by simp only [List.mem_cons, List.not_mem_nil, or_false] at hg; subst hg; exact joins) (fun _ _ => noOrc_okT) base B
theorem awake09 : AwakeT Tryd.prog tabs0 6 := awakeT_by (n := 0) mixed0 tabsB0 orcA (k := 100000) (by kernel_rfl)
theorem orc0 (base B : Nat) : OrcOk Tryd.prog E0 base B := by
 refine orcX_ok tabsB0 (fun g hg => ?_) (fun base B => orcV_ok (fun g hg => ?_) (fun g its hi k hk => ?_) base B) base B
 ·simp only [List.mem_cons, List.not_mem_nil, or_false] at hg
  subst hg
  exact awake09
 ·simp at hg
 ·simp [look] at hi
end Go.M
namespace Go.M
open Go
def fieldsD (P : Program) (f : TypeId → DataW Unit → List Value → Bool) : List Field → List (DataW Unit) → Nat → List Value → Bool
 | [], _, _, vs => vs.isEmpty
 | x :: xs, d :: ds, o, vs => Nat.beq x.offset o && Nat.ble (P.cellsOf x.type) vs.length && f x.type d (vs.take (P.cellsOf x.type)) && fieldsD P f xs ds (o + P.cellsOf x.type) (vs.drop (P.cellsOf x.type))
 | _ :: _, [], _, _ => false
def repD (f : DataW Unit → List Value → Bool) (z : Nat) : Nat → List (DataW Unit) → List Value → Bool
 | 0, _, vs => vs.isEmpty
 | n + 1, d :: ds, vs => Nat.ble z vs.length && f d (vs.take z) && repD f z n ds (vs.drop z)
 | _ + 1, [], _ => false
def dB (P : Program) : Nat → TypeId → DataW Unit → List Value → Bool
 | 0, _, _, _ => false
 | n + 1, t, d, vs => match P.underlying t with
  | some .bool => (match d, vs with | .lit (.bool b), [.bool b'] => decide (b = b') | _, _ => false)
  | some (.int _) => (match d, vs with | .lit (.int k m), [.int k' m'] => decide (k = k') && decide (m = m') | _, _ => false)
  | some .string => (match d, vs with | .lit (.string l), [.string s] => decide (l = s.data.toList) | _, _ => false)
  | some (.struct fs) => (match d with | .agg ds => Nat.beq (P.cellsOf t) vs.length && fieldsD P (dB P n) fs.toList ds 0 vs | _ => false)
  | some (.array m e) => (match d with | .agg ds => Nat.beq (P.cellsOf t) vs.length && repD (dB P n e) (P.cellsOf e) m ds vs | _ => false)
  | _ => false
section
variable {P : Program}
def tabD (P : Program) (laid : List (String × DataW Unit)) (l : Tabs) : Bool := l.all fun p => laid.any fun x => (match P.globalNamed x.1 with | some g => Nat.beq g p.1 | none => false) && (match (P.globals[p.1]?).map (·.type) with | some t => dB P 100 t x.2 p.2 | none => false)
end
end Go.M
