/-
  Part 7 of the library that the proof leans on.
-/
import Derived.Shelf.SlIterI.Nil
import Derived.Test.YtmookciakjmjiaaChecked
import Derived.KernelRfl
import Derived.Test.YtmookciakjmjiaaL6
namespace Go.M
open Go Go.Proofs
set_option maxRecDepth 100000
set_option maxHeartbeats 8000000
theorem sameLog_ok {K : List Vote} {l : List CF} (hK : okK K) (ho : okE l) (slot : Int) (kn : List (Int × Cmd)) (hkn : ∀ s, lookA kn s = (atS K s).map cmdOf) :
 VC E0 24 2 [.ptr 0 0, refG K l, .s (.int .i64 slot)] (stG (lgS kn K l)) (RR (.s (.bool true)) 2 (stG (lgS kn K l))) := by
 have hlen := hK.len
 have hok := ho.came K (nextG K)
 have hcl : (lgS kn K l).confs.length < 10000 := by have := hok.len; show (cameG K l (nextG K)).2.length < 10000; omega
 have hcn : ∀ c ∈ (lgS kn K l).confs, c.nodes.length < 1000000 := fun c hc => by have := hok.n6 c hc; omega
 refine VC.enterR L0 (show E0.func 24 = some Try.f24 by kernel_rfl) (fun _ _ => rfl) rfl rfl [] ?_
 ((conv=>whnf)<;>repeat(with_reducible refine D1 ?_)<;>conv=>whnf)
 refine ⟨[], [some 0, some 1], _, _, _, _, atC_ok (lgS kn K l) slot, t3, ?_⟩
 rintro r o' c' ⟨rfl, rfl, rfl⟩
 have hkl : lookA (lgS kn K l).known slot = (atS K slot).map cmdOf := hkn slot
 rw [hkl]
 have e1 : ((atS K slot).map cmdOf).getD noCmd = cmdOf ((atS K slot).getD noVote) := by cases atS K slot <;> rfl
 have e2 : ((atS K slot).map cmdOf).isSome = (atS K slot).isSome := by cases atS K slot <;> rfl
 rw [e1, e2]
 have hra := refAt_ok K slot (by omega)
 generalize (atS K slot).getD noVote = w at *
 generalize (atS K slot).isSome = is at *
 cases is with
 | false =>
  ((conv=>whnf)<;>repeat(with_reducible refine D1 ?_)<;>conv=>whnf)
  refine ⟨[], [], _, _, _, _, hra, t3, ?_⟩
  rintro r o' c' ⟨rfl, rfl, rfl⟩
  ((conv=>whnf)<;>repeat(with_reducible refine D1 ?_)<;>conv=>whnf)
  refine ⟨[], [], _, _, _, _, refNextG_ok K l (by omega), t3, ?_⟩
  rintro r o' c' ⟨rfl, rfl, rfl⟩
  ((conv=>whnf)<;>repeat(with_reducible refine D1 ?_)<;>conv=>whnf)
  refine ⟨[], [], _, _, _, _, refCame_ok K l (nextG K) (nextG_le K) (by omega) hK.ep ho, t3, ?_⟩
  rintro r o' c' ⟨rfl, rfl, rfl⟩
  ((conv=>whnf)<;>repeat(with_reducible refine D1 ?_)<;>conv=>whnf)
  refine ⟨[], [some 0, some 1], _, _, _, _, confC_ok (lgS kn K l) slot hcl hcn, t3, ?_⟩
  rintro r o' c' ⟨rfl, rfl, rfl⟩
  have hcf : (lgS kn K l).confs = (cameG K l (nextG K)).2 := rfl
  rw [hcf]
  generalize hnow : (cameG K l (nextG K)).2 = now at *
  by_cases h1 : slot < 0
  ·rw [show confAt now slot = none by unfold confAt; rw [if_pos h1]]
   ((conv=>whnf)<;>repeat(with_reducible refine D1 ?_)<;>conv=>whnf)
   (first|refine ⟨?_,?_⟩|refine nsplit ?_ ?_|refine bsplit ?_ ?_)<;>intro h2<;>have hz_:=True.intro<;>clear hz_
   ·have h2 : slot ≥ 0 := h2
    omega
   ((conv=>whnf)<;>repeat(with_reducible refine D1 ?_)<;>conv=>whnf)
   (first|refine ⟨?_,?_⟩|refine nsplit ?_ ?_|refine bsplit ?_ ?_)<;>intro hq<;>have hz_:=True.intro<;>clear hz_
   rotate_left
   ·exact absurd ((veq_cmd (cmdOf w) (cmdOf w)).trans (sameC_iff.2 rfl)) hq
   clear hq
   ((conv=>whnf)<;>repeat(with_reducible refine D1 ?_)<;>conv=>whnf)
   refine ⟨[], [some 0, some 1], _, _, _, _, nextC_ok (lgS kn K l), t3, ?_⟩
   rintro r o' c' ⟨rfl, rfl, rfl⟩
   ((conv=>whnf)<;>repeat(with_reducible refine D1 ?_)<;>conv=>whnf)
   refine ⟨[], [], _, _, _, _, refNextG_ok K l (by omega), t3, ?_⟩
   rintro r o' c' ⟨rfl, rfl, rfl⟩
   ((conv=>whnf)<;>repeat(with_reducible refine D1 ?_)<;>conv=>whnf)
   repeat ((first | (refine ⟨fun h_ => ?_, fun h_ => ?_⟩) | (refine nsplit (fun h_ => ?_) (fun h_ => ?_)) | (refine bsplit (fun h_ => ?_) (fun h_ => ?_))) <;> first | (exfalso; revert h_; decide; done) | (exfalso; revert h_; simp; done) | (have hz_ := True.intro; clear hz_; ((conv=>whnf)<;>repeat(with_reducible refine D1 ?_)<;>conv=>whnf)))
   refine ⟨[], [some 0, some 1], _, _, _, _, topC_ok (lgS kn K l), t3, ?_⟩
   rintro r o' c' ⟨rfl, rfl, rfl⟩
   ((conv=>whnf)<;>repeat(with_reducible refine D1 ?_)<;>conv=>whnf)
   refine ⟨[], [], _, _, _, _, refTopG_ok K l (by omega) hK.rng, t3, ?_⟩
   rintro r o' c' ⟨rfl, rfl, rfl⟩
   ((conv=>whnf)<;>repeat(with_reducible refine D1 ?_)<;>conv=>whnf)
   repeat ((first | (refine ⟨fun h_ => ?_, fun h_ => ?_⟩) | (refine nsplit (fun h_ => ?_) (fun h_ => ?_)) | (refine bsplit (fun h_ => ?_) (fun h_ => ?_))) <;> first | (exfalso; revert h_; decide; done) | (exfalso; revert h_; simp; done) | (have hz_ := True.intro; clear hz_; ((conv=>whnf)<;>repeat(with_reducible refine D1 ?_)<;>conv=>whnf)))
   refine ⟨[], [some 0, some 1], _, _, _, _, gapsC_ok hK l hkn, t3, ?_⟩
   rintro r o' c' ⟨rfl, rfl, rfl⟩
   ((conv=>whnf)<;>repeat(with_reducible refine D1 ?_)<;>conv=>whnf)
   refine ⟨[], [], _, _, _, _, refGaps_ok K l hK, t3, ?_⟩
   rintro r o' c' ⟨rfl, rfl, rfl⟩
   ((conv=>whnf)<;>repeat(with_reducible refine D1 ?_)<;>conv=>whnf)
   refine ⟨[16], [], _, _, _, _, same04_ok (gapsG K) (gapsG K) (by have := gapsN_len K (topG K).toNat; have := (topG_rng hK).2; unfold gapsG; omega), t3, ?_⟩
   rintro r o' c' ⟨rfl, rfl, rfl⟩
   rw [show eqB (gapsG K) (gapsG K) = true from eqB_iff.2 rfl]
   ((conv=>whnf)<;>repeat(with_reducible refine D1 ?_)<;>conv=>whnf)
   refine ⟨[], [some 0, some 1], _, _, _, _, confsC_ok (lgS kn K l) hcl hcn, t3, ?_⟩
   rintro r o' c' ⟨rfl, rfl, rfl⟩
   ((conv=>whnf)<;>repeat(with_reducible refine D1 ?_)<;>conv=>whnf)
   refine ⟨[], [], _, _, _, _, same_self now (by have := hok.len; omega) (fun c hc => by have := hok.n6 c hc; omega), ⟨by ((repeat' first|with_reducible exact Lz.rfl|exact Lw.rfl|exact Lz.wrap (by omega)|(unfold goInt;with_reducible exact Lz.rfl)|exact flx _|constructor); all_goals (exact Lz.of (by rw [hcf]))), by ((repeat' first|with_reducible exact Lz.rfl|exact Lw.rfl|exact Lz.wrap (by omega)|(unfold goInt;with_reducible exact Lz.rfl)|exact flx _|constructor); all_goals (exact Lz.of (by rw [hcf]))), by rfl⟩, ?_⟩
   rintro r o' c' ⟨rfl, rfl, rfl⟩
   ((conv=>whnf)<;>repeat(with_reducible refine D1 ?_)<;>conv=>whnf)
   refine ⟨[], [some 0, some 1], _, _, _, _, doneC_ok (lgS kn K l), t3, ?_⟩
   rintro r o' c' ⟨rfl, rfl, rfl⟩
   ((conv=>whnf)<;>repeat(with_reducible refine D1 ?_)<;>conv=>whnf)
   (first|refine ⟨?_,?_⟩|refine nsplit ?_ ?_|refine bsplit ?_ ?_)<;>intro hd<;>have hz_:=True.intro<;>clear hz_
   ·((conv=>whnf)<;>repeat(with_reducible refine D1 ?_)<;>conv=>whnf)
    exact ⟨[], [some 0, some 1], _, _, _, t3, rfl, rfl, rfl⟩
   ·exact absurd (show (((cameG K l (nextG K)).1.length : Nat) : Int) = (((cameG K l (nextG K)).1.map encCF).length : Nat) by rw [List.length_map]) hd
  ·by_cases h3 : slot.toNat < now.length
   ·have hc := hok.n6 _ (List.getElem_mem h3)
    rw [show confAt now slot = some now[slot.toNat] by unfold confAt; rw [if_neg h1]; exact List.getElem?_eq_getElem h3]
    ((conv=>whnf)<;>repeat(with_reducible refine D1 ?_)<;>conv=>whnf)
    (first|refine ⟨?_,?_⟩|refine nsplit ?_ ?_|refine bsplit ?_ ?_)<;>intro h2<;>have hz_:=True.intro<;>clear hz_
    rotate_left
    ·have h2 : ¬ slot ≥ 0 := h2
     omega
    ((conv=>whnf)<;>repeat(with_reducible refine D1 ?_)<;>conv=>whnf)
    (first|refine ⟨?_,?_⟩|refine nsplit ?_ ?_|refine bsplit ?_ ?_)<;>intro h4<;>have hz_:=True.intro<;>clear hz_
    rotate_left
    ·have h4 : ¬ slot < (((now.map encCF).length : Nat) : Int) := h4
     rw [List.length_map] at h4
     omega
    ((conv=>whnf)<;>repeat(with_reducible refine D1 ?_)<;>conv=>whnf)
    refine idxI' (by omega) h3 ?_
    ((conv=>whnf)<;>repeat(with_reducible refine D1 ?_)<;>conv=>whnf)
    refine ⟨[], [], _, _, _, _, sameCF_ok now[slot.toNat] now[slot.toNat] (by omega), t3, ?_⟩
    rintro r o' c' ⟨rfl, rfl, rfl⟩
    rw [show eqB now[slot.toNat] now[slot.toNat] = true from eqB_iff.2 rfl]
    ((conv=>whnf)<;>repeat(with_reducible refine D1 ?_)<;>conv=>whnf)
    (first|refine ⟨?_,?_⟩|refine nsplit ?_ ?_|refine bsplit ?_ ?_)<;>intro hq<;>have hz_:=True.intro<;>clear hz_
    rotate_left
    ·exact absurd ((veq_cmd (cmdOf w) (cmdOf w)).trans (sameC_iff.2 rfl)) hq
    clear hq
    ((conv=>whnf)<;>repeat(with_reducible refine D1 ?_)<;>conv=>whnf)
    refine ⟨[], [some 0, some 1], _, _, _, _, nextC_ok (lgS kn K l), t3, ?_⟩
    rintro r o' c' ⟨rfl, rfl, rfl⟩
    ((conv=>whnf)<;>repeat(with_reducible refine D1 ?_)<;>conv=>whnf)
    refine ⟨[], [], _, _, _, _, refNextG_ok K l (by omega), t3, ?_⟩
    rintro r o' c' ⟨rfl, rfl, rfl⟩
    ((conv=>whnf)<;>repeat(with_reducible refine D1 ?_)<;>conv=>whnf)
    repeat ((first | (refine ⟨fun h_ => ?_, fun h_ => ?_⟩) | (refine nsplit (fun h_ => ?_) (fun h_ => ?_)) | (refine bsplit (fun h_ => ?_) (fun h_ => ?_))) <;> first | (exfalso; revert h_; decide; done) | (exfalso; revert h_; simp; done) | (have hz_ := True.intro; clear hz_; ((conv=>whnf)<;>repeat(with_reducible refine D1 ?_)<;>conv=>whnf)))
    refine ⟨[], [some 0, some 1], _, _, _, _, topC_ok (lgS kn K l), t3, ?_⟩
    rintro r o' c' ⟨rfl, rfl, rfl⟩
    ((conv=>whnf)<;>repeat(with_reducible refine D1 ?_)<;>conv=>whnf)
    refine ⟨[], [], _, _, _, _, refTopG_ok K l (by omega) hK.rng, t3, ?_⟩
    rintro r o' c' ⟨rfl, rfl, rfl⟩
    ((conv=>whnf)<;>repeat(with_reducible refine D1 ?_)<;>conv=>whnf)
    repeat ((first | (refine ⟨fun h_ => ?_, fun h_ => ?_⟩) | (refine nsplit (fun h_ => ?_) (fun h_ => ?_)) | (refine bsplit (fun h_ => ?_) (fun h_ => ?_))) <;> first | (exfalso; revert h_; decide; done) | (exfalso; revert h_; simp; done) | (have hz_ := True.intro; clear hz_; ((conv=>whnf)<;>repeat(with_reducible refine D1 ?_)<;>conv=>whnf)))
    refine ⟨[], [some 0, some 1], _, _, _, _, gapsC_ok hK l hkn, t3, ?_⟩
    rintro r o' c' ⟨rfl, rfl, rfl⟩
    ((conv=>whnf)<;>repeat(with_reducible refine D1 ?_)<;>conv=>whnf)
    refine ⟨[], [], _, _, _, _, refGaps_ok K l hK, t3, ?_⟩
    rintro r o' c' ⟨rfl, rfl, rfl⟩
    ((conv=>whnf)<;>repeat(with_reducible refine D1 ?_)<;>conv=>whnf)
    refine ⟨[16], [], _, _, _, _, same04_ok (gapsG K) (gapsG K) (by have := gapsN_len K (topG K).toNat; have := (topG_rng hK).2; unfold gapsG; omega), t3, ?_⟩
    rintro r o' c' ⟨rfl, rfl, rfl⟩
    rw [show eqB (gapsG K) (gapsG K) = true from eqB_iff.2 rfl]
    ((conv=>whnf)<;>repeat(with_reducible refine D1 ?_)<;>conv=>whnf)
    refine ⟨[], [some 0, some 1], _, _, _, _, confsC_ok (lgS kn K l) hcl hcn, t3, ?_⟩
    rintro r o' c' ⟨rfl, rfl, rfl⟩
    ((conv=>whnf)<;>repeat(with_reducible refine D1 ?_)<;>conv=>whnf)
    refine ⟨[], [], _, _, _, _, same_self now (by have := hok.len; omega) (fun c hc => by have := hok.n6 c hc; omega), ⟨by ((repeat' first|with_reducible exact Lz.rfl|exact Lw.rfl|exact Lz.wrap (by omega)|(unfold goInt;with_reducible exact Lz.rfl)|exact flx _|constructor); all_goals (exact Lz.of (by rw [hcf]))), by ((repeat' first|with_reducible exact Lz.rfl|exact Lw.rfl|exact Lz.wrap (by omega)|(unfold goInt;with_reducible exact Lz.rfl)|exact flx _|constructor); all_goals (exact Lz.of (by rw [hcf]))), by rfl⟩, ?_⟩
    rintro r o' c' ⟨rfl, rfl, rfl⟩
    ((conv=>whnf)<;>repeat(with_reducible refine D1 ?_)<;>conv=>whnf)
    refine ⟨[], [some 0, some 1], _, _, _, _, doneC_ok (lgS kn K l), t3, ?_⟩
    rintro r o' c' ⟨rfl, rfl, rfl⟩
    ((conv=>whnf)<;>repeat(with_reducible refine D1 ?_)<;>conv=>whnf)
    (first|refine ⟨?_,?_⟩|refine nsplit ?_ ?_|refine bsplit ?_ ?_)<;>intro hd<;>have hz_:=True.intro<;>clear hz_
    ·((conv=>whnf)<;>repeat(with_reducible refine D1 ?_)<;>conv=>whnf)
     exact ⟨[], [some 0, some 1], _, _, _, t3, rfl, rfl, rfl⟩
    ·exact absurd (show (((cameG K l (nextG K)).1.length : Nat) : Int) = (((cameG K l (nextG K)).1.map encCF).length : Nat) by rw [List.length_map]) hd
   ·rw [show confAt now slot = none by unfold confAt; rw [if_neg h1]; exact List.getElem?_eq_none (by omega)]
    ((conv=>whnf)<;>repeat(with_reducible refine D1 ?_)<;>conv=>whnf)
    (first|refine ⟨?_,?_⟩|refine nsplit ?_ ?_|refine bsplit ?_ ?_)<;>intro h2<;>have hz_:=True.intro<;>clear hz_
    rotate_left
    ·have h2 : ¬ slot ≥ 0 := h2
     omega
    ((conv=>whnf)<;>repeat(with_reducible refine D1 ?_)<;>conv=>whnf)
    (first|refine ⟨?_,?_⟩|refine nsplit ?_ ?_|refine bsplit ?_ ?_)<;>intro h4<;>have hz_:=True.intro<;>clear hz_
    ·have h4 : slot < (((now.map encCF).length : Nat) : Int) := h4
     rw [List.length_map] at h4
     omega
    ((conv=>whnf)<;>repeat(with_reducible refine D1 ?_)<;>conv=>whnf)
    (first|refine ⟨?_,?_⟩|refine nsplit ?_ ?_|refine bsplit ?_ ?_)<;>intro hq<;>have hz_:=True.intro<;>clear hz_
    rotate_left
    ·exact absurd ((veq_cmd (cmdOf w) (cmdOf w)).trans (sameC_iff.2 rfl)) hq
    clear hq
    ((conv=>whnf)<;>repeat(with_reducible refine D1 ?_)<;>conv=>whnf)
    refine ⟨[], [some 0, some 1], _, _, _, _, nextC_ok (lgS kn K l), t3, ?_⟩
    rintro r o' c' ⟨rfl, rfl, rfl⟩
    ((conv=>whnf)<;>repeat(with_reducible refine D1 ?_)<;>conv=>whnf)
    refine ⟨[], [], _, _, _, _, refNextG_ok K l (by omega), t3, ?_⟩
    rintro r o' c' ⟨rfl, rfl, rfl⟩
    ((conv=>whnf)<;>repeat(with_reducible refine D1 ?_)<;>conv=>whnf)
    repeat ((first | (refine ⟨fun h_ => ?_, fun h_ => ?_⟩) | (refine nsplit (fun h_ => ?_) (fun h_ => ?_)) | (refine bsplit (fun h_ => ?_) (fun h_ => ?_))) <;> first | (exfalso; revert h_; decide; done) | (exfalso; revert h_; simp; done) | (have hz_ := True.intro; clear hz_; ((conv=>whnf)<;>repeat(with_reducible refine D1 ?_)<;>conv=>whnf)))
    refine ⟨[], [some 0, some 1], _, _, _, _, topC_ok (lgS kn K l), t3, ?_⟩
    rintro r o' c' ⟨rfl, rfl, rfl⟩
    ((conv=>whnf)<;>repeat(with_reducible refine D1 ?_)<;>conv=>whnf)
    refine ⟨[], [], _, _, _, _, refTopG_ok K l (by omega) hK.rng, t3, ?_⟩
    rintro r o' c' ⟨rfl, rfl, rfl⟩
    ((conv=>whnf)<;>repeat(with_reducible refine D1 ?_)<;>conv=>whnf)
    repeat ((first | (refine ⟨fun h_ => ?_, fun h_ => ?_⟩) | (refine nsplit (fun h_ => ?_) (fun h_ => ?_)) | (refine bsplit (fun h_ => ?_) (fun h_ => ?_))) <;> first | (exfalso; revert h_; decide; done) | (exfalso; revert h_; simp; done) | (have hz_ := True.intro; clear hz_; ((conv=>whnf)<;>repeat(with_reducible refine D1 ?_)<;>conv=>whnf)))
    refine ⟨[], [some 0, some 1], _, _, _, _, gapsC_ok hK l hkn, t3, ?_⟩
    rintro r o' c' ⟨rfl, rfl, rfl⟩
    ((conv=>whnf)<;>repeat(with_reducible refine D1 ?_)<;>conv=>whnf)
    refine ⟨[], [], _, _, _, _, refGaps_ok K l hK, t3, ?_⟩
    rintro r o' c' ⟨rfl, rfl, rfl⟩
    ((conv=>whnf)<;>repeat(with_reducible refine D1 ?_)<;>conv=>whnf)
    refine ⟨[16], [], _, _, _, _, same04_ok (gapsG K) (gapsG K) (by have := gapsN_len K (topG K).toNat; have := (topG_rng hK).2; unfold gapsG; omega), t3, ?_⟩
    rintro r o' c' ⟨rfl, rfl, rfl⟩
    rw [show eqB (gapsG K) (gapsG K) = true from eqB_iff.2 rfl]
    ((conv=>whnf)<;>repeat(with_reducible refine D1 ?_)<;>conv=>whnf)
    refine ⟨[], [some 0, some 1], _, _, _, _, confsC_ok (lgS kn K l) hcl hcn, t3, ?_⟩
    rintro r o' c' ⟨rfl, rfl, rfl⟩
    ((conv=>whnf)<;>repeat(with_reducible refine D1 ?_)<;>conv=>whnf)
    refine ⟨[], [], _, _, _, _, same_self now (by have := hok.len; omega) (fun c hc => by have := hok.n6 c hc; omega), ⟨by ((repeat' first|with_reducible exact Lz.rfl|exact Lw.rfl|exact Lz.wrap (by omega)|(unfold goInt;with_reducible exact Lz.rfl)|exact flx _|constructor); all_goals (exact Lz.of (by rw [hcf]))), by ((repeat' first|with_reducible exact Lz.rfl|exact Lw.rfl|exact Lz.wrap (by omega)|(unfold goInt;with_reducible exact Lz.rfl)|exact flx _|constructor); all_goals (exact Lz.of (by rw [hcf]))), by rfl⟩, ?_⟩
    rintro r o' c' ⟨rfl, rfl, rfl⟩
    ((conv=>whnf)<;>repeat(with_reducible refine D1 ?_)<;>conv=>whnf)
    refine ⟨[], [some 0, some 1], _, _, _, _, doneC_ok (lgS kn K l), t3, ?_⟩
    rintro r o' c' ⟨rfl, rfl, rfl⟩
    ((conv=>whnf)<;>repeat(with_reducible refine D1 ?_)<;>conv=>whnf)
    (first|refine ⟨?_,?_⟩|refine nsplit ?_ ?_|refine bsplit ?_ ?_)<;>intro hd<;>have hz_:=True.intro<;>clear hz_
    ·((conv=>whnf)<;>repeat(with_reducible refine D1 ?_)<;>conv=>whnf)
     exact ⟨[], [some 0, some 1], _, _, _, t3, rfl, rfl, rfl⟩
    ·exact absurd (show (((cameG K l (nextG K)).1.length : Nat) : Int) = (((cameG K l (nextG K)).1.map encCF).length : Nat) by rw [List.length_map]) hd
 | true =>
  ((conv=>whnf)<;>repeat(with_reducible refine D1 ?_)<;>conv=>whnf)
  refine ⟨[], [], _, _, _, _, hra, t3, ?_⟩
  rintro r o' c' ⟨rfl, rfl, rfl⟩
  ((conv=>whnf)<;>repeat(with_reducible refine D1 ?_)<;>conv=>whnf)
  refine ⟨[], [], _, _, _, _, refNextG_ok K l (by omega), t3, ?_⟩
  rintro r o' c' ⟨rfl, rfl, rfl⟩
  ((conv=>whnf)<;>repeat(with_reducible refine D1 ?_)<;>conv=>whnf)
  refine ⟨[], [], _, _, _, _, refCame_ok K l (nextG K) (nextG_le K) (by omega) hK.ep ho, t3, ?_⟩
  rintro r o' c' ⟨rfl, rfl, rfl⟩
  ((conv=>whnf)<;>repeat(with_reducible refine D1 ?_)<;>conv=>whnf)
  refine ⟨[], [some 0, some 1], _, _, _, _, confC_ok (lgS kn K l) slot hcl hcn, t3, ?_⟩
  rintro r o' c' ⟨rfl, rfl, rfl⟩
  have hcf : (lgS kn K l).confs = (cameG K l (nextG K)).2 := rfl
  rw [hcf]
  generalize hnow : (cameG K l (nextG K)).2 = now at *
  by_cases h1 : slot < 0
  ·rw [show confAt now slot = none by unfold confAt; rw [if_pos h1]]
   ((conv=>whnf)<;>repeat(with_reducible refine D1 ?_)<;>conv=>whnf)
   (first|refine ⟨?_,?_⟩|refine nsplit ?_ ?_|refine bsplit ?_ ?_)<;>intro h2<;>have hz_:=True.intro<;>clear hz_
   ·have h2 : slot ≥ 0 := h2
    omega
   ((conv=>whnf)<;>repeat(with_reducible refine D1 ?_)<;>conv=>whnf)
   (first|refine ⟨?_,?_⟩|refine nsplit ?_ ?_|refine bsplit ?_ ?_)<;>intro hq<;>have hz_:=True.intro<;>clear hz_
   rotate_left
   ·exact absurd ((veq_cmd (cmdOf w) (cmdOf w)).trans (sameC_iff.2 rfl)) hq
   clear hq
   ((conv=>whnf)<;>repeat(with_reducible refine D1 ?_)<;>conv=>whnf)
   refine ⟨[], [some 0, some 1], _, _, _, _, nextC_ok (lgS kn K l), t3, ?_⟩
   rintro r o' c' ⟨rfl, rfl, rfl⟩
   ((conv=>whnf)<;>repeat(with_reducible refine D1 ?_)<;>conv=>whnf)
   refine ⟨[], [], _, _, _, _, refNextG_ok K l (by omega), t3, ?_⟩
   rintro r o' c' ⟨rfl, rfl, rfl⟩
   ((conv=>whnf)<;>repeat(with_reducible refine D1 ?_)<;>conv=>whnf)
   repeat ((first | (refine ⟨fun h_ => ?_, fun h_ => ?_⟩) | (refine nsplit (fun h_ => ?_) (fun h_ => ?_)) | (refine bsplit (fun h_ => ?_) (fun h_ => ?_))) <;> first | (exfalso; revert h_; decide; done) | (exfalso; revert h_; simp; done) | (have hz_ := True.intro; clear hz_; ((conv=>whnf)<;>repeat(with_reducible refine D1 ?_)<;>conv=>whnf)))
   refine ⟨[], [some 0, some 1], _, _, _, _, topC_ok (lgS kn K l), t3, ?_⟩
   rintro r o' c' ⟨rfl, rfl, rfl⟩
   ((conv=>whnf)<;>repeat(with_reducible refine D1 ?_)<;>conv=>whnf)
   refine ⟨[], [], _, _, _, _, refTopG_ok K l (by omega) hK.rng, t3, ?_⟩
   rintro r o' c' ⟨rfl, rfl, rfl⟩
   ((conv=>whnf)<;>repeat(with_reducible refine D1 ?_)<;>conv=>whnf)
   repeat ((first | (refine ⟨fun h_ => ?_, fun h_ => ?_⟩) | (refine nsplit (fun h_ => ?_) (fun h_ => ?_)) | (refine bsplit (fun h_ => ?_) (fun h_ => ?_))) <;> first | (exfalso; revert h_; decide; done) | (exfalso; revert h_; simp; done) | (have hz_ := True.intro; clear hz_; ((conv=>whnf)<;>repeat(with_reducible refine D1 ?_)<;>conv=>whnf)))
   refine ⟨[], [some 0, some 1], _, _, _, _, gapsC_ok hK l hkn, t3, ?_⟩
   rintro r o' c' ⟨rfl, rfl, rfl⟩
   ((conv=>whnf)<;>repeat(with_reducible refine D1 ?_)<;>conv=>whnf)
   refine ⟨[], [], _, _, _, _, refGaps_ok K l hK, t3, ?_⟩
   rintro r o' c' ⟨rfl, rfl, rfl⟩
   ((conv=>whnf)<;>repeat(with_reducible refine D1 ?_)<;>conv=>whnf)
   refine ⟨[16], [], _, _, _, _, same04_ok (gapsG K) (gapsG K) (by have := gapsN_len K (topG K).toNat; have := (topG_rng hK).2; unfold gapsG; omega), t3, ?_⟩
   rintro r o' c' ⟨rfl, rfl, rfl⟩
   rw [show eqB (gapsG K) (gapsG K) = true from eqB_iff.2 rfl]
   ((conv=>whnf)<;>repeat(with_reducible refine D1 ?_)<;>conv=>whnf)
   refine ⟨[], [some 0, some 1], _, _, _, _, confsC_ok (lgS kn K l) hcl hcn, t3, ?_⟩
   rintro r o' c' ⟨rfl, rfl, rfl⟩
   ((conv=>whnf)<;>repeat(with_reducible refine D1 ?_)<;>conv=>whnf)
   refine ⟨[], [], _, _, _, _, same_self now (by have := hok.len; omega) (fun c hc => by have := hok.n6 c hc; omega), ⟨by ((repeat' first|with_reducible exact Lz.rfl|exact Lw.rfl|exact Lz.wrap (by omega)|(unfold goInt;with_reducible exact Lz.rfl)|exact flx _|constructor); all_goals (exact Lz.of (by rw [hcf]))), by ((repeat' first|with_reducible exact Lz.rfl|exact Lw.rfl|exact Lz.wrap (by omega)|(unfold goInt;with_reducible exact Lz.rfl)|exact flx _|constructor); all_goals (exact Lz.of (by rw [hcf]))), by rfl⟩, ?_⟩
   rintro r o' c' ⟨rfl, rfl, rfl⟩
   ((conv=>whnf)<;>repeat(with_reducible refine D1 ?_)<;>conv=>whnf)
   refine ⟨[], [some 0, some 1], _, _, _, _, doneC_ok (lgS kn K l), t3, ?_⟩
   rintro r o' c' ⟨rfl, rfl, rfl⟩
   ((conv=>whnf)<;>repeat(with_reducible refine D1 ?_)<;>conv=>whnf)
   (first|refine ⟨?_,?_⟩|refine nsplit ?_ ?_|refine bsplit ?_ ?_)<;>intro hd<;>have hz_:=True.intro<;>clear hz_
   ·((conv=>whnf)<;>repeat(with_reducible refine D1 ?_)<;>conv=>whnf)
    exact ⟨[], [some 0, some 1], _, _, _, t3, rfl, rfl, rfl⟩
   ·exact absurd (show (((cameG K l (nextG K)).1.length : Nat) : Int) = (((cameG K l (nextG K)).1.map encCF).length : Nat) by rw [List.length_map]) hd
  ·by_cases h3 : slot.toNat < now.length
   ·have hc := hok.n6 _ (List.getElem_mem h3)
    rw [show confAt now slot = some now[slot.toNat] by unfold confAt; rw [if_neg h1]; exact List.getElem?_eq_getElem h3]
    ((conv=>whnf)<;>repeat(with_reducible refine D1 ?_)<;>conv=>whnf)
    (first|refine ⟨?_,?_⟩|refine nsplit ?_ ?_|refine bsplit ?_ ?_)<;>intro h2<;>have hz_:=True.intro<;>clear hz_
    rotate_left
    ·have h2 : ¬ slot ≥ 0 := h2
     omega
    ((conv=>whnf)<;>repeat(with_reducible refine D1 ?_)<;>conv=>whnf)
    (first|refine ⟨?_,?_⟩|refine nsplit ?_ ?_|refine bsplit ?_ ?_)<;>intro h4<;>have hz_:=True.intro<;>clear hz_
    rotate_left
    ·have h4 : ¬ slot < (((now.map encCF).length : Nat) : Int) := h4
     rw [List.length_map] at h4
     omega
    ((conv=>whnf)<;>repeat(with_reducible refine D1 ?_)<;>conv=>whnf)
    refine idxI' (by omega) h3 ?_
    ((conv=>whnf)<;>repeat(with_reducible refine D1 ?_)<;>conv=>whnf)
    refine ⟨[], [], _, _, _, _, sameCF_ok now[slot.toNat] now[slot.toNat] (by omega), t3, ?_⟩
    rintro r o' c' ⟨rfl, rfl, rfl⟩
    rw [show eqB now[slot.toNat] now[slot.toNat] = true from eqB_iff.2 rfl]
    ((conv=>whnf)<;>repeat(with_reducible refine D1 ?_)<;>conv=>whnf)
    (first|refine ⟨?_,?_⟩|refine nsplit ?_ ?_|refine bsplit ?_ ?_)<;>intro hq<;>have hz_:=True.intro<;>clear hz_
    rotate_left
    ·exact absurd ((veq_cmd (cmdOf w) (cmdOf w)).trans (sameC_iff.2 rfl)) hq
    clear hq
    ((conv=>whnf)<;>repeat(with_reducible refine D1 ?_)<;>conv=>whnf)
    refine ⟨[], [some 0, some 1], _, _, _, _, nextC_ok (lgS kn K l), t3, ?_⟩
    rintro r o' c' ⟨rfl, rfl, rfl⟩
    ((conv=>whnf)<;>repeat(with_reducible refine D1 ?_)<;>conv=>whnf)
    refine ⟨[], [], _, _, _, _, refNextG_ok K l (by omega), t3, ?_⟩
    rintro r o' c' ⟨rfl, rfl, rfl⟩
    ((conv=>whnf)<;>repeat(with_reducible refine D1 ?_)<;>conv=>whnf)
    repeat ((first | (refine ⟨fun h_ => ?_, fun h_ => ?_⟩) | (refine nsplit (fun h_ => ?_) (fun h_ => ?_)) | (refine bsplit (fun h_ => ?_) (fun h_ => ?_))) <;> first | (exfalso; revert h_; decide; done) | (exfalso; revert h_; simp; done) | (have hz_ := True.intro; clear hz_; ((conv=>whnf)<;>repeat(with_reducible refine D1 ?_)<;>conv=>whnf)))
    refine ⟨[], [some 0, some 1], _, _, _, _, topC_ok (lgS kn K l), t3, ?_⟩
    rintro r o' c' ⟨rfl, rfl, rfl⟩
    ((conv=>whnf)<;>repeat(with_reducible refine D1 ?_)<;>conv=>whnf)
    refine ⟨[], [], _, _, _, _, refTopG_ok K l (by omega) hK.rng, t3, ?_⟩
    rintro r o' c' ⟨rfl, rfl, rfl⟩
    ((conv=>whnf)<;>repeat(with_reducible refine D1 ?_)<;>conv=>whnf)
    repeat ((first | (refine ⟨fun h_ => ?_, fun h_ => ?_⟩) | (refine nsplit (fun h_ => ?_) (fun h_ => ?_)) | (refine bsplit (fun h_ => ?_) (fun h_ => ?_))) <;> first | (exfalso; revert h_; decide; done) | (exfalso; revert h_; simp; done) | (have hz_ := True.intro; clear hz_; ((conv=>whnf)<;>repeat(with_reducible refine D1 ?_)<;>conv=>whnf)))
    refine ⟨[], [some 0, some 1], _, _, _, _, gapsC_ok hK l hkn, t3, ?_⟩
    rintro r o' c' ⟨rfl, rfl, rfl⟩
    ((conv=>whnf)<;>repeat(with_reducible refine D1 ?_)<;>conv=>whnf)
    refine ⟨[], [], _, _, _, _, refGaps_ok K l hK, t3, ?_⟩
    rintro r o' c' ⟨rfl, rfl, rfl⟩
    ((conv=>whnf)<;>repeat(with_reducible refine D1 ?_)<;>conv=>whnf)
    refine ⟨[16], [], _, _, _, _, same04_ok (gapsG K) (gapsG K) (by have := gapsN_len K (topG K).toNat; have := (topG_rng hK).2; unfold gapsG; omega), t3, ?_⟩
    rintro r o' c' ⟨rfl, rfl, rfl⟩
    rw [show eqB (gapsG K) (gapsG K) = true from eqB_iff.2 rfl]
    ((conv=>whnf)<;>repeat(with_reducible refine D1 ?_)<;>conv=>whnf)
    refine ⟨[], [some 0, some 1], _, _, _, _, confsC_ok (lgS kn K l) hcl hcn, t3, ?_⟩
    rintro r o' c' ⟨rfl, rfl, rfl⟩
    ((conv=>whnf)<;>repeat(with_reducible refine D1 ?_)<;>conv=>whnf)
    refine ⟨[], [], _, _, _, _, same_self now (by have := hok.len; omega) (fun c hc => by have := hok.n6 c hc; omega), ⟨by ((repeat' first|with_reducible exact Lz.rfl|exact Lw.rfl|exact Lz.wrap (by omega)|(unfold goInt;with_reducible exact Lz.rfl)|exact flx _|constructor); all_goals (exact Lz.of (by rw [hcf]))), by ((repeat' first|with_reducible exact Lz.rfl|exact Lw.rfl|exact Lz.wrap (by omega)|(unfold goInt;with_reducible exact Lz.rfl)|exact flx _|constructor); all_goals (exact Lz.of (by rw [hcf]))), by rfl⟩, ?_⟩
    rintro r o' c' ⟨rfl, rfl, rfl⟩
    ((conv=>whnf)<;>repeat(with_reducible refine D1 ?_)<;>conv=>whnf)
    refine ⟨[], [some 0, some 1], _, _, _, _, doneC_ok (lgS kn K l), t3, ?_⟩
    rintro r o' c' ⟨rfl, rfl, rfl⟩
    ((conv=>whnf)<;>repeat(with_reducible refine D1 ?_)<;>conv=>whnf)
    (first|refine ⟨?_,?_⟩|refine nsplit ?_ ?_|refine bsplit ?_ ?_)<;>intro hd<;>have hz_:=True.intro<;>clear hz_
    ·((conv=>whnf)<;>repeat(with_reducible refine D1 ?_)<;>conv=>whnf)
     exact ⟨[], [some 0, some 1], _, _, _, t3, rfl, rfl, rfl⟩
    ·exact absurd (show (((cameG K l (nextG K)).1.length : Nat) : Int) = (((cameG K l (nextG K)).1.map encCF).length : Nat) by rw [List.length_map]) hd
   ·rw [show confAt now slot = none by unfold confAt; rw [if_neg h1]; exact List.getElem?_eq_none (by omega)]
    ((conv=>whnf)<;>repeat(with_reducible refine D1 ?_)<;>conv=>whnf)
    (first|refine ⟨?_,?_⟩|refine nsplit ?_ ?_|refine bsplit ?_ ?_)<;>intro h2<;>have hz_:=True.intro<;>clear hz_
    rotate_left
    ·have h2 : ¬ slot ≥ 0 := h2
     omega
    ((conv=>whnf)<;>repeat(with_reducible refine D1 ?_)<;>conv=>whnf)
    (first|refine ⟨?_,?_⟩|refine nsplit ?_ ?_|refine bsplit ?_ ?_)<;>intro h4<;>have hz_:=True.intro<;>clear hz_
    ·have h4 : slot < (((now.map encCF).length : Nat) : Int) := h4
     rw [List.length_map] at h4
     omega
    ((conv=>whnf)<;>repeat(with_reducible refine D1 ?_)<;>conv=>whnf)
    (first|refine ⟨?_,?_⟩|refine nsplit ?_ ?_|refine bsplit ?_ ?_)<;>intro hq<;>have hz_:=True.intro<;>clear hz_
    rotate_left
    ·exact absurd ((veq_cmd (cmdOf w) (cmdOf w)).trans (sameC_iff.2 rfl)) hq
    clear hq
    ((conv=>whnf)<;>repeat(with_reducible refine D1 ?_)<;>conv=>whnf)
    refine ⟨[], [some 0, some 1], _, _, _, _, nextC_ok (lgS kn K l), t3, ?_⟩
    rintro r o' c' ⟨rfl, rfl, rfl⟩
    ((conv=>whnf)<;>repeat(with_reducible refine D1 ?_)<;>conv=>whnf)
    refine ⟨[], [], _, _, _, _, refNextG_ok K l (by omega), t3, ?_⟩
    rintro r o' c' ⟨rfl, rfl, rfl⟩
    ((conv=>whnf)<;>repeat(with_reducible refine D1 ?_)<;>conv=>whnf)
    repeat ((first | (refine ⟨fun h_ => ?_, fun h_ => ?_⟩) | (refine nsplit (fun h_ => ?_) (fun h_ => ?_)) | (refine bsplit (fun h_ => ?_) (fun h_ => ?_))) <;> first | (exfalso; revert h_; decide; done) | (exfalso; revert h_; simp; done) | (have hz_ := True.intro; clear hz_; ((conv=>whnf)<;>repeat(with_reducible refine D1 ?_)<;>conv=>whnf)))
    refine ⟨[], [some 0, some 1], _, _, _, _, topC_ok (lgS kn K l), t3, ?_⟩
    rintro r o' c' ⟨rfl, rfl, rfl⟩
    ((conv=>whnf)<;>repeat(with_reducible refine D1 ?_)<;>conv=>whnf)
    refine ⟨[], [], _, _, _, _, refTopG_ok K l (by omega) hK.rng, t3, ?_⟩
    rintro r o' c' ⟨rfl, rfl, rfl⟩
    ((conv=>whnf)<;>repeat(with_reducible refine D1 ?_)<;>conv=>whnf)
    repeat ((first | (refine ⟨fun h_ => ?_, fun h_ => ?_⟩) | (refine nsplit (fun h_ => ?_) (fun h_ => ?_)) | (refine bsplit (fun h_ => ?_) (fun h_ => ?_))) <;> first | (exfalso; revert h_; decide; done) | (exfalso; revert h_; simp; done) | (have hz_ := True.intro; clear hz_; ((conv=>whnf)<;>repeat(with_reducible refine D1 ?_)<;>conv=>whnf)))
    refine ⟨[], [some 0, some 1], _, _, _, _, gapsC_ok hK l hkn, t3, ?_⟩
    rintro r o' c' ⟨rfl, rfl, rfl⟩
    ((conv=>whnf)<;>repeat(with_reducible refine D1 ?_)<;>conv=>whnf)
    refine ⟨[], [], _, _, _, _, refGaps_ok K l hK, t3, ?_⟩
    rintro r o' c' ⟨rfl, rfl, rfl⟩
    ((conv=>whnf)<;>repeat(with_reducible refine D1 ?_)<;>conv=>whnf)
    refine ⟨[16], [], _, _, _, _, same04_ok (gapsG K) (gapsG K) (by have := gapsN_len K (topG K).toNat; have := (topG_rng hK).2; unfold gapsG; omega), t3, ?_⟩
    rintro r o' c' ⟨rfl, rfl, rfl⟩
    rw [show eqB (gapsG K) (gapsG K) = true from eqB_iff.2 rfl]
    ((conv=>whnf)<;>repeat(with_reducible refine D1 ?_)<;>conv=>whnf)
    refine ⟨[], [some 0, some 1], _, _, _, _, confsC_ok (lgS kn K l) hcl hcn, t3, ?_⟩
    rintro r o' c' ⟨rfl, rfl, rfl⟩
    ((conv=>whnf)<;>repeat(with_reducible refine D1 ?_)<;>conv=>whnf)
    refine ⟨[], [], _, _, _, _, same_self now (by have := hok.len; omega) (fun c hc => by have := hok.n6 c hc; omega), ⟨by ((repeat' first|with_reducible exact Lz.rfl|exact Lw.rfl|exact Lz.wrap (by omega)|(unfold goInt;with_reducible exact Lz.rfl)|exact flx _|constructor); all_goals (exact Lz.of (by rw [hcf]))), by ((repeat' first|with_reducible exact Lz.rfl|exact Lw.rfl|exact Lz.wrap (by omega)|(unfold goInt;with_reducible exact Lz.rfl)|exact flx _|constructor); all_goals (exact Lz.of (by rw [hcf]))), by rfl⟩, ?_⟩
    rintro r o' c' ⟨rfl, rfl, rfl⟩
    ((conv=>whnf)<;>repeat(with_reducible refine D1 ?_)<;>conv=>whnf)
    refine ⟨[], [some 0, some 1], _, _, _, _, doneC_ok (lgS kn K l), t3, ?_⟩
    rintro r o' c' ⟨rfl, rfl, rfl⟩
    ((conv=>whnf)<;>repeat(with_reducible refine D1 ?_)<;>conv=>whnf)
    (first|refine ⟨?_,?_⟩|refine nsplit ?_ ?_|refine bsplit ?_ ?_)<;>intro hd<;>have hz_:=True.intro<;>clear hz_
    ·((conv=>whnf)<;>repeat(with_reducible refine D1 ?_)<;>conv=>whnf)
     exact ⟨[], [some 0, some 1], _, _, _, t3, rfl, rfl, rfl⟩
    ·exact absurd (show (((cameG K l (nextG K)).1.length : Nat) : Int) = (((cameG K l (nextG K)).1.map encCF).length : Nat) by rw [List.length_map]) hd
open Classical in
open Classical in
theorem plays12_ok (l : List CF) (ls : List Vote) (c : Cmd) (hl : ∀ x ∈ l, 0 ≤ x.epoch ∧ x.epoch ≤ 18446744073709551615) (hep : ∀ v ∈ ls, 0 ≤ v.epoch) (hc : 0 ≤ c.epoch) : VC E0 5 0 [.sl 5 (l.map encCF) false, .sl 6 (ls.map encV) false, cT4 c] [] (fun r _ _ => r = .s (.bool true)) := by
 refine VC.enterR L0 (show E0.func 5 = some Try.f5 by kernel_rfl) (fun _ _ => rfl) rfl rfl [] ?_
 ((conv=>whnf)<;>repeat(with_reducible refine D1 ?_)<;>conv=>whnf)
 (first|refine ⟨?_,?_⟩|refine nsplit ?_ ?_|refine bsplit ?_ ?_)<;>intro h6<;>have hz_:=True.intro<;>clear hz_
 ·((conv=>whnf)<;>repeat(with_reducible refine D1 ?_)<;>conv=>whnf)
  refine ⟨[], [], _, _, _, _, awake12, t3, ?_⟩
  rintro r o' c' ⟨rfl, rfl, rfl⟩
  ((conv=>whnf)<;>repeat(with_reducible refine D1 ?_)<;>conv=>whnf)
  exact ⟨[], [], [], .s (.bool true), [], ⟨.s Lz.rfl, .nil, rfl⟩, rfl⟩
 have h6 : ¬ (((l.map encCF).length : Nat) : Int) > 6 := h6
 rw [List.length_map] at h6
 ((conv=>whnf)<;>repeat(with_reducible refine D1 ?_)<;>conv=>whnf)
 by_cases hall : allP l
 rotate_left
 ·refine ⟨[], [], _, _, _, _, newG_no l hall, t3, ?_⟩
  rintro r o' c' ⟨rfl, rfl, rfl⟩
  ((conv=>whnf)<;>repeat(with_reducible refine D1 ?_)<;>conv=>whnf)
  refine ⟨[], [], _, _, _, _, refAll_okC l (fun x hx => (hl x hx).1) (by omega), t3, ?_⟩
  rintro r o' c' ⟨rfl, rfl, rfl⟩
  rw [@decide_eq_false _ (Classical.propDecidable _) hall]
  ((conv=>whnf)<;>repeat(with_reducible refine D1 ?_)<;>conv=>whnf)
  repeat ((first | (refine ⟨fun h_ => ?_, fun h_ => ?_⟩) | (refine nsplit (fun h_ => ?_) (fun h_ => ?_)) | (refine bsplit (fun h_ => ?_) (fun h_ => ?_))) <;> first | (exfalso; revert h_; decide; done) | (exact absurd rfl h_) | (have hz_ := True.intro; clear hz_; ((conv=>whnf)<;>repeat(with_reducible refine D1 ?_)<;>conv=>whnf)))
  refine ⟨[], [], _, _, _, _, awake12, t3, ?_⟩
  rintro r o' c' ⟨rfl, rfl, rfl⟩
  ((conv=>whnf)<;>repeat(with_reducible refine D1 ?_)<;>conv=>whnf)
  exact ⟨[], [], [], .s (.bool true), [], ⟨.s Lz.rfl, .nil, rfl⟩, rfl⟩
 have hE : okE l := ⟨by omega, hl, fun x hx => by have := (allP_in hall hx).2.2.1; omega⟩
 refine ⟨[], [], _, _, _, _, newG_ok l hall, t3, ?_⟩
 rintro r o' c' ⟨rfl, rfl, rfl⟩
 ((conv=>whnf)<;>repeat(with_reducible refine D1 ?_)<;>conv=>whnf)
 refine ⟨[], [], _, _, _, _, refAll_okC l (fun x hx => (hl x hx).1) (by omega), t3, ?_⟩
 rintro r o' c' ⟨rfl, rfl, rfl⟩
 rw [@decide_eq_true _ (Classical.propDecidable _) hall]
 ((conv=>whnf)<;>repeat(with_reducible refine D1 ?_)<;>conv=>whnf)
 refine ⟨fun kk f o cc => ∃ (i : Nat) (K : List Vote) (kn : List (Int × Cmd)), i ≤ ls.length ∧ i ≤ 40 ∧ kk = ls.length - i ∧ okW K ∧ (∀ s, lookA kn s = (atS K s).map cmdOf) ∧ cc = 4 ∧
  f = [(1, .sl 6 (ls.map encV) false), (5, .ptr 0 0), (7, .ptr 1 0), (8, .s (.int .i64 0)), (9, .ptr 3 0), (10, .s (.int .i64 i))] ∧
  o = [(0, .cells [.s (.int .i64 c.kind), .s (.int .i64 c.chain), .s (.int .u64 c.epoch), .s (.int .i64 c.node)]), (1, logO (lgS kn K l) 2), (2, knownO (lgS kn K l)), (3, .cells [encVs K, .sl 5 (l.map encCF) false])], ⟨ls.length, ?_⟩, ?_⟩
 ·refine ⟨[], [some 0, some 1, some 2, some 3], ?_⟩
  iterate 3 constructor
  refine ⟨⟨?_, ?_, ?_⟩, ⟨0, [], [], Nat.zero_le _, by omega, rfl, .nil, fun s => rfl, rfl, rfl, rfl⟩⟩
  all_goals (repeat' first|with_reducible exact Lz.rfl|exact Lw.rfl|exact Lz.wrap (by omega)|(unfold goInt;with_reducible exact Lz.rfl)|exact flx _|constructor)
  all_goals exact Lz.of rfl
 ·rintro kk f1 o1 c1 ⟨i, K, kn, hi, hi2, rfl, hW, hkn, rfl, rfl, rfl⟩
  ((conv=>whnf)<;>repeat(with_reducible refine D1 ?_)<;>conv=>whnf)
  (first|refine ⟨?_,?_⟩|refine nsplit ?_ ?_|refine bsplit ?_ ?_)<;>intro hlt<;>have hz_:=True.intro<;>clear hz_
  rotate_left
  ·((conv=>whnf)<;>repeat(with_reducible refine D1 ?_)<;>conv=>whnf)
   repeat ((first | (refine ⟨fun h_ => ?_, fun h_ => ?_⟩) | (refine nsplit (fun h_ => ?_) (fun h_ => ?_)) | (refine bsplit (fun h_ => ?_) (fun h_ => ?_))) <;> first | (exfalso; revert h_; decide; done) | (exact absurd rfl h_) | (have hz_ := True.intro; clear hz_; ((conv=>whnf)<;>repeat(with_reducible refine D1 ?_)<;>conv=>whnf)))
   refine ⟨[], [], _, _, _, _, awake12, t3, ?_⟩
   rintro r o' c' ⟨rfl, rfl, rfl⟩
   ((conv=>whnf)<;>repeat(with_reducible refine D1 ?_)<;>conv=>whnf)
   exact ⟨[], [], [], .s (.bool true), [], ⟨.s Lz.rfl, .nil, rfl⟩, rfl⟩
  have hlt := lenlt.1 hlt
  ((conv=>whnf)<;>repeat(with_reducible refine D1 ?_)<;>conv=>whnf)
  (first|refine ⟨?_,?_⟩|refine nsplit ?_ ?_|refine bsplit ?_ ?_)<;>intro h40<;>have hz_:=True.intro<;>clear hz_
  rotate_left
  ·((conv=>whnf)<;>repeat(with_reducible refine D1 ?_)<;>conv=>whnf)
   repeat ((first | (refine ⟨fun h_ => ?_, fun h_ => ?_⟩) | (refine nsplit (fun h_ => ?_) (fun h_ => ?_)) | (refine bsplit (fun h_ => ?_) (fun h_ => ?_))) <;> first | (exfalso; revert h_; decide; done) | (exact absurd rfl h_) | (have hz_ := True.intro; clear hz_; ((conv=>whnf)<;>repeat(with_reducible refine D1 ?_)<;>conv=>whnf)))
   refine ⟨[], [], _, _, _, _, awake12, t3, ?_⟩
   rintro r o' c' ⟨rfl, rfl, rfl⟩
   ((conv=>whnf)<;>repeat(with_reducible refine D1 ?_)<;>conv=>whnf)
   exact ⟨[], [], [], .s (.bool true), [], ⟨.s Lz.rfl, .nil, rfl⟩, rfl⟩
  have h40 : i < 40 := by have : (i : Int) < 40 := h40
                          omega
  have hve := hep _ (List.getElem_mem hlt)
  have hcs0 := learn_n6 (K := K) hE ls[i].slot (cmdOf ls[i])
  have hcl0 := learn_len hW.ok l ls[i].slot (cmdOf ls[i])
  have hW2 := hW.learn l (slot := ls[i].slot) (c := cmdOf ls[i]) hve
  have hla := learnC_ok hW.ok hE ls[i].slot (cmdOf ls[i]) hve kn hkn
  have hlr := refLearn_ok K l ls[i].slot (cmdOf ls[i]) hW.ok hE hve
  generalize (learnG K l ls[i].slot (cmdOf ls[i])).2.2 = er at hla hlr
  generalize (learnG K l ls[i].slot (cmdOf ls[i])).2.1 = cs0 at hla hlr hcs0 hcl0
  generalize (learnG K l ls[i].slot (cmdOf ls[i])).1 = K' at hla hlr hW2
  ((conv=>whnf)<;>repeat(with_reducible refine D1 ?_)<;>conv=>whnf)
  refine idxI hlt ?_
  ((conv=>whnf)<;>repeat(with_reducible refine D1 ?_)<;>conv=>whnf)
  refine idxI hlt ?_
  ((conv=>whnf)<;>repeat(with_reducible refine D1 ?_)<;>conv=>whnf)
  refine ⟨[], [some 1, some 2], _, _, _, _, hla, t3, ?_⟩
  rintro r o' c' ⟨kn', hkn', rfl, rfl, rfl⟩
  have hok := hE.came K' (nextG K')
  ((conv=>whnf)<;>repeat(with_reducible refine D1 ?_)<;>conv=>whnf)
  refine idxI hlt ?_
  ((conv=>whnf)<;>repeat(with_reducible refine D1 ?_)<;>conv=>whnf)
  refine idxI hlt ?_
  ((conv=>whnf)<;>repeat(with_reducible refine D1 ?_)<;>conv=>whnf)
  refine ⟨[], [], _, _, _, _, hlr, t3, ?_⟩
  rintro r o' c' ⟨rfl, rfl, rfl⟩
  ((conv=>whnf)<;>repeat(with_reducible refine D1 ?_)<;>conv=>whnf)
  refine ⟨[6], [], _, _, _, _, same_self cs0 (by omega) (fun c hc => by have := hcs0 c hc; omega), t3, ?_⟩
  rintro r o' c' ⟨rfl, rfl, rfl⟩
  ((conv=>whnf)<;>repeat(with_reducible refine D1 ?_)<;>conv=>whnf)
  repeat ((first | (refine ⟨fun h_ => ?_, fun h_ => ?_⟩) | (refine nsplit (fun h_ => ?_) (fun h_ => ?_)) | (refine bsplit (fun h_ => ?_) (fun h_ => ?_))) <;> first | (exfalso; revert h_; decide; done) | (exfalso; revert h_; simp; done) | (have hz_ := True.intro; clear hz_; ((conv=>whnf)<;>repeat(with_reducible refine D1 ?_)<;>conv=>whnf)))
  refine idxI hlt ?_
  ((conv=>whnf)<;>repeat(with_reducible refine D1 ?_)<;>conv=>whnf)
  refine ⟨[], [some 1, some 2], _, _, _, _, sameLog_ok hW2.ok hE ls[i].slot kn' hkn', t3, ?_⟩
  rintro r o' c' ⟨rfl, rfl, rfl⟩
  ((conv=>whnf)<;>repeat(with_reducible refine D1 ?_)<;>conv=>whnf)
  refine ⟨[], [some 1, some 2], _, _, _, _, canC_ok (lgS kn' K' l) c, t3, ?_⟩
  rintro r o' c' ⟨rfl, rfl, rfl⟩
  ((conv=>whnf)<;>repeat(with_reducible refine D1 ?_)<;>conv=>whnf)
  refine ⟨[], [], _, _, _, _, refConfs_ok K' l hW2.ok hE, t3, ?_⟩
  rintro r o' c' ⟨rfl, rfl, rfl⟩
  ((conv=>whnf)<;>repeat(with_reducible refine D1 ?_)<;>conv=>whnf)
  refine ⟨[], [], _, _, _, _, refCan_ok (cameG K' l (nextG K')).2 c (fun c hc => (hok.ep c hc).1) hc (by have := hok.len; omega), t3, ?_⟩
  rintro r o' c' ⟨rfl, rfl, rfl⟩
  ((conv=>whnf)<;>repeat(with_reducible refine D1 ?_)<;>conv=>whnf)
  (first|refine ⟨?_,?_⟩|refine nsplit ?_ ?_|refine bsplit ?_ ?_)<;>intro hq<;>have hz_:=True.intro<;>clear hz_
  ·exact absurd rfl hq
  ((conv=>whnf)<;>repeat(with_reducible refine D1 ?_)<;>conv=>whnf)
  refine ⟨ls.length - (i + 1), ?_, by omega⟩
  exact ⟨[], [some 0, some 1, some 2, some 3], _, _, _, t3, ⟨i + 1, K', kn', hlt, by omega, rfl, hW2, hkn', rfl, rfl, rfl⟩⟩
end Go.M
namespace Go.M
open Go Go.Proofs Go.RowKit Go.Maps Go.Sort Go.Shelf
set_option maxRecDepth 1000000
def keys102_ren : Go.Shelf.Ren := ⟨fun | 7 => 102 | 10 => 134 | n => n, fun | 23 => 145 | 26 => 3 | 3 => 160 | 28 => 131 | 0 => 0 | 27 => 130 | 33 => 149 | 4 => 4 | n => n, fun | n => n⟩
theorem keys102 : Go.Proofs.SlLaysZI.n7 Try.prog keys102_ren where
 mixed := by kernel_rfl
 f7 := ⟨Try.f102.name, by kernel_rfl, Try.func102.trans (congrArg some (by kernel_rfl))⟩
 f10 := ⟨Try.f134.name, by kernel_rfl, Try.func134.trans (congrArg some (by kernel_rfl))⟩
 t0 := Try.underlying0
 a0 := Try.isAgg0
 z0 := Try.sizeOf0
 v0 := Try.zeroValue0
 t4 := Try.underlying4
 a4 := Try.isAgg4
 z4 := Try.sizeOf4
 v4 := Try.zeroValue4
 t23 := Try.underlying145
 a23 := Try.isAgg145
 z23 := Try.sizeOf145
 v23 := Try.zeroValue145
 t26 := Try.underlying3
 a26 := Try.isAgg3
 z26 := Try.sizeOf3
 v26 := Try.zeroValue3
 t27 := Try.underlying130
 a27 := Try.isAgg130
 z27 := Try.sizeOf130
 v27 := Try.zeroValue130
 t28 := Try.underlying131
 a28 := Try.isAgg131
 z28 := Try.sizeOf131
 v28 := Try.zeroValue131
 t33 := Try.underlying149
 a33 := Try.isAgg149
 z33 := Try.sizeOf149
 v33 := Try.zeroValue149
theorem sorts101_134 : SortsKeys Try.prog 101 134 :=
 sortsKeys_of (ρ := sorted101_ren) (σ := keys102_ren) sorted101 { keys102 with } sortsIn101 (enters_of Try.func133 (by kernel_rfl) rfl) (enters_of Try.func134 (by kernel_rfl) rfl)
def keys95_ren : Go.Shelf.Ren := ⟨fun | 7 => 95 | 10 => 127 | n => n, fun | 23 => 144 | 26 => 3 | 3 => 22 | 28 => 131 | 0 => 0 | 27 => 130 | 33 => 149 | 4 => 4 | n => n, fun | n => n⟩
theorem keys95 : Go.Proofs.SlLaysZI.n7 Try.prog keys95_ren where
 mixed := by kernel_rfl
 f7 := ⟨Try.f95.name, by kernel_rfl, Try.func95.trans (congrArg some (by kernel_rfl))⟩
 f10 := ⟨Try.f127.name, by kernel_rfl, Try.func127.trans (congrArg some (by kernel_rfl))⟩
 t0 := Try.underlying0
 a0 := Try.isAgg0
 z0 := Try.sizeOf0
 v0 := Try.zeroValue0
 t4 := Try.underlying4
 a4 := Try.isAgg4
 z4 := Try.sizeOf4
 v4 := Try.zeroValue4
 t23 := Try.underlying144
 a23 := Try.isAgg144
 z23 := Try.sizeOf144
 v23 := Try.zeroValue144
 t26 := Try.underlying3
 a26 := Try.isAgg3
 z26 := Try.sizeOf3
 v26 := Try.zeroValue3
 t27 := Try.underlying130
 a27 := Try.isAgg130
 z27 := Try.sizeOf130
 v27 := Try.zeroValue130
 t28 := Try.underlying131
 a28 := Try.isAgg131
 z28 := Try.sizeOf131
 v28 := Try.zeroValue131
 t33 := Try.underlying149
 a33 := Try.isAgg149
 z33 := Try.sizeOf149
 v33 := Try.zeroValue149
theorem sorts101_127 : SortsKeys Try.prog 101 127 :=
 sortsKeys_of (ρ := sorted101_ren) (σ := keys95_ren) sorted101 { keys95 with } sortsIn101 (enters_of Try.func133 (by kernel_rfl) rfl) (enters_of Try.func127 (by kernel_rfl) rfl)
theorem collects80_127 : CollectsKeys Try.prog 80 127 :=
 collectsKeys_of (ρ := sorted101_ren) (σ := keys95_ren) { sorted101 with } { keys95 with } (enters_of Try.func127 (by kernel_rfl) rfl)
end Go.M
namespace Go.M
open Go Go.RowKit Go.Maps Go.Sort Go.Shelf Go.Proofs
variable {P : Program} {ρ : Ren}
def GivesB (F : Fence) (n : Nat) (P : Program) (g : Nat) (lb : Array Value) (xs : List Int) (w : World) : Prop :=
 ∀ (l : Nat) (J : List Int → World → Prop) (W : World), Below w.heap.size w W → AbidesFrom W.heap.size J → (∀ ss W1, J ss W1 → Below w.heap.size w W1) →
  (∀ pre x W1, J pre W1 → pre.length < xs.length → YieldAt F (n - 1) P l #[encZ x] W1 fun e W' => e = .returned (.bool true) ∧ J (pre ++ [x]) W' ∧ KeepsWalks W1 W') →
  J [] W → CallsIn F n P g (#[.func (.yield l) #[] #[]] ++ lb) W fun e W' => (∃ v, e = .returned v) ∧ J xs W'
set_option maxRecDepth 100000 in
set_option maxHeartbeats 2000000 in
set_option maxHeartbeats 2000000 in
theorem appendB (L : SlLaysZI.n11 P ρ) (F : Fence) (n : Nat) (hF : F.fn (ρ.f 11)) (hro : F.round = none) (hn : 2 ≤ n) (g : Nat) (lb : Array Value) (hFg : F.fn g) (eg : ∀ args w, (callFunc g args).run P w = .ok (.enter g args) w)
 (xs : List Int) (hN : xs.length ≤ 2000000) (w : World) (hseq : GivesB F (n - 1) P g lb xs w) :
 CallsIn F n P (ρ.f 11) #[.slice none 0 0, .func (.func g) #[] lb] w fun e w' => ∃ v, e = .returned v ∧ w'.ownsRow w.heap.size (ρ.t 26) 1 v xs.length (xs.map encZ) ∧ (v = .slice none 0 0 ↔ xs = []) ∧ Below w.heap.size w w' := by
 have h1 : 1 ≤ n := by omega
 have mixed := L.mixed; have t0 := L.t0; have a0 := L.a0; have z0 := L.z0; have v0 := L.v0; have t24 := L.t24; have a24 := L.a24; have z24 := L.z24; have v24 := L.v24; have t26 := L.t26; have a26 := L.a26; have z26 := L.z26; have v26 := L.v26; have t28 := L.t28; have a28 := L.a28; have z28 := L.z28; have v28 := L.v28
 have hne : ρ.t 24 ≠ ρ.t 26 := fun e => by have h := L.t24; rw [e, L.t26] at h; cases h
 have u0 := run_underlying L.t0; have u24 := run_underlying L.t24; have u26 := run_underlying L.t26; have u28 := run_underlying L.t28
 obtain ⟨_, _, FG⟩ := L.f11
 refine callsIn_of_wp_marks FG rfl hF ?_ hro
 simp only [SlBodyZ.n11_ntmps ρ, List.size_toArray, List.length_cons, List.length_nil, Nat.reduceAdd, Nat.reduceSub, Array.replicate_succ, Array.replicate_zero, List.push_toArray, List.append_toArray, List.nil_append, List.cons_append]
 gi_wp2
 refine wpIn_rangeFunc ?_
 intro fn hfn
 rw [hro]
 -- the box, then the deferred list and the loop's record
 obtain ⟨A, hA⟩ : ∃ A, w.alloc (.cells #[.slice none 0 0] (ρ.t 24)) = A := ⟨_, rfl⟩
 have sA : A.heap.size = w.heap.size + 1 := by rw [← hA]; simp
 have bA : Below w.heap.size w A := by rw [← hA]; exact (Below.refl _ w).alloc (Nat.le_refl _) _
 have cA : A.heap[w.heap.size]? = some (.cells #[.slice none 0 0] (ρ.t 24) (0, 0)) := by rw [← hA]; exact World.alloc_heap_new w _
 rw [hA]
 obtain ⟨C, hC⟩ : ∃ C, (A.alloc (.deferred (some []))).alloc (.loop (AnyZI.apRec ρ fn (.func (.func g) #[] lb) w.heap.size A.heap.size .ready none)) = C := ⟨_, rfl⟩
 have bC : Below w.heap.size w C := by rw [← hC]; exact (bA.alloc bA.size _).alloc (by have := bA.size; simp; omega) _
 have box : C.heap[w.heap.size]? = some (.cells #[.slice none 0 0] (ρ.t 24) (0, 0)) := by
  rw [← hC]; exact ((Below.heap_alloc _ _ _ (by simp; omega)).trans (Below.heap_alloc _ _ _ (by omega))).trans cA
 have dfr : C.heap[A.heap.size]? = some (.deferred (some [])) := by rw [← hC]; exact (Below.heap_alloc _ _ _ (by simp)).trans (World.alloc_heap_new A _)
 have rec0 : C.heap[A.heap.size + 1]? = some (.loop (AnyZI.apRec ρ fn (.func (.func g) #[] lb) w.heap.size A.heap.size .ready none)) := by
  have := World.alloc_heap_new (A.alloc (.deferred (some []))) (.loop (AnyZI.apRec ρ fn (.func (.func g) #[] lb) w.heap.size A.heap.size .ready none))
  rw [← hC]; rwa [World.size_alloc] at this
 have J0 : AnyZI.ApAt ρ w fn (.func (.func g) #[] lb) w.heap.size (A.heap.size + 1) A.heap.size [] C := ⟨⟨_, box, ⟨rfl, .inl ⟨rfl, rfl⟩⟩, by simp⟩, rec0, dfr, bC⟩
 refine ⟨A.heap.size + 1, [{ target := .collected A.heap.size, args := #[] }], C, { target := .fn (.func g) lb, args := #[.func (.yield (A.heap.size + 1)) #[] #[]] }, C, g,
  #[.func (.yield (A.heap.size + 1)) #[] #[]] ++ lb, C, ?_, ?_, ?_, ?_, fun _ => h1, ?_⟩
 ·rw [← hC]; exact run_enterLoop_outer _ _ _ _ _
 ·simp [resolve, go_sem]
 ·intro f' hf'; simp [Target.leads] at hf'; subst hf'; exact hFg
 ·simp [invoke, go_sem, eg]
 ·have yl := fun pre x W (hJ : AnyZI.ApAt ρ w fn (.func (.func g) #[] lb) w.heap.size (A.heap.size + 1) A.heap.size pre W) (hl : pre.length < xs.length) =>
   AnyZI.apYield { L with } F (n - 1 - 1) w fn hfn (.func (.func g) #[] lb) w.heap.size (A.heap.size + 1) A.heap.size (by omega) (by omega) (by omega) (Nat.le_refl _) (by omega) xs.length (by unfold Go.maxLen; omega) (by omega) pre x W hJ hl
  refine (hseq (A.heap.size + 1) _ C bC (AnyZI.ap_abides ρ w fn (.func (.func g) #[] lb) w.heap.size (A.heap.size + 1) A.heap.size _ bC.size) (fun ss W1 h => h.below) yl J0).mono ?_
  rintro e D ⟨⟨v0, rfl⟩, hD⟩
  obtain ⟨v, hv, hrow, hnil⟩ := hD.box
  have hend := run_endLoop (P := P) hD.L (by simp [AnyZI.apRec])
  obtain ⟨G, hG⟩ : ∃ G, D.putObj (A.heap.size + 1) (.loop { AnyZI.apRec ρ fn (.func (.func g) #[] lb) w.heap.size A.heap.size .ready none with state := .exhausted }) = G := ⟨_, rfl⟩
  rw [hG] at hend
  have gG : D.grownBy G (some (A.heap.size + 1)) := by rw [← hG]; exact grownBy_putObj_a _ _ _
  have vG : G.heap[w.heap.size]? = some (.cells #[v] (ρ.t 24) (0, 0)) := by rw [← hG]; exact (World.putObj_heap_other (by omega)).trans hv
  have kG : G.heap[A.heap.size]? = some (.deferred (some [])) := by rw [← hG]; exact (World.putObj_heap_other (by omega)).trans hD.K
  have rG := hrow.kept gG (ownsRow_ne_a hrow hD.L (fun cur e => by first | cases e | exact hne (Obj.cells.inj e).2.1))
  have bG : Below w.heap.size w G := hD.below.grown gG hD.below.size (fun k e => by cases e; omega)
  obtain ⟨hc3, hf3⟩ := cell_of_box_a vG
  clear hG
  refine ⟨none, G, hend, ?_⟩
  gi_wp2
  rw [← sA]
  refine ⟨by simp, .inl ⟨_, _, rfl, run_takeDeferred kG, ?_⟩⟩
  exact ⟨_, results_tmp rfl _ _ _, v, rfl, rG.kept (grownBy_putObj_a _ _ _) (ownsRow_ne_a rG kG (fun cur e => by first | cases e | exact hne (Obj.cells.inj e).2.1)), hnil, bG.grown (grownBy_putObj_a _ _ _) bG.size (fun k e => by cases e; omega)⟩
set_option maxHeartbeats 1000000 in
set_option maxHeartbeats 1000000 in
theorem collectB (L : SlLaysZI.n8 P ρ) (F : Fence) (n : Nat) (h8 : F.fn (ρ.f 8)) (h11 : F.fn (ρ.f 11)) (hro : F.round = none) (hn : 3 ≤ n) (g : Nat) (lb : Array Value) (hFg : F.fn g) (eg : ∀ args w, (callFunc g args).run P w = .ok (.enter g args) w)
 (xs : List Int) (hN : xs.length ≤ 2000000) (w : World) (hseq : GivesB F (n - 1 - 1) P g lb xs w) :
 CallsIn F n P (ρ.f 8) #[.func (.func g) #[] lb] w fun e w' => ∃ v, e = .returned v ∧ w'.ownsRow w.heap.size (ρ.t 26) 1 v xs.length (xs.map encZ) ∧ (v = .slice none 0 0 ↔ xs = []) ∧ Below w.heap.size w w' := by
 have h1 : 1 ≤ n := by omega
 have e11 : ∀ args w, (callFunc (ρ.f 11) args).run P w = .ok (.enter (ρ.f 11) args) w := L.f11.enters rfl
 have mixed := L.mixed; have t0 := L.t0; have a0 := L.a0; have z0 := L.z0; have v0 := L.v0; have t24 := L.t24; have a24 := L.a24; have z24 := L.z24; have v24 := L.v24
 have u0 := run_underlying L.t0; have u24 := run_underlying L.t24
 obtain ⟨_, _, FG⟩ := L.f8
 refine callsIn_of_wp FG rfl h8 ?_ hro
 simp only [SlBodyZ.n8_ntmps ρ, List.size_toArray, List.length_cons, List.length_nil, Nat.reduceAdd, Nat.reduceSub, Array.replicate_succ, Array.replicate_zero, List.push_toArray, List.append_toArray, List.nil_append, List.cons_append]
 gi_wp2_with (gi_at_fn (ρ.f 11); refine (appendB { L with } F (n - 1) h11 hro (by omega) g lb hFg eg xs hN _ hseq).mono ?_; rintro e w' ⟨v, rfl, hrow, hnil, hb⟩)
 go_ret
 exact ⟨v, rfl, hrow, hnil, hb⟩
end Go.M
namespace Go.M
open Go Go.Proofs Go.RowKit Go.Maps Go.Sort Go.Shelf
set_option maxRecDepth 1000000
set_option maxHeartbeats 4000000
theorem envE : EnvOk Try.prog (envOf Try.prog noOrc) := envOk Try.prog noOrc
def zero4 : Value := .agg #[.int .i64 0, .int .i64 0, .int .u64 0, .int .i64 0]
theorem look115 {W : World} {m : Nat} {es : Array MapEntry} {clock : Nat} {k : Int} (hm : W.heap[m]? = some (.map es clock)) {fr : Option (Nat × Value)} (hf : Instr.findNow (.int .i64) (.int .i64 k) es.toList 0 = some fr) :
 (Instr.lookup 115 (.map (some m)) (.int .i64 k) true).run Try.prog W = .ok (.tuple #[(match fr with | none => zero4 | some jv => jv.2), .bool fr.isSome]) W := by
 have hgo := run_getObj_map (P := Try.prog) hm (fun _ _ _ => by simp)
 have hck := g_checkKey (P := Try.prog) envE (kt := 3) (kd := .int .i64) (by kernel_rfl) rfl es.isEmpty 9999 (.int .i64 k) W
 have hd := g_under envE (t := 115) (show (envOf Try.prog noOrc).desc 115 = some (.map 3 37) by kernel_rfl) W
 have hk := g_under envE (t := 3) (show (envOf Try.prog noOrc).desc 3 = some (.int .i64) by kernel_rfl) W
 have hz := g_zero envE (t := 37) (z := zero4) (by kernel_rfl) W
 have hfk : (Instr.findKey 3 (.int .i64 k) es.toList).run Try.prog W = .ok fr W := by
  simp only [Instr.findKey, Sem.run_bind, hk, Result.andThen_ok, hf, Sem.run_pure]
 cases fr with
 | none => simp only [Instr.lookup, Sem.run_bind, hd, Result.andThen_ok, hgo, Sem.run_pure, hck, hfk, hz]; rfl
 | some jv => simp only [Instr.lookup, Sem.run_bind, hd, Result.andThen_ok, hgo, Sem.run_pure, hck, hfk]; rfl
structure GapW (W : World) (Bm r s m : Nat) (es : Array MapEntry) (clock : Nat) (next top : Int) : Prop where
 box : W.cell? ⟨Bm, 0, none⟩ = some (.pointer (some ⟨r, s, none⟩))
 c0 : W.cell? ⟨r, s, none⟩ = some (.map (some m))
 c1 : W.cell? ⟨r, s + 1, none⟩ = some (.int .i64 next)
 c2 : W.cell? ⟨r, s + 2, none⟩ = some (.int .i64 top)
 mp : W.heap[m]? = some (.map es clock)
theorem GapW.later {w W : World} {Bm r s m : Nat} {es : Array MapEntry} {clock : Nat} {next top : Int} (H : GapW w Bm r s m es clock next top) (hb : Below w.heap.size w W) : GapW W Bm r s m es clock next top := by
 have key : ∀ (a : Addr) v, w.cell? a = some v → W.cell? a = some v := fun a v h => by
  rw [World.cell?_of_block (hb.block a.block ?_)]
  ·exact h
  ·unfold World.cell? at h
   split at h
   ·rename_i hh; exact (Array.getElem?_eq_some_iff.1 hh).1
   ·cases h
 exact ⟨key _ _ H.box, key _ _ H.c0, key _ _ H.c1, key _ _ H.c2, (hb.block m (Array.getElem?_eq_some_iff.1 H.mp).1).trans H.mp⟩
theorem findNow_agg4 {kd : TypeDesc} {k : Value} : ∀ {es : List MapEntry} {i j : Nat} {v : Value}, aggs4 es = true → Instr.findNow kd k es i = some (some (j, v)) → agg4 v = true
 | [], i, j, v, _, h => by simp [Instr.findNow] at h
 | e :: es, i, j, v, ha, h => by
  simp only [aggs4, List.all_cons, Bool.and_eq_true] at ha
  simp only [Instr.findNow] at h
  split at h
  ·simp only [Option.some.injEq, Prod.mk.injEq] at h; obtain ⟨_, rfl⟩ := h; exact ha.1
  ·exact findNow_agg4 (by simp only [aggs4]; exact ha.2) h
  ·cases h
theorem agg4_cells {v : Value} (h : agg4 v = true) : ∃ (k1 k2 k3 k4 : IntKind) (a b c d : Int), v = .agg #[.int k1 a, .int k2 b, .int k3 c, .int k4 d] := by
 cases v with
 | agg x =>
  simp only [agg4, Bool.and_eq_true] at h
  obtain ⟨l⟩ := x
  have hs : l.length = 4 := by simpa using h.1
  match l, hs with
  | [a, b, c, d], _ =>
   simp only [List.all_cons, List.all_nil, Bool.and_eq_true, and_true] at h
   obtain ⟨_, h1, h2, h3, h4⟩ := h
   cases a <;> cases h1
   cases b <;> cases h2
   cases c <;> cases h3
   cases d <;> cases h4
   exact ⟨_, _, _, _, _, _, _, _, rfl⟩
 | _ => simp [agg4] at h
end Go.M
namespace Go.M
open Go Go.Proofs Go.RowKit Go.Maps Go.Sort Go.Shelf
set_option maxRecDepth 1000000
set_option maxHeartbeats 4000000
theorem gaps_gives {w : World} {Bm r s m : Nat} {es : Array MapEntry} {clock : Nat} {next top : Int} {xs : List Int} (H0 : GapW w Bm r s m es clock next top) (hn0 : -1000000 ≤ next) (ht0 : top ≤ 1000000) (hg : gapsOf es.toList (top - next).toNat next = some xs) (ha : aggs4 es.toList = true)
 (n : Nat) (hn : 2 ≤ n) : GivesB Fence.wide n Try.prog 120 #[.pointer (some ⟨Bm, 0, none⟩)] xs w := by
 intro l J W hbW hJ hJb hY hJ0
 have h1n : 1 ≤ n := by omega
 obtain ⟨hb, h0, h1, h2, hm⟩ := H0.later hbW
 refine callsIn_of_wp Try.func120 rfl trivial ?_ rfl
 simp only [Try.ntmps120, List.size_toArray, List.length_cons, List.length_nil, Nat.reduceAdd, Nat.reduceSub, Array.replicate_succ, Array.replicate_zero, List.push_toArray, List.append_toArray, List.nil_append, List.cons_append]
 gi_wp2
 gi_loopw [3] (fun v3 wr => ∃ (i : Nat) (done rest : List Int), v3 = .int .i64 (next + i) ∧ i ≤ (top - next).toNat ∧ gapsOf es.toList ((top - next).toNat - i) (next + i) = some rest ∧ done ++ rest = xs ∧ J done wr) (fun v3 _ => match v3 with | .int _ k => (top - k).toNat | _ => 0)
 case atStart => exact ⟨0, [], xs, by simp, Nat.zero_le _, by simpa using hg, rfl, hJ0⟩
 case round =>
  obtain ⟨i, done, rest, rfl, hi, hgr, hdr, hJr⟩ := hrel
  obtain ⟨hb, h0, h1, h2, hm⟩ := H0.later (hJb _ _ hJr)
  by_cases hlt : i < (top - next).toNat
  ·obtain ⟨k, hk⟩ : ∃ k, (top - next).toNat - i = k + 1 := ⟨(top - next).toNat - i - 1, by omega⟩
   have hfr : ∃ fr, Instr.findNow (.int .i64) (.int .i64 (next + i)) es.toList 0 = some fr := by
    rw [hk] at hgr
    unfold gapsOf at hgr
    split at hgr <;> first | exact ⟨_, by assumption⟩ | cases hgr
   obtain ⟨fr, hfr⟩ := hfr
   cases fr with
   | none =>
    have hlk : (Instr.lookup 115 (.map (some m)) (.int .i64 (next + i)) true).run Try.prog wr = .ok (.tuple #[.agg #[.int .i64 0, .int .i64 0, .int .u64 0, .int .i64 0], .bool false]) wr := look115 hm hfr
    obtain ⟨rest', hrest, rfl⟩ : ∃ r', gapsOf es.toList k (next + i + 1) = some r' ∧ rest = (next + i) :: r' := by
     rw [hk] at hgr
     unfold gapsOf at hgr
     rw [hfr] at hgr
     split at hgr
     ·rename_i l' h1' h2'; cases hgr; exact ⟨l', h2', rfl⟩
     ·rename_i p' l' h1' h2'; cases h1'
     ·cases hgr
    have hlen : done.length < xs.length := by rw [← hdr]; simp
    have hJ2 : J done (wr.alloc (.cells #[.int .i64 0, .int .i64 0, .int .u64 0, .int .i64 0] 37)) := hJ done wr _ none hJr (World.grownBy_alloc wr _ none) (fun r e => by cases e)
    obtain ⟨fn, tmps, assign, body, hy, hR⟩ := hY done (next + i) _ hJ2 hlen
    gi_wp2
    refine hR.mono ?_
    rintro e W3 ⟨rfl, hJ3, hk3⟩
    gi_wp2
    go_roundw
    case rel => exact ⟨i + 1, done ++ [next + i], rest', by simp; omega, by omega, by rw [show (top - next).toNat - (i + 1) = k by omega, show next + ((i + 1 : Nat) : Int) = next + i + 1 by omega]; exact hrest, by rw [← hdr]; simp, hJ3⟩
    case measure => simp; omega
   | some jv =>
    have hrest : gapsOf es.toList k (next + i + 1) = some rest := by
     rw [hk] at hgr
     unfold gapsOf at hgr
     rw [hfr] at hgr
     split at hgr
     ·rename_i l' h1' h2'; cases h1'
     ·rename_i p' l' h1' h2'; cases hgr; exact h2'
     ·cases hgr
    obtain ⟨j, v⟩ := jv
    obtain ⟨k1, k2, k3, k4, a, b, c, d, rfl⟩ := agg4_cells (findNow_agg4 ha hfr)
    have hlk : (Instr.lookup 115 (.map (some m)) (.int .i64 (next + i)) true).run Try.prog wr = .ok (.tuple #[.agg #[.int k1 a, .int k2 b, .int k3 c, .int k4 d], .bool true]) wr := look115 hm hfr
    have hJ2 : J done (wr.alloc (.cells #[.int k1 a, .int k2 b, .int k3 c, .int k4 d] 37)) := hJ done wr _ none hJr (World.grownBy_alloc wr _ none) (fun r e => by cases e)
    gi_wp2
    refine ⟨by simp, ?_⟩
    gi_wp2
    go_roundw
    case rel => exact ⟨i + 1, done, rest, by simp; omega, by omega, by rw [show (top - next).toNat - (i + 1) = k by omega, show next + ((i + 1 : Nat) : Int) = next + i + 1 by omega]; exact hrest, hdr, hJ2⟩
    case measure => simp; omega
  ·have hie : i = (top - next).toNat := by omega
   subst hie
   have : rest = [] := by rw [Nat.sub_self] at hgr; unfold gapsOf at hgr; cases hgr; rfl
   subst this
   have hdx : done = xs := by simpa using hdr
   subst hdx
   gi_wp2
   go_end0
   exact ⟨⟨_, rfl⟩, hJr⟩
end Go.M
namespace Go.M
open Go Go.Proofs Go.RowKit Go.Maps Go.Sort Go.Shelf
set_option maxRecDepth 1000000
set_option maxHeartbeats 4000000
theorem gaps81 (w : World) (p : Value) (hp : ∃ a, p = .pointer (some a)) (n : Nat) (hn : 1 ≤ n) : CallsIn Fence.wide n Try.prog 81 #[p] w fun e w' => e = .returned (.func (.func 120) #[] #[.pointer (some ⟨w.heap.size, 0, none⟩)]) ∧ w' = w.alloc (.cells #[p] 28) := by
 obtain ⟨a, rfl⟩ := hp
 refine callsIn_of_wp Try.func81 rfl trivial ?_ rfl
 simp only [Try.ntmps81, List.size_toArray, List.length_cons, List.length_nil, Nat.reduceAdd, Nat.reduceSub, Array.replicate_succ, Array.replicate_zero, List.push_toArray, List.append_toArray, List.nil_append, List.cons_append]
 gi_wp2
 go_ret
 exact ⟨rfl, rfl⟩
theorem cell_alloc {w : World} {a : Addr} {v : Value} (h : w.cell? a = some v) (o : Obj) : (w.alloc o).cell? a = some v := by
 rw [World.cell?_of_block (Below.heap_alloc _ _ _ ?_)]
 ·exact h
 ·unfold World.cell? at h
  split at h
  ·rename_i hh; exact (Array.getElem?_eq_some_iff.1 hh).1
  ·cases h
theorem gaps31 (w : World) (r s m : Nat) (es : Array MapEntry) (clock : Nat) (next top : Int) (xs : List Int) (c0 : w.cell? ⟨r, s, none⟩ = some (.map (some m))) (c1 : w.cell? ⟨r, s + 1, none⟩ = some (.int .i64 next)) (c2 : w.cell? ⟨r, s + 2, none⟩ = some (.int .i64 top))
 (hm : w.heap[m]? = some (.map es clock)) (hn0 : -1000000 ≤ next) (ht0 : top ≤ 1000000) (hg : gapsOf es.toList (top - next).toNat next = some xs) (ha : aggs4 es.toList = true) (hl : xs.length ≤ 2000000) :
 CallsIn Fence.wide 20 Try.prog 31 #[.pointer (some ⟨r, s, none⟩)] w fun e w' => ∃ v, e = .returned v ∧ w'.ownsRow w.heap.size 3 1 v xs.length (xs.map encZ) ∧ (v = .slice none 0 0 ↔ xs = []) ∧ Below w.heap.size w w' := by
 refine callsIn_of_wp Try.func31 rfl trivial ?_ rfl
 simp only [Try.ntmps31, List.size_toArray, List.length_cons, List.length_nil, Nat.reduceAdd, Nat.reduceSub, Array.replicate_succ, Array.replicate_zero, List.push_toArray, List.append_toArray, List.nil_append, List.cons_append]
 gi_wp2
 refine ⟨trivial, (gaps81 w _ ⟨_, rfl⟩ _ (by omega)).mono ?_⟩
 rintro e w' ⟨rfl, rfl⟩
 have W0 : GapW (w.alloc (.cells #[.pointer (some ⟨r, s, none⟩)] 28)) w.heap.size r s m es clock next top :=
  ⟨by simp [Addr.add], cell_alloc c0 _, cell_alloc c1 _, cell_alloc c2 _, (Below.heap_alloc _ _ m (Array.getElem?_eq_some_iff.1 hm).1).trans hm⟩
 gi_wp2
 refine ⟨trivial, (collectB (ρ := sorted101_ren) { sorted101 with } Fence.wide _ trivial trivial rfl (by omega) 120 #[.pointer (some ⟨w.heap.size, 0, none⟩)] trivial (enters_of Try.func120 (by kernel_rfl) rfl) xs hl _ (gaps_gives W0 hn0 ht0 hg ha _ (by omega))).mono ?_⟩
 rintro e w' ⟨v, rfl, hrow, hnil, hb⟩
 gi_wp2
 go_ret
 have hA : Below w.heap.size w (w.alloc (.cells #[.pointer (some ⟨r, s, none⟩)] 28)) := (Below.refl _ w).alloc (Nat.le_refl _) _
 have hsz : (w.alloc (.cells #[.pointer (some ⟨r, s, none⟩)] 28)).heap.size = w.heap.size + 1 := by simp
 refine ⟨v, rfl, ⟨hrow.1, ?_⟩, hnil, hA.trans (hb.mono (by omega))⟩
 rcases hrow.2 with h | ⟨g, cap, cur, q1, q2, q3⟩
 ·exact .inl h
 ·exact .inr ⟨g, cap, cur, q1, by omega, q3⟩
theorem gapsOf_len {es : List MapEntry} : ∀ {n : Nat} {next : Int} {xs : List Int}, gapsOf es n next = some xs → xs.length ≤ n
 | 0, _, _, h => by cases h; simp
 | n + 1, next, xs, h => by
  unfold gapsOf at h
  split at h
  ·rename_i l h1 h2; cases h; have := gapsOf_len h2; simp; omega
  ·rename_i p l h1 h2; cases h; have := gapsOf_len h2; omega
  ·cases h
theorem cell_of {w : World} {r s : Nat} {cells : Array Value} {e : TypeId} {fr : Nat × Nat} {v : Value} (h : w.heap[r]? = some (.cells cells e fr)) (hv : cells[s]? = some v) : w.cell? ⟨r, s, none⟩ = some v := by
 simp [World.cell?, h, hv]
theorem gapsIn31 : GapsIn Try.prog 31 := by
 intro w r s m cells e fr es clock next top ss h0 h1 h2 h3 h4 hn ht hg ha
 have hl := gapsOf_len hg
 refine callsIn_wide.1 ((gaps31 w r s m es clock next top ss (cell_of h0 h1) (cell_of h0 h2) (cell_of h0 h3) h4 hn ht hg ha (by omega)).mono ?_)
 rintro e w' ⟨v, rfl, hrow, hnil, hb⟩
 exact ⟨v, 3, rfl, hrow, hnil, hb⟩
end Go.M
namespace Go.M
open Go Go.Proofs
set_option maxRecDepth 1000000
theorem mixed0 : Try.prog.follows .mixedOrders = true := by kernel_rfl
theorem awake14 : Awake Try.prog 14 := awake_of mixed0 (fs := []) (bs := []) (ps := []) (m := 0) (n := 100000) (by kernel_rfl)
theorem awake43 : Awake Try.prog 43 := awake_of mixed0 (fs := []) (bs := []) (ps := []) (m := 0) (n := 100000) (by kernel_rfl)
theorem awake49 : Awake Try.prog 49 := awake_of mixed0 (fs := [101]) (bs := [80]) (ps := [94]) (m := 100000) (n := 100000) (by kernel_rfl)
theorem orcR (base B : Nat) : OrcOk Try.prog (envOf Try.prog (orcW [14, 43, 49] [(101, [123, 134, 127])] [(80, [123, 127])] [(86, minVal), (94, withVal)])) base B := by
 refine orcW_ok (fun g hg => ?_) (fun g its hi k hk => ?_) (fun g its hi k hk => ?_) (fun g val hv => ?_) base B
 ·simp only [List.mem_cons, List.not_mem_nil, or_false] at hg
  rcases hg with rfl | rfl | rfl
  ·exact awake14
  ·exact awake43
  ·exact awake49
 ·simp only [look] at hi
  split at hi
  ·rename_i h
   have h := beq_iff.1 h
   subst h
   cases hi
   simp only [List.mem_cons, List.not_mem_nil, or_false] at hk
   rcases hk with rfl | rfl | rfl
   ·exact sorts101_123
   ·exact sorts101_134
   ·exact sorts101_127
  ·cases hi
 ·simp only [look] at hi
  split at hi
  ·rename_i h
   have h := beq_iff.1 h
   subst h
   cases hi
   simp only [List.mem_cons, List.not_mem_nil, or_false] at hk
   rcases hk with rfl | rfl
   ·exact collects80_123
   ·exact collects80_127
  ·cases hi
 ·simp only [look] at hv
  split at hv
  ·rename_i h
   have h := beq_iff.1 h
   subst h
   cases hv
   exact minBag
  ·split at hv
   ·rename_i h
    have h := beq_iff.1 h
    subst h
    cases hv
    exact withBag
   ·cases hv
theorem orc0 (base B : Nat) : OrcOk Try.prog E0 base B := orcG_ok (fun g hg => by simp only [List.mem_cons, List.not_mem_nil, or_false] at hg; subst hg; exact gapsIn31) orcR base B
end Go.M
