/-
  Part 6 of the library that the proof leans on.
-/
import Derived.Test.YtmbeekloaidcmaaDoorChecked
import Derived.Shelf.Strconv.Itoa3
import Derived.Lib.AppendIntMem
import Derived.Lib.ItoaLen
import Derived.KernelRfl
import Derived.Shelf.Pu.ParseUintPublic10
import Derived.Shelf.LaysM
import Derived.OpenShut
import Derived.ChangeArms
import Derived.Handed
import Derived.Test.YtmbeekloaidcmaaDoorL5
namespace Go.M
open Go Go.Proofs
set_option maxRecDepth 100000
set_option maxHeartbeats 4000000
variable {mx : Int}
theorem parse_noop : VC (E0 mx) 8 0 [.s (.string n0)] [] (RR (.tup [cT4 (parseR n0).1, .s (.int .i64 (parseR n0).2)]) 0 []) := by
 refine VC.enterR (L0 mx) (show (E0 mx).func 8 = some Tryd.f8 by kernel_rfl) (fun _ _ => rfl) rfl rfl [] ?_
 ((conv=>whnf)<;>repeat(with_reducible refine D1 ?_)<;>conv=>whnf)
 refine ⟨[], [], _, _, _, _, name_ok 0 0 [], t3, ?_⟩
 rintro r o' c' ⟨rfl, rfl, rfl⟩
 ((conv=>whnf)<;>repeat(with_reducible refine D1 ?_)<;>conv=>whnf)
 repeat ((first | (refine ⟨fun h_ => ?_, fun h_ => ?_⟩) | (refine nsplit (fun h_ => ?_) (fun h_ => ?_)) | (refine bsplit (fun h_ => ?_) (fun h_ => ?_))) <;> first | (exfalso; revert h_; decide; done) | (exact absurd rfl h_) | (have hz_ := True.intro; clear hz_; ((conv=>whnf)<;>repeat(with_reducible refine D1 ?_)<;>conv=>whnf)))
 exact ⟨[], [], _, _, _, t3, rfl, rfl, rfl⟩
theorem cmdsParse_ok (s : ByteArray) (hs : s.size ≤ 1000) : VC (E0 mx) 8 0 [.s (.string s)] [] (RR (.tup [cT4 (parseR s).1, .s (.int .i64 (parseR s).2)]) 0 []) := by
 by_cases h0 : s = n0
 ·subst h0; exact parse_noop
 ·rw [show parseR s = parseW (wordsB s) from if_neg h0]
  have hpl := wordsB_len s
  have hws : ∀ x ∈ wordsB s, x.size ≤ 1000 := fun x hx => Nat.le_trans (wordsB_size hx) hs
  have hsp := split_ok (mx := mx) s spB (by omega) (by decide)
  rw [pieces_words] at hsp
  by_cases hl : (wordsB s).length = 4
  ·obtain ⟨a, b, c, d, e⟩ := four_of hl
   rw [e] at hsp hws ⊢
   clear hl hpl e
   have sa := hws a (by simp)
   have sb := hws b (by simp)
   have sc := hws c (by simp)
   have sd := hws d (by simp)
   show VC (E0 mx) 8 0 _ [] (RR (.tup [cT4 (parse4 a b c d).1, .s (.int .i64 (parse4 a b c d).2)]) 0 [])
   refine VC.enterR (L0 mx) (show (E0 mx).func 8 = some Tryd.f8 by kernel_rfl) (fun _ _ => rfl) rfl rfl [] ?_
   ((conv=>whnf)<;>repeat(with_reducible refine D1 ?_)<;>conv=>whnf)
   refine ⟨[], [], _, _, _, _, name_ok 0 0 [], t3, ?_⟩
   rintro r o' c' ⟨rfl, rfl, rfl⟩
   ((conv=>whnf)<;>repeat(with_reducible refine D1 ?_)<;>conv=>whnf)
   (first|refine ⟨?_,?_⟩|refine nsplit ?_ ?_|refine bsplit ?_ ?_)<;>intro hq<;>have hz_:=True.intro<;>clear hz_
   ·exact absurd (ba_ext hq) h0
   ·((conv=>whnf)<;>repeat(with_reducible refine D1 ?_)<;>conv=>whnf)
    refine ⟨[], [], _, _, _, _, hsp, t3, ?_⟩
    rintro r o' c' ⟨rfl, rfl, rfl⟩
    ((conv=>whnf)<;>repeat(with_reducible refine D1 ?_)<;>conv=>whnf)
    repeat ((first | (refine ⟨fun h_ => ?_, fun h_ => ?_⟩) | (refine nsplit (fun h_ => ?_) (fun h_ => ?_)) | (refine bsplit (fun h_ => ?_) (fun h_ => ?_))) <;> first | (exfalso; revert h_; decide; done) | (exact absurd rfl h_) | (have hz_ := True.intro; clear hz_; ((conv=>whnf)<;>repeat(with_reducible refine D1 ?_)<;>conv=>whnf)))
    refine ⟨by simp, ?_⟩
    ((conv=>whnf)<;>repeat(with_reducible refine D1 ?_)<;>conv=>whnf)
    refine ⟨[.s (.string b)], rfl, ?_⟩
    ((conv=>whnf)<;>repeat(with_reducible refine D1 ?_)<;>conv=>whnf)
    refine ⟨[], [], _, _, _, _, numText_ok b 4 (by omega) (by omega), t3, ?_⟩
    rintro r o' c' ⟨rfl, rfl, rfl⟩
    ((conv=>whnf)<;>repeat(with_reducible refine D1 ?_)<;>conv=>whnf)
    refine ⟨by simp, ?_⟩
    ((conv=>whnf)<;>repeat(with_reducible refine D1 ?_)<;>conv=>whnf)
    refine ⟨[.s (.string c)], rfl, ?_⟩
    ((conv=>whnf)<;>repeat(with_reducible refine D1 ?_)<;>conv=>whnf)
    refine ⟨[], [], _, _, _, _, numText_ok c mU (by decide) (by omega), t3, ?_⟩
    rintro r o' c' ⟨rfl, rfl, rfl⟩
    ((conv=>whnf)<;>repeat(with_reducible refine D1 ?_)<;>conv=>whnf)
    refine ⟨by simp, ?_⟩
    ((conv=>whnf)<;>repeat(with_reducible refine D1 ?_)<;>conv=>whnf)
    refine ⟨[.s (.string d)], rfl, ?_⟩
    ((conv=>whnf)<;>repeat(with_reducible refine D1 ?_)<;>conv=>whnf)
    refine ⟨[], [], _, _, _, _, numText_ok d 24 (by omega) (by omega), t3, ?_⟩
    rintro r o' c' ⟨rfl, rfl, rfl⟩
    ((conv=>whnf)<;>repeat(with_reducible refine D1 ?_)<;>conv=>whnf)
    refine ⟨by simp, ?_⟩
    ((conv=>whnf)<;>repeat(with_reducible refine D1 ?_)<;>conv=>whnf)
    refine ⟨[.s (.string a)], rfl, ?_⟩
    ((conv=>whnf)<;>repeat(with_reducible refine D1 ?_)<;>conv=>whnf)
    refine ⟨[], [], _, _, _, _, kind_ok a, t3, ?_⟩
    rintro r o' c' ⟨rfl, rfl, rfl⟩
    ((conv=>whnf)<;>repeat(with_reducible refine D1 ?_)<;>conv=>whnf)
    have r1 := numR_le (s := b) (m := 4) (by omega)
    have r3 := numR_le (s := d) (m := 24) (by omega)
    have w1 : IntKind.i64.wrap (numR b 4).1 = (numR b 4).1 := IntWalk.i64_in _ ⟨by omega, by omega⟩
    have w3 : IntKind.i64.wrap (numR d 24).1 = (numR d 24).1 := IntWalk.i64_in _ ⟨by omega, by omega⟩
    have hch : checkS (kindS a) (IntKind.i64.wrap (numR b 4).1) (numR c mU).1 (IntKind.i64.wrap (numR d 24).1) = (cmdOf a b c d).check := by rw [w1, w3]; rfl
    (first|refine ⟨?_,?_⟩|refine nsplit ?_ ?_|refine bsplit ?_ ?_)<;>intro e1<;>have hz_:=True.intro<;>clear hz_
    ·have e1 : (numR b 4).2 ≠ 0 := e1
     rw [show parse4 a b c d = (noCmd, 4) by unfold parse4; rw [if_pos (.inl e1)]]
     ((conv=>whnf)<;>repeat(with_reducible refine D1 ?_)<;>conv=>whnf)
     exact ⟨[], [], _, _, _, t3, rfl, rfl, rfl⟩
    ·have e1 : ¬ (numR b 4).2 ≠ 0 := e1
     ((conv=>whnf)<;>repeat(with_reducible refine D1 ?_)<;>conv=>whnf)
     (first|refine ⟨?_,?_⟩|refine nsplit ?_ ?_|refine bsplit ?_ ?_)<;>intro e2<;>have hz_:=True.intro<;>clear hz_
     ·have e2 : (numR c mU).2 ≠ 0 := e2
      rw [show parse4 a b c d = (noCmd, 4) by unfold parse4; rw [if_pos (.inr (.inl e2))]]
      ((conv=>whnf)<;>repeat(with_reducible refine D1 ?_)<;>conv=>whnf)
      exact ⟨[], [], _, _, _, t3, rfl, rfl, rfl⟩
     ·have e2 : ¬ (numR c mU).2 ≠ 0 := e2
      ((conv=>whnf)<;>repeat(with_reducible refine D1 ?_)<;>conv=>whnf)
      (first|refine ⟨?_,?_⟩|refine nsplit ?_ ?_|refine bsplit ?_ ?_)<;>intro e3<;>have hz_:=True.intro<;>clear hz_
      ·have e3 : (numR d 24).2 ≠ 0 := e3
       rw [show parse4 a b c d = (noCmd, 4) by unfold parse4; rw [if_pos (.inr (.inr (.inl e3)))]]
       ((conv=>whnf)<;>repeat(with_reducible refine D1 ?_)<;>conv=>whnf)
       exact ⟨[], [], _, _, _, t3, rfl, rfl, rfl⟩
      ·have e3 : ¬ (numR d 24).2 ≠ 0 := e3
       ((conv=>whnf)<;>repeat(with_reducible refine D1 ?_)<;>conv=>whnf)
       (first|refine ⟨?_,?_⟩|refine nsplit ?_ ?_|refine bsplit ?_ ?_)<;>intro e4<;>have hz_:=True.intro<;>clear hz_
       ·have e4 : kindS a = 0 := e4
        rw [show parse4 a b c d = (noCmd, 4) by unfold parse4; rw [if_pos (.inr (.inr (.inr (.inl e4))))]]
        ((conv=>whnf)<;>repeat(with_reducible refine D1 ?_)<;>conv=>whnf)
        exact ⟨[], [], _, _, _, t3, rfl, rfl, rfl⟩
       ·have e4 : ¬ kindS a = 0 := e4
        ((conv=>whnf)<;>repeat(with_reducible refine D1 ?_)<;>conv=>whnf)
        refine ⟨[], [], _, _, _, _, check_ok (kindS a) (IntKind.i64.wrap (numR b 4).1) (numR c mU).1 (IntKind.i64.wrap (numR d 24).1), t3, ?_⟩
        rintro r o' c' ⟨rfl, rfl, rfl⟩
        ((conv=>whnf)<;>repeat(with_reducible refine D1 ?_)<;>conv=>whnf)
        (first|refine ⟨?_,?_⟩|refine nsplit ?_ ?_|refine bsplit ?_ ?_)<;>intro e5<;>have hz_:=True.intro<;>clear hz_
        ·have e5 : checkS (kindS a) (IntKind.i64.wrap (numR b 4).1) (numR c mU).1 (IntKind.i64.wrap (numR d 24).1) ≠ 0 := e5
         rw [hch] at e5
         rw [show parse4 a b c d = (noCmd, 4) by unfold parse4; rw [if_pos (.inr (.inr (.inr (.inr e5))))]]
         ((conv=>whnf)<;>repeat(with_reducible refine D1 ?_)<;>conv=>whnf)
         exact ⟨[], [], _, _, _, t3, rfl, rfl, rfl⟩
        ·have e5 : ¬ checkS (kindS a) (IntKind.i64.wrap (numR b 4).1) (numR c mU).1 (IntKind.i64.wrap (numR d 24).1) ≠ 0 := e5
         rw [hch] at e5
         rw [show parse4 a b c d = (cmdOf a b c d, 0) by unfold parse4; rw [if_neg]; rw [not_or, not_or, not_or, not_or]; exact ⟨e1, e2, e3, e4, e5⟩]
         ((conv=>whnf)<;>repeat(with_reducible refine D1 ?_)<;>conv=>whnf)
         refine ⟨[], [], ?_⟩
         iterate 3 constructor
         refine ⟨⟨?_, ?_, ?_⟩, rfl, rfl, rfl⟩
         all_goals (repeat' first|with_reducible exact Lz.rfl|exact Lw.rfl|exact Lz.wrap (by omega)|(unfold goInt;with_reducible exact Lz.rfl)|exact flx _|constructor)
         all_goals first | exact Lz.of (congrArg _ w1) | exact Lz.of (congrArg _ w3) | trace_state
  ·rw [parseW_no hl]
   refine VC.enterR (L0 mx) (show (E0 mx).func 8 = some Tryd.f8 by kernel_rfl) (fun _ _ => rfl) rfl rfl [] ?_
   ((conv=>whnf)<;>repeat(with_reducible refine D1 ?_)<;>conv=>whnf)
   refine ⟨[], [], _, _, _, _, name_ok 0 0 [], t3, ?_⟩
   rintro r o' c' ⟨rfl, rfl, rfl⟩
   ((conv=>whnf)<;>repeat(with_reducible refine D1 ?_)<;>conv=>whnf)
   (first|refine ⟨?_,?_⟩|refine nsplit ?_ ?_|refine bsplit ?_ ?_)<;>intro hq<;>have hz_:=True.intro<;>clear hz_
   ·exact absurd (ba_ext hq) h0
   ·((conv=>whnf)<;>repeat(with_reducible refine D1 ?_)<;>conv=>whnf)
    refine ⟨[], [], _, _, _, _, hsp, t3, ?_⟩
    rintro r o' c' ⟨rfl, rfl, rfl⟩
    ((conv=>whnf)<;>repeat(with_reducible refine D1 ?_)<;>conv=>whnf)
    (first|refine ⟨?_,?_⟩|refine nsplit ?_ ?_|refine bsplit ?_ ?_)<;>intro h4<;>have hz_:=True.intro<;>clear hz_
    ·((conv=>whnf)<;>repeat(with_reducible refine D1 ?_)<;>conv=>whnf)
     exact ⟨[], [], _, _, _, t3, rfl, rfl, rfl⟩
    ·have h4 : ¬ (((((wordsB s).map fun x => [TV.s (.string x)]).length : Nat) : Int) ≠ 4) := h4
     rw [List.length_map] at h4
     omega
theorem refParse_noop : VC (E0 mx) 9 0 [.s (.string n0)] [] (RR (.tup [cT4 (parseR n0).1, .s (.int .i64 (parseR n0).2)]) 0 []) := by
 refine VC.enterR (L0 mx) (show (E0 mx).func 9 = some Tryd.f9 by kernel_rfl) (fun _ _ => rfl) rfl rfl [] ?_
 ((conv=>whnf)<;>repeat(with_reducible refine D1 ?_)<;>conv=>whnf)
 repeat ((first | (refine ⟨fun h_ => ?_, fun h_ => ?_⟩) | (refine nsplit (fun h_ => ?_) (fun h_ => ?_)) | (refine bsplit (fun h_ => ?_) (fun h_ => ?_))) <;> first | (exfalso; revert h_; decide; done) | (exact absurd rfl h_) | (have hz_ := True.intro; clear hz_; ((conv=>whnf)<;>repeat(with_reducible refine D1 ?_)<;>conv=>whnf)))
 exact ⟨[], [], _, _, _, t3, rfl, rfl, rfl⟩
theorem refParse_ok (s : ByteArray) (hs : s.size ≤ 1000) : VC (E0 mx) 9 0 [.s (.string s)] [] (RR (.tup [cT4 (parseR s).1, .s (.int .i64 (parseR s).2)]) 0 []) := by
 by_cases h0 : s = n0
 ·subst h0; exact refParse_noop
 ·have hpr : parseR s = parseW (wordsB s) := if_neg h0
  have hpl := wordsB_len s
  have hws : ∀ x ∈ wordsB s, x.size ≤ 1000 := fun x hx => Nat.le_trans (wordsB_size hx) hs
  have hsp := words_ok (mx := mx) s (by omega)
  by_cases hl : (wordsB s).length = 4
  ·obtain ⟨a, b, c, d, e⟩ := four_of hl
   have e' := e
   rw [e] at hsp hws hpr
   clear hl hpl
   have sa := hws a (by simp)
   have sb := hws b (by simp)
   have sc := hws c (by simp)
   have sd := hws d (by simp)
   have hpr : parseR s = parse4 a b c d := hpr
   refine VC.enterR (L0 mx) (show (E0 mx).func 9 = some Tryd.f9 by kernel_rfl) (fun _ _ => rfl) rfl rfl [] ?_
   ((conv=>whnf)<;>repeat(with_reducible refine D1 ?_)<;>conv=>whnf)
   (first|refine ⟨?_,?_⟩|refine nsplit ?_ ?_|refine bsplit ?_ ?_)<;>intro hq<;>have hz_:=True.intro<;>clear hz_
   ·exact absurd (ba_ext hq) h0
   ·((conv=>whnf)<;>repeat(with_reducible refine D1 ?_)<;>conv=>whnf)
    refine ⟨[], [], _, _, _, _, hsp, t3, ?_⟩
    rintro r o' c' ⟨rfl, rfl, rfl⟩
    ((conv=>whnf)<;>repeat(with_reducible refine D1 ?_)<;>conv=>whnf)
    repeat ((first | (refine ⟨fun h_ => ?_, fun h_ => ?_⟩) | (refine nsplit (fun h_ => ?_) (fun h_ => ?_)) | (refine bsplit (fun h_ => ?_) (fun h_ => ?_))) <;> first | (exfalso; revert h_; decide; done) | (exact absurd rfl h_) | (have hz_ := True.intro; clear hz_; ((conv=>whnf)<;>repeat(with_reducible refine D1 ?_)<;>conv=>whnf)))
    refine ⟨by simp, ?_⟩
    ((conv=>whnf)<;>repeat(with_reducible refine D1 ?_)<;>conv=>whnf)
    refine ⟨[.s (.string b)], rfl, ?_⟩
    ((conv=>whnf)<;>repeat(with_reducible refine D1 ?_)<;>conv=>whnf)
    refine ⟨[], [], _, _, _, _, refNumber_ok b 255 (by omega) (by omega), t3, ?_⟩
    rintro r o' c' ⟨rfl, rfl, rfl⟩
    ((conv=>whnf)<;>repeat(with_reducible refine D1 ?_)<;>conv=>whnf)
    refine ⟨by simp, ?_⟩
    ((conv=>whnf)<;>repeat(with_reducible refine D1 ?_)<;>conv=>whnf)
    refine ⟨[.s (.string c)], rfl, ?_⟩
    ((conv=>whnf)<;>repeat(with_reducible refine D1 ?_)<;>conv=>whnf)
    refine ⟨[], [], _, _, _, _, refNumber_ok c mU (by decide) (by omega), t3, ?_⟩
    rintro r o' c' ⟨rfl, rfl, rfl⟩
    ((conv=>whnf)<;>repeat(with_reducible refine D1 ?_)<;>conv=>whnf)
    refine ⟨by simp, ?_⟩
    ((conv=>whnf)<;>repeat(with_reducible refine D1 ?_)<;>conv=>whnf)
    refine ⟨[.s (.string d)], rfl, ?_⟩
    ((conv=>whnf)<;>repeat(with_reducible refine D1 ?_)<;>conv=>whnf)
    refine ⟨[], [], _, _, _, _, refNumber_ok d 255 (by omega) (by omega), t3, ?_⟩
    rintro r o' c' ⟨rfl, rfl, rfl⟩
    ((conv=>whnf)<;>repeat(with_reducible refine D1 ?_)<;>conv=>whnf)
    have r1 := numR_le (s := b) (m := 255) (by omega)
    have r3 := numR_le (s := d) (m := 255) (by omega)
    have hep := numR_range c mU
    have w1 : IntKind.i64.wrap (numR b 255).1 = (numR b 255).1 := IntWalk.i64_in _ ⟨by omega, by omega⟩
    have w3 : IntKind.i64.wrap (numR d 255).1 = (numR d 255).1 := IntWalk.i64_in _ ⟨by omega, by omega⟩
    (first|refine ⟨?_,?_⟩|refine nsplit ?_ ?_|refine bsplit ?_ ?_)<;>intro e1<;>have hz_:=True.intro<;>clear hz_
    ·have e1 : (numR b 255).2 ≠ 0 := e1
     rw [hpr, show parse4 a b c d = (noCmd, 4) by unfold parse4; rw [if_pos (.inl (numR_wide (by omega) e1))]]
     ((conv=>whnf)<;>repeat(with_reducible refine D1 ?_)<;>conv=>whnf)
     exact ⟨[], [], _, _, _, t3, rfl, rfl, rfl⟩
    ·have e1 : ¬ (numR b 255).2 ≠ 0 := e1
     ((conv=>whnf)<;>repeat(with_reducible refine D1 ?_)<;>conv=>whnf)
     (first|refine ⟨?_,?_⟩|refine nsplit ?_ ?_|refine bsplit ?_ ?_)<;>intro e2<;>have hz_:=True.intro<;>clear hz_
     ·have e2 : (numR c mU).2 ≠ 0 := e2
      rw [hpr, show parse4 a b c d = (noCmd, 4) by unfold parse4; rw [if_pos (.inr (.inl e2))]]
      ((conv=>whnf)<;>repeat(with_reducible refine D1 ?_)<;>conv=>whnf)
      exact ⟨[], [], _, _, _, t3, rfl, rfl, rfl⟩
     ·have e2 : ¬ (numR c mU).2 ≠ 0 := e2
      ((conv=>whnf)<;>repeat(with_reducible refine D1 ?_)<;>conv=>whnf)
      (first|refine ⟨?_,?_⟩|refine nsplit ?_ ?_|refine bsplit ?_ ?_)<;>intro e3<;>have hz_:=True.intro<;>clear hz_
      ·have e3 : (numR d 255).2 ≠ 0 := e3
       rw [hpr, show parse4 a b c d = (noCmd, 4) by unfold parse4; rw [if_pos (.inr (.inr (.inl (numR_wide (by omega) e3))))]]
       ((conv=>whnf)<;>repeat(with_reducible refine D1 ?_)<;>conv=>whnf)
       exact ⟨[], [], _, _, _, t3, rfl, rfl, rfl⟩
      ·have e3 : ¬ (numR d 255).2 ≠ 0 := e3
       ((conv=>whnf)<;>repeat(with_reducible refine D1 ?_)<;>conv=>whnf)
       generalize hC : (numR b 255).1 = ch at r1 w1
       generalize hE : (numR c mU).1 = ep at hep
       generalize hN : (numR d 255).1 = nd at r3 w3
       have hnone : (∀ j : Nat, 1 ≤ j → j < 5 → ¬ ((⟨(j : Int), ch, ep, nd⟩ : Cmd).check = 0 ∧ textS ⟨(j : Int), ch, ep, nd⟩ = s)) → parseR s = (noCmd, 4) := fun hj => by
        rw [hpr]
        by_cases hz : (parse4 a b c d).2 = 0
        ·obtain ⟨q1, q2, q3, q4⟩ := parse4_text e' hz
         have h4 : (numR b 4).2 = 0 ∧ (numR d 24).2 = 0 := by
          unfold parse4 at hz
          split at hz
          ·cases hz
          ·rename_i hn
           rw [not_or, not_or, not_or, not_or] at hn
           exact ⟨Decidable.of_not_not hn.1, Decidable.of_not_not hn.2.2.1⟩
         rw [q4] at q1 q2 q3
         have hkk := (check_fields (c := cmdOf a b c d) (numR_range c mU).1 q1).1
         have q2 : ¬ (cmdOf a b c d).kind = 0 := q2
         have hc : cmdOf a b c d = ⟨(((cmdOf a b c d).kind.toNat : Nat) : Int), ch, ep, nd⟩ := by
          refine Cmd.ext' (by show (cmdOf a b c d).kind = (((cmdOf a b c d).kind.toNat : Nat) : Int); omega) ?_ hE ?_
          ·show (numR b 4).1 = ch
           rw [← hC, numR_same (m := 4) (n := 255) (by omega) h4.1]
          ·show (numR d 24).1 = nd
           rw [← hN, numR_same (m := 24) (n := 255) (by omega) h4.2]
         rw [hc] at q1 q3
         exact absurd ⟨q1, q3⟩ (hj (cmdOf a b c d).kind.toNat (by omega) (by omega))
        ·unfold parse4 at hz ⊢
         split
         ·rfl
         ·rename_i hn
          rw [if_neg hn] at hz
          exact absurd rfl hz
       refine ⟨fun k f o cc => ∃ i : Nat, (1 ≤ i ∧ i ≤ 5) ∧ k = 5 - i ∧ cc = 1 ∧ (∀ j : Nat, 1 ≤ j → j < i → ¬ ((⟨(j : Int), ch, ep, nd⟩ : Cmd).check = 0 ∧ textS ⟨(j : Int), ch, ep, nd⟩ = s)) ∧
        f = [(0, .s (.string s)), (2, .ptr 0 0), (5, .s (.int .u64 ch)), (7, .s (.int .u64 ep)), (9, .s (.int .u64 nd)), (11, .s (.int .i64 i))] ∧ o = [(0, .cells [.s (.int .i64 0), .s (.int .i64 0), .s (.int .u64 0), .s (.int .i64 0)])], ⟨4, ?_⟩, ?_⟩
       ·exact ⟨[], [some 0], _, _, _, t3, ⟨1, ⟨by omega, by omega⟩, rfl, rfl, (fun j h1 h2 => by omega), rfl, rfl⟩⟩
       ·rintro k f1 o1 c1 ⟨i, ⟨hi1, hi5⟩, rfl, rfl, hj, rfl, rfl⟩
        have hchk : checkS i (IntKind.i64.wrap ch) ep (IntKind.i64.wrap nd) = (⟨(i : Int), ch, ep, nd⟩ : Cmd).check := by rw [w1, w3]; rfl
        have hcc : (⟨(i : Int), IntKind.i64.wrap ch, ep, IntKind.i64.wrap nd⟩ : Cmd) = ⟨(i : Int), ch, ep, nd⟩ := by rw [w1, w3]
        ((conv=>whnf)<;>repeat(with_reducible refine D1 ?_)<;>conv=>whnf)
        (first|refine ⟨?_,?_⟩|refine nsplit ?_ ?_|refine bsplit ?_ ?_)<;>intro h<;>have hz_:=True.intro<;>clear hz_
        ·have h : (i : Int) ≤ 4 := h
         ((conv=>whnf)<;>repeat(with_reducible refine D1 ?_)<;>conv=>whnf)
         refine ⟨[], [], _, _, _, _, refCheck_ok i (IntKind.i64.wrap ch) ep (IntKind.i64.wrap nd) hep.1, t3, ?_⟩
         rintro r o' c' ⟨rfl, rfl, rfl⟩
         ((conv=>whnf)<;>repeat(with_reducible refine D1 ?_)<;>conv=>whnf)
         (first|refine ⟨?_,?_⟩|refine nsplit ?_ ?_|refine bsplit ?_ ?_)<;>intro h5<;>have hz_:=True.intro<;>clear hz_
         ·have h5 : checkS i (IntKind.i64.wrap ch) ep (IntKind.i64.wrap nd) = 0 := h5
          rw [hchk] at h5
          ((conv=>whnf)<;>repeat(with_reducible refine D1 ?_)<;>conv=>whnf)
          refine ⟨[], [], _, _, _, _, refText_ok ⟨(i : Int), IntKind.i64.wrap ch, ep, IntKind.i64.wrap nd⟩ hep (by rw [hcc]; exact h5), t3, ?_⟩
          rintro r o' c' ⟨rfl, rfl, rfl⟩
          ((conv=>whnf)<;>repeat(with_reducible refine D1 ?_)<;>conv=>whnf)
          (first|refine ⟨?_,?_⟩|refine nsplit ?_ ?_|refine bsplit ?_ ?_)<;>intro h6<;>have hz_:=True.intro<;>clear hz_
          ·have h6 : textS ⟨(i : Int), IntKind.i64.wrap ch, ep, IntKind.i64.wrap nd⟩ = s := ba_ext h6
           rw [hcc] at h6
           rw [show parseR s = (⟨(i : Int), ch, ep, nd⟩, 0) by rw [← h6]; exact parseR_of_text hep h5]
           ((conv=>whnf)<;>repeat(with_reducible refine D1 ?_)<;>conv=>whnf)
           refine ⟨[], [], ?_⟩
           iterate 3 constructor
           refine ⟨⟨?_, ?_, ?_⟩, rfl, rfl, rfl⟩
           all_goals (repeat' first|with_reducible exact Lz.rfl|exact Lw.rfl|exact Lz.wrap (by omega)|(unfold goInt;with_reducible exact Lz.rfl)|exact flx _|constructor)
           all_goals first | exact Lz.of (congrArg _ w1) | exact Lz.of (congrArg _ w3) | trace_state
          ·have h6 : ¬ textS ⟨(i : Int), IntKind.i64.wrap ch, ep, IntKind.i64.wrap nd⟩ = s := fun e => h6 (congrArg (fun b : ByteArray => b.data.toList) e)
           rw [hcc] at h6
           ((conv=>whnf)<;>repeat(with_reducible refine D1 ?_)<;>conv=>whnf)
           refine ⟨5 - (i + 1), ?_, by omega⟩
           exact ⟨[], [some 0], _, _, _, t3, ⟨i + 1, ⟨by omega, by omega⟩, rfl, rfl, (fun j q1 q2 => by by_cases ej : j = i; exact (by rw [ej]; exact fun q => h6 q.2); exact hj j q1 (by omega)), rfl, rfl⟩⟩
         ·have h5 : ¬ checkS i (IntKind.i64.wrap ch) ep (IntKind.i64.wrap nd) = 0 := h5
          rw [hchk] at h5
          ((conv=>whnf)<;>repeat(with_reducible refine D1 ?_)<;>conv=>whnf)
          refine ⟨5 - (i + 1), ?_, by omega⟩
          exact ⟨[], [some 0], _, _, _, t3, ⟨i + 1, ⟨by omega, by omega⟩, rfl, rfl, (fun j q1 q2 => by by_cases ej : j = i; exact (by rw [ej]; exact fun q => h5 q.1); exact hj j q1 (by omega)), rfl, rfl⟩⟩
        ·have h : ¬ (i : Int) ≤ 4 := h
         rw [hnone fun j q1 q2 => hj j q1 (by omega)]
         ((conv=>whnf)<;>repeat(with_reducible refine D1 ?_)<;>conv=>whnf)
         exact ⟨[], [], _, _, _, t3, rfl, rfl, rfl⟩
  ·rw [hpr, parseW_no hl]
   refine VC.enterR (L0 mx) (show (E0 mx).func 9 = some Tryd.f9 by kernel_rfl) (fun _ _ => rfl) rfl rfl [] ?_
   ((conv=>whnf)<;>repeat(with_reducible refine D1 ?_)<;>conv=>whnf)
   (first|refine ⟨?_,?_⟩|refine nsplit ?_ ?_|refine bsplit ?_ ?_)<;>intro hq<;>have hz_:=True.intro<;>clear hz_
   ·exact absurd (ba_ext hq) h0
   ·((conv=>whnf)<;>repeat(with_reducible refine D1 ?_)<;>conv=>whnf)
    refine ⟨[], [], _, _, _, _, hsp, t3, ?_⟩
    rintro r o' c' ⟨rfl, rfl, rfl⟩
    ((conv=>whnf)<;>repeat(with_reducible refine D1 ?_)<;>conv=>whnf)
    (first|refine ⟨?_,?_⟩|refine nsplit ?_ ?_|refine bsplit ?_ ?_)<;>intro h4<;>have hz_:=True.intro<;>clear hz_
    ·((conv=>whnf)<;>repeat(with_reducible refine D1 ?_)<;>conv=>whnf)
     exact ⟨[], [], _, _, _, t3, rfl, rfl, rfl⟩
    ·have h4 : ¬ (((((wordsB s).map encS).length : Nat) : Int) ≠ 4) := h4
     rw [List.length_map] at h4
     omega
end Go.M
namespace Go.M
open Go Go.Proofs
set_option maxRecDepth 100000
set_option maxHeartbeats 4000000
variable {mx : Int}
theorem parseR_or (s : ByteArray) : (parseR s).2 = 0 ∨ parseR s = (noCmd, 4) := by
 unfold parseR
 split
 ·exact .inl rfl
 ·by_cases hl : (wordsB s).length = 4
  ·obtain ⟨a, b, c, d, e⟩ := four_of hl
   rw [e]
   show (parse4 a b c d).2 = 0 ∨ _
   unfold parse4
   split
   ·rename_i h
    exact .inr (by show parse4 a b c d = _; unfold parse4; rw [if_pos h])
   ·exact .inl rfl
  ·exact .inr (parseW_no hl)
theorem parseR_check (s : ByteArray) : (parseR s).1.check = 0 := by
 rcases parseR_or s with h | h
 ·exact (parseR_text h).1
 ·rw [h]; rfl
theorem parseR_epoch (s : ByteArray) : 0 ≤ (parseR s).1.epoch ∧ (parseR s).1.epoch < 18446744073709551616 := by
 unfold parseR
 split
 ·show (0 : Int) ≤ 0 ∧ (0 : Int) < _
  omega
 ·by_cases hl : (wordsB s).length = 4
  ·obtain ⟨a, b, c, d, e⟩ := four_of hl
   rw [e]
   show 0 ≤ (parse4 a b c d).1.epoch ∧ (parse4 a b c d).1.epoch < _
   unfold parse4
   split
   ·show (0 : Int) ≤ 0 ∧ (0 : Int) < _
    omega
   ·exact numR_range c mU
  ·rw [parseW_no hl]
   show (0 : Int) ≤ 0 ∧ (0 : Int) < _
   omega
theorem cmdsParses_ok (s : ByteArray) (m : Int) (hm : 0 ≤ m ∧ m < 18446744073709551616) : VC (E0 mx) 3 0 [.s (.string s), .s (.int .u64 m)] [] (fun r _ _ => r = .s (.bool true)) := by
 refine VC.enterR (L0 mx) (show (E0 mx).func 3 = some Tryd.f3 by kernel_rfl) (fun _ _ => rfl) rfl rfl [] ?_
 ((conv=>whnf)<;>repeat(with_reducible refine D1 ?_)<;>conv=>whnf)
 (first|refine ⟨?_,?_⟩|refine nsplit ?_ ?_|refine bsplit ?_ ?_)<;>intro h1<;>have hz_:=True.intro<;>clear hz_
 ·((conv=>whnf)<;>repeat(with_reducible refine D1 ?_)<;>conv=>whnf)
  refine ⟨[], [], _, _, _, _, awake_r, t3, ?_⟩
  rintro r o' c' ⟨rfl, rfl, rfl⟩
  ((conv=>whnf)<;>repeat(with_reducible refine D1 ?_)<;>conv=>whnf)
  exact ⟨[], [], [], .s (.bool true), [], ⟨.s Lz.rfl, .nil, rfl⟩, rfl⟩
 ·have h1 : ¬ (s.size : Int) > 100 := h1
  ((conv=>whnf)<;>repeat(with_reducible refine D1 ?_)<;>conv=>whnf)
  refine ⟨[], [], _, _, _, _, cmdsParse_ok s (by omega), t3, ?_⟩
  rintro r o' c' ⟨rfl, rfl, rfl⟩
  ((conv=>whnf)<;>repeat(with_reducible refine D1 ?_)<;>conv=>whnf)
  refine ⟨[], [], _, _, _, _, refParse_ok s (by omega), t3, ?_⟩
  rintro r o' c' ⟨rfl, rfl, rfl⟩
  ((conv=>whnf)<;>repeat(with_reducible refine D1 ?_)<;>conv=>whnf)
  refine ⟨[], [], _, _, _, _, numText_ok s m hm (by omega), t3, ?_⟩
  rintro r o' c' ⟨rfl, rfl, rfl⟩
  ((conv=>whnf)<;>repeat(with_reducible refine D1 ?_)<;>conv=>whnf)
  refine ⟨[], [], _, _, _, _, refNumber_ok s m hm (by omega), t3, ?_⟩
  rintro r o' c' ⟨rfl, rfl, rfl⟩
  ((conv=>whnf)<;>repeat(with_reducible refine D1 ?_)<;>conv=>whnf)
  refine ⟨[], [], _, _, _, _, text_ok (parseR s).1 (parseR_epoch s) (parseR_check s), t3, ?_⟩
  rintro r o' c' ⟨rfl, rfl, rfl⟩
  ((conv=>whnf)<;>repeat(with_reducible refine D1 ?_)<;>conv=>whnf)
  (first|refine ⟨?_,?_⟩|refine nsplit ?_ ?_|refine bsplit ?_ ?_)<;>intro e1<;>have hz_:=True.intro<;>clear hz_
  ·((conv=>whnf)<;>repeat(with_reducible refine D1 ?_)<;>conv=>whnf)
   (first|refine ⟨?_,?_⟩|refine nsplit ?_ ?_|refine bsplit ?_ ?_)<;>intro e2<;>have hz_:=True.intro<;>clear hz_
   ·((conv=>whnf)<;>repeat(with_reducible refine D1 ?_)<;>conv=>whnf)
    (first|refine ⟨?_,?_⟩|refine nsplit ?_ ?_|refine bsplit ?_ ?_)<;>intro e3<;>have hz_:=True.intro<;>clear hz_
    ·((conv=>whnf)<;>repeat(with_reducible refine D1 ?_)<;>conv=>whnf)
     (first|refine ⟨?_,?_⟩|refine nsplit ?_ ?_|refine bsplit ?_ ?_)<;>intro e4<;>have hz_:=True.intro<;>clear hz_
     ·((conv=>whnf)<;>repeat(with_reducible refine D1 ?_)<;>conv=>whnf)
      (first|refine ⟨?_,?_⟩|refine nsplit ?_ ?_|refine bsplit ?_ ?_)<;>intro e5<;>have hz_:=True.intro<;>clear hz_
      ·((conv=>whnf)<;>repeat(with_reducible refine D1 ?_)<;>conv=>whnf)
       refine ⟨[], [], _, _, _, _, awake_r, t3, ?_⟩
       rintro r o' c' ⟨rfl, rfl, rfl⟩
       ((conv=>whnf)<;>repeat(with_reducible refine D1 ?_)<;>conv=>whnf)
       exact ⟨[], [], [], .s (.bool true), [], ⟨.s Lz.rfl, .nil, rfl⟩, rfl⟩
      ·have e5 : ¬ (parseR s).2 ≠ 0 := e5
       have ht := (parseR_text (Decidable.of_not_not e5)).2
       ((conv=>whnf)<;>repeat(with_reducible refine D1 ?_)<;>conv=>whnf)
       (first|refine ⟨?_,?_⟩|refine nsplit ?_ ?_|refine bsplit ?_ ?_)<;>intro e6<;>have hz_:=True.intro<;>clear hz_
       ·((conv=>whnf)<;>repeat(with_reducible refine D1 ?_)<;>conv=>whnf)
        refine ⟨[], [], _, _, _, _, awake_r, t3, ?_⟩
        rintro r o' c' ⟨rfl, rfl, rfl⟩
        ((conv=>whnf)<;>repeat(with_reducible refine D1 ?_)<;>conv=>whnf)
        exact ⟨[], [], [], .s (.bool true), [], ⟨.s Lz.rfl, .nil, rfl⟩, rfl⟩
       ·exact absurd (congrArg (fun b : ByteArray => b.data.toList) ht) e6
     ·exact absurd rfl e4
    ·exact absurd rfl e3
   ·exact absurd rfl e2
  ·exfalso; revert e1; simp [veq1]
end Go.M
namespace Go.M
open Go Go.Proofs
set_option maxRecDepth 100000
set_option maxHeartbeats 4000000
variable {mx : Int}
theorem raw_byte {s : InS} (hb : ∀ x ∈ s.b, 0 ≤ x ∧ x < 256) : ∀ x ∈ (s.raw 11).2, 0 ≤ x ∧ x < 256 := by
 unfold InS.raw
 have := (InS.next_bytes (n := 11) hb).2
 cases hq : (s.next 11).2 with
 | none => simp
 | some l => exact this l hq
theorem raw_short {s : InS} : (s.raw 11).2.length ≤ 11 := by
 unfold InS.raw
 cases hq : (s.next 11).2 with
 | none => simp
 | some l => have := InS.next_len hq; show l.length ≤ _; omega
theorem InS.get_byte {s : InS} (hb : ∀ x ∈ s.b, 0 ≤ x ∧ x < 256) : 0 ≤ (s.get 1).2 ∧ (s.get 1).2 < 256 := ⟨InS.upto_range.1, InS.get1_lt hb⟩
theorem cmdGet_ok (s : InS) (hb : ∀ x ∈ s.b, 0 ≤ x ∧ x < 256) : VC (E0 mx) 22 1 [.ptr 0 0] [(0, InO s)] (RR (.tup [cT4 (getCmd s).c, .s (.int .i64 (getCmd s).e)]) 1 [(0, InO (getCmd s).s)]) := by
 have hr := raw_ok (mx := mx) s 11 (by decide)
 have hby := raw_byte hb
 have hsh := raw_short (s := s)
 have hl := fun h => raw11 (s := s) h
 unfold getCmd
 generalize hq : s.raw 11 = q at *
 obtain ⟨t, bs⟩ := q
 dsimp only at hby hsh hl ⊢
 refine VC.enterR (L0 mx) (show (E0 mx).func 22 = some Tryd.f22 by kernel_rfl) (fun _ _ => rfl) rfl rfl [] ?_
 ((conv=>whnf)<;>repeat(with_reducible refine D1 ?_)<;>conv=>whnf)
 refine ⟨[], [some 0], _, _, _, _, hr, t3, ?_⟩
 rintro r o' c' ⟨rfl, rfl, rfl⟩
 ((conv=>whnf)<;>repeat(with_reducible refine D1 ?_)<;>conv=>whnf)
 refine ⟨[], [], _, _, _, _, of_ok bs (by omega), t3, ?_⟩
 rintro r o' c' ⟨rfl, rfl, rfl⟩
 ((conv=>whnf)<;>repeat(with_reducible refine D1 ?_)<;>conv=>whnf)
 refine ⟨[], [some 0], _, _, _, _, err_ok t, t3, ?_⟩
 rintro r o' c' ⟨rfl, rfl, rfl⟩
 ((conv=>whnf)<;>repeat(with_reducible refine D1 ?_)<;>conv=>whnf)
 (first|refine ⟨?_,?_⟩|refine nsplit ?_ ?_|refine bsplit ?_ ?_)<;>intro he<;>have hz_:=True.intro<;>clear hz_
 ·have he : t.e ≠ 0 := he
  rw [if_pos he]
  ((conv=>whnf)<;>repeat(with_reducible refine D1 ?_)<;>conv=>whnf)
  exact ⟨[], [some 0], _, _, _, t3, rfl, rfl, rfl⟩
 ·have he : ¬ t.e ≠ 0 := he
  have he0 : t.e = 0 := by omega
  rw [if_neg he]
  ((conv=>whnf)<;>repeat(with_reducible refine D1 ?_)<;>conv=>whnf)
  obtain ⟨r1, r2, r3, e1, e2, e3, e4, b1, b2, b3⟩ := read11 bs (hl he0).1 hby
  have q1 := get_ok (mx := mx) ⟨bs, 0⟩ 1 (by decide) (by decide) hby
  have q2 := get_ok (mx := mx) ⟨r1, 0⟩ 1 (by decide) (by decide) b1
  have q3 := get_ok (mx := mx) ⟨r2, 0⟩ 8 (by decide) (by decide) b2
  have q4 := get_ok (mx := mx) ⟨r3, 0⟩ 1 (by decide) (by decide) b3
  rw [e1] at q1
  rw [e2] at q2
  rw [e3] at q3
  rw [e4] at q4
  have ho := ofB_epoch bs
  have k1 : 0 ≤ (ofB bs).kind ∧ (ofB bs).kind < 256 := by
   have := e1 ▸ (InS.get_byte (s := ⟨bs, 0⟩) hby); exact this
  have k2 : 0 ≤ (ofB bs).chain ∧ (ofB bs).chain < 256 := by
   have := e2 ▸ (InS.get_byte (s := ⟨r1, 0⟩) b1); exact this
  have k4 : 0 ≤ (ofB bs).node ∧ (ofB bs).node < 256 := by
   have := e4 ▸ (InS.get_byte (s := ⟨r3, 0⟩) b3); exact this
  have hck := check_ok (mx := mx) (ofB bs).kind (ofB bs).chain (ofB bs).epoch (ofB bs).node
  have hcd : (ofB bs).check = checkS (ofB bs).kind (ofB bs).chain (ofB bs).epoch (ofB bs).node := rfl
  rw [hcd]
  generalize hc : ofB bs = c at *
  refine ⟨[], [some 3], _, _, _, _, q1, t3, ?_⟩
  rintro r o' c' ⟨rfl, rfl, rfl⟩
  ((conv=>whnf)<;>repeat(with_reducible refine D1 ?_)<;>conv=>whnf)
  refine ⟨[], [some 3], _, _, _, _, q2, t3, ?_⟩
  rintro r o' c' ⟨rfl, rfl, rfl⟩
  ((conv=>whnf)<;>repeat(with_reducible refine D1 ?_)<;>conv=>whnf)
  refine ⟨[], [some 3], _, _, _, _, q3, t3, ?_⟩
  rintro r o' c' ⟨rfl, rfl, rfl⟩
  ((conv=>whnf)<;>repeat(with_reducible refine D1 ?_)<;>conv=>whnf)
  refine ⟨[], [some 3], _, _, _, _, q4, t3, ?_⟩
  rintro r o' c' ⟨rfl, rfl, rfl⟩
  ((conv=>whnf)<;>repeat(with_reducible refine D1 ?_)<;>conv=>whnf)
  refine ⟨[], [], _, _, _, _, hck, ⟨by ((repeat' first|with_reducible exact Lz.rfl|exact Lw.rfl|exact Lz.wrap (by omega)|(unfold goInt;with_reducible exact Lz.rfl)|exact flx _|constructor); all_goals (first | exact Lz.int (wrapI k1) | exact Lz.int (wrapI k2) | exact Lz.int (wrapI k4))), by ((repeat' first|with_reducible exact Lz.rfl|exact Lw.rfl|exact Lz.wrap (by omega)|(unfold goInt;with_reducible exact Lz.rfl)|exact flx _|constructor); all_goals (first | exact Lz.int (wrapI k1) | exact Lz.int (wrapI k2) | exact Lz.int (wrapI k4))), by rfl⟩, ?_⟩
  rintro r o' c' ⟨rfl, rfl, rfl⟩
  ((conv=>whnf)<;>repeat(with_reducible refine D1 ?_)<;>conv=>whnf)
  (first|refine ⟨?_,?_⟩|refine nsplit ?_ ?_|refine bsplit ?_ ?_)<;>intro h4<;>have hz_:=True.intro<;>clear hz_
  ·have h4 : checkS c.kind c.chain c.epoch c.node ≠ 0 := h4
   rw [if_pos h4]
   ((conv=>whnf)<;>repeat(with_reducible refine D1 ?_)<;>conv=>whnf)
   exact ⟨[], [some 0], _, _, _, t3, rfl, rfl, rfl⟩
  ·have h4 : ¬ checkS c.kind c.chain c.epoch c.node ≠ 0 := h4
   rw [if_neg h4]
   ((conv=>whnf)<;>repeat(with_reducible refine D1 ?_)<;>conv=>whnf)
   refine ⟨[], [some 0], ?_⟩
   iterate 3 constructor
   refine ⟨⟨?_, ?_, ?_⟩, rfl, rfl, rfl⟩
   all_goals (repeat' first|with_reducible exact Lz.rfl|exact Lw.rfl|exact Lz.wrap (by omega)|(unfold goInt;with_reducible exact Lz.rfl)|exact flx _|constructor)
   all_goals first | exact Lz.int (wrapI k1) | exact Lz.int (wrapI k2) | exact Lz.int (wrapI k4) | exact Lz.int he0
end Go.M
namespace Go.M
open Go Go.Proofs
set_option maxRecDepth 100000
set_option maxHeartbeats 4000000
variable {mx : Int}
def decL (b : List Int) : Cmd × Int := if (getCmd ⟨b, 0⟩).e ≠ 0 then (noCmd, (getCmd ⟨b, 0⟩).e) else if (getCmd ⟨b, 0⟩).s.b ≠ [] then (noCmd, 4) else ((getCmd ⟨b, 0⟩).c, 0)
theorem decode_ok (b : List Int) (hl : b.length < 1000000) (hb : ∀ x ∈ b, 0 ≤ x ∧ x < 256) : VC (E0 mx) 28 0 [.sl 1 (b.map encU1) false] [] (RR (.tup [cT4 (decL b).1, .s (.int .i64 (decL b).2)]) 0 []) := by
 have hg := cmdGet_ok (mx := mx) ⟨b, 0⟩ hb
 have hlf := left_ok (mx := mx) (getCmd ⟨b, 0⟩).s
 unfold decL
 generalize getCmd ⟨b, 0⟩ = q at *
 refine VC.enterR (L0 mx) (show (E0 mx).func 28 = some Tryd.f28 by kernel_rfl) (fun _ _ => rfl) rfl rfl [] ?_
 ((conv=>whnf)<;>repeat(with_reducible refine D1 ?_)<;>conv=>whnf)
 refine ⟨[], [], _, _, _, _, of_ok b hl, t3, ?_⟩
 rintro r o' c' ⟨rfl, rfl, rfl⟩
 ((conv=>whnf)<;>repeat(with_reducible refine D1 ?_)<;>conv=>whnf)
 refine ⟨[], [some 1], _, _, _, _, hg, t3, ?_⟩
 rintro r o' c' ⟨rfl, rfl, rfl⟩
 ((conv=>whnf)<;>repeat(with_reducible refine D1 ?_)<;>conv=>whnf)
 (first|refine ⟨?_,?_⟩|refine nsplit ?_ ?_|refine bsplit ?_ ?_)<;>intro h1<;>have hz_:=True.intro<;>clear hz_
 ·have h1 : q.e ≠ 0 := h1
  rw [if_pos h1]
  ((conv=>whnf)<;>repeat(with_reducible refine D1 ?_)<;>conv=>whnf)
  exact ⟨[], [], _, _, _, t3, rfl, rfl, rfl⟩
 ·have h1 : ¬ q.e ≠ 0 := h1
  rw [if_neg h1]
  ((conv=>whnf)<;>repeat(with_reducible refine D1 ?_)<;>conv=>whnf)
  refine ⟨[], [some 1], _, _, _, _, hlf, t3, ?_⟩
  rintro r o' c' ⟨rfl, rfl, rfl⟩
  ((conv=>whnf)<;>repeat(with_reducible refine D1 ?_)<;>conv=>whnf)
  (first|refine ⟨?_,?_⟩|refine nsplit ?_ ?_|refine bsplit ?_ ?_)<;>intro h2<;>have hz_:=True.intro<;>clear hz_
  ·have h2 : q.s.b ≠ [] := by
    have h2 : (q.s.b.length : Int) > 0 := h2
    intro e
    rw [e] at h2
    exact absurd h2 (by decide)
   rw [if_pos h2]
   ((conv=>whnf)<;>repeat(with_reducible refine D1 ?_)<;>conv=>whnf)
   exact ⟨[], [], _, _, _, t3, rfl, rfl, rfl⟩
  ·have h2 : ¬ q.s.b ≠ [] := by
    have h2 : ¬ (q.s.b.length : Int) > 0 := h2
    intro e
    have := List.length_pos_iff.2 e
    omega
   rw [if_neg h2]
   ((conv=>whnf)<;>repeat(with_reducible refine D1 ?_)<;>conv=>whnf)
   exact ⟨[], [], _, _, _, t3, rfl, rfl, rfl⟩
def encL (c : Cmd) : List Int := if c.check = 0 then cmdB c else []
theorem encode_ok (c : Cmd) (he : 0 ≤ c.epoch ∧ c.epoch < 18446744073709551616) : VC (E0 mx) 24 0 [cT4 c] [] (RR (.tup [.sl 1 ((encL c).map encU1) false, .s (.int .i64 c.check)]) 0 []) := by
 have hok : OutS.ok ⟨[], 11, 0⟩ := ⟨by decide, by decide⟩
 unfold encL
 refine VC.enterR (L0 mx) (show (E0 mx).func 24 = some Tryd.f24 by kernel_rfl) (fun _ _ => rfl) rfl rfl [] ?_
 ((conv=>whnf)<;>repeat(with_reducible refine D1 ?_)<;>conv=>whnf)
 refine ⟨[], [], _, _, _, _, new_ok 11, t3, ?_⟩
 rintro r o' c' ⟨rfl, rfl, rfl⟩
 ((conv=>whnf)<;>repeat(with_reducible refine D1 ?_)<;>conv=>whnf)
 by_cases h : c.check = 0
 ·rw [if_pos h]
  have hp := put_cmd (mx := mx) ⟨[], 11, 0⟩ c hok (by simp) he h
  rw [OutS.cmd_in [] 11 c he h (by simp)] at hp
  have hd := done_ok (mx := mx) ⟨cmdB c, 11, 0⟩ ⟨by show (0 : Int) ≤ 11 ∧ (11 : Int) ≤ _; omega, by show ((cmdB c).length : Int) ≤ 11; rw [cmdB_len]; decide⟩ (by show (cmdB c).length ≤ _; rw [cmdB_len]; decide)
  rw [if_pos rfl] at hd
  refine ⟨[], [some 1], _, _, _, _, hp, t3, ?_⟩
  rintro r o' c' ⟨rfl, rfl, rfl⟩
  ((conv=>whnf)<;>repeat(with_reducible refine D1 ?_)<;>conv=>whnf)
  repeat ((first | (refine ⟨fun h_ => ?_, fun h_ => ?_⟩) | (refine nsplit (fun h_ => ?_) (fun h_ => ?_)) | (refine bsplit (fun h_ => ?_) (fun h_ => ?_))) <;> first | (exfalso; revert h_; decide; done) | (exact absurd rfl h_) | (have hz_ := True.intro; clear hz_; ((conv=>whnf)<;>repeat(with_reducible refine D1 ?_)<;>conv=>whnf)))
  refine ⟨[], [some 1], _, _, _, _, hd, t3, ?_⟩
  rintro r o' c' ⟨rfl, rfl, rfl⟩
  ((conv=>whnf)<;>repeat(with_reducible refine D1 ?_)<;>conv=>whnf)
  refine ⟨[], [], ?_⟩
  iterate 3 constructor
  refine ⟨⟨?_, ?_, ?_⟩, rfl, rfl, rfl⟩
  all_goals (repeat' first|with_reducible exact Lz.rfl|exact Lw.rfl|exact Lz.wrap (by omega)|(unfold goInt;with_reducible exact Lz.rfl)|exact flx _|constructor)
  all_goals exact Lz.int h.symm
 ·rw [if_neg h]
  refine ⟨[], [some 1], _, _, _, _, put_no ⟨[], 11, 0⟩ c h, t3, ?_⟩
  rintro r o' c' ⟨rfl, rfl, rfl⟩
  ((conv=>whnf)<;>repeat(with_reducible refine D1 ?_)<;>conv=>whnf)
  (first|refine ⟨?_,?_⟩|refine nsplit ?_ ?_|refine bsplit ?_ ?_)<;>intro h1<;>have hz_:=True.intro<;>clear hz_
  ·((conv=>whnf)<;>repeat(with_reducible refine D1 ?_)<;>conv=>whnf)
   exact ⟨[], [], _, _, _, t3, rfl, rfl, rfl⟩
  ·exact absurd (Classical.not_not.1 h1) h
end Go.M
namespace Go.M
open Go Go.Proofs
set_option maxRecDepth 100000
set_option maxHeartbeats 4000000
variable {mx : Int}
theorem decL_cmdB {c : Cmd} (he : 0 ≤ c.epoch ∧ c.epoch < 18446744073709551616) (h : c.check = 0) : decL (cmdB c) = (c, 0) := by
 have hr : (InS.mk (cmdB c) 0).raw 11 = (⟨[], 0⟩, cmdB c) := by
  have hl := cmdB_len c
  unfold InS.raw InS.next
  simp [hl]
  exact List.take_of_length_le (by omega)
 have hg : getCmd ⟨cmdB c, 0⟩ = ⟨⟨[], 0⟩, c, 0⟩ := by
  unfold getCmd
  rw [hr, ofB_cmdB he, if_neg (by simp), if_neg (fun q => q h)]
 unfold decL
 rw [hg]
 simp
theorem cmdsChecks_ok (c : Cmd) (k : Int) (he : 0 ≤ c.epoch ∧ c.epoch < 18446744073709551616) : VC (E0 mx) 5 0 [cT4 c, .s (.int .i64 k)] [] (fun r _ _ => r = .s (.bool true)) := by
 refine VC.enterR (L0 mx) (show (E0 mx).func 5 = some Tryd.f5 by kernel_rfl) (fun _ _ => rfl) rfl rfl [] ?_
 ((conv=>whnf)<;>repeat(with_reducible refine D1 ?_)<;>conv=>whnf)
 refine ⟨[], [], _, _, _, _, refCheck_ok c.kind c.chain c.epoch c.node he.1, t3, ?_⟩
 rintro r o' c' ⟨rfl, rfl, rfl⟩
 ((conv=>whnf)<;>repeat(with_reducible refine D1 ?_)<;>conv=>whnf)
 refine ⟨[], [], _, _, _, _, encode_ok c he, t3, ?_⟩
 rintro r o' c' ⟨rfl, rfl, rfl⟩
 ((conv=>whnf)<;>repeat(with_reducible refine D1 ?_)<;>conv=>whnf)
 by_cases h : c.check = 0
 ·have hd := decode_ok (mx := mx) (encL c) (by rw [show encL c = cmdB c from if_pos h, cmdB_len]; omega) (by rw [show encL c = cmdB c from if_pos h]; exact cmdB_byte he.1 h)
  rw [show decL (encL c) = (c, 0) by rw [show encL c = cmdB c from if_pos h]; exact decL_cmdB he h] at hd
  have hsz : (textS c).size ≤ 1000 := by
   unfold textS
   split
   ·decide
   ·rename_i h0
    obtain ⟨h1, h2, h3, h4⟩ := (check_fields he.1 h).2.2 h0
    have s1 := decS_size c.chain.toNat (by omega)
    have s2 := decS_size c.epoch.toNat (by omega)
    have s3 := decS_size c.node.toNat (by omega)
    have s0 := nameS_size c.kind
    unfold Cmd.text
    simp only [ByteArray.size_append, szsp]
    omega
  have hp := cmdsParse_ok (mx := mx) (textS c) hsz
  rw [parseR_of_text he h] at hp
  have hs := same01_ok (mx := mx) (encL c) (cmdB c) (by rw [show encL c = cmdB c from if_pos h, cmdB_len]; omega)
  rw [eqB_iff.2 (show encL c = cmdB c from if_pos h)] at hs
  refine ⟨[], [], _, _, _, _, text_ok c he h, t3, ?_⟩
  rintro r o' c' ⟨rfl, rfl, rfl⟩
  ((conv=>whnf)<;>repeat(with_reducible refine D1 ?_)<;>conv=>whnf)
  refine ⟨[], [], _, _, _, _, check_ok c.kind c.chain c.epoch c.node, t3, ?_⟩
  rintro r o' c' ⟨rfl, rfl, rfl⟩
  ((conv=>whnf)<;>repeat(with_reducible refine D1 ?_)<;>conv=>whnf)
  (first|refine ⟨?_,?_⟩|refine nsplit ?_ ?_|refine bsplit ?_ ?_)<;>intro q1<;>have hz_:=True.intro<;>clear hz_
  ·exact absurd rfl q1
  ((conv=>whnf)<;>repeat(with_reducible refine D1 ?_)<;>conv=>whnf)
  (first|refine ⟨?_,?_⟩|refine nsplit ?_ ?_|refine bsplit ?_ ?_)<;>intro q2<;>have hz_:=True.intro<;>clear hz_
  ·exact absurd rfl q2
  ((conv=>whnf)<;>repeat(with_reducible refine D1 ?_)<;>conv=>whnf)
  (first|refine ⟨?_,?_⟩|refine nsplit ?_ ?_|refine bsplit ?_ ?_)<;>intro q3<;>have hz_:=True.intro<;>clear hz_
  ·exact absurd h.symm q3
  ((conv=>whnf)<;>repeat(with_reducible refine D1 ?_)<;>conv=>whnf)
  refine ⟨[], [], _, _, _, _, name_ok k 0 [], t3, ?_⟩
  rintro r o' c' ⟨rfl, rfl, rfl⟩
  ((conv=>whnf)<;>repeat(with_reducible refine D1 ?_)<;>conv=>whnf)
  refine ⟨[], [], _, _, _, _, refName_ok k, t3, ?_⟩
  rintro r o' c' ⟨rfl, rfl, rfl⟩
  ((conv=>whnf)<;>repeat(with_reducible refine D1 ?_)<;>conv=>whnf)
  (first|refine ⟨?_,?_⟩|refine nsplit ?_ ?_|refine bsplit ?_ ?_)<;>intro q4<;>have hz_:=True.intro<;>clear hz_
  ·exact absurd rfl q4
  ((conv=>whnf)<;>repeat(with_reducible refine D1 ?_)<;>conv=>whnf)
  (first|refine ⟨?_,?_⟩|refine nsplit ?_ ?_|refine bsplit ?_ ?_)<;>intro q5<;>have hz_:=True.intro<;>clear hz_
  ·exact absurd h q5
  ((conv=>whnf)<;>repeat(with_reducible refine D1 ?_)<;>conv=>whnf)
  refine ⟨[], [], _, _, _, _, hd, t3, ?_⟩
  rintro r o' c' ⟨rfl, rfl, rfl⟩
  ((conv=>whnf)<;>repeat(with_reducible refine D1 ?_)<;>conv=>whnf)
  refine ⟨[], [], _, _, _, _, hp, t3, ?_⟩
  rintro r o' c' ⟨rfl, rfl, rfl⟩
  ((conv=>whnf)<;>repeat(with_reducible refine D1 ?_)<;>conv=>whnf)
  refine ⟨[], [], _, _, _, _, bytes_ok c he h, t3, ?_⟩
  rintro r o' c' ⟨rfl, rfl, rfl⟩
  ((conv=>whnf)<;>repeat(with_reducible refine D1 ?_)<;>conv=>whnf)
  refine ⟨[], [], _, _, _, _, hs, t3, ?_⟩
  rintro r o' c' ⟨rfl, rfl, rfl⟩
  ((conv=>whnf)<;>repeat(with_reducible refine D1 ?_)<;>conv=>whnf)
  refine ⟨[], [], _, _, _, _, refText_ok c he h, t3, ?_⟩
  rintro r o' c' ⟨rfl, rfl, rfl⟩
  ((conv=>whnf)<;>repeat(with_reducible refine D1 ?_)<;>conv=>whnf)
  (first|refine ⟨?_,?_⟩|refine nsplit ?_ ?_|refine bsplit ?_ ?_)<;>intro q6<;>have hz_:=True.intro<;>clear hz_
  rotate_left
  ·exact absurd rfl q6
  ((conv=>whnf)<;>repeat(with_reducible refine D1 ?_)<;>conv=>whnf)
  (first|refine ⟨?_,?_⟩|refine nsplit ?_ ?_|refine bsplit ?_ ?_)<;>intro q7<;>have hz_:=True.intro<;>clear hz_
  rotate_left
  ·exfalso; revert q7; simp [veq1]
  ((conv=>whnf)<;>repeat(with_reducible refine D1 ?_)<;>conv=>whnf)
  (first|refine ⟨?_,?_⟩|refine nsplit ?_ ?_|refine bsplit ?_ ?_)<;>intro q8<;>have hz_:=True.intro<;>clear hz_
  rotate_left
  ·exact absurd rfl q8
  ((conv=>whnf)<;>repeat(with_reducible refine D1 ?_)<;>conv=>whnf)
  (first|refine ⟨?_,?_⟩|refine nsplit ?_ ?_|refine bsplit ?_ ?_)<;>intro q9<;>have hz_:=True.intro<;>clear hz_
  rotate_left
  ·exfalso; revert q9; simp [veq1]
  ((conv=>whnf)<;>repeat(with_reducible refine D1 ?_)<;>conv=>whnf)
  (first|refine ⟨?_,?_⟩|refine nsplit ?_ ?_|refine bsplit ?_ ?_)<;>intro q10<;>have hz_:=True.intro<;>clear hz_
  rotate_left
  ·exact absurd rfl q10
  ((conv=>whnf)<;>repeat(with_reducible refine D1 ?_)<;>conv=>whnf)
  refine ⟨[], [], _, _, _, _, awake_r, t3, ?_⟩
  rintro r o' c' ⟨rfl, rfl, rfl⟩
  ((conv=>whnf)<;>repeat(with_reducible refine D1 ?_)<;>conv=>whnf)
  exact ⟨[], [], [], .s (.bool true), [], ⟨.s Lz.rfl, .nil, rfl⟩, rfl⟩
 ·refine ⟨[], [], _, _, _, _, textNo_ok c h, t3, ?_⟩
  rintro r o' c' ⟨rfl, rfl, rfl⟩
  ((conv=>whnf)<;>repeat(with_reducible refine D1 ?_)<;>conv=>whnf)
  refine ⟨[], [], _, _, _, _, check_ok c.kind c.chain c.epoch c.node, t3, ?_⟩
  rintro r o' c' ⟨rfl, rfl, rfl⟩
  ((conv=>whnf)<;>repeat(with_reducible refine D1 ?_)<;>conv=>whnf)
  (first|refine ⟨?_,?_⟩|refine nsplit ?_ ?_|refine bsplit ?_ ?_)<;>intro q1<;>have hz_:=True.intro<;>clear hz_
  ·exact absurd rfl q1
  ((conv=>whnf)<;>repeat(with_reducible refine D1 ?_)<;>conv=>whnf)
  (first|refine ⟨?_,?_⟩|refine nsplit ?_ ?_|refine bsplit ?_ ?_)<;>intro q2<;>have hz_:=True.intro<;>clear hz_
  ·exact absurd rfl q2
  ((conv=>whnf)<;>repeat(with_reducible refine D1 ?_)<;>conv=>whnf)
  (first|refine ⟨?_,?_⟩|refine nsplit ?_ ?_|refine bsplit ?_ ?_)<;>intro q3<;>have hz_:=True.intro<;>clear hz_
  ·exact absurd rfl q3
  ((conv=>whnf)<;>repeat(with_reducible refine D1 ?_)<;>conv=>whnf)
  refine ⟨[], [], _, _, _, _, name_ok k 0 [], t3, ?_⟩
  rintro r o' c' ⟨rfl, rfl, rfl⟩
  ((conv=>whnf)<;>repeat(with_reducible refine D1 ?_)<;>conv=>whnf)
  refine ⟨[], [], _, _, _, _, refName_ok k, t3, ?_⟩
  rintro r o' c' ⟨rfl, rfl, rfl⟩
  ((conv=>whnf)<;>repeat(with_reducible refine D1 ?_)<;>conv=>whnf)
  (first|refine ⟨?_,?_⟩|refine nsplit ?_ ?_|refine bsplit ?_ ?_)<;>intro q4<;>have hz_:=True.intro<;>clear hz_
  ·exact absurd rfl q4
  ((conv=>whnf)<;>repeat(with_reducible refine D1 ?_)<;>conv=>whnf)
  (first|refine ⟨?_,?_⟩|refine nsplit ?_ ?_|refine bsplit ?_ ?_)<;>intro q5<;>have hz_:=True.intro<;>clear hz_
  rotate_left
  ·exact absurd h q5
  ((conv=>whnf)<;>repeat(with_reducible refine D1 ?_)<;>conv=>whnf)
  (first|refine ⟨?_,?_⟩|refine nsplit ?_ ?_|refine bsplit ?_ ?_)<;>intro q6<;>have hz_:=True.intro<;>clear hz_
  rotate_left
  ·exact absurd (by show (((encL c).map encU1).length : Int) = 0; rw [show encL c = [] from if_neg h]; rfl) q6
  ((conv=>whnf)<;>repeat(with_reducible refine D1 ?_)<;>conv=>whnf)
  repeat ((first | (refine ⟨fun h_ => ?_, fun h_ => ?_⟩) | (refine nsplit (fun h_ => ?_) (fun h_ => ?_)) | (refine bsplit (fun h_ => ?_) (fun h_ => ?_))) <;> first | (exfalso; revert h_; decide; done) | (exact absurd rfl h_) | (have hz_ := True.intro; clear hz_; ((conv=>whnf)<;>repeat(with_reducible refine D1 ?_)<;>conv=>whnf)))
  refine ⟨[], [], _, _, _, _, awake_r, t3, ?_⟩
  rintro r o' c' ⟨rfl, rfl, rfl⟩
  ((conv=>whnf)<;>repeat(with_reducible refine D1 ?_)<;>conv=>whnf)
  exact ⟨[], [], [], .s (.bool true), [], ⟨.s Lz.rfl, .nil, rfl⟩, rfl⟩
end Go.M
namespace Go.M
open Go Go.Proofs Go.RowKit Go.Shelf Go.Sort Go.Lib
set_option maxRecDepth 1000000
def fint_ren : Go.Shelf.Ren := ⟨fun | 246 => 77 | 283 => 78 | 284 => 79 | 285 => 80 | 286 => 81 | 129 => 92 | 317 => 91 | 318 => 93 | 319 => 94 | 320 => 95 | 337 => 101 | 338 => 102 | n => n, fun | 2 => 2 | 3 => 3 | 9 => 9 | 4 => 4 | 171 => 114 | 0 => 0 | 53 => 22 | 37 => 35 | 5 => 5 | 173 => 117 | 212 => 130 | 51 => 131 | 20 => 20 | 213 => 132 | 46 => 108 | 232 => 144 | 233 => 145 | n => n, fun | 17 => 3 | 18 => 7 | 19 => 8 | n => n⟩
theorem fint : Go.Proofs.LaysM.n246 Tryd.prog fint_ren where
 mixed := by kernel_rfl
 f129 := Tryd.func92.trans (congrArg some (by kernel_rfl))
 f246 := Tryd.func77.trans (congrArg some (by kernel_rfl))
 f283 := Tryd.func78.trans (congrArg some (by kernel_rfl))
 f284 := Tryd.func79.trans (congrArg some (by kernel_rfl))
 f285 := Tryd.func80.trans (congrArg some (by kernel_rfl))
 f286 := Tryd.func81.trans (congrArg some (by kernel_rfl))
 f317 := Tryd.func91.trans (congrArg some (by kernel_rfl))
 f318 := Tryd.func93.trans (congrArg some (by kernel_rfl))
 f319 := Tryd.func94.trans (congrArg some (by kernel_rfl))
 f320 := Tryd.func95.trans (congrArg some (by kernel_rfl))
 f337 := Tryd.func101.trans (congrArg some (by kernel_rfl))
 f338 := Tryd.func102.trans (congrArg some (by kernel_rfl))
 t0 := Tryd.underlying0
 a0 := Tryd.isAgg0
 z0 := Tryd.sizeOf0
 v0 := Tryd.zeroValue0
 t2 := Tryd.underlying2
 a2 := Tryd.isAgg2
 z2 := Tryd.sizeOf2
 v2 := Tryd.zeroValue2
 t3 := Tryd.underlying3
 a3 := Tryd.isAgg3
 z3 := Tryd.sizeOf3
 v3 := Tryd.zeroValue3
 t4 := Tryd.underlying4
 a4 := Tryd.isAgg4
 z4 := Tryd.sizeOf4
 v4 := Tryd.zeroValue4
 t5 := Tryd.underlying5
 a5 := Tryd.isAgg5
 z5 := Tryd.sizeOf5
 v5 := Tryd.zeroValue5
 t9 := Tryd.underlying9
 a9 := Tryd.isAgg9
 z9 := Tryd.sizeOf9
 v9 := Tryd.zeroValue9
 t20 := Tryd.underlying20
 a20 := Tryd.isAgg20
 z20 := Tryd.sizeOf20
 v20 := Tryd.zeroValue20
 t37 := Tryd.underlying35
 a37 := Tryd.isAgg35
 z37 := Tryd.sizeOf35
 v37 := Tryd.zeroValue35
 t46 := Tryd.underlying108
 a46 := Tryd.isAgg108
 z46 := Tryd.sizeOf108
 v46 := Tryd.zeroValue108
 t51 := Tryd.underlying131
 a51 := Tryd.isAgg131
 z51 := Tryd.sizeOf131
 v51 := Tryd.zeroValue131
 t53 := Tryd.underlying22
 a53 := Tryd.isAgg22
 z53 := Tryd.sizeOf22
 v53 := Tryd.zeroValue22
 t171 := Tryd.underlying114
 a171 := Tryd.isAgg114
 z171 := Tryd.sizeOf114
 v171 := Tryd.zeroValue114
 t173 := Tryd.underlying117
 a173 := Tryd.isAgg117
 z173 := Tryd.sizeOf117
 v173 := Tryd.zeroValue117
 t212 := Tryd.underlying130
 a212 := Tryd.isAgg130
 z212 := Tryd.sizeOf130
 v212 := Tryd.zeroValue130
 t213 := Tryd.underlying132
 a213 := Tryd.isAgg132
 z213 := Tryd.sizeOf132
 t232 := Tryd.underlying144
 a232 := Tryd.isAgg144
 z232 := Tryd.sizeOf144
 v232 := Tryd.zeroValue144
 t233 := Tryd.underlying145
 a233 := Tryd.isAgg145
 z233 := Tryd.sizeOf145
 v233 := Tryd.zeroValue145
 g17 := by kernel_rfl
 g18 := by kernel_rfl
 g19 := by kernel_rfl
 i0 := by kernel_rfl
 i2 := by kernel_rfl
 i3 := by kernel_rfl
 i4 := by kernel_rfl
 i5 := by kernel_rfl
 i9 := by kernel_rfl
 i20 := by kernel_rfl
 i37 := by kernel_rfl
 i46 := by kernel_rfl
 i51 := by kernel_rfl
 i53 := by kernel_rfl
 i171 := by kernel_rfl
 i173 := by kernel_rfl
 i212 := by kernel_rfl
 i232 := by kernel_rfl
 i233 := by kernel_rfl
 m17 := by kernel_rfl
 m18 := by kernel_rfl
 m19 := by kernel_rfl
def itoa_ren : Go.Shelf.Ren := ⟨fun | 171 => 37 | 243 => 54 | 246 => 77 | 283 => 78 | 284 => 79 | 285 => 80 | 286 => 81 | 129 => 92 | 317 => 91 | 318 => 93 | 319 => 94 | 320 => 95 | 337 => 101 | 338 => 102 | n => n, fun | 3 => 3 | 9 => 9 | 2 => 2 | 4 => 4 | 171 => 114 | 0 => 0 | 53 => 22 | 37 => 35 | 5 => 5 | 173 => 117 | 212 => 130 | 51 => 131 | 20 => 20 | 213 => 132 | 46 => 108 | 232 => 144 | 233 => 145 | n => n, fun | 17 => 3 | 18 => 7 | 19 => 8 | n => n⟩
theorem itoa : Go.Proofs.LaysM.n171 Tryd.prog itoa_ren where
 mixed := by kernel_rfl
 f129 := Tryd.func92.trans (congrArg some (by kernel_rfl))
 f171 := Tryd.func37.trans (congrArg some (by kernel_rfl))
 f243 := Tryd.func54.trans (congrArg some (by kernel_rfl))
 f246 := Tryd.func77.trans (congrArg some (by kernel_rfl))
 f283 := Tryd.func78.trans (congrArg some (by kernel_rfl))
 f284 := Tryd.func79.trans (congrArg some (by kernel_rfl))
 f285 := Tryd.func80.trans (congrArg some (by kernel_rfl))
 f286 := Tryd.func81.trans (congrArg some (by kernel_rfl))
 f317 := Tryd.func91.trans (congrArg some (by kernel_rfl))
 f318 := Tryd.func93.trans (congrArg some (by kernel_rfl))
 f319 := Tryd.func94.trans (congrArg some (by kernel_rfl))
 f320 := Tryd.func95.trans (congrArg some (by kernel_rfl))
 f337 := Tryd.func101.trans (congrArg some (by kernel_rfl))
 f338 := Tryd.func102.trans (congrArg some (by kernel_rfl))
 t0 := Tryd.underlying0
 a0 := Tryd.isAgg0
 z0 := Tryd.sizeOf0
 v0 := Tryd.zeroValue0
 t2 := Tryd.underlying2
 a2 := Tryd.isAgg2
 z2 := Tryd.sizeOf2
 v2 := Tryd.zeroValue2
 t3 := Tryd.underlying3
 a3 := Tryd.isAgg3
 z3 := Tryd.sizeOf3
 v3 := Tryd.zeroValue3
 t4 := Tryd.underlying4
 a4 := Tryd.isAgg4
 z4 := Tryd.sizeOf4
 v4 := Tryd.zeroValue4
 t5 := Tryd.underlying5
 a5 := Tryd.isAgg5
 z5 := Tryd.sizeOf5
 v5 := Tryd.zeroValue5
 t9 := Tryd.underlying9
 a9 := Tryd.isAgg9
 z9 := Tryd.sizeOf9
 v9 := Tryd.zeroValue9
 t20 := Tryd.underlying20
 a20 := Tryd.isAgg20
 z20 := Tryd.sizeOf20
 v20 := Tryd.zeroValue20
 t37 := Tryd.underlying35
 a37 := Tryd.isAgg35
 z37 := Tryd.sizeOf35
 v37 := Tryd.zeroValue35
 t46 := Tryd.underlying108
 a46 := Tryd.isAgg108
 z46 := Tryd.sizeOf108
 v46 := Tryd.zeroValue108
 t51 := Tryd.underlying131
 a51 := Tryd.isAgg131
 z51 := Tryd.sizeOf131
 v51 := Tryd.zeroValue131
 t53 := Tryd.underlying22
 a53 := Tryd.isAgg22
 z53 := Tryd.sizeOf22
 v53 := Tryd.zeroValue22
 t171 := Tryd.underlying114
 a171 := Tryd.isAgg114
 z171 := Tryd.sizeOf114
 v171 := Tryd.zeroValue114
 t173 := Tryd.underlying117
 a173 := Tryd.isAgg117
 z173 := Tryd.sizeOf117
 v173 := Tryd.zeroValue117
 t212 := Tryd.underlying130
 a212 := Tryd.isAgg130
 z212 := Tryd.sizeOf130
 v212 := Tryd.zeroValue130
 t213 := Tryd.underlying132
 a213 := Tryd.isAgg132
 z213 := Tryd.sizeOf132
 t232 := Tryd.underlying144
 a232 := Tryd.isAgg144
 z232 := Tryd.sizeOf144
 v232 := Tryd.zeroValue144
 t233 := Tryd.underlying145
 a233 := Tryd.isAgg145
 z233 := Tryd.sizeOf145
 v233 := Tryd.zeroValue145
 g17 := by kernel_rfl
 g18 := by kernel_rfl
 g19 := by kernel_rfl
 i0 := by kernel_rfl
 i2 := by kernel_rfl
 i3 := by kernel_rfl
 i4 := by kernel_rfl
 i5 := by kernel_rfl
 i9 := by kernel_rfl
 i20 := by kernel_rfl
 i37 := by kernel_rfl
 i46 := by kernel_rfl
 i51 := by kernel_rfl
 i53 := by kernel_rfl
 i171 := by kernel_rfl
 i173 := by kernel_rfl
 i212 := by kernel_rfl
 i232 := by kernel_rfl
 i233 := by kernel_rfl
 m17 := by kernel_rfl
 m18 := by kernel_rfl
 m19 := by kernel_rfl
end Go.M
namespace Go.Proofs
open Go.Shelf Go.RowKit Go.Sort Go.Lib Go.M
set_option maxHeartbeats 6400000
set_option maxRecDepth 100000
def PowT (w : World) : Prop := ∀ q, q < 20 → w.cell? ⟨3, q, none⟩ = some (.int .u64 ((10 ^ q : Nat) : Int))
theorem PowT.alloc {w : World} (h : PowT w) (o : Obj) : PowT (w.alloc o) := fun q hq => by
 rw [World.cell?_of_block (w := w) (w' := w.alloc o) (Below.heap_alloc w o 3 (by
  have := h q hq
  unfold World.cell? at this
  cases hb : w.heap[3]? with
  | none => simp [hb] at this
  | some x => exact (Array.getElem?_eq_some_iff.1 hb).1))]
 exact h q hq
theorem numDigits79 (u : Nat) (h1 : 1 ≤ u) (h2 : u < 18446744073709551616) (w : World) (ht : PowT w) : Calls Tryd.prog 79 #[.int .u64 u] w fun e w' => e = .returned (.int .i64 (Lib.nDigits u)) ∧ w' = w := by
 obtain ⟨hnd, h19⟩ := Lib.numDigits_eq u h1 h2
 have hL : Lib.bitLen u ≤ 64 := Lib.bitLen_le u 64 (Nat.le_refl _) h2
 have hcell := ht (Lib.l10 (Lib.bitLen u)) (by omega)
 have hto : ((u : Int)).toNat = u := by omega
 generalize hq : Lib.l10 (Lib.bitLen u) = q at hnd h19 hcell
 generalize hT : 10 ^ q = T at hnd hcell
 have h20 : q < 20 := by omega
 have Hnd := Lib.hid hnd
 clear hnd ht
 go_enter Tryd.func79, Tryd.ntmps79
 go_wp2_with (first
  | (go_at_call 92; refine (Any.bits_Len64 { fint with } _ _ (by omega) (by omega)).mono ?_; rintro e w' ⟨rfl, rfl⟩)
  | (go_at_call 91; refine (Any.internal_strconv_log10Pow2 { fint with } _ (by first | exact hL | (rw [hto]; exact hL)) _).mono ?_; rintro e w' ⟨rfl, rfl⟩)
  | (go_at_call 93; refine (Any.internal_strconv_bool2_int { fint with } _ _).mono ?_; rintro e w' ⟨rfl, rfl⟩))
 all_goals go_ret
 all_goals (
  refine ⟨?_, rfl⟩
  have hnd := Hnd.out
  congr 2
  split at hnd <;> simp_all <;> omega)
theorem formatUint55 (u : Nat) (hu64 : u < 18446744073709551616) (w : World) (ht : PowT w) :
 Calls Tryd.prog 55 #[.int .u64 u, .int .i64 10] w fun e w' => e = .returned (.string ⟨(Lib.decDigits u).toArray⟩) ∧ Below w.heap.size w w' := by
 by_cases hs : u < 100
 ·have hwr : IntKind.i64.wrap (u : Int) = (u : Int) := IntWalk.i64_in _ ⟨by omega, by omega⟩
  go_enter Tryd.func55, Tryd.ntmps55
  go_wp2_with (go_at_call 78; refine (Any.internal_strconv_small { fint with } u hs _).mono ?_; rintro e w' ⟨rfl, rfl⟩)
  go_ret
  exact ⟨rfl, Below.refl _ _⟩
 ·have hu1 : 1 ≤ u := by omega
  have hnd : Lib.nDigits u ≤ 20 := Lib.nDigits_le20 u hu64
  have hal : Tryd.prog.arrayLen 114 = 24 := by simp [Program.arrayLen, Tryd.underlying114]
  have hsl : ∀ W, (Instr.sliceAt 114 (.pointer (some ⟨w.heap.size, 0, none⟩)) none (some (.int .i64 (Lib.nDigits u : Int))) none).run Tryd.prog W = .ok (.slice (some ⟨w.heap.size, 0, none⟩) (Lib.nDigits u) 24) W := fun W => by
   rw [run_sliceAt_array_h W 114 ⟨w.heap.size, 0, none⟩ (by simp [Program.arrayLen, Program.elem, Tryd.underlying114]) .i64 (Lib.nDigits u : Int) (by omega) (by rw [hal]; omega)]
   go_simp
  have hH0 := Lib.holds_zero0 w 114 (Lib.nDigits u) (by omega)
  have hfmt := Any.internal_strconv_formatBase10 { fint with } w.heap.size 0 24 u (Array.replicate (Lib.nDigits u) 0) (w.alloc (.cells Lib.zeros24 114)) hH0 (by rw [Array.size_replicate]; exact Lib.lt_pow_nDigits u) hu64 (by rw [Array.size_replicate]; omega)
  rw [Array.size_replicate] at hfmt
  have HH0 := Lib.hid hH0
  clear hH0 hal
  go_enter Tryd.func55, Tryd.ntmps55
  go_wp2_with (go_at_call 79; refine (numDigits79 u hu1 hu64 _ (ht.alloc _)).mono ?_; rintro e w' ⟨rfl, rfl⟩)
  go_at_call 80
  refine hfmt.mono ?_
  rintro e w' ⟨rfl, k, v', dk, rfl, hF⟩
  generalize hW : (putRow (fun (b : UInt8) => Value.int .u8 (b.toNat : Int)) (w.alloc (.cells Lib.zeros24 114)) w.heap.size 0 dk).drewN k = W
  have hcv : (convert 35 9 (.slice (some ⟨w.heap.size, 0, none⟩) (Lib.nDigits u) 24)).run Tryd.prog W = .ok (.string ⟨(Lib.decDigits u).toArray⟩) W := by
   have h := run_convert_bytes_back (P := Tryd.prog) W 35 9 5 ⟨w.heap.size, 0, none⟩ 24 (Lib.decDigits u) Tryd.underlying35 Tryd.underlying5 Tryd.underlying9 fun j hj => by
    rw [← hW, Lib.row_is_numeral hF j hj, Lib.add_plain, World.cell?_drewN]
    exact cell?_putRow (fun (b : UInt8) => Value.int .u8 (b.toNat : Int)) _ w.heap.size 0 _ dk HH0.out (by rw [hF.size, Array.size_replicate]) j (by rw [hF.size]; rw [Lib.decDigits_length] at hj; exact hj)
   rw [Lib.decDigits_length] at h
   exact h
  go_wp2
  go_ret
  obtain ⟨os, eo⟩ := Lib.fin_at w (.cells Lib.zeros24 114) dk k 0
  refine ⟨rfl, ?_⟩
  rw [← hW, eo]
  exact Lib.below_grow _ w (Nat.le_refl _) k os
end Go.Proofs
namespace Go.M
open Go Go.Proofs Go.RowKit Go.Shelf
set_option maxRecDepth 1000000
def join36_ren : Go.Shelf.Ren := ⟨fun | 156 => 36 | 165 => 51 | 166 => 52 | 169 => 53 | 240 => 75 | 241 => 76 | 276 => 89 | 277 => 90 | n => n, fun | 31 => 60 | 9 => 9 | 3 => 3 | 4 => 4 | 0 => 0 | 20 => 20 | 72 => 90 | 76 => 92 | 70 => 88 | 37 => 35 | 75 => 66 | 127 => 112 | 164 => 126 | 5 => 5 | 80 => 94 | n => n, fun | n => n⟩
theorem join36 : Go.Proofs.Lays.n156 Tryd.prog join36_ren where
 mixed := by kernel_rfl
 f156 := Tryd.func36.trans (congrArg some (by kernel_rfl))
 f165 := Tryd.func51.trans (congrArg some (by kernel_rfl))
 f166 := Tryd.func52.trans (congrArg some (by kernel_rfl))
 f169 := Tryd.func53.trans (congrArg some (by kernel_rfl))
 f240 := Tryd.func75.trans (congrArg some (by kernel_rfl))
 f241 := Tryd.func76.trans (congrArg some (by kernel_rfl))
 f276 := Tryd.func89.trans (congrArg some (by kernel_rfl))
 f277 := Tryd.func90.trans (congrArg some (by kernel_rfl))
 t0 := Tryd.underlying0
 a0 := Tryd.isAgg0
 z0 := Tryd.sizeOf0
 v0 := Tryd.zeroValue0
 t3 := Tryd.underlying3
 a3 := Tryd.isAgg3
 z3 := Tryd.sizeOf3
 v3 := Tryd.zeroValue3
 t4 := Tryd.underlying4
 a4 := Tryd.isAgg4
 z4 := Tryd.sizeOf4
 v4 := Tryd.zeroValue4
 t9 := Tryd.underlying9
 a9 := Tryd.isAgg9
 z9 := Tryd.sizeOf9
 v9 := Tryd.zeroValue9
 t20 := Tryd.underlying20
 a20 := Tryd.isAgg20
 z20 := Tryd.sizeOf20
 v20 := Tryd.zeroValue20
 t31 := Tryd.underlying60
 a31 := Tryd.isAgg60
 z31 := Tryd.sizeOf60
 v31 := Tryd.zeroValue60
 t37 := Tryd.underlying35
 a37 := Tryd.isAgg35
 z37 := Tryd.sizeOf35
 v37 := Tryd.zeroValue35
 t70 := Tryd.underlying88
 a70 := Tryd.isAgg88
 z70 := Tryd.sizeOf88
 v70 := Tryd.zeroValue88
 t72 := Tryd.underlying90
 a72 := Tryd.isAgg90
 z72 := Tryd.sizeOf90
 v72 := Tryd.zeroValue90
 t75 := Tryd.underlying66
 a75 := Tryd.isAgg66
 z75 := Tryd.sizeOf66
 v75 := Tryd.zeroValue66
 t76 := Tryd.underlying92
 a76 := Tryd.isAgg92
 z76 := Tryd.sizeOf92
 v76 := Tryd.zeroValue92
 t127 := Tryd.underlying112
 a127 := Tryd.isAgg112
 z127 := Tryd.sizeOf112
 v127 := Tryd.zeroValue112
 t164 := Tryd.underlying126
 a164 := Tryd.isAgg126
 z164 := Tryd.sizeOf126
 v164 := Tryd.zeroValue126
theorem joinX : Builder.Extra Tryd.prog join36_ren where
 sizeBuilder := by kernel_rfl
 liesBuilder := by kernel_rfl
 t5 := Tryd.underlying5
 a5 := Tryd.isAgg5
 z5 := Tryd.sizeOf5
 v5 := Tryd.zeroValue5
 infoByte := by kernel_rfl
 cellsByte := by kernel_rfl
 sizeByte := by kernel_rfl
 neB5 := by decide
def split31_ren : Go.Shelf.Ren := ⟨fun | 146 => 31 | 221 => 48 | 268 => 66 | 138 => 67 | 143 => 68 | 195 => 83 | 197 => 84 | 218 => 85 | 219 => 86 | 260 => 96 | 217 => 97 | 225 => 98 | 224 => 99 | 267 => 100 | 266 => 103 | 314 => 104 | n => n, fun | 9 => 9 | 31 => 60 | 3 => 3 | 4 => 4 | 0 => 0 | 105 => 119 | 21 => 21 | 5 => 5 | 46 => 108 | 119 => 138 | 139 => 141 | 138 => 140 | 146 => 142 | 51 => 131 | n => n, fun | 1 => 4 | 3 => 5 | 4 => 6 | n => n⟩
theorem split31 : Go.Proofs.LaysM.n146 Tryd.prog split31_ren where
 mixed := by kernel_rfl
 f138 := Tryd.func67.trans (congrArg some (by kernel_rfl))
 f143 := Tryd.func68.trans (congrArg some (by kernel_rfl))
 f146 := Tryd.func31.trans (congrArg some (by kernel_rfl))
 f195 := Tryd.func83.trans (congrArg some (by kernel_rfl))
 f197 := Tryd.func84.trans (congrArg some (by kernel_rfl))
 f217 := Tryd.func97.trans (congrArg some (by kernel_rfl))
 f218 := Tryd.func85.trans (congrArg some (by kernel_rfl))
 f219 := Tryd.func86.trans (congrArg some (by kernel_rfl))
 f221 := Tryd.func48.trans (congrArg some (by kernel_rfl))
 f224 := Tryd.func99.trans (congrArg some (by kernel_rfl))
 f225 := Tryd.func98.trans (congrArg some (by kernel_rfl))
 f260 := Tryd.func96.trans (congrArg some (by kernel_rfl))
 f266 := Tryd.func103.trans (congrArg some (by kernel_rfl))
 f267 := Tryd.func100.trans (congrArg some (by kernel_rfl))
 f268 := Tryd.func66.trans (congrArg some (by kernel_rfl))
 f314 := Tryd.func104.trans (congrArg some (by kernel_rfl))
 t0 := Tryd.underlying0
 a0 := Tryd.isAgg0
 z0 := Tryd.sizeOf0
 v0 := Tryd.zeroValue0
 t3 := Tryd.underlying3
 a3 := Tryd.isAgg3
 z3 := Tryd.sizeOf3
 v3 := Tryd.zeroValue3
 t4 := Tryd.underlying4
 a4 := Tryd.isAgg4
 z4 := Tryd.sizeOf4
 v4 := Tryd.zeroValue4
 t5 := Tryd.underlying5
 a5 := Tryd.isAgg5
 z5 := Tryd.sizeOf5
 v5 := Tryd.zeroValue5
 t9 := Tryd.underlying9
 a9 := Tryd.isAgg9
 z9 := Tryd.sizeOf9
 v9 := Tryd.zeroValue9
 t21 := Tryd.underlying21
 a21 := Tryd.isAgg21
 z21 := Tryd.sizeOf21
 v21 := Tryd.zeroValue21
 t31 := Tryd.underlying60
 a31 := Tryd.isAgg60
 z31 := Tryd.sizeOf60
 v31 := Tryd.zeroValue60
 t46 := Tryd.underlying108
 a46 := Tryd.isAgg108
 z46 := Tryd.sizeOf108
 v46 := Tryd.zeroValue108
 t51 := Tryd.underlying131
 a51 := Tryd.isAgg131
 z51 := Tryd.sizeOf131
 v51 := Tryd.zeroValue131
 t105 := Tryd.underlying119
 a105 := Tryd.isAgg119
 z105 := Tryd.sizeOf119
 v105 := Tryd.zeroValue119
 t119 := Tryd.underlying138
 a119 := Tryd.isAgg138
 z119 := Tryd.sizeOf138
 t138 := Tryd.underlying140
 a138 := Tryd.isAgg140
 z138 := Tryd.sizeOf140
 v138 := Tryd.zeroValue140
 t139 := Tryd.underlying141
 a139 := Tryd.isAgg141
 z139 := Tryd.sizeOf141
 v139 := Tryd.zeroValue141
 t146 := Tryd.underlying142
 a146 := Tryd.isAgg142
 z146 := Tryd.sizeOf142
 v146 := Tryd.zeroValue142
 g1 := by kernel_rfl
 g3 := by kernel_rfl
 g4 := by kernel_rfl
 i0 := by kernel_rfl
 i3 := by kernel_rfl
 i4 := by kernel_rfl
 i5 := by kernel_rfl
 i9 := by kernel_rfl
 i21 := by kernel_rfl
 i31 := by kernel_rfl
 i46 := by kernel_rfl
 i51 := by kernel_rfl
 i105 := by kernel_rfl
 i138 := by kernel_rfl
 i139 := by kernel_rfl
 i146 := by kernel_rfl
 m1 := by kernel_rfl
 s1_3 := fun w h => Go.Proofs.cell_of_shapedOpen_int (zero := #[.int .i64 0]) (t := 3) h (of_decide_eq_true (by kernel_rfl)) (by kernel_rfl) rfl (by kernel_rfl) (by kernel_rfl) Tryd.underlying3
 m3 := by kernel_rfl
 m4 := by kernel_rfl
def pu_ren : Go.Shelf.Ren := ⟨fun | 14 => 35 | 16 => 49 | 17 => 50 | 19 => 69 | 20 => 70 | 21 => 71 | 22 => 72 | 23 => 73 | 24 => 74 | 25 => 87 | 27 => 37 | 26 => 88 | 28 => 54 | 29 => 77 | 30 => 78 | 31 => 79 | 32 => 80 | 33 => 81 | 35 => 92 | 34 => 91 | 36 => 93 | 37 => 94 | 38 => 95 | 39 => 101 | 40 => 102 | n => n, fun | 9 => 9 | 3 => 3 | 22 => 22 | 24 => 66 | 25 => 67 | 4 => 4 | 34 => 106 | 5 => 5 | 36 => 108 | 37 => 35 | 0 => 0 | 39 => 109 | 21 => 21 | 44 => 124 | 47 => 112 | 50 => 136 | 48 => 134 | 2 => 2 | 52 => 114 | 55 => 117 | 59 => 130 | 60 => 131 | 20 => 20 | 61 => 132 | 65 => 144 | 66 => 145 | 67 => 94 | n => n, fun | 0 => 1 | 1 => 2 | 2 => 3 | 3 => 7 | 4 => 8 | n => n⟩
theorem pu : Go.Proofs.LaysPu.n14 Tryd.prog pu_ren where
 mixed := by kernel_rfl
 f14 := Tryd.func35.trans (congrArg some (by kernel_rfl))
 f16 := Tryd.func49.trans (congrArg some (by kernel_rfl))
 f17 := Tryd.func50.trans (congrArg some (by kernel_rfl))
 f19 := Tryd.func69.trans (congrArg some (by kernel_rfl))
 f20 := Tryd.func70.trans (congrArg some (by kernel_rfl))
 f21 := Tryd.func71.trans (congrArg some (by kernel_rfl))
 f22 := Tryd.func72.trans (congrArg some (by kernel_rfl))
 f23 := Tryd.func73.trans (congrArg some (by kernel_rfl))
 f24 := Tryd.func74.trans (congrArg some (by kernel_rfl))
 f25 := Tryd.func87.trans (congrArg some (by kernel_rfl))
 f26 := Tryd.func88.trans (congrArg some (by kernel_rfl))
 f27 := Tryd.func37.trans (congrArg some (by kernel_rfl))
 f28 := Tryd.func54.trans (congrArg some (by kernel_rfl))
 f29 := Tryd.func77.trans (congrArg some (by kernel_rfl))
 f30 := Tryd.func78.trans (congrArg some (by kernel_rfl))
 f31 := Tryd.func79.trans (congrArg some (by kernel_rfl))
 f32 := Tryd.func80.trans (congrArg some (by kernel_rfl))
 f33 := Tryd.func81.trans (congrArg some (by kernel_rfl))
 f34 := Tryd.func91.trans (congrArg some (by kernel_rfl))
 f35 := Tryd.func92.trans (congrArg some (by kernel_rfl))
 f36 := Tryd.func93.trans (congrArg some (by kernel_rfl))
 f37 := Tryd.func94.trans (congrArg some (by kernel_rfl))
 f38 := Tryd.func95.trans (congrArg some (by kernel_rfl))
 f39 := Tryd.func101.trans (congrArg some (by kernel_rfl))
 f40 := Tryd.func102.trans (congrArg some (by kernel_rfl))
 t0 := Tryd.underlying0
 a0 := Tryd.isAgg0
 z0 := Tryd.sizeOf0
 v0 := Tryd.zeroValue0
 i0 := by kernel_rfl
 t2 := Tryd.underlying2
 a2 := Tryd.isAgg2
 z2 := Tryd.sizeOf2
 v2 := Tryd.zeroValue2
 i2 := by kernel_rfl
 t3 := Tryd.underlying3
 a3 := Tryd.isAgg3
 z3 := Tryd.sizeOf3
 v3 := Tryd.zeroValue3
 i3 := by kernel_rfl
 t4 := Tryd.underlying4
 a4 := Tryd.isAgg4
 z4 := Tryd.sizeOf4
 v4 := Tryd.zeroValue4
 i4 := by kernel_rfl
 t5 := Tryd.underlying5
 a5 := Tryd.isAgg5
 z5 := Tryd.sizeOf5
 v5 := Tryd.zeroValue5
 i5 := by kernel_rfl
 t9 := Tryd.underlying9
 a9 := Tryd.isAgg9
 z9 := Tryd.sizeOf9
 v9 := Tryd.zeroValue9
 i9 := by kernel_rfl
 t20 := Tryd.underlying20
 a20 := Tryd.isAgg20
 z20 := Tryd.sizeOf20
 v20 := Tryd.zeroValue20
 i20 := by kernel_rfl
 t21 := Tryd.underlying21
 a21 := Tryd.isAgg21
 z21 := Tryd.sizeOf21
 v21 := Tryd.zeroValue21
 i21 := by kernel_rfl
 t22 := Tryd.underlying22
 a22 := Tryd.isAgg22
 z22 := Tryd.sizeOf22
 v22 := Tryd.zeroValue22
 i22 := by kernel_rfl
 t24 := Tryd.underlying66
 a24 := Tryd.isAgg66
 z24 := Tryd.sizeOf66
 v24 := Tryd.zeroValue66
 i24 := by kernel_rfl
 t25 := Tryd.underlying67
 a25 := Tryd.isAgg67
 z25 := Tryd.sizeOf67
 v25 := Tryd.zeroValue67
 i25 := by kernel_rfl
 t34 := Tryd.underlying106
 a34 := Tryd.isAgg106
 z34 := Tryd.sizeOf106
 v34 := Tryd.zeroValue106
 i34 := by kernel_rfl
 c34 := by kernel_rfl
 t36 := Tryd.underlying108
 a36 := Tryd.isAgg108
 z36 := Tryd.sizeOf108
 v36 := Tryd.zeroValue108
 i36 := by kernel_rfl
 t37 := Tryd.underlying35
 a37 := Tryd.isAgg35
 z37 := Tryd.sizeOf35
 v37 := Tryd.zeroValue35
 i37 := by kernel_rfl
 t39 := Tryd.underlying109
 a39 := Tryd.isAgg109
 z39 := Tryd.sizeOf109
 v39 := Tryd.zeroValue109
 i39 := by kernel_rfl
 t44 := Tryd.underlying124
 a44 := Tryd.isAgg124
 z44 := Tryd.sizeOf124
 v44 := Tryd.zeroValue124
 i44 := by kernel_rfl
 t47 := Tryd.underlying112
 a47 := Tryd.isAgg112
 z47 := Tryd.sizeOf112
 v47 := Tryd.zeroValue112
 i47 := by kernel_rfl
 t48 := Tryd.underlying134
 a48 := Tryd.isAgg134
 z48 := Tryd.sizeOf134
 v48 := Tryd.zeroValue134
 i48 := by kernel_rfl
 t50 := Tryd.underlying136
 a50 := Tryd.isAgg136
 z50 := Tryd.sizeOf136
 v50 := Tryd.zeroValue136
 i50 := by kernel_rfl
 t52 := Tryd.underlying114
 a52 := Tryd.isAgg114
 z52 := Tryd.sizeOf114
 v52 := Tryd.zeroValue114
 i52 := by kernel_rfl
 t55 := Tryd.underlying117
 a55 := Tryd.isAgg117
 z55 := Tryd.sizeOf117
 v55 := Tryd.zeroValue117
 i55 := by kernel_rfl
 t59 := Tryd.underlying130
 a59 := Tryd.isAgg130
 z59 := Tryd.sizeOf130
 v59 := Tryd.zeroValue130
 i59 := by kernel_rfl
 t60 := Tryd.underlying131
 a60 := Tryd.isAgg131
 z60 := Tryd.sizeOf131
 v60 := Tryd.zeroValue131
 i60 := by kernel_rfl
 t61 := Tryd.underlying132
 a61 := Tryd.isAgg132
 z61 := Tryd.sizeOf132
 t65 := Tryd.underlying144
 a65 := Tryd.isAgg144
 z65 := Tryd.sizeOf144
 v65 := Tryd.zeroValue144
 i65 := by kernel_rfl
 t66 := Tryd.underlying145
 a66 := Tryd.isAgg145
 z66 := Tryd.sizeOf145
 v66 := Tryd.zeroValue145
 i66 := by kernel_rfl
 t67 := Tryd.underlying94
 a67 := Tryd.isAgg94
 z67 := Tryd.sizeOf94
 v67 := Tryd.zeroValue94
 i67 := by kernel_rfl
 g0 := by kernel_rfl
 m0 := by kernel_rfl
 g1 := by kernel_rfl
 m1 := by kernel_rfl
 g2 := by kernel_rfl
 m2 := by kernel_rfl
 g3 := by kernel_rfl
 m3 := by kernel_rfl
 g4 := by kernel_rfl
 m4 := by kernel_rfl
theorem joins : JoinsIn Tryd.prog 36 := joinsIn_of join36 joinX rfl
theorem mixed0 : Tryd.prog.follows .mixedOrders = true := by kernel_rfl
theorem splits : SplitsIn Tryd.prog 4 31 := splitsIn_of { split31 with } (by kernel_rfl) rfl rfl
theorem parses : ParsesIn Tryd.prog 2 109 35 := parsesIn_of { pu with } rfl rfl rfl
theorem powT {mx : Int} {w : World} (h : LaidT (tabs0 mx) w) : PowT w := fun q hq => by
 obtain ⟨c, e, fr, h1, _, h3⟩ := h 3 pow0 rfl
 obtain ⟨v', k1, k2⟩ := h3 q (.int .u64 ((10 ^ q : Nat) : Int)) (by unfold pow0; rw [List.getElem?_map, List.getElem?_range hq]; rfl)
 have this : c[q]? = some (.int .u64 ((10 ^ q : Nat) : Int)) := by
  rcases k2 with ⟨_, rfl⟩ | ⟨k2, _⟩
  ·exact k1
  ·cases k2
 unfold World.cell?
 rw [h1]
 exact this
theorem pure0_ok (mx : Int) (g : Nat) (f : List Value → Option Value) (h : look pure0 g = some f) : PureIn Tryd.prog (tabs0 mx) g f := by
 intro w vs v hW hv
 have hm := look_mem h
 simp only [pure0, List.mem_cons, List.not_mem_nil, or_false, Prod.mk.injEq] at hm
 rcases hm with ⟨rfl, rfl⟩ | ⟨rfl, rfl⟩ | ⟨rfl, rfl⟩
 ·unfold fmtU at hv
  split at hv
  ·rename_i n b
   rw [grd_some] at hv
   obtain ⟨hd, hv⟩ := hv
   cases hv
   obtain ⟨h0, h1, rfl⟩ := of_decide_eq_true hd
   obtain ⟨u, rfl⟩ : ∃ u : Nat, n = u := ⟨n.toNat, by omega⟩
   exact formatUint55 u (by omega) w (powT hW)
  ·cases hv
 ·unfold itoaS at hv
  split at hv
  ·rename_i n
   rw [grd_some] at hv
   obtain ⟨hd, hv⟩ := hv
   cases hv
   obtain ⟨h0, h1⟩ := of_decide_eq_true hd
   obtain ⟨u, rfl⟩ : ∃ u : Nat, n = u := ⟨n.toNat, by omega⟩
   exact (Any.strconv_Itoa_small { itoa with } u (by omega) w).mono fun e w' ⟨he, hw⟩ => ⟨he, hw ▸ Below.refl _ _⟩
  ·cases hv
 ·unfold plainF at hv
  split at hv
  ·cases hv
   exact plain_real _ w
  ·cases hv
theorem orcA (mx : Int) (base B : Nat) : OrcOk Tryd.prog (envT Tryd.prog (tabs0 mx) (orcP 4 [31] (orcJ [36] noOrc))) base B :=
 orcP_ok rfl (fun g hg => by simp only [List.mem_cons, List.not_mem_nil, or_false] at hg; subst hg; exact splits)
  (orcJ_ok (fun g hg => by simp only [List.mem_cons, List.not_mem_nil, or_false] at hg; subst hg; exact joins) (fun _ _ => noOrc_okT)) base B
theorem awake08 (mx : Int) : AwakeT Tryd.prog (tabs0 mx) 7 := awakeT_by (n := 5) mixed0 (tabsB0 mx) (orcA mx) (k := 100000) (by kernel_rfl)
theorem orc0 (mx : Int) (base B : Nat) : OrcOk Tryd.prog (E0 mx) base B := by
 refine orcS_ok (tabsB0 mx) (pure0_ok mx) (orcU_ok rfl (fun g hg => ?_) (orcP_ok rfl (fun g hg => ?_) (orcJ_ok (fun g hg => ?_) (orcX_ok (tabsB0 mx) (fun g hg => ?_) (fun base B => orcV_ok (fun g hg => ?_) (fun g its hi k hk => ?_) base B))))) base B
 ·simp only [List.mem_cons, List.not_mem_nil, or_false] at hg; subst hg; exact parses
 ·simp only [List.mem_cons, List.not_mem_nil, or_false] at hg; subst hg; exact splits
 ·simp only [List.mem_cons, List.not_mem_nil, or_false] at hg; subst hg; exact joins
 ·simp only [List.mem_cons, List.not_mem_nil, or_false] at hg
  subst hg
  exact awake08 mx
 ·simp at hg
 ·simp [look] at hi
end Go.M
namespace Go.M
open Go
def fieldsD (P : Program) (f : TypeId → DataW Unit → List Value → Bool) : List Field → List (DataW Unit) → Nat → List Value → Bool
 | [], _, _, vs => vs.isEmpty
 | x :: xs, d :: ds, o, vs => Nat.beq x.offset o && Nat.ble (P.cellsOf x.type) vs.length && f x.type d (vs.take (P.cellsOf x.type)) && fieldsD P f xs ds (o + P.cellsOf x.type) (vs.drop (P.cellsOf x.type))
 | _ :: _, [], _, _ => false
def repD (f : DataW Unit → List Value → Bool) (z : Nat) : Nat → List (DataW Unit) → List Value → Bool
 | 0, _, vs => vs.isEmpty
 | n + 1, d :: ds, vs => Nat.ble z vs.length && f d (vs.take z) && repD f z n ds (vs.drop z)
 | _ + 1, [], _ => false
def dB (P : Program) : Nat → TypeId → DataW Unit → List Value → Bool
 | 0, _, _, _ => false
 | n + 1, t, d, vs => match P.underlying t with
  | some .bool => (match d, vs with | .lit (.bool b), [.bool b'] => decide (b = b') | _, _ => false)
  | some (.int _) => (match d, vs with | .lit (.int k m), [.int k' m'] => decide (k = k') && decide (m = m') | _, _ => false)
  | some .string => (match d, vs with | .lit (.string l), [.string s] => decide (l = s.data.toList) | _, _ => false)
  | some (.struct fs) => (match d with | .agg ds => Nat.beq (P.cellsOf t) vs.length && fieldsD P (dB P n) fs.toList ds 0 vs | _ => false)
  | some (.array m e) => (match d with | .agg ds => Nat.beq (P.cellsOf t) vs.length && repD (dB P n e) (P.cellsOf e) m ds vs | _ => false)
  | _ => false
section
variable {P : Program}
theorem fields_d {f : TypeId → DataW Unit → List Value → Bool} {g : TypeId → DataW Unit → List Value → Prop} (hfg : ∀ t d vs cs, f t d vs = true → g t d cs → cs = vs) : ∀ {xs : List Field} {ds : List (DataW Unit)} {o : Nat} {vs cs : List Value},
 fieldsD P f xs ds o vs = true → cs.length = o + vs.length → (∀ (i : Nat) x d, xs[i]? = some x → ds[i]? = some d → g x.type d ((cs.drop x.offset).take (P.cellsOf x.type))) → cs.drop o = vs
 | [], ds, o, vs, cs, h, hl, _ => by
  simp only [fieldsD, List.isEmpty_iff] at h
  subst h
  rw [List.drop_of_length_le (by simp at hl; omega)]
 | x :: xs, [], o, vs, cs, h, hl, _ => by simp [fieldsD] at h
 | x :: xs, d :: ds, o, vs, cs, h, hl, hg => by
  simp only [fieldsD, Bool.and_eq_true, beq_iff, ble_iff] at h
  obtain ⟨⟨⟨h1, h2⟩, h3⟩, h4⟩ := h
  have k1 := hfg _ _ _ _ h3 (hg 0 x d rfl rfl)
  have k2 := fields_d hfg h4 (cs := cs) (by simp; omega) fun i y d' hy hd => hg (i + 1) y d' (by simpa using hy) (by simpa using hd)
  rw [← List.take_append_drop (P.cellsOf x.type) vs, ← k1, ← k2, h1, ← List.drop_drop, List.take_append_drop]
theorem rep_d {f : DataW Unit → List Value → Bool} {z : Nat} {g : DataW Unit → List Value → Prop} (hfg : ∀ d vs cs, f d vs = true → g d cs → cs = vs) : ∀ {n k : Nat} {ds : List (DataW Unit)} {vs cs : List Value},
 repD f z n ds vs = true → cs.length = k * z + vs.length → (∀ i d, i < n → ds[i]? = some d → g d ((cs.drop ((k + i) * z)).take z)) → cs.drop (k * z) = vs
 | 0, k, ds, vs, cs, h, hl, _ => by
  simp only [repD, List.isEmpty_iff] at h
  subst h
  rw [List.drop_of_length_le (by simp at hl; omega)]
 | n + 1, k, [], vs, cs, h, hl, hg => by simp [repD] at h
 | n + 1, k, d :: ds, vs, cs, h, hl, hg => by
  simp only [repD, Bool.and_eq_true, ble_iff] at h
  obtain ⟨⟨h1, h2⟩, h3⟩ := h
  have k1 := hfg _ _ _ h2 (hg 0 d (by omega) rfl)
  have k2 := rep_d (n := n) (k := k + 1) hfg h3 (cs := cs) (by simp [Nat.succ_mul]; omega) fun i d' hi hd => by
   have := hg (i + 1) d' (by omega) (by simpa using hd)
   rwa [show k + (i + 1) = k + 1 + i by omega] at this
  rw [Nat.add_zero] at k1
  rw [← List.take_append_drop z vs, ← k1, ← k2, Nat.succ_mul, ← List.drop_drop, List.take_append_drop]
theorem trod_cells {enc : TypeId × Value → Unit} {W : World} {base : Nat} {sp : Nat → Bool} {held : Bool} : ∀ (n : Nat) (t : TypeId) (d : DataW Unit) (vs : List Value), dB P n t d vs = true →
 ∀ (fuel : Nat) (cs : List Value) (p : List MemPlace), DataW.trod enc P W base sp held fuel t cs = some (d, p) → cs = vs := by
 intro n
 induction n with
 | zero => intro t d vs h; cases h
 | succ n ih =>
  intro t d vs h fuel cs p hr
  unfold dB at h
  split at h
  ·rename_i hu
   obtain ⟨b, rfl, e⟩ := DataW.trod_bool hu hr
   cases e
   split at h
   ·rename_i e
    cases e
    rw [of_decide_eq_true h]
   ·cases h
  ·rename_i k hu
   obtain ⟨m, rfl, e, _⟩ := DataW.trod_int hu hr
   cases e
   split at h
   ·rename_i e
    cases e
    simp only [Bool.and_eq_true] at h
    rw [of_decide_eq_true h.1, of_decide_eq_true h.2]
   ·cases h
  ·rename_i hu
   obtain ⟨s, rfl, e, _⟩ := DataW.trod_string hu hr
   cases e
   split at h
   ·rename_i s' e
    cases e
    have := of_decide_eq_true h
    have e2 : s.data = s'.data := Array.ext' this
    obtain ⟨a⟩ := s
    obtain ⟨b⟩ := s'
    simp only at e2
    rw [e2]
   ·cases h
  ·rename_i fs hu
   obtain ⟨xs, m, rfl, e, hl, hx, he⟩ := DataW.trod_struct hu hr
   cases e
   simp only [Bool.and_eq_true, beq_iff] at h
   obtain ⟨h1, h2⟩ := h
   have := fields_d (g := fun u d' l => ∃ q, DataW.trod enc P W base sp held m u l = some (d', q)) (fun u d' vs' cs' q1 ⟨q, hq⟩ => ih u d' vs' q1 m cs' q hq) h2 (cs := cs) (by omega) fun i x d' hi hd => by
    rw [he i x (by simpa using hi)]
    simp only [List.getElem?_map, Option.map_eq_some_iff] at hd
    obtain ⟨⟨d2, q⟩, hd, rfl⟩ := hd
    exact ⟨q, hd⟩
   simpa using this
  ·rename_i k e hu
   obtain ⟨xs, m, rfl, e', hl, hx, he⟩ := DataW.trod_array hu hr
   cases e'
   simp only [Bool.and_eq_true, beq_iff] at h
   obtain ⟨h1, h2⟩ := h
   have := rep_d (g := fun d' l => ∃ q, DataW.trod enc P W base sp held m e l = some (d', q)) (fun d' vs' cs' q1 ⟨q, hq⟩ => ih e d' vs' q1 m cs' q hq) (k := 0) h2 (cs := cs) (by omega) fun i d' hi hd => by
    rw [Nat.zero_add, he i hi]
    simp only [List.getElem?_map, Option.map_eq_some_iff] at hd
    obtain ⟨⟨d2, q⟩, hd, rfl⟩ := hd
    exact ⟨q, hd⟩
   simpa using this
  ·cases h
theorem laidVars_mem {W : World} : ∀ {laid : List (String × DataW Unit)} {ps : List MemPlace}, DataW.LaidVars P W laid ps → ∀ x ∈ laid, ∃ g t cs fuel p, P.globalNamed x.1 = some g ∧ (P.globals[g]?).map (·.type) = some t ∧ W.var? P x.1 = some cs ∧
      DataW.trod (fun _ => ()) P W 0 (fun _ => true) false fuel t cs.toList = some (x.2, p)
 | [], _, _, x, hx => by cases hx
 | y :: r, ps, ⟨g, t, cs, fuel, p, q, h1, h2, h3, h4, h5, _⟩, x, hx => by
  rcases List.mem_cons.1 hx with rfl | hx
  ·exact ⟨g, t, cs, fuel, p, h1, h2, h3, h4⟩
  ·exact laidVars_mem h5 x hx
def tabD (P : Program) (laid : List (String × DataW Unit)) (l : Tabs) : Bool := l.all fun p => laid.any fun x => (match P.globalNamed x.1 with | some g => Nat.beq g p.1 | none => false) && (match (P.globals[p.1]?).map (·.type) with | some t => dB P 100 t x.2 p.2 | none => false)
def noOpq (l : Tabs) : Bool := l.all fun p => p.2.all fun v => !opqV v
theorem noOpq_of {l : Tabs} (hN : noOpq l = true) {g : Nat} {cs : List Value} (hg : look l g = some cs) {i : Nat} {v : Value} (hi : cs[i]? = some v) : opqV v = false := by
 have := List.all_eq_true.1 (List.all_eq_true.1 hN _ (look_mem hg)) v (List.mem_of_getElem? hi)
 simpa using this
theorem laidT_of {laid : List (String × DataW Unit)} {l : Tabs} {W : World} (hB : tabD P laid l = true) (h : laidMet P laid W) (hN : noOpq l = true := by decide) : LaidT l W := by
 intro g vs hg
 obtain ⟨ps, hv, _⟩ := h
 have := List.all_eq_true.1 hB _ (look_mem hg)
 obtain ⟨x, hx, hc⟩ := List.any_eq_true.1 this
 obtain ⟨g', t, cs, fuel, p, h1, h2, h3, h4⟩ := laidVars_mem hv x hx
 rw [h1] at hc
 simp only [Bool.and_eq_true, beq_iff] at hc
 obtain ⟨rfl, hc⟩ := hc
 rw [h2] at hc
 have e := trod_cells 100 t x.2 vs hc fuel _ p h4
 unfold World.var? at h3
 rw [h1] at h3
 simp only [Option.bind_some] at h3
 split at h3
 ·rename_i c e' fr hh
  injection h3 with h3
  subst h3
  refine ⟨_, e', fr, hh, by rw [← e]; simp, fun i v hi => ⟨v, by rw [← e] at hi; simpa using hi, .inl ⟨?_, rfl⟩⟩⟩
  exact noOpq_of hN hg hi
 ·cases h3
end
end Go.M
namespace Go.M
open Go
variable {P : Program}
theorem trod_if {enc : TypeId × Value → Unit} {W : World} {base : Nat} {sp : Nat → Bool} {fuel : Nat} {t : TypeId} {cs : List Value} {x : DataW Unit × List MemPlace} {ms : Array (String × TypeId)} (hu : P.underlying t = some (.interface ms))
 (h : DataW.trod enc P W base sp false fuel t cs = some x) : ∃ v, cs = [v] ∧ isIf v := by
 have key : (∃ v, cs = [v] ∧ v = .nilIface) ∨ ∃ v u w, cs = [v] ∧ v = .iface u w := by
  cases fuel with
  | zero => simp [DataW.trod] at h
  | succ n =>
   unfold DataW.trod at h
   rw [hu] at h
   split at h <;> simp_all
 rcases key with ⟨v, h1, h2⟩ | ⟨v, u, w, h1, h2⟩
 ·exact ⟨v, h1, .inl h2⟩
 ·exact ⟨v, h1, .inr ⟨u, w, h2⟩⟩
theorem laid_if {laid : List (String × DataW Unit)} {W : World} (h : laidMet P laid W) {nm : String} {d : DataW Unit} (hx : (nm, d) ∈ laid) {g : Nat} {t : TypeId} {ms : Array (String × TypeId)} (hg : P.globalNamed nm = some g) (ht : (P.globals[g]?).map (·.type) = some t)
 (hu : P.underlying t = some (.interface ms)) : ∃ c e fr v, W.heap[g]? = some (.cells c e fr) ∧ 1 ≤ c.size ∧ c[0]? = some v ∧ isIf v := by
 obtain ⟨ps, hv, _⟩ := h
 obtain ⟨g', t', cs, fuel, p, h1, h2, h3, h4⟩ := laidVars_mem hv _ hx
 rw [hg] at h1
 cases h1
 rw [ht] at h2
 cases h2
 obtain ⟨v, e, hv⟩ := trod_if hu h4
 unfold World.var? at h3
 rw [hg] at h3
 simp only [Option.bind_some] at h3
 split at h3
 ·rename_i c e' fr hh
  injection h3 with h3
  subst h3
  have e0 : c[0]? = some v := by
   have := congrArg (fun l : List Value => l[0]?) e
   simpa using this
  exact ⟨c, e', fr, v, hh, (Array.getElem?_eq_some_iff.1 e0).1, e0, hv⟩
 ·cases h3
end Go.M
namespace Go.M
open Go
theorem returns_shaped {H : Type} {enc : TypeId × Value → H} {a : Assume} {C : Checked} {os : Os} {f : FuncId} {fn : Func} {s : ChangeSpec} {conds : List PathCond} {apart fresh handsOn again : Bool} {X : World → Array Value → Prop}
 (hX : ∀ (w w' : World) (args : Array Value), w.heap = w'.heap → X w args → X w' args)
 (own : ownKnob C.prog.godebug = none) (started : os.Started) (noInit : C.prog.inits.idxOf? f = none) (hfn : C.prog.funcs[f]? = some fn)
 (witness : ∃ (w : World) (tape : Tape) (i : Input), w.os = os ∧ (w.forCall tape i).Shaped C.prog ∧ i.vars = [] ∧ Input.okWide C.prog (w.forCall tape i) .any w.heap.size f i ∧
  ((s.pre enc C.prog fn conds apart (w.forCall tape i).memory i.args ∧ X (w.forCall tape i).memory i.args) ∧ sizedMet enc C.prog fn (OpenSpec.ofChange s) apart (w.forCall tape i).memory i.args) ∧ a.holds C.prog (lone (Frame.enter C.prog f i.args .normal) [] (w.forCall tape i)))
 (contract : ∀ (W : World) (base : Nat) (args : Array Value) (ds gs : List (DataW H)) (before : List MemPlace), W.ShapedOpen C.prog →
  (∀ (j : Nat) t v, fn.params[j]? = some t → args[j]? = some v → Value.okWide C.prog W .any base t v) →
  DataW.Whole enc C.prog fn.params.toList s.vars apart W args.toList ds gs before → X W args →
  Calls C.prog f args W fun e W' => ∃ v, e = .returned v ∧ s.post enc C.prog fn apart fresh handsOn again W args v W') :
 ReturnsInHanded a C os f .any (fun w args => (s.pre enc C.prog fn conds apart w args ∧ X w args) ∧ sizedMet enc C.prog fn (OpenSpec.ofChange s) apart w args) (s.post enc C.prog fn apart fresh handsOn again) := by
 refine returnsInHanded_of_calls own started noInit witness ?_
 intro w tape i _ hsh _ hok hpre hholds
 obtain ⟨_, _, _, fn', hfn', _, _, _, _, hval⟩ := hok
 have e : fn' = fn := Option.some.inj (hfn'.symm.trans hfn)
 subst e
 obtain ⟨⟨⟨ds, gs, before, hw, hc⟩, hx⟩, hz⟩ := hpre
 have hw' := DataW.Whole.of_heap (w' := w.forCall tape i) (by rfl) hw
 refine (contract (w.forCall tape i) w.heap.size i.args ds gs before hsh hval hw' (hX _ _ _ (by rfl) hx)).mono fun e W' ⟨v, he, hp⟩ => ?_
 subst he
 exact ChangeSpec.post_blind hp
end Go.M
