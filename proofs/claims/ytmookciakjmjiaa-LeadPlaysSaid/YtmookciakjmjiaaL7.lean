/-
  Part 7 of the library that the proof leans on.
-/
import Derived.KernelRfl
import Derived.Test.YtmookciakjmjiaaL6
namespace Go.M
open Go Go.Proofs
set_option maxRecDepth 100000
set_option maxHeartbeats 4000000
def Step0R (me masters : Int) (r : TV) (ob : Ob) (c : Nat) : Prop := (r = .tup [refL (L0S me masters) [] [] [] true, .s (.bool true)] ∧ c = 1 ∧ ob = [(0, lead0 me masters)]) ∨ ∃ y who votes L fl, r = .tup [refL y who votes L fl, .s (.bool true)] ∧ RelL y who votes L fl ∧ c = 3 ∧ ob = stL y
theorem step0_ok (me masters : Int) (hmm : m5 masters) (hm : 1 ≤ me ∧ me ≤ masters) (o : Op13) (ho : OpOk o) :
 VC E0 57 1 [.ptr 0 0, refL (L0S me masters) [] [] [] true, .agg (encOp13 o)] [(0, lead0 me masters)] (Step0R me masters) := by
 have hme : m5 me := by unfold m5 at *; omega
 have hb5 : 0 ≤ (L0S me masters).b ∧ (L0S me masters).b ≤ 18446744073709551615 := by simp
 refine VC.enterR L0 (show E0.func 57 = some Try.f57 by kernel_rfl) (fun _ _ => rfl) rfl rfl [] ?_
 ((conv=>whnf)<;>repeat(with_reducible refine D1 ?_)<;>conv=>whnf)
 cases hown : o.own
 ·((conv=>whnf)<;>repeat(with_reducible refine D1 ?_)<;>conv=>whnf)
  (first|refine ⟨?_,?_⟩|refine nsplit ?_ ?_|refine bsplit ?_ ?_)<;>intro k0<;>have hz_:=True.intro<;>clear hz_
  ·((conv=>whnf)<;>repeat(with_reducible refine D1 ?_)<;>conv=>whnf)
   by_cases he : (startQ (L0S me masters) o.ballot o.n).2 = 0
   ·refine ⟨[], [], _, _, _, _, refStart_ok (L0S me masters) [] [] [] true o.ballot o.n ho.b hb5 hme, t3, ?_⟩
    rintro r o' c' ⟨rfl, rfl, rfl⟩
    rw [if_pos he]
    ((conv=>whnf)<;>repeat(with_reducible refine D1 ?_)<;>conv=>whnf)
    refine ⟨[], [some 0], _, _, _, _, start0G_ok me masters o.ballot o.n ho.b hme, t3, ?_⟩
    rintro r ob c ⟨rfl, ⟨he', rfl, rfl⟩ | ⟨-, rfl, rfl⟩⟩
    ·exact absurd he he'
    ·((conv=>whnf)<;>repeat(with_reducible refine D1 ?_)<;>conv=>whnf)
     repeat ((first | (refine ⟨fun h_ => ?_, fun h_ => ?_⟩) | (refine nsplit (fun h_ => ?_) (fun h_ => ?_)) | (refine bsplit (fun h_ => ?_) (fun h_ => ?_))); rotate_left; first | (exact absurd rfl h_) | (exact absurd (by decide) h_) | (cases h_; done) | (simp at h_; done); ((conv=>whnf)<;>repeat(with_reducible refine D1 ?_)<;>conv=>whnf))
     refine ⟨[], [some 0, some 6, some 7], ?_⟩
     iterate 3 constructor
     refine ⟨⟨?_, ?_, ?_⟩, .inr ⟨startS me masters (startQ (L0S me masters) o.ballot o.n).1 o.n, [], [], [], true, rfl, rel_start (x := L0S me masters) hmm hm he, rfl, rfl⟩⟩
     all_goals (repeat' first|with_reducible exact Lz.rfl|exact Lw.rfl|exact Lz.wrap (by omega)|(unfold goInt;with_reducible exact Lz.rfl)|exact flx _|constructor)
     all_goals first | exact Lz.rfl | skip
   ·refine ⟨[], [], _, _, _, _, refStart_ok (L0S me masters) [] [] [] true o.ballot o.n ho.b hb5 hme, t3, ?_⟩
    rintro r o' c' ⟨rfl, rfl, rfl⟩
    rw [if_neg he]
    ((conv=>whnf)<;>repeat(with_reducible refine D1 ?_)<;>conv=>whnf)
    refine ⟨[], [some 0], _, _, _, _, start0G_ok me masters o.ballot o.n ho.b hme, t3, ?_⟩
    rintro r ob c ⟨rfl, ⟨-, rfl, rfl⟩ | ⟨he', rfl, rfl⟩⟩
    ·((conv=>whnf)<;>repeat(with_reducible refine D1 ?_)<;>conv=>whnf)
     repeat ((first | (refine ⟨fun h_ => ?_, fun h_ => ?_⟩) | (refine nsplit (fun h_ => ?_) (fun h_ => ?_)) | (refine bsplit (fun h_ => ?_) (fun h_ => ?_))); rotate_left; first | (exact absurd rfl h_) | (exact absurd (by decide) h_) | (cases h_; done) | (simp at h_; done); ((conv=>whnf)<;>repeat(with_reducible refine D1 ?_)<;>conv=>whnf))
     exact ⟨[], [some 0], _, _, _, t3, .inl ⟨rfl, rfl, rfl⟩⟩
    ·exact absurd he' he
  ·((conv=>whnf)<;>repeat(with_reducible refine D1 ?_)<;>conv=>whnf)
   (first|refine ⟨?_,?_⟩|refine nsplit ?_ ?_|refine bsplit ?_ ?_)<;>intro k1<;>have hz_:=True.intro<;>clear hz_
   ·((conv=>whnf)<;>repeat(with_reducible refine D1 ?_)<;>conv=>whnf)
    refine ⟨[], [], _, _, _, _, refPromiseNo_ok (L0S me masters) [] [] [] true o.ballot o.who o.votes (by simp), t3, ?_⟩
    rintro r o' c' ⟨rfl, rfl, rfl⟩
    ((conv=>whnf)<;>repeat(with_reducible refine D1 ?_)<;>conv=>whnf)
    refine ⟨[], [some 0], _, _, _, _, promise0_ok me masters o.ballot o.who o.votes, t3, ?_⟩
    rintro r o' c' ⟨rfl, rfl, rfl⟩
    ((conv=>whnf)<;>repeat(with_reducible refine D1 ?_)<;>conv=>whnf)
    refine ⟨[], [], _, _, _, _, same_ok [] [] (by simp), t3, ?_⟩
    rintro r o' c' ⟨rfl, rfl, rfl⟩
    rw [show eqB ([] : List Vote) [] = true from eqB_iff.2 rfl]
    ((conv=>whnf)<;>repeat(with_reducible refine D1 ?_)<;>conv=>whnf)
    exact ⟨[], [some 0], _, _, _, t3, .inl ⟨rfl, rfl, rfl⟩⟩
   ·((conv=>whnf)<;>repeat(with_reducible refine D1 ?_)<;>conv=>whnf)
    (first|refine ⟨?_,?_⟩|refine nsplit ?_ ?_|refine bsplit ?_ ?_)<;>intro k2<;>have hz_:=True.intro<;>clear hz_
    ·((conv=>whnf)<;>repeat(with_reducible refine D1 ?_)<;>conv=>whnf)
     refine ⟨[], [], _, _, _, _, refPropose_ok (L0S me masters) [] [] [] true o.cmd ho.ep (by simp) (by simp), t3, ?_⟩
     rintro r o' c' ⟨fl', rfl, rfl, rfl, hfl⟩
     have hfl' : fl' = true := hfl (by simp)
     subst hfl'
     rw [show proposeR (L0S me masters) [] o.cmd = (L0S me masters, [], noVote, 12) by unfold proposeR; rw [if_pos (by simp)]]
     ((conv=>whnf)<;>repeat(with_reducible refine D1 ?_)<;>conv=>whnf)
     refine ⟨[], [some 0], _, _, _, _, propose0_ok me masters o.cmd, t3, ?_⟩
     rintro r o' c' ⟨rfl, rfl, rfl⟩
     ((conv=>whnf)<;>repeat(with_reducible refine D1 ?_)<;>conv=>whnf)
     repeat ((first | (refine ⟨fun h_ => ?_, fun h_ => ?_⟩) | (refine nsplit (fun h_ => ?_) (fun h_ => ?_)) | (refine bsplit (fun h_ => ?_) (fun h_ => ?_))) <;> first | (exfalso; revert h_; decide; done) | (exact absurd rfl h_) | (have hz_ := True.intro; clear hz_; ((conv=>whnf)<;>repeat(with_reducible refine D1 ?_)<;>conv=>whnf)))
     exact ⟨[], [some 0], _, _, _, t3, .inl ⟨rfl, rfl, rfl⟩⟩
    ·((conv=>whnf)<;>repeat(with_reducible refine D1 ?_)<;>conv=>whnf)
     (first|refine ⟨?_,?_⟩|refine nsplit ?_ ?_|refine bsplit ?_ ?_)<;>intro k3<;>have hz_:=True.intro<;>clear hz_
     ·((conv=>whnf)<;>repeat(with_reducible refine D1 ?_)<;>conv=>whnf)
      refine ⟨[], [], _, _, _, _, refAccepted_ok (L0S me masters) [] [] [] true o.ballot o.n o.who hmm (by simp) (by simp), t3, ?_⟩
      rintro r o' c' ⟨L', fl', v, ok, rfl, rfl, rfl, hA, hfl⟩
      obtain ⟨rfl, rfl⟩ := hfl (by simp)
      have hA' : v = noVote ∧ ok = false := by
       rcases hA with ⟨_, _, a, b⟩ | ⟨⟨⟨a, _⟩, _⟩, _⟩
       ·exact ⟨a, b⟩
       ·exact absurd (show (0 : Int) = 2 from a) (by decide)
      obtain ⟨rfl, rfl⟩ := hA'
      ((conv=>whnf)<;>repeat(with_reducible refine D1 ?_)<;>conv=>whnf)
      refine ⟨[], [some 0], _, _, _, _, accepted0_ok me masters o.ballot o.n o.who, t3, ?_⟩
      rintro r o' c' ⟨rfl, rfl, rfl⟩
      ((conv=>whnf)<;>repeat(with_reducible refine D1 ?_)<;>conv=>whnf)
      repeat ((first | (refine ⟨fun h_ => ?_, fun h_ => ?_⟩) | (refine nsplit (fun h_ => ?_) (fun h_ => ?_)) | (refine bsplit (fun h_ => ?_) (fun h_ => ?_))) <;> first | (exfalso; revert h_; decide; done) | (exact absurd rfl h_) | (have hz_ := True.intro; clear hz_; ((conv=>whnf)<;>repeat(with_reducible refine D1 ?_)<;>conv=>whnf)))
      exact ⟨[], [some 0], _, _, _, t3, .inl ⟨rfl, rfl, rfl⟩⟩
     ·((conv=>whnf)<;>repeat(with_reducible refine D1 ?_)<;>conv=>whnf)
      refine ⟨[], [], _, _, _, _, refRefuse_ok (L0S me masters) [] [] [] true o.ballot, t3, ?_⟩
      rintro r o' c' ⟨rfl, rfl, rfl⟩
      rw [show refuseS (L0S me masters) o.ballot = (L0S me masters, false) by unfold refuseS; rw [if_pos (.inl rfl)]]
      rw [if_neg (show ¬ ((L0S me masters, false) : LeadS × Bool).2 = true from Bool.false_ne_true)]
      ((conv=>whnf)<;>repeat(with_reducible refine D1 ?_)<;>conv=>whnf)
      refine ⟨[], [some 0], _, _, _, _, refuse0_ok me masters o.ballot, t3, ?_⟩
      rintro r o' c' ⟨rfl, rfl, rfl⟩
      ((conv=>whnf)<;>repeat(with_reducible refine D1 ?_)<;>conv=>whnf)
      exact ⟨[], [some 0], _, _, _, t3, .inl ⟨rfl, rfl, rfl⟩⟩
 ·((conv=>whnf)<;>repeat(with_reducible refine D1 ?_)<;>conv=>whnf)
  (first|refine ⟨?_,?_⟩|refine nsplit ?_ ?_|refine bsplit ?_ ?_)<;>intro k0<;>have hz_:=True.intro<;>clear hz_
  ·((conv=>whnf)<;>repeat(with_reducible refine D1 ?_)<;>conv=>whnf)
   by_cases he : (startQ (L0S me masters) 0 o.n).2 = 0
   ·refine ⟨[], [], _, _, _, _, refStart_ok (L0S me masters) [] [] [] true 0 o.n hb5 hb5 hme, t3, ?_⟩
    rintro r o' c' ⟨rfl, rfl, rfl⟩
    rw [if_pos he]
    ((conv=>whnf)<;>repeat(with_reducible refine D1 ?_)<;>conv=>whnf)
    refine ⟨[], [some 0], _, _, _, _, start0G_ok me masters 0 o.n hb5 hme, t3, ?_⟩
    rintro r ob c ⟨rfl, ⟨he', rfl, rfl⟩ | ⟨-, rfl, rfl⟩⟩
    ·exact absurd he he'
    ·((conv=>whnf)<;>repeat(with_reducible refine D1 ?_)<;>conv=>whnf)
     repeat ((first | (refine ⟨fun h_ => ?_, fun h_ => ?_⟩) | (refine nsplit (fun h_ => ?_) (fun h_ => ?_)) | (refine bsplit (fun h_ => ?_) (fun h_ => ?_))); rotate_left; first | (exact absurd rfl h_) | (exact absurd (by decide) h_) | (cases h_; done) | (simp at h_; done); ((conv=>whnf)<;>repeat(with_reducible refine D1 ?_)<;>conv=>whnf))
     refine ⟨[], [some 0, some 6, some 7], ?_⟩
     iterate 3 constructor
     refine ⟨⟨?_, ?_, ?_⟩, .inr ⟨startS me masters (startQ (L0S me masters) 0 o.n).1 o.n, [], [], [], true, rfl, rel_start (x := L0S me masters) hmm hm he, rfl, rfl⟩⟩
     all_goals (repeat' first|with_reducible exact Lz.rfl|exact Lw.rfl|exact Lz.wrap (by omega)|(unfold goInt;with_reducible exact Lz.rfl)|exact flx _|constructor)
     all_goals first | exact Lz.rfl | skip
   ·refine ⟨[], [], _, _, _, _, refStart_ok (L0S me masters) [] [] [] true 0 o.n hb5 hb5 hme, t3, ?_⟩
    rintro r o' c' ⟨rfl, rfl, rfl⟩
    rw [if_neg he]
    ((conv=>whnf)<;>repeat(with_reducible refine D1 ?_)<;>conv=>whnf)
    refine ⟨[], [some 0], _, _, _, _, start0G_ok me masters 0 o.n hb5 hme, t3, ?_⟩
    rintro r ob c ⟨rfl, ⟨-, rfl, rfl⟩ | ⟨he', rfl, rfl⟩⟩
    ·((conv=>whnf)<;>repeat(with_reducible refine D1 ?_)<;>conv=>whnf)
     repeat ((first | (refine ⟨fun h_ => ?_, fun h_ => ?_⟩) | (refine nsplit (fun h_ => ?_) (fun h_ => ?_)) | (refine bsplit (fun h_ => ?_) (fun h_ => ?_))); rotate_left; first | (exact absurd rfl h_) | (exact absurd (by decide) h_) | (cases h_; done) | (simp at h_; done); ((conv=>whnf)<;>repeat(with_reducible refine D1 ?_)<;>conv=>whnf))
     exact ⟨[], [some 0], _, _, _, t3, .inl ⟨rfl, rfl, rfl⟩⟩
    ·exact absurd he' he
  ·((conv=>whnf)<;>repeat(with_reducible refine D1 ?_)<;>conv=>whnf)
   (first|refine ⟨?_,?_⟩|refine nsplit ?_ ?_|refine bsplit ?_ ?_)<;>intro k1<;>have hz_:=True.intro<;>clear hz_
   ·((conv=>whnf)<;>repeat(with_reducible refine D1 ?_)<;>conv=>whnf)
    refine ⟨[], [], _, _, _, _, refPromiseNo_ok (L0S me masters) [] [] [] true 0 o.who o.votes (by simp), t3, ?_⟩
    rintro r o' c' ⟨rfl, rfl, rfl⟩
    ((conv=>whnf)<;>repeat(with_reducible refine D1 ?_)<;>conv=>whnf)
    refine ⟨[], [some 0], _, _, _, _, promise0_ok me masters 0 o.who o.votes, t3, ?_⟩
    rintro r o' c' ⟨rfl, rfl, rfl⟩
    ((conv=>whnf)<;>repeat(with_reducible refine D1 ?_)<;>conv=>whnf)
    refine ⟨[], [], _, _, _, _, same_ok [] [] (by simp), t3, ?_⟩
    rintro r o' c' ⟨rfl, rfl, rfl⟩
    rw [show eqB ([] : List Vote) [] = true from eqB_iff.2 rfl]
    ((conv=>whnf)<;>repeat(with_reducible refine D1 ?_)<;>conv=>whnf)
    exact ⟨[], [some 0], _, _, _, t3, .inl ⟨rfl, rfl, rfl⟩⟩
   ·((conv=>whnf)<;>repeat(with_reducible refine D1 ?_)<;>conv=>whnf)
    (first|refine ⟨?_,?_⟩|refine nsplit ?_ ?_|refine bsplit ?_ ?_)<;>intro k2<;>have hz_:=True.intro<;>clear hz_
    ·((conv=>whnf)<;>repeat(with_reducible refine D1 ?_)<;>conv=>whnf)
     refine ⟨[], [], _, _, _, _, refPropose_ok (L0S me masters) [] [] [] true o.cmd ho.ep (by simp) (by simp), t3, ?_⟩
     rintro r o' c' ⟨fl', rfl, rfl, rfl, hfl⟩
     have hfl' : fl' = true := hfl (by simp)
     subst hfl'
     rw [show proposeR (L0S me masters) [] o.cmd = (L0S me masters, [], noVote, 12) by unfold proposeR; rw [if_pos (by simp)]]
     ((conv=>whnf)<;>repeat(with_reducible refine D1 ?_)<;>conv=>whnf)
     refine ⟨[], [some 0], _, _, _, _, propose0_ok me masters o.cmd, t3, ?_⟩
     rintro r o' c' ⟨rfl, rfl, rfl⟩
     ((conv=>whnf)<;>repeat(with_reducible refine D1 ?_)<;>conv=>whnf)
     repeat ((first | (refine ⟨fun h_ => ?_, fun h_ => ?_⟩) | (refine nsplit (fun h_ => ?_) (fun h_ => ?_)) | (refine bsplit (fun h_ => ?_) (fun h_ => ?_))) <;> first | (exfalso; revert h_; decide; done) | (exact absurd rfl h_) | (have hz_ := True.intro; clear hz_; ((conv=>whnf)<;>repeat(with_reducible refine D1 ?_)<;>conv=>whnf)))
     exact ⟨[], [some 0], _, _, _, t3, .inl ⟨rfl, rfl, rfl⟩⟩
    ·((conv=>whnf)<;>repeat(with_reducible refine D1 ?_)<;>conv=>whnf)
     (first|refine ⟨?_,?_⟩|refine nsplit ?_ ?_|refine bsplit ?_ ?_)<;>intro k3<;>have hz_:=True.intro<;>clear hz_
     ·((conv=>whnf)<;>repeat(with_reducible refine D1 ?_)<;>conv=>whnf)
      refine ⟨[], [], _, _, _, _, refAccepted_ok (L0S me masters) [] [] [] true 0 o.n o.who hmm (by simp) (by simp), t3, ?_⟩
      rintro r o' c' ⟨L', fl', v, ok, rfl, rfl, rfl, hA, hfl⟩
      obtain ⟨rfl, rfl⟩ := hfl (by simp)
      have hA' : v = noVote ∧ ok = false := by
       rcases hA with ⟨_, _, a, b⟩ | ⟨⟨⟨a, _⟩, _⟩, _⟩
       ·exact ⟨a, b⟩
       ·exact absurd (show (0 : Int) = 2 from a) (by decide)
      obtain ⟨rfl, rfl⟩ := hA'
      ((conv=>whnf)<;>repeat(with_reducible refine D1 ?_)<;>conv=>whnf)
      refine ⟨[], [some 0], _, _, _, _, accepted0_ok me masters 0 o.n o.who, t3, ?_⟩
      rintro r o' c' ⟨rfl, rfl, rfl⟩
      ((conv=>whnf)<;>repeat(with_reducible refine D1 ?_)<;>conv=>whnf)
      repeat ((first | (refine ⟨fun h_ => ?_, fun h_ => ?_⟩) | (refine nsplit (fun h_ => ?_) (fun h_ => ?_)) | (refine bsplit (fun h_ => ?_) (fun h_ => ?_))) <;> first | (exfalso; revert h_; decide; done) | (exact absurd rfl h_) | (have hz_ := True.intro; clear hz_; ((conv=>whnf)<;>repeat(with_reducible refine D1 ?_)<;>conv=>whnf)))
      exact ⟨[], [some 0], _, _, _, t3, .inl ⟨rfl, rfl, rfl⟩⟩
     ·((conv=>whnf)<;>repeat(with_reducible refine D1 ?_)<;>conv=>whnf)
      refine ⟨[], [], _, _, _, _, refRefuse_ok (L0S me masters) [] [] [] true 0, t3, ?_⟩
      rintro r o' c' ⟨rfl, rfl, rfl⟩
      rw [show refuseS (L0S me masters) 0 = (L0S me masters, false) by unfold refuseS; rw [if_pos (.inl rfl)]]
      rw [if_neg (show ¬ ((L0S me masters, false) : LeadS × Bool).2 = true from Bool.false_ne_true)]
      ((conv=>whnf)<;>repeat(with_reducible refine D1 ?_)<;>conv=>whnf)
      refine ⟨[], [some 0], _, _, _, _, refuse0_ok me masters 0, t3, ?_⟩
      rintro r o' c' ⟨rfl, rfl, rfl⟩
      ((conv=>whnf)<;>repeat(with_reducible refine D1 ?_)<;>conv=>whnf)
      exact ⟨[], [some 0], _, _, _, t3, .inl ⟨rfl, rfl, rfl⟩⟩
end Go.M
namespace Go.M
open Go Go.Proofs
set_option maxRecDepth 100000
set_option maxHeartbeats 4000000
theorem rightR_ok (me masters : Int) : VC E0 48 0 [.s (.int .i64 me), .s (.int .i64 masters)] [] (RR (.s (.bool (isRight me masters))) 0 []) := by
 refine VC.enterR L0 (show E0.func 48 = some Try.f48 by kernel_rfl) (fun _ _ => rfl) rfl rfl [] ?_
 ((conv=>whnf)<;>repeat(with_reducible refine D1 ?_)<;>conv=>whnf)
 repeat' (first | ((first | (refine ⟨fun h => ?_, fun h => ?_⟩) | (refine nsplit (fun h => ?_) (fun h => ?_)) | (refine bsplit (fun h => ?_) (fun h => ?_))) <;> ((conv=>whnf)<;>repeat(with_reducible refine D1 ?_)<;>conv=>whnf)))
 all_goals (refine ⟨[], [], [], _, _, ⟨?_, .nil, rfl⟩, rfl, rfl, rfl⟩)
 all_goals (refine .s (Lz.of (bool_eq ?_)); simp [isRight, m5, *]; try omega)
theorem awake13 : VC E0 49 0 [] [] (fun r o c => r = .s (.bool true) ∧ o = [] ∧ c = 0) := VC.awakeW (by kernel_rfl) rfl rfl rfl
def manyM (masters : Int) : Nat := masters.toNat / 2 + 1
def came1 (n : Nat) : List (Int × List Vote) := (List.range n).map fun (k : Nat) => ((k : Int) + 1, [])
@[reducible] def L1 (me masters : Int) (i : Nat) : LeadS := ⟨me, masters, if i < manyM masters then 1 else 2, 8 + me, 0, 0, came1 i, []⟩
@[reducible] def L2 (me masters : Int) (n : Nat) : LeadS := ⟨me, masters, 2, 8 + me, 0, n, came1 (manyM masters), []⟩
def whoL (masters : Int) (t : Nat) : Nat := withN 0 ((List.range t).map fun (k : Nat) => masters - k)
@[reducible] def L3 (me masters : Int) (n : Nat) (c : Cmd) (t : Nat) : LeadS := ⟨me, masters, 2, 8 + me, 0, ((n + 1 : Nat) : Int), came1 (manyM masters), if t < manyM masters then [((n : Int), c, whoL masters t)] else []⟩
@[reducible] def encC (c : Cmd) : List TV := [.s (.int .i64 c.kind), .s (.int .i64 c.chain), .s (.int .u64 c.epoch), .s (.int .i64 c.node)]
end Go.M
namespace Go.M
open Go Go.Proofs
set_option maxRecDepth 100000
set_option maxHeartbeats 4000000
def InvP (me masters : Int) (i : Nat) (ops : List Op13) (f : List (Nat × TV)) (o : Ob) (c : Nat) : Prop :=
 (c = 2 ∧ f = [(2, .sl 10 (ops.map encOp13) false), (7, .ptr 0 0), (8, .s (.int .i64 0)), (9, .ptr 1 0), (10, .s (.int .i64 i))] ∧ o = [(0, lead0 me masters), (1, .cells (refC (L0S me masters) [] [] [] true))]) ∨
 (∃ y who votes L fl, RelL y who votes L fl ∧ c = 4 ∧ f = [(2, .sl 10 (ops.map encOp13) false), (7, .ptr 0 0), (8, .s (.int .i64 0)), (9, .ptr 1 0), (10, .s (.int .i64 i))] ∧ o = [(0, leadO y 2 3), (1, .cells (refC y who votes L fl)), (2, cameO y), (3, openO y)])
theorem leadPlays_ok (me masters : Int) (ops : List Op13) (hops : ∀ o ∈ ops, 0 ≤ o.cmd.epoch ∧ (0 ≤ o.ballot ∧ o.ballot ≤ 18446744073709551615) ∧ ∀ v ∈ o.votes, inI v.slot) :
 VC E0 12 0 [.s (.int .i64 me), .s (.int .i64 masters), .sl 10 (ops.map encOp13) false] [] (fun r _ _ => r = .s (.bool true)) := by
 refine VC.enterR L0 (show E0.func 12 = some Try.f12 by kernel_rfl) (fun _ _ => rfl) rfl rfl [] ?_
 ((conv=>whnf)<;>repeat(with_reducible refine D1 ?_)<;>conv=>whnf)
 by_cases hR : isRight me masters = true
 ·obtain ⟨hm, hme1, hme2⟩ := of_decide_eq_true hR
  refine ⟨[], [], _, _, _, _, newL_ok me masters hm ⟨hme1, hme2⟩, t3, ?_⟩
  rintro r o' c' ⟨rfl, rfl, rfl⟩
  ((conv=>whnf)<;>repeat(with_reducible refine D1 ?_)<;>conv=>whnf)
  refine ⟨[], [], _, _, _, _, rightR_ok me masters, t3, ?_⟩
  rintro r o' c' ⟨rfl, rfl, rfl⟩
  rw [hR]
  ((conv=>whnf)<;>repeat(with_reducible refine D1 ?_)<;>conv=>whnf)
  refine ⟨fun kk f o c => ∃ i : Nat, i ≤ ops.length ∧ kk = ops.length - i ∧ InvP me masters i ops f o c, ⟨ops.length, ?_⟩, ?_⟩
  ·exact ⟨[], [some 0, some 1], _, _, _, t3, ⟨0, Nat.zero_le _, rfl, .inl ⟨rfl, rfl, rfl⟩⟩⟩
  ·rintro kk f1 o1 c1 ⟨i, hi, rfl, ⟨rfl, rfl, rfl⟩ | ⟨y, who, votes, L, fl, h, rfl, rfl, rfl⟩⟩
   ·((conv=>whnf)<;>repeat(with_reducible refine D1 ?_)<;>conv=>whnf)
    (first|refine ⟨?_,?_⟩|refine nsplit ?_ ?_|refine bsplit ?_ ?_)<;>intro hl<;>have hz_:=True.intro<;>clear hz_
    rotate_left
    ·((conv=>whnf)<;>repeat(with_reducible refine D1 ?_)<;>conv=>whnf)
     repeat ((first | (refine ⟨fun h_ => ?_, fun h_ => ?_⟩) | (refine nsplit (fun h_ => ?_) (fun h_ => ?_)) | (refine bsplit (fun h_ => ?_) (fun h_ => ?_))) <;> first | (exfalso; revert h_; decide; done) | (exact absurd rfl h_) | (have hz_ := True.intro; clear hz_; ((conv=>whnf)<;>repeat(with_reducible refine D1 ?_)<;>conv=>whnf)))
     refine ⟨[], [], _, _, _, _, awake13, t3, ?_⟩
     rintro r o' c' ⟨rfl, rfl, rfl⟩
     ((conv=>whnf)<;>repeat(with_reducible refine D1 ?_)<;>conv=>whnf)
     exact ⟨[], [], [], .s (.bool true), [], ⟨.s Lz.rfl, .nil, rfl⟩, rfl⟩
    have hl := lenlt.1 hl
    ((conv=>whnf)<;>repeat(with_reducible refine D1 ?_)<;>conv=>whnf)
    (first|refine ⟨?_,?_⟩|refine nsplit ?_ ?_|refine bsplit ?_ ?_)<;>intro h60<;>have hz_:=True.intro<;>clear hz_
    rotate_left
    ·((conv=>whnf)<;>repeat(with_reducible refine D1 ?_)<;>conv=>whnf)
     repeat ((first | (refine ⟨fun h_ => ?_, fun h_ => ?_⟩) | (refine nsplit (fun h_ => ?_) (fun h_ => ?_)) | (refine bsplit (fun h_ => ?_) (fun h_ => ?_))) <;> first | (exfalso; revert h_; decide; done) | (exact absurd rfl h_) | (have hz_ := True.intro; clear hz_; ((conv=>whnf)<;>repeat(with_reducible refine D1 ?_)<;>conv=>whnf)))
     refine ⟨[], [], _, _, _, _, awake13, t3, ?_⟩
     rintro r o' c' ⟨rfl, rfl, rfl⟩
     ((conv=>whnf)<;>repeat(with_reducible refine D1 ?_)<;>conv=>whnf)
     exact ⟨[], [], [], .s (.bool true), [], ⟨.s Lz.rfl, .nil, rfl⟩, rfl⟩
    ((conv=>whnf)<;>repeat(with_reducible refine D1 ?_)<;>conv=>whnf)
    refine idxI hl ?_
    ((conv=>whnf)<;>repeat(with_reducible refine D1 ?_)<;>conv=>whnf)
    (first|refine ⟨?_,?_⟩|refine nsplit ?_ ?_|refine bsplit ?_ ?_)<;>intro h40<;>have hz_:=True.intro<;>clear hz_
    ·((conv=>whnf)<;>repeat(with_reducible refine D1 ?_)<;>conv=>whnf)
     refine ⟨[], [], _, _, _, _, awake13, t3, ?_⟩
     rintro r o' c' ⟨rfl, rfl, rfl⟩
     ((conv=>whnf)<;>repeat(with_reducible refine D1 ?_)<;>conv=>whnf)
     exact ⟨[], [], [], .s (.bool true), [], ⟨.s Lz.rfl, .nil, rfl⟩, rfl⟩
    have ho : OpOk ops[i] := by
     obtain ⟨q1, q2, q3⟩ := hops _ (List.getElem_mem hl)
     have h40 : ¬ ((((ops[i].votes.map encV).length : Nat) : Int) > 40) := h40
     rw [List.length_map] at h40
     exact ⟨q1, q2, by omega, q3⟩
    ((conv=>whnf)<;>repeat(with_reducible refine D1 ?_)<;>conv=>whnf)
    refine idxI hl ?_
    ((conv=>whnf)<;>repeat(with_reducible refine D1 ?_)<;>conv=>whnf)
    refine ⟨[], [some 0], _, _, _, _, step0_ok me masters hm ⟨hme1, hme2⟩ ops[i] ho, t3, ?_⟩
    rintro r ob c (⟨rfl, rfl, rfl⟩ | ⟨y, who, votes, L, fl, rfl, h, rfl, rfl⟩)
    ·((conv=>whnf)<;>repeat(with_reducible refine D1 ?_)<;>conv=>whnf)
     refine ⟨[], [some 0], _, _, _, _, state0_ok me masters, t3, ?_⟩
     rintro r o' c' ⟨rfl, rfl, rfl⟩
     ((conv=>whnf)<;>repeat(with_reducible refine D1 ?_)<;>conv=>whnf)
     repeat ((first | (refine ⟨fun h_ => ?_, fun h_ => ?_⟩) | (refine nsplit (fun h_ => ?_) (fun h_ => ?_)) | (refine bsplit (fun h_ => ?_) (fun h_ => ?_))) <;> first | (exfalso; revert h_; decide; done) | (exact absurd rfl h_) | (have hz_ := True.intro; clear hz_; ((conv=>whnf)<;>repeat(with_reducible refine D1 ?_)<;>conv=>whnf)))
     refine ⟨[], [some 0], _, _, _, _, ballot0_ok me masters, t3, ?_⟩
     rintro r o' c' ⟨rfl, rfl, rfl⟩
     ((conv=>whnf)<;>repeat(with_reducible refine D1 ?_)<;>conv=>whnf)
     repeat ((first | (refine ⟨fun h_ => ?_, fun h_ => ?_⟩) | (refine nsplit (fun h_ => ?_) (fun h_ => ?_)) | (refine bsplit (fun h_ => ?_) (fun h_ => ?_))) <;> first | (exfalso; revert h_; decide; done) | (exact absurd rfl h_) | (have hz_ := True.intro; clear hz_; ((conv=>whnf)<;>repeat(with_reducible refine D1 ?_)<;>conv=>whnf)))
     refine ⟨[], [some 0], _, _, _, _, from0_ok me masters, t3, ?_⟩
     rintro r o' c' ⟨rfl, rfl, rfl⟩
     ((conv=>whnf)<;>repeat(with_reducible refine D1 ?_)<;>conv=>whnf)
     repeat ((first | (refine ⟨fun h_ => ?_, fun h_ => ?_⟩) | (refine nsplit (fun h_ => ?_) (fun h_ => ?_)) | (refine bsplit (fun h_ => ?_) (fun h_ => ?_))) <;> first | (exfalso; revert h_; decide; done) | (exact absurd rfl h_) | (have hz_ := True.intro; clear hz_; ((conv=>whnf)<;>repeat(with_reducible refine D1 ?_)<;>conv=>whnf)))
     refine ⟨[], [some 0], _, _, _, _, next0_ok me masters, t3, ?_⟩
     rintro r o' c' ⟨rfl, rfl, rfl⟩
     ((conv=>whnf)<;>repeat(with_reducible refine D1 ?_)<;>conv=>whnf)
     repeat ((first | (refine ⟨fun h_ => ?_, fun h_ => ?_⟩) | (refine nsplit (fun h_ => ?_) (fun h_ => ?_)) | (refine bsplit (fun h_ => ?_) (fun h_ => ?_))) <;> first | (exfalso; revert h_; decide; done) | (exact absurd rfl h_) | (have hz_ := True.intro; clear hz_; ((conv=>whnf)<;>repeat(with_reducible refine D1 ?_)<;>conv=>whnf)))
     refine ⟨[], [some 0], _, _, _, _, open0_ok me masters, t3, ?_⟩
     rintro r o' c' ⟨rfl, rfl, rfl⟩
     ((conv=>whnf)<;>repeat(with_reducible refine D1 ?_)<;>conv=>whnf)
     refine ⟨[], [], _, _, _, _, refOpen_ok (L0S me masters) [] [] [] true (by simp), t3, ?_⟩
     rintro r o' c' ⟨rfl, rfl, rfl⟩
     ((conv=>whnf)<;>repeat(with_reducible refine D1 ?_)<;>conv=>whnf)
     refine ⟨[], [], _, _, _, _, same_ok [] [] (by simp), t3, ?_⟩
     rintro r o' c' ⟨rfl, rfl, rfl⟩
     rw [show eqB ([] : List Vote) [] = true from eqB_iff.2 rfl]
     ((conv=>whnf)<;>repeat(with_reducible refine D1 ?_)<;>conv=>whnf)
     refine ⟨ops.length - (i + 1), ?_, by omega⟩
     exact ⟨[], [some 0, some 1], _, _, _, t3, ⟨i + 1, hl, rfl, .inl ⟨rfl, rfl, rfl⟩⟩⟩
    ·((conv=>whnf)<;>repeat(with_reducible refine D1 ?_)<;>conv=>whnf)
     have hlen : y.opn.length < 1000000 := by have := h.op.len (by have := h.nxt; omega); omega
     refine ⟨[], [some 0,some 3,some 4], _, _, _, _, stateL_ok y, t3, ?_⟩
     rintro r o' c' ⟨rfl, rfl, rfl⟩
     ((conv=>whnf)<;>repeat(with_reducible refine D1 ?_)<;>conv=>whnf)
     (first|refine ⟨?_,?_⟩|refine nsplit ?_ ?_|refine bsplit ?_ ?_)<;>intro hx<;>have hz_:=True.intro<;>clear hz_
     ·cases hx rfl
     ((conv=>whnf)<;>repeat(with_reducible refine D1 ?_)<;>conv=>whnf)
     refine ⟨[], [some 0,some 3,some 4], _, _, _, _, ballotL_ok y, t3, ?_⟩
     rintro r o' c' ⟨rfl, rfl, rfl⟩
     ((conv=>whnf)<;>repeat(with_reducible refine D1 ?_)<;>conv=>whnf)
     (first|refine ⟨?_,?_⟩|refine nsplit ?_ ?_|refine bsplit ?_ ?_)<;>intro hx<;>have hz_:=True.intro<;>clear hz_
     ·cases hx rfl
     ((conv=>whnf)<;>repeat(with_reducible refine D1 ?_)<;>conv=>whnf)
     refine ⟨[], [some 0,some 3,some 4], _, _, _, _, fromL_ok y, t3, ?_⟩
     rintro r o' c' ⟨rfl, rfl, rfl⟩
     ((conv=>whnf)<;>repeat(with_reducible refine D1 ?_)<;>conv=>whnf)
     (first|refine ⟨?_,?_⟩|refine nsplit ?_ ?_|refine bsplit ?_ ?_)<;>intro hx<;>have hz_:=True.intro<;>clear hz_
     ·cases hx rfl
     ((conv=>whnf)<;>repeat(with_reducible refine D1 ?_)<;>conv=>whnf)
     refine ⟨[], [some 0,some 3,some 4], _, _, _, _, nextL_ok y, t3, ?_⟩
     rintro r o' c' ⟨rfl, rfl, rfl⟩
     ((conv=>whnf)<;>repeat(with_reducible refine D1 ?_)<;>conv=>whnf)
     (first|refine ⟨?_,?_⟩|refine nsplit ?_ ?_|refine bsplit ?_ ?_)<;>intro hx<;>have hz_:=True.intro<;>clear hz_
     ·cases hx rfl
     ((conv=>whnf)<;>repeat(with_reducible refine D1 ?_)<;>conv=>whnf)
     refine ⟨[], [some 0,some 3,some 4], _, _, _, _, openL_ok y (h.op.ks (by have := h.nxt; omega)) hlen, t3, ?_⟩
     rintro r o' c' ⟨rfl, rfl, rfl⟩
     ((conv=>whnf)<;>repeat(with_reducible refine D1 ?_)<;>conv=>whnf)
     refine ⟨[], [], _, _, _, _, refOpen_ok y who votes L fl (by rw [← h.len]; exact hlen), t3, ?_⟩
     rintro r o' c' ⟨rfl, rfl, rfl⟩
     ((conv=>whnf)<;>repeat(with_reducible refine D1 ?_)<;>conv=>whnf)
     rw [h.shows]
     refine ⟨[], [], _, _, _, _, same_ok (L.map (voteR y.b)) (L.map (voteR y.b)) (by rw [List.length_map, ← h.len]; exact hlen), t3, ?_⟩
     rintro r o' c' ⟨rfl, rfl, rfl⟩
     rw [eqB_iff.2 rfl]
     ((conv=>whnf)<;>repeat(with_reducible refine D1 ?_)<;>conv=>whnf)
     refine ⟨ops.length - (i + 1), ?_, by omega⟩
     exact ⟨[], [some 0,some 1,some 3,some 4], _, _, _, t3, ⟨i + 1, hl, rfl, .inr ⟨y, who, votes, L, fl, h, rfl, rfl, rfl⟩⟩⟩
   ·((conv=>whnf)<;>repeat(with_reducible refine D1 ?_)<;>conv=>whnf)
    (first|refine ⟨?_,?_⟩|refine nsplit ?_ ?_|refine bsplit ?_ ?_)<;>intro hl<;>have hz_:=True.intro<;>clear hz_
    rotate_left
    ·((conv=>whnf)<;>repeat(with_reducible refine D1 ?_)<;>conv=>whnf)
     repeat ((first | (refine ⟨fun h_ => ?_, fun h_ => ?_⟩) | (refine nsplit (fun h_ => ?_) (fun h_ => ?_)) | (refine bsplit (fun h_ => ?_) (fun h_ => ?_))) <;> first | (exfalso; revert h_; decide; done) | (exact absurd rfl h_) | (have hz_ := True.intro; clear hz_; ((conv=>whnf)<;>repeat(with_reducible refine D1 ?_)<;>conv=>whnf)))
     refine ⟨[], [], _, _, _, _, awake13, t3, ?_⟩
     rintro r o' c' ⟨rfl, rfl, rfl⟩
     ((conv=>whnf)<;>repeat(with_reducible refine D1 ?_)<;>conv=>whnf)
     exact ⟨[], [], [], .s (.bool true), [], ⟨.s Lz.rfl, .nil, rfl⟩, rfl⟩
    have hl := lenlt.1 hl
    ((conv=>whnf)<;>repeat(with_reducible refine D1 ?_)<;>conv=>whnf)
    (first|refine ⟨?_,?_⟩|refine nsplit ?_ ?_|refine bsplit ?_ ?_)<;>intro h60<;>have hz_:=True.intro<;>clear hz_
    rotate_left
    ·((conv=>whnf)<;>repeat(with_reducible refine D1 ?_)<;>conv=>whnf)
     repeat ((first | (refine ⟨fun h_ => ?_, fun h_ => ?_⟩) | (refine nsplit (fun h_ => ?_) (fun h_ => ?_)) | (refine bsplit (fun h_ => ?_) (fun h_ => ?_))) <;> first | (exfalso; revert h_; decide; done) | (exact absurd rfl h_) | (have hz_ := True.intro; clear hz_; ((conv=>whnf)<;>repeat(with_reducible refine D1 ?_)<;>conv=>whnf)))
     refine ⟨[], [], _, _, _, _, awake13, t3, ?_⟩
     rintro r o' c' ⟨rfl, rfl, rfl⟩
     ((conv=>whnf)<;>repeat(with_reducible refine D1 ?_)<;>conv=>whnf)
     exact ⟨[], [], [], .s (.bool true), [], ⟨.s Lz.rfl, .nil, rfl⟩, rfl⟩
    ((conv=>whnf)<;>repeat(with_reducible refine D1 ?_)<;>conv=>whnf)
    refine idxI hl ?_
    ((conv=>whnf)<;>repeat(with_reducible refine D1 ?_)<;>conv=>whnf)
    (first|refine ⟨?_,?_⟩|refine nsplit ?_ ?_|refine bsplit ?_ ?_)<;>intro h40<;>have hz_:=True.intro<;>clear hz_
    ·((conv=>whnf)<;>repeat(with_reducible refine D1 ?_)<;>conv=>whnf)
     refine ⟨[], [], _, _, _, _, awake13, t3, ?_⟩
     rintro r o' c' ⟨rfl, rfl, rfl⟩
     ((conv=>whnf)<;>repeat(with_reducible refine D1 ?_)<;>conv=>whnf)
     exact ⟨[], [], [], .s (.bool true), [], ⟨.s Lz.rfl, .nil, rfl⟩, rfl⟩
    have ho : OpOk ops[i] := by
     obtain ⟨q1, q2, q3⟩ := hops _ (List.getElem_mem hl)
     have h40 : ¬ ((((ops[i].votes.map encV).length : Nat) : Int) > 40) := h40
     rw [List.length_map] at h40
     exact ⟨q1, q2, by omega, q3⟩
    ((conv=>whnf)<;>repeat(with_reducible refine D1 ?_)<;>conv=>whnf)
    refine idxI hl ?_
    ((conv=>whnf)<;>repeat(with_reducible refine D1 ?_)<;>conv=>whnf)
    refine ⟨[], [some 0, some 2, some 3], _, _, _, _, step13_ok y who votes L fl h ops[i] ho, t3, ?_⟩
    rintro r ob c ⟨y, who, votes, L, fl, rfl, h, ⟨rfl, rfl⟩ | ⟨rfl, rfl⟩⟩
    ·((conv=>whnf)<;>repeat(with_reducible refine D1 ?_)<;>conv=>whnf)
     have hlen : y.opn.length < 1000000 := by have := h.op.len (by have := h.nxt; omega); omega
     refine ⟨[], [some 0,some 2,some 3], _, _, _, _, stateL_ok y, t3, ?_⟩
     rintro r o' c' ⟨rfl, rfl, rfl⟩
     ((conv=>whnf)<;>repeat(with_reducible refine D1 ?_)<;>conv=>whnf)
     (first|refine ⟨?_,?_⟩|refine nsplit ?_ ?_|refine bsplit ?_ ?_)<;>intro hx<;>have hz_:=True.intro<;>clear hz_
     ·cases hx rfl
     ((conv=>whnf)<;>repeat(with_reducible refine D1 ?_)<;>conv=>whnf)
     refine ⟨[], [some 0,some 2,some 3], _, _, _, _, ballotL_ok y, t3, ?_⟩
     rintro r o' c' ⟨rfl, rfl, rfl⟩
     ((conv=>whnf)<;>repeat(with_reducible refine D1 ?_)<;>conv=>whnf)
     (first|refine ⟨?_,?_⟩|refine nsplit ?_ ?_|refine bsplit ?_ ?_)<;>intro hx<;>have hz_:=True.intro<;>clear hz_
     ·cases hx rfl
     ((conv=>whnf)<;>repeat(with_reducible refine D1 ?_)<;>conv=>whnf)
     refine ⟨[], [some 0,some 2,some 3], _, _, _, _, fromL_ok y, t3, ?_⟩
     rintro r o' c' ⟨rfl, rfl, rfl⟩
     ((conv=>whnf)<;>repeat(with_reducible refine D1 ?_)<;>conv=>whnf)
     (first|refine ⟨?_,?_⟩|refine nsplit ?_ ?_|refine bsplit ?_ ?_)<;>intro hx<;>have hz_:=True.intro<;>clear hz_
     ·cases hx rfl
     ((conv=>whnf)<;>repeat(with_reducible refine D1 ?_)<;>conv=>whnf)
     refine ⟨[], [some 0,some 2,some 3], _, _, _, _, nextL_ok y, t3, ?_⟩
     rintro r o' c' ⟨rfl, rfl, rfl⟩
     ((conv=>whnf)<;>repeat(with_reducible refine D1 ?_)<;>conv=>whnf)
     (first|refine ⟨?_,?_⟩|refine nsplit ?_ ?_|refine bsplit ?_ ?_)<;>intro hx<;>have hz_:=True.intro<;>clear hz_
     ·cases hx rfl
     ((conv=>whnf)<;>repeat(with_reducible refine D1 ?_)<;>conv=>whnf)
     refine ⟨[], [some 0,some 2,some 3], _, _, _, _, openL_ok y (h.op.ks (by have := h.nxt; omega)) hlen, t3, ?_⟩
     rintro r o' c' ⟨rfl, rfl, rfl⟩
     ((conv=>whnf)<;>repeat(with_reducible refine D1 ?_)<;>conv=>whnf)
     refine ⟨[], [], _, _, _, _, refOpen_ok y who votes L fl (by rw [← h.len]; exact hlen), t3, ?_⟩
     rintro r o' c' ⟨rfl, rfl, rfl⟩
     ((conv=>whnf)<;>repeat(with_reducible refine D1 ?_)<;>conv=>whnf)
     rw [h.shows]
     refine ⟨[], [], _, _, _, _, same_ok (L.map (voteR y.b)) (L.map (voteR y.b)) (by rw [List.length_map, ← h.len]; exact hlen), t3, ?_⟩
     rintro r o' c' ⟨rfl, rfl, rfl⟩
     rw [eqB_iff.2 rfl]
     ((conv=>whnf)<;>repeat(with_reducible refine D1 ?_)<;>conv=>whnf)
     refine ⟨ops.length - (i + 1), ?_, by omega⟩
     exact ⟨[], [some 0,some 1,some 2,some 3], _, _, _, t3, ⟨i + 1, hl, rfl, .inr ⟨y, who, votes, L, fl, h, rfl, rfl, rfl⟩⟩⟩
    ·((conv=>whnf)<;>repeat(with_reducible refine D1 ?_)<;>conv=>whnf)
     have hlen : y.opn.length < 1000000 := by have := h.op.len (by have := h.nxt; omega); omega
     refine ⟨[], [some 0,some 7,some 8], _, _, _, _, stateL_ok y, t3, ?_⟩
     rintro r o' c' ⟨rfl, rfl, rfl⟩
     ((conv=>whnf)<;>repeat(with_reducible refine D1 ?_)<;>conv=>whnf)
     (first|refine ⟨?_,?_⟩|refine nsplit ?_ ?_|refine bsplit ?_ ?_)<;>intro hx<;>have hz_:=True.intro<;>clear hz_
     ·cases hx rfl
     ((conv=>whnf)<;>repeat(with_reducible refine D1 ?_)<;>conv=>whnf)
     refine ⟨[], [some 0,some 7,some 8], _, _, _, _, ballotL_ok y, t3, ?_⟩
     rintro r o' c' ⟨rfl, rfl, rfl⟩
     ((conv=>whnf)<;>repeat(with_reducible refine D1 ?_)<;>conv=>whnf)
     (first|refine ⟨?_,?_⟩|refine nsplit ?_ ?_|refine bsplit ?_ ?_)<;>intro hx<;>have hz_:=True.intro<;>clear hz_
     ·cases hx rfl
     ((conv=>whnf)<;>repeat(with_reducible refine D1 ?_)<;>conv=>whnf)
     refine ⟨[], [some 0,some 7,some 8], _, _, _, _, fromL_ok y, t3, ?_⟩
     rintro r o' c' ⟨rfl, rfl, rfl⟩
     ((conv=>whnf)<;>repeat(with_reducible refine D1 ?_)<;>conv=>whnf)
     (first|refine ⟨?_,?_⟩|refine nsplit ?_ ?_|refine bsplit ?_ ?_)<;>intro hx<;>have hz_:=True.intro<;>clear hz_
     ·cases hx rfl
     ((conv=>whnf)<;>repeat(with_reducible refine D1 ?_)<;>conv=>whnf)
     refine ⟨[], [some 0,some 7,some 8], _, _, _, _, nextL_ok y, t3, ?_⟩
     rintro r o' c' ⟨rfl, rfl, rfl⟩
     ((conv=>whnf)<;>repeat(with_reducible refine D1 ?_)<;>conv=>whnf)
     (first|refine ⟨?_,?_⟩|refine nsplit ?_ ?_|refine bsplit ?_ ?_)<;>intro hx<;>have hz_:=True.intro<;>clear hz_
     ·cases hx rfl
     ((conv=>whnf)<;>repeat(with_reducible refine D1 ?_)<;>conv=>whnf)
     refine ⟨[], [some 0,some 7,some 8], _, _, _, _, openL_ok y (h.op.ks (by have := h.nxt; omega)) hlen, t3, ?_⟩
     rintro r o' c' ⟨rfl, rfl, rfl⟩
     ((conv=>whnf)<;>repeat(with_reducible refine D1 ?_)<;>conv=>whnf)
     refine ⟨[], [], _, _, _, _, refOpen_ok y who votes L fl (by rw [← h.len]; exact hlen), t3, ?_⟩
     rintro r o' c' ⟨rfl, rfl, rfl⟩
     ((conv=>whnf)<;>repeat(with_reducible refine D1 ?_)<;>conv=>whnf)
     rw [h.shows]
     refine ⟨[], [], _, _, _, _, same_ok (L.map (voteR y.b)) (L.map (voteR y.b)) (by rw [List.length_map, ← h.len]; exact hlen), t3, ?_⟩
     rintro r o' c' ⟨rfl, rfl, rfl⟩
     rw [eqB_iff.2 rfl]
     ((conv=>whnf)<;>repeat(with_reducible refine D1 ?_)<;>conv=>whnf)
     refine ⟨ops.length - (i + 1), ?_, by omega⟩
     exact ⟨[], [some 0,some 1,some 7,some 8], _, _, _, t3, ⟨i + 1, hl, rfl, .inr ⟨y, who, votes, L, fl, h, rfl, rfl, rfl⟩⟩⟩
 ·have hn : ¬ (m5 masters ∧ 1 ≤ me ∧ me ≤ masters) := fun h => hR (decide_eq_true h)
  refine ⟨[], [], _, _, _, _, newL_no me masters hn, t3, ?_⟩
  rintro r o' c' ⟨rfl, rfl, rfl⟩
  ((conv=>whnf)<;>repeat(with_reducible refine D1 ?_)<;>conv=>whnf)
  refine ⟨[], [], _, _, _, _, rightR_ok me masters, t3, ?_⟩
  rintro r o' c' ⟨rfl, rfl, rfl⟩
  rw [Bool.eq_false_iff.2 hR]
  ((conv=>whnf)<;>repeat(with_reducible refine D1 ?_)<;>conv=>whnf)
  repeat ((first | (refine ⟨fun h_ => ?_, fun h_ => ?_⟩) | (refine nsplit (fun h_ => ?_) (fun h_ => ?_)) | (refine bsplit (fun h_ => ?_) (fun h_ => ?_))) <;> first | (exfalso; revert h_; decide; done) | (exact absurd rfl h_) | (have hz_ := True.intro; clear hz_; ((conv=>whnf)<;>repeat(with_reducible refine D1 ?_)<;>conv=>whnf)))
  refine ⟨[], [], _, _, _, _, awake13, t3, ?_⟩
  rintro r o' c' ⟨rfl, rfl, rfl⟩
  ((conv=>whnf)<;>repeat(with_reducible refine D1 ?_)<;>conv=>whnf)
  exact ⟨[], [], [], .s (.bool true), [], ⟨.s Lz.rfl, .nil, rfl⟩, rfl⟩
end Go.M
namespace Go.M
open Go Go.Proofs Go.RowKit Go.Maps Go.Sort Go.Shelf
set_option maxRecDepth 1000000
def keys102_ren : Go.Shelf.Ren := ⟨fun | 7 => 102 | 10 => 134 | n => n, fun | 23 => 145 | 26 => 3 | 3 => 160 | 28 => 131 | 0 => 0 | 27 => 130 | 33 => 149 | 4 => 4 | n => n, fun | n => n⟩
theorem keys102 : Go.Proofs.SlLaysZI.n7 Try.prog keys102_ren where
 mixed := by kernel_rfl
 f7 := ⟨Try.f102.name, by kernel_rfl, Try.func102.trans (congrArg some (by kernel_rfl))⟩
 f10 := ⟨Try.f134.name, by kernel_rfl, Try.func134.trans (congrArg some (by kernel_rfl))⟩
 t0 := Try.underlying0
 a0 := Try.isAgg0
 z0 := Try.sizeOf0
 v0 := Try.zeroValue0
 t4 := Try.underlying4
 a4 := Try.isAgg4
 z4 := Try.sizeOf4
 v4 := Try.zeroValue4
 t23 := Try.underlying145
 a23 := Try.isAgg145
 z23 := Try.sizeOf145
 v23 := Try.zeroValue145
 t26 := Try.underlying3
 a26 := Try.isAgg3
 z26 := Try.sizeOf3
 v26 := Try.zeroValue3
 t27 := Try.underlying130
 a27 := Try.isAgg130
 z27 := Try.sizeOf130
 v27 := Try.zeroValue130
 t28 := Try.underlying131
 a28 := Try.isAgg131
 z28 := Try.sizeOf131
 v28 := Try.zeroValue131
 t33 := Try.underlying149
 a33 := Try.isAgg149
 z33 := Try.sizeOf149
 v33 := Try.zeroValue149
theorem sorts101_134 : SortsKeys Try.prog 101 134 :=
 sortsKeys_of (ρ := sorted101_ren) (σ := keys102_ren) sorted101 { keys102 with } sortsIn101 (enters_of Try.func133 (by kernel_rfl) rfl) (enters_of Try.func134 (by kernel_rfl) rfl)
def keys95_ren : Go.Shelf.Ren := ⟨fun | 7 => 95 | 10 => 127 | n => n, fun | 23 => 144 | 26 => 3 | 3 => 22 | 28 => 131 | 0 => 0 | 27 => 130 | 33 => 149 | 4 => 4 | n => n, fun | n => n⟩
theorem keys95 : Go.Proofs.SlLaysZI.n7 Try.prog keys95_ren where
 mixed := by kernel_rfl
 f7 := ⟨Try.f95.name, by kernel_rfl, Try.func95.trans (congrArg some (by kernel_rfl))⟩
 f10 := ⟨Try.f127.name, by kernel_rfl, Try.func127.trans (congrArg some (by kernel_rfl))⟩
 t0 := Try.underlying0
 a0 := Try.isAgg0
 z0 := Try.sizeOf0
 v0 := Try.zeroValue0
 t4 := Try.underlying4
 a4 := Try.isAgg4
 z4 := Try.sizeOf4
 v4 := Try.zeroValue4
 t23 := Try.underlying144
 a23 := Try.isAgg144
 z23 := Try.sizeOf144
 v23 := Try.zeroValue144
 t26 := Try.underlying3
 a26 := Try.isAgg3
 z26 := Try.sizeOf3
 v26 := Try.zeroValue3
 t27 := Try.underlying130
 a27 := Try.isAgg130
 z27 := Try.sizeOf130
 v27 := Try.zeroValue130
 t28 := Try.underlying131
 a28 := Try.isAgg131
 z28 := Try.sizeOf131
 v28 := Try.zeroValue131
 t33 := Try.underlying149
 a33 := Try.isAgg149
 z33 := Try.sizeOf149
 v33 := Try.zeroValue149
theorem sorts101_127 : SortsKeys Try.prog 101 127 :=
 sortsKeys_of (ρ := sorted101_ren) (σ := keys95_ren) sorted101 { keys95 with } sortsIn101 (enters_of Try.func133 (by kernel_rfl) rfl) (enters_of Try.func127 (by kernel_rfl) rfl)
theorem collects80_127 : CollectsKeys Try.prog 80 127 :=
 collectsKeys_of (ρ := sorted101_ren) (σ := keys95_ren) { sorted101 with } { keys95 with } (enters_of Try.func127 (by kernel_rfl) rfl)
end Go.M
namespace Go.M
open Go Go.Proofs
set_option maxRecDepth 1000000
theorem mixed0 : Try.prog.follows .mixedOrders = true := by kernel_rfl
theorem awake14 : Awake Try.prog 14 := awake_of mixed0 (fs := []) (bs := []) (ps := []) (m := 0) (n := 100000) (by kernel_rfl)
theorem awake43 : Awake Try.prog 43 := awake_of mixed0 (fs := []) (bs := []) (ps := []) (m := 0) (n := 100000) (by kernel_rfl)
theorem awake49 : Awake Try.prog 49 := awake_of mixed0 (fs := [101]) (bs := [80]) (ps := [94]) (m := 100000) (n := 100000) (by kernel_rfl)
theorem orc0 (base B : Nat) : OrcOk Try.prog E0 base B := by
 refine orcW_ok (fun g hg => ?_) (fun g its hi k hk => ?_) (fun g its hi k hk => ?_) (fun g val hv => ?_) base B
 ·simp only [List.mem_cons, List.not_mem_nil, or_false] at hg
  rcases hg with rfl | rfl | rfl
  ·exact awake14
  ·exact awake43
  ·exact awake49
 ·simp only [look] at hi
  split at hi
  ·rename_i h
   have h := beq_iff.1 h
   subst h
   cases hi
   simp only [List.mem_cons, List.not_mem_nil, or_false] at hk
   rcases hk with rfl | rfl | rfl
   ·exact sorts101_123
   ·exact sorts101_134
   ·exact sorts101_127
  ·cases hi
 ·simp only [look] at hi
  split at hi
  ·rename_i h
   have h := beq_iff.1 h
   subst h
   cases hi
   simp only [List.mem_cons, List.not_mem_nil, or_false] at hk
   rcases hk with rfl | rfl
   ·exact collects80_123
   ·exact collects80_127
  ·cases hi
 ·simp only [look] at hv
  split at hv
  ·rename_i h
   have h := beq_iff.1 h
   subst h
   cases hv
   exact minBag
  ·split at hv
   ·rename_i h
    have h := beq_iff.1 h
    subst h
    cases hv
    exact withBag
   ·cases hv
end Go.M
