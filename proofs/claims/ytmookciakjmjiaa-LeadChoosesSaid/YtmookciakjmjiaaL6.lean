/-
  Part 6 of the library that the proof leans on.
-/
import Derived.Test.YtmookciakjmjiaaL5
namespace Go.M
open Go Go.Proofs
set_option maxRecDepth 100000
set_option maxHeartbeats 2000000
@[reducible] def encI1 (n : Int) : List TV := [.s (.int .i64 n)]
def isMember (n : Int) : Bool := decide (n ≥ 1 ∧ n ≤ 63)
theorem member_ok (n : Int) : VC E0 126 0 [.s (.int .i64 n)] [] (RR (.s (.bool (isMember n))) 0 []) := by
  refine VC.enterR L0 (show E0.func 126 = some Try.f126 by kernel_rfl) (fun _ _ => rfl) rfl rfl [] ?_
  ((conv => whnf) <;> repeat ((with_reducible refine Drawn.mk (by kernel_rfl) ?_) <;> conv => whnf))
  repeat' (first | ((first | (refine ⟨fun h => ?_, fun h => ?_⟩) | (refine nsplit (fun h => ?_) (fun h => ?_)) | (refine bsplit (fun h => ?_) (fun h => ?_))) <;> ((conv => whnf) <;> repeat ((with_reducible refine Drawn.mk (by kernel_rfl) ?_) <;> conv => whnf))))
  all_goals (refine ⟨[], [], [], _, _, ⟨?_, .nil, rfl⟩, rfl, rfl, rfl⟩)
  all_goals (refine .s (Lz.of (bool_eq ?_)); simp [isMember, *]; try omega)
theorem with_ok (s : Nat) (L : List Int) (hs : ev64 s) (hL : ∀ x ∈ L, m5 x) (hl : L.length < 1000000) : VC E0 94 0 [.s (.int .u64 s), .sl 1 (L.map encI1) false] [] (RR (.s (.int .u64 (withN s L))) 0 []) := by
  refine VC.enterRO L0 (show E0.func 94 = some Try.f94 by kernel_rfl) (fun base ρ F h S vargs _ H => (bagK_sl (pre := [.s (.int .u64 s)]) H : bagK withVal vargs h = none)) rfl rfl [] ?_
  ((conv => whnf) <;> repeat ((with_reducible refine Drawn.mk (by kernel_rfl) ?_) <;> conv => whnf))
  refine ⟨fun k f o c => ∃ j : Nat, j ≤ L.length ∧ k = L.length - j ∧ c = 0 ∧ f = [(0, .s (.int .u64 (withN s (L.take j)))), (9, .sl 1 (L.map encI1) false), (10, .s (.int .i64 L.length)), (11, .s (.int .i64 j))] ∧ o = [], ⟨L.length, ?_⟩, ?_⟩
  · refine ⟨[], [], ?_⟩
    iterate 3 constructor
    refine ⟨⟨?_, ?_, ?_⟩, ⟨0, Nat.zero_le _, rfl, rfl, rfl, rfl⟩⟩
    all_goals (repeat' (first | (with_reducible exact Lz.rfl) | (exact Lw.rfl) | (exact Lz.wrap (by omega)) | ((unfold goInt); (with_reducible exact Lz.rfl)) | constructor))
    · refine Lz.int ?_
      have := andNot1 s hs.1
      have h2 := hs.2
      rw [show s / 2 * 2 = s by omega] at this
      exact this
    all_goals exact Lz.of (by simp [goInt])
  · rintro k f1 o1 c1 ⟨j, hj, rfl, rfl, rfl, rfl⟩
    ((conv => whnf) <;> repeat ((with_reducible refine Drawn.mk (by kernel_rfl) ?_) <;> conv => whnf))
    (first | (refine ⟨fun h => ?_, fun h => ?_⟩) | (refine nsplit (fun h => ?_) (fun h => ?_)) | (refine bsplit (fun h => ?_) (fun h => ?_))) <;> have hz_ := True.intro <;> clear hz_
    · have h : j < L.length := by simpa using h
      have hw := withN_ev hs (fun x hx => hL x (List.mem_of_mem_take hx)) (L := L.take j)
      have hsn : withN s (L.take (j + 1)) = withN s (L.take j) ||| 2 ^ L[j].toNat := by rw [List.take_succ_eq_append_getElem h, withN_snoc]
      have hx := m5_cases (hL _ (List.getElem_mem h))
      generalize hwe : withN s (L.take j) = w at *
      ((conv => whnf) <;> repeat ((with_reducible refine Drawn.mk (by kernel_rfl) ?_) <;> conv => whnf))
      refine idxI h ?_
      generalize hxe : L[j] = x at *
      rcases hx with rfl | rfl | rfl | rfl | rfl
      all_goals
        ((conv => whnf) <;> repeat ((with_reducible refine Drawn.mk (by kernel_rfl) ?_) <;> conv => whnf))
        refine ⟨[], [], _, _, _, _, member_ok _, ⟨by (repeat' (first | (with_reducible exact Lz.rfl) | (exact Lw.rfl) | (exact Lz.wrap (by omega)) | ((unfold goInt); (with_reducible exact Lz.rfl)) | constructor)), by (repeat' (first | (with_reducible exact Lz.rfl) | (exact Lw.rfl) | (exact Lz.wrap (by omega)) | ((unfold goInt); (with_reducible exact Lz.rfl)) | constructor)), by rfl⟩, ?_⟩
        rintro r o' c' ⟨rfl, rfl, rfl⟩
        ((conv => whnf) <;> repeat ((with_reducible refine Drawn.mk (by kernel_rfl) ?_) <;> conv => whnf))
        refine ⟨L.length - (j + 1), ?_, by omega⟩
        refine ⟨[], [], ?_⟩
        iterate 3 constructor
        refine ⟨⟨?_, ?_, ?_⟩, ⟨j + 1, h, rfl, rfl, rfl, rfl⟩⟩
        all_goals (repeat' (first | (with_reducible exact Lz.rfl) | (exact Lw.rfl) | (exact Lz.wrap (by omega)) | ((unfold goInt); (with_reducible exact Lz.rfl)) | constructor))
        refine Lz.int ?_
        rw [hsn]
        exact orBit w hw.1 _ (by decide)
    · have h' : j = L.length := by have : ¬ j < L.length := by simpa using h
                                   omega
      subst h'
      ((conv => whnf) <;> repeat ((with_reducible refine Drawn.mk (by kernel_rfl) ?_) <;> conv => whnf))
      rw [List.take_length]
      refine ⟨[], [], ?_⟩
      iterate 3 constructor
      refine ⟨⟨?_, ?_, ?_⟩, rfl, rfl, rfl⟩
      all_goals (repeat' (first | (with_reducible exact Lz.rfl) | (exact Lw.rfl) | (exact Lz.wrap (by omega)) | ((unfold goInt); (with_reducible exact Lz.rfl)) | constructor))
theorem ones_ok (s : Nat) (hs : s < 64) : VC E0 151 0 [.s (.int .u64 s)] [] (RR (.s (.int .i64 (popN s))) 0 []) := by
  refine VC.enterR L0 (show E0.func 151 = some Try.f151 by kernel_rfl) (fun _ _ => rfl) rfl rfl [] ?_
  ((conv => whnf) <;> repeat ((with_reducible refine Drawn.mk (by kernel_rfl) ?_) <;> conv => whnf))
  refine ⟨[], [], ?_⟩
  iterate 3 constructor
  refine ⟨⟨?_, ?_, ?_⟩, rfl, rfl, rfl⟩
  all_goals (repeat' (first | (with_reducible exact Lz.rfl) | (exact Lw.rfl) | (exact Lz.wrap (by omega)) | ((unfold goInt); (with_reducible exact Lz.rfl)) | constructor))
  refine Lz.int ?_
  revert s
  decide +kernel
theorem count_ok (s : Nat) (hs : s < 64) : VC E0 128 0 [.s (.int .u64 s)] [] (RR (.s (.int .i64 (popN (s / 2 * 2)))) 0 []) := by
  refine VC.enterR L0 (show E0.func 128 = some Try.f128 by kernel_rfl) (fun _ _ => rfl) rfl rfl [] ?_
  ((conv => whnf) <;> repeat ((with_reducible refine Drawn.mk (by kernel_rfl) ?_) <;> conv => whnf))
  refine ⟨[], [], [], _, _, _, ones_ok (s / 2 * 2) (by omega), ⟨.cons (.s (Lz.int (andNot1 s hs))) .nil, .nil, by rfl⟩, ?_⟩
  rintro r o' c' ⟨rfl, rfl, rfl⟩
  ((conv => whnf) <;> repeat ((with_reducible refine Drawn.mk (by kernel_rfl) ?_) <;> conv => whnf))
  refine ⟨[], [], ?_⟩
  iterate 3 constructor
  refine ⟨⟨?_, ?_, ?_⟩, rfl, rfl, rfl⟩
  all_goals (repeat' (first | (with_reducible exact Lz.rfl) | (exact Lw.rfl) | (exact Lz.wrap (by omega)) | ((unfold goInt); (with_reducible exact Lz.rfl)) | constructor))
theorem quorum_ok (n : Int) (h : 1 ≤ n) (h2 : n ≤ 1000) : VC E0 129 0 [.s (.int .i64 n)] [] (RR (.s (.int .i64 (n.toNat / 2 + 1 : Nat))) 0 []) := by
  refine VC.enterR L0 (show E0.func 129 = some Try.f129 by kernel_rfl) (fun _ _ => rfl) rfl rfl [] ?_
  ((conv => whnf) <;> repeat ((with_reducible refine Drawn.mk (by kernel_rfl) ?_) <;> conv => whnf))
  (first | (refine ⟨fun h0 => ?_, fun h0 => ?_⟩) | (refine nsplit (fun h0 => ?_) (fun h0 => ?_)) | (refine bsplit (fun h0 => ?_) (fun h0 => ?_))) <;> have hz_ := True.intro <;> clear hz_
  · omega
  · ((conv => whnf) <;> repeat ((with_reducible refine Drawn.mk (by kernel_rfl) ?_) <;> conv => whnf))
    refine ⟨[], [], ?_⟩
    iterate 3 constructor
    refine ⟨⟨?_, ?_, ?_⟩, rfl, rfl, rfl⟩
    all_goals (repeat' (first | (with_reducible exact Lz.rfl) | (exact Lw.rfl) | (exact Lz.wrap (by omega)) | ((unfold goInt); (with_reducible exact Lz.rfl)) | constructor))
    refine Lz.int ?_
    rw [Int.tdiv_eq_ediv_of_nonneg (by omega), IntWalk.i64_in (n / 2) (by omega), IntWalk.i64_in (n / 2 + 1) (by omega)]
    omega
theorem enough_ok (s : Nat) (n : Int) (hs : s < 64) (hn : m5 n) : VC E0 96 0 [.s (.int .u64 s), .s (.int .i64 n)] [] (RR (.s (.bool (enoughN s n))) 0 []) := by
  rcases m5_cases hn with rfl | rfl | rfl | rfl | rfl
  · refine VC.enterR L0 (show E0.func 96 = some Try.f96 by kernel_rfl) (fun _ _ => rfl) rfl rfl [] ?_
    ((conv => whnf) <;> repeat ((with_reducible refine Drawn.mk (by kernel_rfl) ?_) <;> conv => whnf))
    repeat ((first | (refine ⟨fun h_ => ?_, fun h_ => ?_⟩) | (refine nsplit (fun h_ => ?_) (fun h_ => ?_)) | (refine bsplit (fun h_ => ?_) (fun h_ => ?_))) <;> first | (exfalso; revert h_; decide; done) | (exact absurd rfl h_) | (have hz_ := True.intro; clear hz_; ((conv => whnf) <;> repeat ((with_reducible refine Drawn.mk (by kernel_rfl) ?_) <;> conv => whnf))))
    refine ⟨[], [], [], _, _, _, count_ok (s &&& (2 ^ 2 - 1)) (Nat.lt_of_le_of_lt (Nat.and_le_left (n := s)) hs), ⟨.cons (.s (Lz.int (andMask s hs 2 (by decide)))) .nil, .nil, by rfl⟩, ?_⟩
    rintro r o' c' ⟨rfl, rfl, rfl⟩
    ((conv => whnf) <;> repeat ((with_reducible refine Drawn.mk (by kernel_rfl) ?_) <;> conv => whnf))
    refine ⟨[], [], _, _, _, _, quorum_ok 1 (by decide) (by decide), ⟨by (repeat' (first | (with_reducible exact Lz.rfl) | (exact Lw.rfl) | (exact Lz.wrap (by omega)) | ((unfold goInt); (with_reducible exact Lz.rfl)) | constructor)), by (repeat' (first | (with_reducible exact Lz.rfl) | (exact Lw.rfl) | (exact Lz.wrap (by omega)) | ((unfold goInt); (with_reducible exact Lz.rfl)) | constructor)), by rfl⟩, ?_⟩
    rintro r o' c' ⟨rfl, rfl, rfl⟩
    ((conv => whnf) <;> repeat ((with_reducible refine Drawn.mk (by kernel_rfl) ?_) <;> conv => whnf))
    (first | (refine ⟨fun hq => ?_, fun hq => ?_⟩) | (refine nsplit (fun hq => ?_) (fun hq => ?_)) | (refine bsplit (fun hq => ?_) (fun hq => ?_))) <;> have hz_ := True.intro <;> clear hz_
    · have hq : (popN ((s &&& (2 ^ 2 - 1)) / 2 * 2) : Int) ≥ (((1 : Int).toNat / 2 + 1 : Nat) : Int) := hq
      ((conv => whnf) <;> repeat ((with_reducible refine Drawn.mk (by kernel_rfl) ?_) <;> conv => whnf))
      refine ⟨[], [], ?_⟩
      iterate 3 constructor
      refine ⟨⟨?_, ?_, ?_⟩, rfl, rfl, rfl⟩
      all_goals (repeat' (first | (with_reducible exact Lz.rfl) | (exact Lw.rfl) | (exact Lz.wrap (by omega)) | ((unfold goInt); (with_reducible exact Lz.rfl)) | constructor))
      exact Lz.of (bool_eq (Eq.symm (decide_eq_true (Int.ofNat_le.1 hq))))
    · have hq : ¬ (popN ((s &&& (2 ^ 2 - 1)) / 2 * 2) : Int) ≥ (((1 : Int).toNat / 2 + 1 : Nat) : Int) := hq
      ((conv => whnf) <;> repeat ((with_reducible refine Drawn.mk (by kernel_rfl) ?_) <;> conv => whnf))
      refine ⟨[], [], ?_⟩
      iterate 3 constructor
      refine ⟨⟨?_, ?_, ?_⟩, rfl, rfl, rfl⟩
      all_goals (repeat' (first | (with_reducible exact Lz.rfl) | (exact Lw.rfl) | (exact Lz.wrap (by omega)) | ((unfold goInt); (with_reducible exact Lz.rfl)) | constructor))
      exact Lz.of (bool_eq (Eq.symm (decide_eq_false fun h => hq (Int.ofNat_le.2 h))))
  · refine VC.enterR L0 (show E0.func 96 = some Try.f96 by kernel_rfl) (fun _ _ => rfl) rfl rfl [] ?_
    ((conv => whnf) <;> repeat ((with_reducible refine Drawn.mk (by kernel_rfl) ?_) <;> conv => whnf))
    repeat ((first | (refine ⟨fun h_ => ?_, fun h_ => ?_⟩) | (refine nsplit (fun h_ => ?_) (fun h_ => ?_)) | (refine bsplit (fun h_ => ?_) (fun h_ => ?_))) <;> first | (exfalso; revert h_; decide; done) | (exact absurd rfl h_) | (have hz_ := True.intro; clear hz_; ((conv => whnf) <;> repeat ((with_reducible refine Drawn.mk (by kernel_rfl) ?_) <;> conv => whnf))))
    refine ⟨[], [], [], _, _, _, count_ok (s &&& (2 ^ 3 - 1)) (Nat.lt_of_le_of_lt (Nat.and_le_left (n := s)) hs), ⟨.cons (.s (Lz.int (andMask s hs 3 (by decide)))) .nil, .nil, by rfl⟩, ?_⟩
    rintro r o' c' ⟨rfl, rfl, rfl⟩
    ((conv => whnf) <;> repeat ((with_reducible refine Drawn.mk (by kernel_rfl) ?_) <;> conv => whnf))
    refine ⟨[], [], _, _, _, _, quorum_ok 2 (by decide) (by decide), ⟨by (repeat' (first | (with_reducible exact Lz.rfl) | (exact Lw.rfl) | (exact Lz.wrap (by omega)) | ((unfold goInt); (with_reducible exact Lz.rfl)) | constructor)), by (repeat' (first | (with_reducible exact Lz.rfl) | (exact Lw.rfl) | (exact Lz.wrap (by omega)) | ((unfold goInt); (with_reducible exact Lz.rfl)) | constructor)), by rfl⟩, ?_⟩
    rintro r o' c' ⟨rfl, rfl, rfl⟩
    ((conv => whnf) <;> repeat ((with_reducible refine Drawn.mk (by kernel_rfl) ?_) <;> conv => whnf))
    (first | (refine ⟨fun hq => ?_, fun hq => ?_⟩) | (refine nsplit (fun hq => ?_) (fun hq => ?_)) | (refine bsplit (fun hq => ?_) (fun hq => ?_))) <;> have hz_ := True.intro <;> clear hz_
    · have hq : (popN ((s &&& (2 ^ 3 - 1)) / 2 * 2) : Int) ≥ (((2 : Int).toNat / 2 + 1 : Nat) : Int) := hq
      ((conv => whnf) <;> repeat ((with_reducible refine Drawn.mk (by kernel_rfl) ?_) <;> conv => whnf))
      refine ⟨[], [], ?_⟩
      iterate 3 constructor
      refine ⟨⟨?_, ?_, ?_⟩, rfl, rfl, rfl⟩
      all_goals (repeat' (first | (with_reducible exact Lz.rfl) | (exact Lw.rfl) | (exact Lz.wrap (by omega)) | ((unfold goInt); (with_reducible exact Lz.rfl)) | constructor))
      exact Lz.of (bool_eq (Eq.symm (decide_eq_true (Int.ofNat_le.1 hq))))
    · have hq : ¬ (popN ((s &&& (2 ^ 3 - 1)) / 2 * 2) : Int) ≥ (((2 : Int).toNat / 2 + 1 : Nat) : Int) := hq
      ((conv => whnf) <;> repeat ((with_reducible refine Drawn.mk (by kernel_rfl) ?_) <;> conv => whnf))
      refine ⟨[], [], ?_⟩
      iterate 3 constructor
      refine ⟨⟨?_, ?_, ?_⟩, rfl, rfl, rfl⟩
      all_goals (repeat' (first | (with_reducible exact Lz.rfl) | (exact Lw.rfl) | (exact Lz.wrap (by omega)) | ((unfold goInt); (with_reducible exact Lz.rfl)) | constructor))
      exact Lz.of (bool_eq (Eq.symm (decide_eq_false fun h => hq (Int.ofNat_le.2 h))))
  · refine VC.enterR L0 (show E0.func 96 = some Try.f96 by kernel_rfl) (fun _ _ => rfl) rfl rfl [] ?_
    ((conv => whnf) <;> repeat ((with_reducible refine Drawn.mk (by kernel_rfl) ?_) <;> conv => whnf))
    repeat ((first | (refine ⟨fun h_ => ?_, fun h_ => ?_⟩) | (refine nsplit (fun h_ => ?_) (fun h_ => ?_)) | (refine bsplit (fun h_ => ?_) (fun h_ => ?_))) <;> first | (exfalso; revert h_; decide; done) | (exact absurd rfl h_) | (have hz_ := True.intro; clear hz_; ((conv => whnf) <;> repeat ((with_reducible refine Drawn.mk (by kernel_rfl) ?_) <;> conv => whnf))))
    refine ⟨[], [], [], _, _, _, count_ok (s &&& (2 ^ 4 - 1)) (Nat.lt_of_le_of_lt (Nat.and_le_left (n := s)) hs), ⟨.cons (.s (Lz.int (andMask s hs 4 (by decide)))) .nil, .nil, by rfl⟩, ?_⟩
    rintro r o' c' ⟨rfl, rfl, rfl⟩
    ((conv => whnf) <;> repeat ((with_reducible refine Drawn.mk (by kernel_rfl) ?_) <;> conv => whnf))
    refine ⟨[], [], _, _, _, _, quorum_ok 3 (by decide) (by decide), ⟨by (repeat' (first | (with_reducible exact Lz.rfl) | (exact Lw.rfl) | (exact Lz.wrap (by omega)) | ((unfold goInt); (with_reducible exact Lz.rfl)) | constructor)), by (repeat' (first | (with_reducible exact Lz.rfl) | (exact Lw.rfl) | (exact Lz.wrap (by omega)) | ((unfold goInt); (with_reducible exact Lz.rfl)) | constructor)), by rfl⟩, ?_⟩
    rintro r o' c' ⟨rfl, rfl, rfl⟩
    ((conv => whnf) <;> repeat ((with_reducible refine Drawn.mk (by kernel_rfl) ?_) <;> conv => whnf))
    (first | (refine ⟨fun hq => ?_, fun hq => ?_⟩) | (refine nsplit (fun hq => ?_) (fun hq => ?_)) | (refine bsplit (fun hq => ?_) (fun hq => ?_))) <;> have hz_ := True.intro <;> clear hz_
    · have hq : (popN ((s &&& (2 ^ 4 - 1)) / 2 * 2) : Int) ≥ (((3 : Int).toNat / 2 + 1 : Nat) : Int) := hq
      ((conv => whnf) <;> repeat ((with_reducible refine Drawn.mk (by kernel_rfl) ?_) <;> conv => whnf))
      refine ⟨[], [], ?_⟩
      iterate 3 constructor
      refine ⟨⟨?_, ?_, ?_⟩, rfl, rfl, rfl⟩
      all_goals (repeat' (first | (with_reducible exact Lz.rfl) | (exact Lw.rfl) | (exact Lz.wrap (by omega)) | ((unfold goInt); (with_reducible exact Lz.rfl)) | constructor))
      exact Lz.of (bool_eq (Eq.symm (decide_eq_true (Int.ofNat_le.1 hq))))
    · have hq : ¬ (popN ((s &&& (2 ^ 4 - 1)) / 2 * 2) : Int) ≥ (((3 : Int).toNat / 2 + 1 : Nat) : Int) := hq
      ((conv => whnf) <;> repeat ((with_reducible refine Drawn.mk (by kernel_rfl) ?_) <;> conv => whnf))
      refine ⟨[], [], ?_⟩
      iterate 3 constructor
      refine ⟨⟨?_, ?_, ?_⟩, rfl, rfl, rfl⟩
      all_goals (repeat' (first | (with_reducible exact Lz.rfl) | (exact Lw.rfl) | (exact Lz.wrap (by omega)) | ((unfold goInt); (with_reducible exact Lz.rfl)) | constructor))
      exact Lz.of (bool_eq (Eq.symm (decide_eq_false fun h => hq (Int.ofNat_le.2 h))))
  · refine VC.enterR L0 (show E0.func 96 = some Try.f96 by kernel_rfl) (fun _ _ => rfl) rfl rfl [] ?_
    ((conv => whnf) <;> repeat ((with_reducible refine Drawn.mk (by kernel_rfl) ?_) <;> conv => whnf))
    repeat ((first | (refine ⟨fun h_ => ?_, fun h_ => ?_⟩) | (refine nsplit (fun h_ => ?_) (fun h_ => ?_)) | (refine bsplit (fun h_ => ?_) (fun h_ => ?_))) <;> first | (exfalso; revert h_; decide; done) | (exact absurd rfl h_) | (have hz_ := True.intro; clear hz_; ((conv => whnf) <;> repeat ((with_reducible refine Drawn.mk (by kernel_rfl) ?_) <;> conv => whnf))))
    refine ⟨[], [], [], _, _, _, count_ok (s &&& (2 ^ 5 - 1)) (Nat.lt_of_le_of_lt (Nat.and_le_left (n := s)) hs), ⟨.cons (.s (Lz.int (andMask s hs 5 (by decide)))) .nil, .nil, by rfl⟩, ?_⟩
    rintro r o' c' ⟨rfl, rfl, rfl⟩
    ((conv => whnf) <;> repeat ((with_reducible refine Drawn.mk (by kernel_rfl) ?_) <;> conv => whnf))
    refine ⟨[], [], _, _, _, _, quorum_ok 4 (by decide) (by decide), ⟨by (repeat' (first | (with_reducible exact Lz.rfl) | (exact Lw.rfl) | (exact Lz.wrap (by omega)) | ((unfold goInt); (with_reducible exact Lz.rfl)) | constructor)), by (repeat' (first | (with_reducible exact Lz.rfl) | (exact Lw.rfl) | (exact Lz.wrap (by omega)) | ((unfold goInt); (with_reducible exact Lz.rfl)) | constructor)), by rfl⟩, ?_⟩
    rintro r o' c' ⟨rfl, rfl, rfl⟩
    ((conv => whnf) <;> repeat ((with_reducible refine Drawn.mk (by kernel_rfl) ?_) <;> conv => whnf))
    (first | (refine ⟨fun hq => ?_, fun hq => ?_⟩) | (refine nsplit (fun hq => ?_) (fun hq => ?_)) | (refine bsplit (fun hq => ?_) (fun hq => ?_))) <;> have hz_ := True.intro <;> clear hz_
    · have hq : (popN ((s &&& (2 ^ 5 - 1)) / 2 * 2) : Int) ≥ (((4 : Int).toNat / 2 + 1 : Nat) : Int) := hq
      ((conv => whnf) <;> repeat ((with_reducible refine Drawn.mk (by kernel_rfl) ?_) <;> conv => whnf))
      refine ⟨[], [], ?_⟩
      iterate 3 constructor
      refine ⟨⟨?_, ?_, ?_⟩, rfl, rfl, rfl⟩
      all_goals (repeat' (first | (with_reducible exact Lz.rfl) | (exact Lw.rfl) | (exact Lz.wrap (by omega)) | ((unfold goInt); (with_reducible exact Lz.rfl)) | constructor))
      exact Lz.of (bool_eq (Eq.symm (decide_eq_true (Int.ofNat_le.1 hq))))
    · have hq : ¬ (popN ((s &&& (2 ^ 5 - 1)) / 2 * 2) : Int) ≥ (((4 : Int).toNat / 2 + 1 : Nat) : Int) := hq
      ((conv => whnf) <;> repeat ((with_reducible refine Drawn.mk (by kernel_rfl) ?_) <;> conv => whnf))
      refine ⟨[], [], ?_⟩
      iterate 3 constructor
      refine ⟨⟨?_, ?_, ?_⟩, rfl, rfl, rfl⟩
      all_goals (repeat' (first | (with_reducible exact Lz.rfl) | (exact Lw.rfl) | (exact Lz.wrap (by omega)) | ((unfold goInt); (with_reducible exact Lz.rfl)) | constructor))
      exact Lz.of (bool_eq (Eq.symm (decide_eq_false fun h => hq (Int.ofNat_le.2 h))))
  · refine VC.enterR L0 (show E0.func 96 = some Try.f96 by kernel_rfl) (fun _ _ => rfl) rfl rfl [] ?_
    ((conv => whnf) <;> repeat ((with_reducible refine Drawn.mk (by kernel_rfl) ?_) <;> conv => whnf))
    repeat ((first | (refine ⟨fun h_ => ?_, fun h_ => ?_⟩) | (refine nsplit (fun h_ => ?_) (fun h_ => ?_)) | (refine bsplit (fun h_ => ?_) (fun h_ => ?_))) <;> first | (exfalso; revert h_; decide; done) | (exact absurd rfl h_) | (have hz_ := True.intro; clear hz_; ((conv => whnf) <;> repeat ((with_reducible refine Drawn.mk (by kernel_rfl) ?_) <;> conv => whnf))))
    refine ⟨[], [], [], _, _, _, count_ok (s &&& (2 ^ 6 - 1)) (Nat.lt_of_le_of_lt (Nat.and_le_left (n := s)) hs), ⟨.cons (.s (Lz.int (andMask s hs 6 (by decide)))) .nil, .nil, by rfl⟩, ?_⟩
    rintro r o' c' ⟨rfl, rfl, rfl⟩
    ((conv => whnf) <;> repeat ((with_reducible refine Drawn.mk (by kernel_rfl) ?_) <;> conv => whnf))
    refine ⟨[], [], _, _, _, _, quorum_ok 5 (by decide) (by decide), ⟨by (repeat' (first | (with_reducible exact Lz.rfl) | (exact Lw.rfl) | (exact Lz.wrap (by omega)) | ((unfold goInt); (with_reducible exact Lz.rfl)) | constructor)), by (repeat' (first | (with_reducible exact Lz.rfl) | (exact Lw.rfl) | (exact Lz.wrap (by omega)) | ((unfold goInt); (with_reducible exact Lz.rfl)) | constructor)), by rfl⟩, ?_⟩
    rintro r o' c' ⟨rfl, rfl, rfl⟩
    ((conv => whnf) <;> repeat ((with_reducible refine Drawn.mk (by kernel_rfl) ?_) <;> conv => whnf))
    (first | (refine ⟨fun hq => ?_, fun hq => ?_⟩) | (refine nsplit (fun hq => ?_) (fun hq => ?_)) | (refine bsplit (fun hq => ?_) (fun hq => ?_))) <;> have hz_ := True.intro <;> clear hz_
    · have hq : (popN ((s &&& (2 ^ 6 - 1)) / 2 * 2) : Int) ≥ (((5 : Int).toNat / 2 + 1 : Nat) : Int) := hq
      ((conv => whnf) <;> repeat ((with_reducible refine Drawn.mk (by kernel_rfl) ?_) <;> conv => whnf))
      refine ⟨[], [], ?_⟩
      iterate 3 constructor
      refine ⟨⟨?_, ?_, ?_⟩, rfl, rfl, rfl⟩
      all_goals (repeat' (first | (with_reducible exact Lz.rfl) | (exact Lw.rfl) | (exact Lz.wrap (by omega)) | ((unfold goInt); (with_reducible exact Lz.rfl)) | constructor))
      exact Lz.of (bool_eq (Eq.symm (decide_eq_true (Int.ofNat_le.1 hq))))
    · have hq : ¬ (popN ((s &&& (2 ^ 6 - 1)) / 2 * 2) : Int) ≥ (((5 : Int).toNat / 2 + 1 : Nat) : Int) := hq
      ((conv => whnf) <;> repeat ((with_reducible refine Drawn.mk (by kernel_rfl) ?_) <;> conv => whnf))
      refine ⟨[], [], ?_⟩
      iterate 3 constructor
      refine ⟨⟨?_, ?_, ?_⟩, rfl, rfl, rfl⟩
      all_goals (repeat' (first | (with_reducible exact Lz.rfl) | (exact Lw.rfl) | (exact Lz.wrap (by omega)) | ((unfold goInt); (with_reducible exact Lz.rfl)) | constructor))
      exact Lz.of (bool_eq (Eq.symm (decide_eq_false fun h => hq (Int.ofNat_le.2 h))))
end Go.M

namespace Go.M
open Go Go.Proofs
set_option maxRecDepth 100000
structure Vote where
  slot : Int
  ballot : Int
  kind : Int
  chain : Int
  epoch : Int
  node : Int
def encV (v : Vote) : List TV := [.s (.int .i64 v.slot), .s (.int .u64 v.ballot), .s (.int .i64 v.kind), .s (.int .i64 v.chain), .s (.int .u64 v.epoch), .s (.int .i64 v.node)]
def encE (e : Int × Vote) : Value × TV := (.int .i64 e.1, .agg (encV e.2))
theorem has101 : (E0.func 101).isSome = true := by kernel_rfl
theorem sorted_ok (kd : Nat) (es : List (Int × Vote)) (hok : ksOk (es.map (·.1))) : VC E0 101 2 [.clo 123 [] [.ptr 1 0]] [(0, .map kd (es.map encE)), (1, .cells [.mp 0])] (fun r o c => r = .tk 2 ∧ c = 3 ∧
      o = [(2, .arr 1 true ((sortZ (es.map (·.1))).map fun n => [.s (.int .i64 n)])), (0, .map kd (es.map encE)), (1, .cells [.mp 0])]) := by
  have := VC.sorted (E := E0) (g := 101) (its := [123, 134, 127]) (k := 123) has101 (fun _ _ => rfl) rfl (kd := kd) (es := es.map fun e => (e.1, TV.agg (encV e.2))) (by rw [List.map_map]; exact hok)
  rw [List.map_map, List.map_map] at this
  exact this
/-- The votes by rising slots, from one on. -/
def getE (es : List (Int × Vote)) (n : Int) : Vote := match es.find? (fun e => e.1 == n) with | some e => e.2 | none => ⟨0, 0, 0, 0, 0, 0⟩
def rising (es : List (Int × Vote)) (frm : Int) (ks : List Int) : List Vote := (ks.filter fun n => decide (frm ≤ n)).map (getE es)
@[reducible] def RisF (frm : Int) (n i : Nat) : Fr := [(0, .mp 0), (1, .s (.int .i64 frm)), (5, .tk 1), (10, .tk 2), (11, .s (.int .i64 n)), (12, .s (.int .i64 i))]
@[reducible] def RisO (kd : Nat) (es : List (Int × Vote)) (frm : Int) (ks : List Int) (i : Nat) : Ob := [(0, .map kd (es.map encE)), (1, .arr 6 true ((rising es frm (ks.take i)).map encV)), (2, .arr 1 true (ks.map fun n => [.s (.int .i64 n)]))]
def RisInv (kd : Nat) (es : List (Int × Vote)) (frm : Int) (ks : List Int) (k : Nat) (f : Fr) (o : Ob) (c : Nat) : Prop :=
  ∃ i : Nat, i ≤ ks.length ∧ k = ks.length - i ∧ c = 3 ∧ f = RisF frm ks.length i ∧ o = RisO kd es frm ks i
theorem look_enc (es : List (Int × Vote)) (n : Int) (h : n ∈ es.map (·.1)) : lookM (es.map encE) (.int .i64 n) = some (.agg (encV (getE es n))) := by
  induction es with
  | nil => simp at h
  | cons e es ih =>
    rw [List.map_cons]
    unfold lookM
    by_cases he : e.1 = n
    · have : keq (.int .i64 n) (encE e).1 = true := by simp [keq, encE, he]
      rw [this]
      simp [encE, getE, he]
    · have : keq (.int .i64 n) (encE e).1 = false := by simp [keq, encE]; exact fun h => he h.symm
      rw [this]
      have := ih (by rw [List.map_cons] at h; rcases List.mem_cons.1 h with h | h; exact absurd h.symm he; exact h)
      simp only [this]
      simp [getE, he]
theorem rising_snoc (es : List (Int × Vote)) (frm : Int) (ks : List Int) (i : Nat) (h : i < ks.length) : rising es frm (ks.take (i + 1)) = rising es frm (ks.take i) ++ (if frm ≤ ks[i] then [getE es ks[i]] else []) := by
  unfold rising
  rw [List.take_succ_eq_append_getElem h, List.filter_append, List.map_append]
  by_cases hf : frm ≤ ks[i] <;> simp [hf]
theorem rising_ok (es : List (Int × Vote)) (frm : Int) (hok : ksOk (es.map (·.1))) (hes : es.length < 1000000) : VC E0 84 1 [.mp 0, .s (.int .i64 frm)] [(0, .map (kIdx .i64) (es.map encE))] (fun r o c => r = .tk 1 ∧ c = 2 ∧ o = [(1, .arr 6 true ((rising es frm (sortZ (es.map (·.1)))).map encV)), (0, .map (kIdx .i64) (es.map encE))]) := by
  refine VC.enterR L0 (show E0.func 84 = some Try.f84 by kernel_rfl) (fun _ _ => rfl) rfl rfl [] ?_
  ((conv => whnf) <;> repeat ((with_reducible refine Drawn.mk (by kernel_rfl) ?_) <;> conv => whnf))
  refine ⟨[], [some 0], _, _, _, _, keys_ok (es.map encE), ⟨by (repeat' (first | (with_reducible exact Lz.rfl) | (exact Lw.rfl) | (exact Lz.wrap (by omega)) | ((unfold goInt); (with_reducible exact Lz.rfl)) | constructor)), by (repeat' (first | (with_reducible exact Lz.rfl) | (exact Lw.rfl) | (exact Lz.wrap (by omega)) | ((unfold goInt); (with_reducible exact Lz.rfl)) | constructor)), by rfl⟩, ?_⟩
  rintro r o' c' ⟨rfl, rfl, rfl⟩
  ((conv => whnf) <;> repeat ((with_reducible refine Drawn.mk (by kernel_rfl) ?_) <;> conv => whnf))
  refine ⟨[], [some 0, some 2], _, _, _, _, sorted_ok (kIdx .i64) es hok, ⟨by (repeat' (first | (with_reducible exact Lz.rfl) | (exact Lw.rfl) | (exact Lz.wrap (by omega)) | ((unfold goInt); (with_reducible exact Lz.rfl)) | constructor)), by (repeat' (first | (with_reducible exact Lz.rfl) | (exact Lw.rfl) | (exact Lz.wrap (by omega)) | ((unfold goInt); (with_reducible exact Lz.rfl)) | constructor)), by rfl⟩, ?_⟩
  rintro r o' c' ⟨rfl, rfl, rfl⟩
  ((conv => whnf) <;> repeat ((with_reducible refine Drawn.mk (by kernel_rfl) ?_) <;> conv => whnf))
  have hmem : ∀ x ∈ sortZ (es.map (·.1)), x ∈ es.map (·.1) := fun x hx => (List.mergeSort_perm _ _).mem_iff.1 hx
  have hl0 : (sortZ (es.map (·.1))).length ≤ 1099511627776 := by rw [sortZ_len]; exact hok.1
  have hl1 : (sortZ (es.map (·.1))).length < 1000000 := by rw [sortZ_len]; simpa using hes
  generalize hks : sortZ (es.map (·.1)) = ks at *
  refine ⟨RisInv (kIdx .i64) es frm ks, ⟨ks.length, ?_⟩, ?_⟩
  · refine ⟨[], [some 0, none, some 5], ?_⟩
    iterate 3 constructor
    refine ⟨⟨?_, ?_, ?_⟩, ⟨0, Nat.zero_le _, rfl, rfl, rfl, rfl⟩⟩
    all_goals (repeat' (first | (with_reducible exact Lz.rfl) | (exact Lw.rfl) | (exact Lz.wrap (by omega)) | ((unfold goInt); (with_reducible exact Lz.rfl)) | constructor))
    exact Lz.of (by simp [goInt])
  · rintro k f1 o1 c1 ⟨i, hi, rfl, rfl, rfl, rfl⟩
    ((conv => whnf) <;> repeat ((with_reducible refine Drawn.mk (by kernel_rfl) ?_) <;> conv => whnf))
    (first | (refine ⟨fun hil => ?_, fun hil => ?_⟩) | (refine nsplit (fun hil => ?_) (fun hil => ?_)) | (refine bsplit (fun hil => ?_) (fun hil => ?_))) <;> have hz_ := True.intro <;> clear hz_
    · have hil : i < ks.length := by simpa using hil
      ((conv => whnf) <;> repeat ((with_reducible refine Drawn.mk (by kernel_rfl) ?_) <;> conv => whnf))
      refine ⟨⟨by omega, by simp; omega⟩, [.s (.int .i64 ks[i])], by simp [hil], ?_⟩
      ((conv => whnf) <;> repeat ((with_reducible refine Drawn.mk (by kernel_rfl) ?_) <;> conv => whnf))
      (first | (refine ⟨fun hf => ?_, fun hf => ?_⟩) | (refine nsplit (fun hf => ?_) (fun hf => ?_)) | (refine bsplit (fun hf => ?_) (fun hf => ?_))) <;> have hz_ := True.intro <;> clear hz_
      · have hf : frm ≤ ks[i] := hf
        ((conv => whnf) <;> repeat ((with_reducible refine Drawn.mk (by kernel_rfl) ?_) <;> conv => whnf))
        refine ⟨_, look_enc es ks[i] (hmem _ (List.getElem_mem hil)), ?_⟩
        ((conv => whnf) <;> repeat ((with_reducible refine Drawn.mk (by kernel_rfl) ?_) <;> conv => whnf))
        have hle : (rising es frm (ks.take i)).length ≤ ks.length := by
          unfold rising
          rw [List.length_map]
          exact Nat.le_trans (List.length_filter_le _ _) (by rw [List.length_take]; omega)
        refine ⟨by simp; omega, ?_⟩
        ((conv => whnf) <;> repeat ((with_reducible refine Drawn.mk (by kernel_rfl) ?_) <;> conv => whnf))
        refine ⟨ks.length - (i + 1), ?_, by omega⟩
        refine ⟨[], [some 0, some 4, some 2], ?_⟩
        iterate 3 constructor
        refine ⟨⟨?_, ?_, ?_⟩, ⟨i + 1, hil, rfl, rfl, rfl, rfl⟩⟩
        all_goals (repeat' (first | (with_reducible exact Lz.rfl) | (exact Lw.rfl) | (exact Lz.wrap (by omega)) | ((unfold goInt); (with_reducible exact Lz.rfl)) | constructor))
        · rw [rising_snoc _ _ _ _ hil, if_pos hf, List.map_append]; exact Lz.rfl
      · have hf : ¬ frm ≤ ks[i] := hf
        ((conv => whnf) <;> repeat ((with_reducible refine Drawn.mk (by kernel_rfl) ?_) <;> conv => whnf))
        refine ⟨ks.length - (i + 1), ?_, by omega⟩
        refine ⟨[], [some 0, some 1, some 2], ?_⟩
        iterate 3 constructor
        refine ⟨⟨?_, ?_, ?_⟩, ⟨i + 1, hil, rfl, rfl, rfl, rfl⟩⟩
        all_goals (repeat' (first | (with_reducible exact Lz.rfl) | (exact Lw.rfl) | (exact Lz.wrap (by omega)) | ((unfold goInt); (with_reducible exact Lz.rfl)) | constructor))
        · rw [rising_snoc _ _ _ _ hil, if_neg hf, List.append_nil]; exact Lz.rfl
    · have hil : ¬ i < ks.length := by simpa using hil
      ((conv => whnf) <;> repeat ((with_reducible refine Drawn.mk (by kernel_rfl) ?_) <;> conv => whnf))
      refine ⟨[], [some 0, some 1], ?_⟩
      iterate 3 constructor
      refine ⟨⟨?_, ?_, ?_⟩, rfl, rfl, rfl⟩
      all_goals (repeat' (first | (with_reducible exact Lz.rfl) | (exact Lw.rfl) | (exact Lz.wrap (by omega)) | ((unfold goInt); (with_reducible exact Lz.rfl)) | constructor))
      rw [List.take_of_length_le (by omega)]; exact Lz.rfl
end Go.M

namespace Go.M
open Go Go.Proofs
set_option maxRecDepth 100000
@[reducible] def mapO (es : List (Int × Vote)) : TO := .map (kIdx .i64) (es.map encE)
@[reducible] def arV (l : List Vote) : TO := .arr 6 true (l.map encV)
/-- An acceptor: what it promised; the votes' map. -/
@[reducible] def accO (p : Int) (m : Nat) : TO := .cells [.s (.int .u64 p), .mp m]
def votesOf (es : List (Int × Vote)) (frm : Int) : List Vote := rising es frm (sortZ (es.map (·.1)))
theorem votes_ok (p : Int) (es : List (Int × Vote)) (frm : Int) (hok : ksOk (es.map (·.1))) (hes : es.length < 1000000) : VC E0 41 2 [.ptr 0 0, .s (.int .i64 frm)] [(0, accO p 1), (1, mapO es)]
    (fun r o c => r = .tk 2 ∧ c = 3 ∧ o = [(2, arV (votesOf es frm)), (0, accO p 1), (1, mapO es)]) := by
  refine VC.enterR L0 (show E0.func 41 = some Try.f41 by kernel_rfl) (fun _ _ => rfl) rfl rfl [] ?_
  ((conv => whnf) <;> repeat ((with_reducible refine Drawn.mk (by kernel_rfl) ?_) <;> conv => whnf))
  refine ⟨[], [some 1], _, _, _, _, rising_ok es frm hok hes, ⟨by (repeat' (first | (with_reducible exact Lz.rfl) | (exact Lw.rfl) | (exact Lz.wrap (by omega)) | ((unfold goInt); (with_reducible exact Lz.rfl)) | constructor)), by (repeat' (first | (with_reducible exact Lz.rfl) | (exact Lw.rfl) | (exact Lz.wrap (by omega)) | ((unfold goInt); (with_reducible exact Lz.rfl)) | constructor)), by rfl⟩, ?_⟩
  rintro r o' c' ⟨rfl, rfl, rfl⟩
  ((conv => whnf) <;> repeat ((with_reducible refine Drawn.mk (by kernel_rfl) ?_) <;> conv => whnf))
  refine ⟨[], [some 0, some 1, some 3], ?_⟩
  iterate 3 constructor
  refine ⟨⟨?_, ?_, ?_⟩, rfl, rfl, rfl⟩
  all_goals (repeat' (first | (with_reducible exact Lz.rfl) | (exact Lw.rfl) | (exact Lz.wrap (by omega)) | ((unfold goInt); (with_reducible exact Lz.rfl)) | constructor))
theorem promised_ok (p : Int) (m : Nat) : VC E0 38 1 [.ptr 0 0] [(0, .cells [.s (.int .u64 p), .j])] (fun r o c => r = .s (.int .u64 p) ∧ c = 1 ∧ o = [(0, .cells [.s (.int .u64 p), .j])]) := by
  refine VC.enterR L0 (show E0.func 38 = some Try.f38 by kernel_rfl) (fun _ _ => rfl) rfl rfl [] ?_
  ((conv => whnf) <;> repeat ((with_reducible refine Drawn.mk (by kernel_rfl) ?_) <;> conv => whnf))
  refine ⟨[], [some 0], ?_⟩
  iterate 3 constructor
  refine ⟨⟨?_, ?_, ?_⟩, rfl, rfl, rfl⟩
  all_goals (repeat' (first | (with_reducible exact Lz.rfl) | (exact Lw.rfl) | (exact Lz.wrap (by omega)) | ((unfold goInt); (with_reducible exact Lz.rfl)) | constructor))
theorem new_ok : VC E0 34 0 [] [] (fun r o c => r = .ptr 0 0 ∧ c = 2 ∧ o = [(0, accO 0 1), (1, mapO [])]) := by
  refine VC.enterR L0 (show E0.func 34 = some Try.f34 by kernel_rfl) (fun _ _ => rfl) rfl rfl [] ?_
  ((conv => whnf) <;> repeat ((with_reducible refine Drawn.mk (by kernel_rfl) ?_) <;> conv => whnf))
  refine ⟨[], [some 1, some 0], ?_⟩
  iterate 3 constructor
  refine ⟨⟨?_, ?_, ?_⟩, rfl, rfl, rfl⟩
  all_goals (repeat' (first | (with_reducible exact Lz.rfl) | (exact Lw.rfl) | (exact Lz.wrap (by omega)) | ((unfold goInt); (with_reducible exact Lz.rfl)) | constructor))
end Go.M

namespace Go.M
open Go Go.Proofs
set_option maxRecDepth 100000
def isMaster (n : Int) : Bool := decide (n ≥ 1 ∧ n ≤ 5)
theorem master_ok (n : Int) : VC E0 122 0 [.s (.int .i64 n)] [] (fun r o c => r = .s (.bool (isMaster n)) ∧ c = 0 ∧ o = []) := by
  refine VC.enterR L0 (show E0.func 122 = some Try.f122 by kernel_rfl) (fun _ _ => rfl) rfl rfl [] ?_
  ((conv => whnf) <;> repeat ((with_reducible refine Drawn.mk (by kernel_rfl) ?_) <;> conv => whnf))
  repeat' (first | ((first | (refine ⟨fun h => ?_, fun h => ?_⟩) | (refine nsplit (fun h => ?_) (fun h => ?_)) | (refine bsplit (fun h => ?_) (fun h => ?_))) <;> ((conv => whnf) <;> repeat ((with_reducible refine Drawn.mk (by kernel_rfl) ?_) <;> conv => whnf))))
  all_goals (refine ⟨[], [], [], _, _, ⟨?_, .nil, rfl⟩, rfl, rfl, rfl⟩)
  all_goals (refine .s (Lz.of (bool_eq ?_)); simp [isMaster, *]; try omega)
def isBallot (b : Int) : Bool := decide (IntKind.u64.wrap (b.tdiv 8) ≥ 1) && decide (IntKind.u64.wrap (b.tdiv 8) < 1152921504606846976) && isMaster (IntKind.i64.wrap (b.tmod 8))
theorem is_ok (b : Int) : VC E0 85 0 [.s (.int .u64 b)] [] (fun r o c => r = .s (.bool (isBallot b)) ∧ c = 0 ∧ o = []) := by
  refine VC.enterR L0 (show E0.func 85 = some Try.f85 by kernel_rfl) (fun _ _ => rfl) rfl rfl [] ?_
  ((conv => whnf) <;> repeat ((with_reducible refine Drawn.mk (by kernel_rfl) ?_) <;> conv => whnf))
  (first | (refine ⟨fun h1 => ?_, fun h1 => ?_⟩) | (refine nsplit (fun h1 => ?_) (fun h1 => ?_)) | (refine bsplit (fun h1 => ?_) (fun h1 => ?_))) <;> have hz_ := True.intro <;> clear hz_
  · ((conv => whnf) <;> repeat ((with_reducible refine Drawn.mk (by kernel_rfl) ?_) <;> conv => whnf))
    (first | (refine ⟨fun h2 => ?_, fun h2 => ?_⟩) | (refine nsplit (fun h2 => ?_) (fun h2 => ?_)) | (refine bsplit (fun h2 => ?_) (fun h2 => ?_))) <;> have hz_ := True.intro <;> clear hz_
    · ((conv => whnf) <;> repeat ((with_reducible refine Drawn.mk (by kernel_rfl) ?_) <;> conv => whnf))
      refine ⟨[], [], _, _, _, _, master_ok (IntKind.i64.wrap (b.tmod 8)), ⟨by (repeat' (first | (with_reducible exact Lz.rfl) | (exact Lw.rfl) | (exact Lz.wrap (by omega)) | ((unfold goInt); (with_reducible exact Lz.rfl)) | constructor)), by (repeat' (first | (with_reducible exact Lz.rfl) | (exact Lw.rfl) | (exact Lz.wrap (by omega)) | ((unfold goInt); (with_reducible exact Lz.rfl)) | constructor)), by rfl⟩, ?_⟩
      rintro r o' c' ⟨rfl, rfl, rfl⟩
      ((conv => whnf) <;> repeat ((with_reducible refine Drawn.mk (by kernel_rfl) ?_) <;> conv => whnf))
      refine ⟨[], [], ?_⟩
      iterate 3 constructor
      refine ⟨⟨?_, ?_, ?_⟩, rfl, rfl, rfl⟩
      all_goals (repeat' (first | (with_reducible exact Lz.rfl) | (exact Lw.rfl) | (exact Lz.wrap (by omega)) | ((unfold goInt); (with_reducible exact Lz.rfl)) | constructor))
      refine Lz.of (bool_eq ?_)
      simp [isBallot, h1, h2]
    · ((conv => whnf) <;> repeat ((with_reducible refine Drawn.mk (by kernel_rfl) ?_) <;> conv => whnf))
      refine ⟨[], [], ?_⟩
      iterate 3 constructor
      refine ⟨⟨?_, ?_, ?_⟩, rfl, rfl, rfl⟩
      all_goals (repeat' (first | (with_reducible exact Lz.rfl) | (exact Lw.rfl) | (exact Lz.wrap (by omega)) | ((unfold goInt); (with_reducible exact Lz.rfl)) | constructor))
      refine Lz.of (bool_eq ?_)
      simp [isBallot, h1, h2]
  · ((conv => whnf) <;> repeat ((with_reducible refine Drawn.mk (by kernel_rfl) ?_) <;> conv => whnf))
    refine ⟨[], [], ?_⟩
    iterate 3 constructor
    refine ⟨⟨?_, ?_, ?_⟩, rfl, rfl, rfl⟩
    all_goals (repeat' (first | (with_reducible exact Lz.rfl) | (exact Lw.rfl) | (exact Lz.wrap (by omega)) | ((unfold goInt); (with_reducible exact Lz.rfl)) | constructor))
    refine Lz.of (bool_eq ?_)
    simp [isBallot, h1]
end Go.M

namespace Go.M
open Go Go.Proofs
set_option maxRecDepth 100000
theorem fn44 : E0.func 44 = some Try.f44 := by kernel_rfl
def prepS (p b : Int) (es : List (Int × Vote)) (frm : Int) : Int × List Vote × Int :=
  if isBallot b = false ∨ frm < 0 ∨ frm > 512 then (p, [], 1) else if b < p then (p, [], 10) else (b, votesOf es frm, 0)
def PrepR (es : List (Int × Vote)) (q : Int × List Vote × Int) (r : TV) (o : Ob) (c : Nat) : Prop :=
  r = .tup [.tk 2, .s (.int .i64 q.2.2)] ∧ c = 3 ∧ o = [(2, arV q.2.1), (0, accO q.1 1), (1, mapO es)]
theorem prep_ok (p b : Int) (es : List (Int × Vote)) (frm : Int) (hok : ksOk (es.map (·.1))) (hes : es.length < 1000000) : VC E0 44 2 [.ptr 0 0, .s (.int .u64 b), .s (.int .i64 frm)] [(0, accO p 1), (1, mapO es)]
    (PrepR es (prepS p b es frm)) := by
  refine VC.enterR L0 (show E0.func 44 = some Try.f44 by kernel_rfl) (fun _ _ => rfl) rfl rfl [] ?_
  ((conv => whnf) <;> repeat ((with_reducible refine Drawn.mk (by kernel_rfl) ?_) <;> conv => whnf))
  refine ⟨[], [], _, _, _, _, is_ok b, ⟨by (repeat' (first | (with_reducible exact Lz.rfl) | (exact Lw.rfl) | (exact Lz.wrap (by omega)) | ((unfold goInt); (with_reducible exact Lz.rfl)) | constructor)), by (repeat' (first | (with_reducible exact Lz.rfl) | (exact Lw.rfl) | (exact Lz.wrap (by omega)) | ((unfold goInt); (with_reducible exact Lz.rfl)) | constructor)), by rfl⟩, ?_⟩
  rintro r o' c' ⟨rfl, rfl, rfl⟩
  ((conv => whnf) <;> repeat ((with_reducible refine Drawn.mk (by kernel_rfl) ?_) <;> conv => whnf))
  cases hb : isBallot b with
  | false =>
    rw [show prepS p b es frm = (p, [], 1) by unfold prepS; grind]
    ((conv => whnf) <;> repeat ((with_reducible refine Drawn.mk (by kernel_rfl) ?_) <;> conv => whnf))
    refine ⟨[], [some 0, some 1, none], ?_⟩
    iterate 3 constructor
    refine ⟨⟨?_, ?_, ?_⟩, rfl, rfl, rfl⟩
    all_goals (repeat' (first | (with_reducible exact Lz.rfl) | (exact Lw.rfl) | (exact Lz.wrap (by omega)) | ((unfold goInt); (with_reducible exact Lz.rfl)) | constructor))
  | true =>
    ((conv => whnf) <;> repeat ((with_reducible refine Drawn.mk (by kernel_rfl) ?_) <;> conv => whnf))
    (first | (refine ⟨fun h1 => ?_, fun h1 => ?_⟩) | (refine nsplit (fun h1 => ?_) (fun h1 => ?_)) | (refine bsplit (fun h1 => ?_) (fun h1 => ?_))) <;> have hz_ := True.intro <;> clear hz_
    · rw [show prepS p b es frm = (p, [], 1) by unfold prepS; grind]
      ((conv => whnf) <;> repeat ((with_reducible refine Drawn.mk (by kernel_rfl) ?_) <;> conv => whnf))
      refine ⟨[], [some 0, some 1, none], ?_⟩
      iterate 3 constructor
      refine ⟨⟨?_, ?_, ?_⟩, rfl, rfl, rfl⟩
      all_goals (repeat' (first | (with_reducible exact Lz.rfl) | (exact Lw.rfl) | (exact Lz.wrap (by omega)) | ((unfold goInt); (with_reducible exact Lz.rfl)) | constructor))
    · ((conv => whnf) <;> repeat ((with_reducible refine Drawn.mk (by kernel_rfl) ?_) <;> conv => whnf))
      (first | (refine ⟨fun h2 => ?_, fun h2 => ?_⟩) | (refine nsplit (fun h2 => ?_) (fun h2 => ?_)) | (refine bsplit (fun h2 => ?_) (fun h2 => ?_))) <;> have hz_ := True.intro <;> clear hz_
      · rw [show prepS p b es frm = (p, [], 1) by unfold prepS; grind]
        ((conv => whnf) <;> repeat ((with_reducible refine Drawn.mk (by kernel_rfl) ?_) <;> conv => whnf))
        refine ⟨[], [some 0, some 1, none], ?_⟩
        iterate 3 constructor
        refine ⟨⟨?_, ?_, ?_⟩, rfl, rfl, rfl⟩
        all_goals (repeat' (first | (with_reducible exact Lz.rfl) | (exact Lw.rfl) | (exact Lz.wrap (by omega)) | ((unfold goInt); (with_reducible exact Lz.rfl)) | constructor))
      · ((conv => whnf) <;> repeat ((with_reducible refine Drawn.mk (by kernel_rfl) ?_) <;> conv => whnf))
        (first | (refine ⟨fun h3 => ?_, fun h3 => ?_⟩) | (refine nsplit (fun h3 => ?_) (fun h3 => ?_)) | (refine bsplit (fun h3 => ?_) (fun h3 => ?_))) <;> have hz_ := True.intro <;> clear hz_
        · rw [show prepS p b es frm = (p, [], 10) by unfold prepS; grind]
          ((conv => whnf) <;> repeat ((with_reducible refine Drawn.mk (by kernel_rfl) ?_) <;> conv => whnf))
          refine ⟨[], [some 0, some 1, none], ?_⟩
          iterate 3 constructor
          refine ⟨⟨?_, ?_, ?_⟩, rfl, rfl, rfl⟩
          all_goals (repeat' (first | (with_reducible exact Lz.rfl) | (exact Lw.rfl) | (exact Lz.wrap (by omega)) | ((unfold goInt); (with_reducible exact Lz.rfl)) | constructor))
        · rw [show prepS p b es frm = (b, votesOf es frm, 0) by unfold prepS; grind]
          ((conv => whnf) <;> repeat ((with_reducible refine Drawn.mk (by kernel_rfl) ?_) <;> conv => whnf))
          refine ⟨[], [some 0, some 1], _, _, _, _, votes_ok b es frm hok hes, ⟨by (repeat' (first | (with_reducible exact Lz.rfl) | (exact Lw.rfl) | (exact Lz.wrap (by omega)) | ((unfold goInt); (with_reducible exact Lz.rfl)) | constructor)), by (repeat' (first | (with_reducible exact Lz.rfl) | (exact Lw.rfl) | (exact Lz.wrap (by omega)) | ((unfold goInt); (with_reducible exact Lz.rfl)) | constructor)), by rfl⟩, ?_⟩
          rintro r o' c' ⟨rfl, rfl, rfl⟩
          ((conv => whnf) <;> repeat ((with_reducible refine Drawn.mk (by kernel_rfl) ?_) <;> conv => whnf))
          refine ⟨[], [some 0, some 1, some 4], ?_⟩
          iterate 3 constructor
          refine ⟨⟨?_, ?_, ?_⟩, rfl, rfl, rfl⟩
          all_goals (repeat' (first | (with_reducible exact Lz.rfl) | (exact Lw.rfl) | (exact Lz.wrap (by omega)) | ((unfold goInt); (with_reducible exact Lz.rfl)) | constructor))
end Go.M

namespace Go.M
open Go Go.Proofs
set_option maxRecDepth 100000
def lookE : List (Int × Vote) → Int → Option Vote
  | [], _ => none
  | e :: es, n => if n = e.1 then some e.2 else lookE es n
theorem lookM_enc (n : Int) : ∀ es : List (Int × Vote), lookM (es.map encE) (.int .i64 n) = (lookE es n).map fun w => .agg (encV w)
  | [] => rfl
  | e :: es => by
    rw [List.map_cons]
    unfold lookM lookE
    by_cases he : n = e.1
    · have : keq (.int .i64 n) (encE e).1 = true := by simp [keq, encE, he]
      rw [this, if_pos he]; rfl
    · have : keq (.int .i64 n) (encE e).1 = false := by simp [keq, encE, he]
      rw [this, if_neg he]; exact lookM_enc n es
def noVote : Vote := ⟨0, 0, 0, 0, 0, 0⟩
theorem vote_ok (p : Int) (es : List (Int × Vote)) (n : Int) : VC E0 36 2 [.ptr 0 0, .s (.int .i64 n)] [(0, accO p 1), (1, mapO es)]
    (fun r o c => r = .tup [.agg (encV ((lookE es n).getD noVote)), .s (.bool (lookE es n).isSome)] ∧ c = 2 ∧ o = [(0, accO p 1), (1, mapO es)]) := by
  refine VC.enterR L0 (show E0.func 36 = some Try.f36 by kernel_rfl) (fun _ _ => rfl) rfl rfl [] ?_
  ((conv => whnf) <;> repeat ((with_reducible refine Drawn.mk (by kernel_rfl) ?_) <;> conv => whnf))
  have hl := lookM_enc n es
  cases hv : lookE es n with
  | none =>
    rw [hv] at hl
    refine ⟨_, hl, ?_⟩
    ((conv => whnf) <;> repeat ((with_reducible refine Drawn.mk (by kernel_rfl) ?_) <;> conv => whnf))
    refine ⟨[], [some 0, some 1], ?_⟩
    iterate 3 constructor
    refine ⟨⟨?_, ?_, ?_⟩, rfl, rfl, rfl⟩
    all_goals (repeat' (first | (with_reducible exact Lz.rfl) | (exact Lw.rfl) | (exact Lz.wrap (by omega)) | ((unfold goInt); (with_reducible exact Lz.rfl)) | constructor))
  | some w =>
    rw [hv] at hl
    refine ⟨_, hl, ?_⟩
    ((conv => whnf) <;> repeat ((with_reducible refine Drawn.mk (by kernel_rfl) ?_) <;> conv => whnf))
    refine ⟨[], [some 0, some 1], ?_⟩
    iterate 3 constructor
    refine ⟨⟨?_, ?_, ?_⟩, rfl, rfl, rfl⟩
    all_goals (repeat' (first | (with_reducible exact Lz.rfl) | (exact Lw.rfl) | (exact Lz.wrap (by omega)) | ((unfold goInt); (with_reducible exact Lz.rfl)) | constructor))
end Go.M

namespace Go.M
open Go Go.Proofs

def putE : List (Int × Vote) → Int → Vote → List (Int × Vote)
  | [], n, v => [(n, v)]
  | e :: es, n, v => if n = e.1 then (n, v) :: es else e :: putE es n v
theorem putM_enc (n : Int) (v : Vote) : ∀ es : List (Int × Vote), putM (es.map encE) (.int .i64 n) (.agg (encV v)) = (putE es n v).map encE
  | [] => rfl
  | e :: es => by
    rw [List.map_cons]
    unfold putM putE
    by_cases he : n = e.1
    · have : keq (.int .i64 n) (encE e).1 = true := by simp [keq, encE, he]
      rw [this, if_pos he]; rfl
    · have : keq (.int .i64 n) (encE e).1 = false := by simp [keq, encE, he]
      rw [this, if_neg he]; simp [putM_enc n v es]
theorem putE_mem {n : Int} {v : Vote} {x : Int × Vote} : ∀ {es : List (Int × Vote)}, (es.map (·.1)).Nodup → (x ∈ putE es n v ↔ x = (n, v) ∨ x.1 ≠ n ∧ x ∈ es)
  | [], _ => by simp [putE]
  | e :: es, h => by
    simp only [List.map_cons, List.nodup_cons] at h
    unfold putE
    split
    · rename_i he
      have : ∀ y ∈ es, y.1 ≠ n := fun y hy e1 => h.1 (by rw [← he, ← e1]; exact List.mem_map_of_mem hy)
      grind
    · have := putE_mem (n := n) (v := v) (x := x) h.2
      grind
theorem putE_keys {n : Int} {v : Vote} : ∀ {es : List (Int × Vote)}, (putE es n v).map (·.1) = if n ∈ es.map (·.1) then es.map (·.1) else es.map (·.1) ++ [n]
  | [] => by simp [putE]
  | e :: es => by
    have := putE_keys (n := n) (v := v) (es := es)
    unfold putE
    split
    · rename_i he; subst he; simp
    · rename_i he
      simp only [List.map_cons, this, List.mem_cons, he, false_or]
      split <;> simp
theorem putE_nodup {n : Int} {v : Vote} {es : List (Int × Vote)} (h : (es.map (·.1)).Nodup) : ((putE es n v).map (·.1)).Nodup := by
  rw [putE_keys]
  split
  · exact h
  · rename_i hn
    rw [List.nodup_append]
    refine ⟨h, by simp, fun a ha b hb => ?_⟩
    simp only [List.mem_singleton] at hb
    subst hb
    intro e; subst e; exact hn ha

/-- By rising slots, each once. -/
def SS (l : List Vote) : Prop := l.Pairwise fun a b => a.slot < b.slot
theorem SS.ext {l l' : List Vote} (h : SS l) (h' : SS l') (hm : ∀ x, x ∈ l ↔ x ∈ l') : l = l' := by
  have nd : ∀ {l : List Vote}, SS l → l.Nodup := fun h => h.imp fun h e => by subst e; omega
  refine List.Perm.eq_of_pairwise (le := fun a b : Vote => a.slot < b.slot) (fun a b _ _ h1 h2 => by omega) h h' ?_
  exact (List.perm_ext_iff_of_nodup (nd h) (nd h')).2 hm
def put : List Vote → Vote → List Vote
  | [], v => [v]
  | x :: l, v => if x.slot < v.slot then x :: put l v else if x.slot = v.slot then v :: l else v :: x :: l
theorem put_mem {v x : Vote} : ∀ {l : List Vote}, SS l → (x ∈ put l v ↔ x = v ∨ x.slot ≠ v.slot ∧ x ∈ l)
  | [], _ => by simp [put]
  | y :: l, h => by
    unfold SS at h
    rw [List.pairwise_cons] at h
    have ih := put_mem (v := v) (x := x) (l := l) h.2
    unfold put
    split
    · have := h.1; grind
    · split
      · have := h.1; grind
      · have := h.1; grind
theorem put_SS {v : Vote} : ∀ {l : List Vote}, SS l → SS (put l v)
  | [], _ => by simp [put, SS]
  | y :: l, h => by
    have h0 := h
    unfold SS at h
    rw [List.pairwise_cons] at h
    unfold put
    split
    · unfold SS
      rw [List.pairwise_cons]
      refine ⟨fun a ha => ?_, put_SS h.2⟩
      rw [put_mem h.2] at ha
      rcases ha with rfl | ⟨_, ha⟩
      · assumption
      · exact h.1 a ha
    · split
      · unfold SS
        rw [List.pairwise_cons]
        exact ⟨fun a ha => by have := h.1 a ha; omega, h.2⟩
      · unfold SS
        rw [List.pairwise_cons]
        refine ⟨fun a ha => ?_, h0⟩
        rcases List.mem_cons.1 ha with rfl | ha
        · omega
        · have := h.1 a ha; omega

/-- What holds of a map of votes. -/
structure MV (es : List (Int × Vote)) : Prop where
  nd : (es.map (·.1)).Nodup
  key : ∀ e ∈ es, e.2.slot = e.1
def allV (es : List (Int × Vote)) : List Vote := (sortZ (es.map (·.1))).map (getE es)
theorem getE_mem {es : List (Int × Vote)} (h : MV es) {e : Int × Vote} (he : e ∈ es) : getE es e.1 = e.2 := by
  unfold getE
  have : es.find? (fun x => x.1 == e.1) = some e := by
    have nd := h.nd
    clear h
    induction es with
    | nil => simp at he
    | cons y es ih =>
      simp only [List.map_cons, List.nodup_cons] at nd
      rcases List.mem_cons.1 he with rfl | he
      · simp
      · have : y.1 ≠ e.1 := fun e1 => nd.1 (by rw [e1]; exact List.mem_map_of_mem he)
        simp [this, ih he nd.2]
  rw [this]
theorem mem_sortZ {ks : List Int} {x : Int} : x ∈ sortZ ks ↔ x ∈ ks := (List.mergeSort_perm ks _).mem_iff
theorem sortZ_pw (ks : List Int) : (sortZ ks).Pairwise (· ≤ ·) := by
  have tr : ∀ a b c : Int, decide (a ≤ b) = true → decide (b ≤ c) = true → decide (a ≤ c) = true := fun a b c h1 h2 => by simp only [decide_eq_true_eq] at *; omega
  have to : ∀ a b : Int, (decide (a ≤ b) || decide (b ≤ a)) = true := fun a b => by simp only [Bool.or_eq_true, decide_eq_true_eq]; omega
  exact (List.pairwise_mergeSort tr to ks).imp fun h => by simpa using h
theorem sortZ_lt {ks : List Int} (h : ks.Nodup) : (sortZ ks).Pairwise (· < ·) := by
  have h2 : (sortZ ks).Nodup := (List.mergeSort_perm ks _).nodup_iff.2 h
  exact ((sortZ_pw ks).and h2).imp fun h => by omega
theorem getE_slot {es : List (Int × Vote)} (h : MV es) {n : Int} (hn : n ∈ es.map (·.1)) : (getE es n).slot = n := by
  obtain ⟨e, he, rfl⟩ := List.mem_map.1 hn
  rw [getE_mem h he, h.key e he]
theorem allV_SS {es : List (Int × Vote)} (h : MV es) : SS (allV es) := by
  unfold SS allV
  rw [List.pairwise_map]
  refine (List.Pairwise.and_mem.1 (sortZ_lt h.nd)).imp fun {a b} hab => ?_
  rw [getE_slot h (mem_sortZ.1 hab.1), getE_slot h (mem_sortZ.1 hab.2.1)]
  exact hab.2.2
theorem mem_allV {es : List (Int × Vote)} (h : MV es) {x : Vote} : x ∈ allV es ↔ (x.slot, x) ∈ es := by
  unfold allV
  rw [List.mem_map]
  constructor
  · rintro ⟨n, hn, rfl⟩
    rw [mem_sortZ] at hn
    obtain ⟨e, he, rfl⟩ := List.mem_map.1 hn
    rw [getE_mem h he, h.key e he]
    exact he
  · intro hx
    exact ⟨x.slot, mem_sortZ.2 (List.mem_map.2 ⟨_, hx, rfl⟩), getE_mem h hx⟩
theorem allV_len (es : List (Int × Vote)) : (allV es).length = es.length := by simp [allV, sortZ]
theorem rising_all {es : List (Int × Vote)} (h : MV es) (frm : Int) : rising es frm (sortZ (es.map (·.1))) = (allV es).filter fun v => decide (frm ≤ v.slot) := by
  unfold rising allV
  rw [List.filter_map]
  congr 1
  refine List.filter_congr fun n hn => ?_
  simp only [Function.comp_apply]
  rw [getE_slot h (mem_sortZ.1 hn)]
theorem MV.put {es : List (Int × Vote)} (h : MV es) (v : Vote) : MV (putE es v.slot v) := by
  refine ⟨putE_nodup h.nd, fun e he => ?_⟩
  rw [putE_mem h.nd] at he
  rcases he with rfl | ⟨_, he⟩
  · rfl
  · exact h.key e he
theorem allV_put {es : List (Int × Vote)} (h : MV es) (v : Vote) : allV (putE es v.slot v) = put (allV es) v := by
  refine (allV_SS (h.put v)).ext (put_SS (allV_SS h)) fun x => ?_
  rw [mem_allV (h.put v), putE_mem h.nd, put_mem (allV_SS h), mem_allV h]
  constructor
  · rintro (hx | ⟨h1, h2⟩)
    · left; exact congrArg Prod.snd hx
    · right; exact ⟨h1, h2⟩
  · rintro (hx | ⟨h1, h2⟩)
    · left; rw [hx]
    · right; exact ⟨h1, h2⟩
def atS (l : List Vote) (slot : Int) : Option Vote := l.find? fun v => v.slot == slot
theorem lookE_some {n : Int} {v : Vote} : ∀ {es : List (Int × Vote)}, (es.map (·.1)).Nodup → (lookE es n = some v ↔ (n, v) ∈ es)
  | [], _ => by simp [lookE]
  | e :: es, h => by
    simp only [List.map_cons, List.nodup_cons] at h
    have ih := lookE_some (n := n) (v := v) h.2
    unfold lookE
    split
    · rename_i he
      have : ∀ y ∈ es, y.1 ≠ n := fun y hy e1 => h.1 (by rw [← he, ← e1]; exact List.mem_map_of_mem hy)
      grind
    · grind
theorem atS_some {l : List Vote} (h : SS l) {n : Int} {v : Vote} : atS l n = some v ↔ v ∈ l ∧ v.slot = n := by
  unfold atS
  induction l with
  | nil => simp
  | cons y l ih =>
    unfold SS at h
    rw [List.pairwise_cons] at h
    have := ih h.2
    have h1 := h.1
    rw [List.find?_cons]
    split <;> grind
theorem opt_eq {α : Type} {a b : Option α} (h : ∀ x, a = some x ↔ b = some x) : a = b := by
  cases a with
  | none => cases b with
    | none => rfl
    | some y => exact absurd ((h y).2 rfl) (by simp)
  | some x => exact ((h x).1 rfl).symm
theorem lookE_at {es : List (Int × Vote)} (h : MV es) (n : Int) : lookE es n = atS (allV es) n := by
  refine opt_eq fun x => ?_
  rw [lookE_some h.nd, atS_some (allV_SS h), mem_allV h]
  constructor
  · intro hx
    have := h.key _ hx
    simp only at this
    subst this
    exact ⟨hx, rfl⟩
  · rintro ⟨hx, rfl⟩; exact hx
end Go.M

namespace Go.M
open Go Go.Proofs
set_option maxRecDepth 100000
def checkS (k ch ep nd : Int) : Int := if k < 0 ∨ k ≥ 5 then 1 else if k = 0 then (if ch ≠ 0 ∨ ep ≠ 0 ∨ nd ≠ 0 then 4 else 0) else if ch < 0 ∨ ch ≥ 4 ∨ ep < 1 ∨ nd < 1 ∨ nd > 24 then 4 else 0
@[reducible] def cmdT (k ch ep nd : Int) : TV := .agg [.s (.int .i64 k), .s (.int .i64 ch), .s (.int .u64 ep), .s (.int .i64 nd)]
theorem check_ok (k ch ep nd : Int) : VC E0 70 0 [cmdT k ch ep nd] [] (RR (.s (.int .i64 (checkS k ch ep nd))) 0 []) := by
  refine VC.enterR L0 (show E0.func 70 = some Try.f70 by kernel_rfl) (fun _ _ => rfl) rfl rfl [] ?_
  ((conv => whnf) <;> repeat ((with_reducible refine Drawn.mk (by kernel_rfl) ?_) <;> conv => whnf))
  repeat' (first | ((first | (refine ⟨fun h => ?_, fun h => ?_⟩) | (refine nsplit (fun h => ?_) (fun h => ?_)) | (refine bsplit (fun h => ?_) (fun h => ?_))) <;> ((conv => whnf) <;> repeat ((with_reducible refine Drawn.mk (by kernel_rfl) ?_) <;> conv => whnf))))
  all_goals (refine ⟨[], [], [], _, _, ⟨?_, .nil, rfl⟩, rfl, rfl, rfl⟩)
  all_goals (refine .s (Lz.int ?_); simp [veq1, checkS] at *; grind)
theorem refCheck_ok (k ch ep nd : Int) (he : 0 ≤ ep) : VC E0 66 0 [cmdT k ch ep nd] [] (RR (.s (.int .i64 (checkS k ch ep nd))) 0 []) := by
  refine VC.enterR L0 (show E0.func 66 = some Try.f66 by kernel_rfl) (fun _ _ => rfl) rfl rfl [] ?_
  ((conv => whnf) <;> repeat ((with_reducible refine Drawn.mk (by kernel_rfl) ?_) <;> conv => whnf))
  repeat' (first | ((first | (refine ⟨fun h => ?_, fun h => ?_⟩) | (refine nsplit (fun h => ?_) (fun h => ?_)) | (refine bsplit (fun h => ?_) (fun h => ?_))) <;> ((conv => whnf) <;> repeat ((with_reducible refine Drawn.mk (by kernel_rfl) ?_) <;> conv => whnf))))
  all_goals (refine ⟨[], [], [], _, _, ⟨?_, .nil, rfl⟩, rfl, rfl, rfl⟩)
  all_goals (refine .s (Lz.int ?_); simp [checkS] at *; grind)
end Go.M

namespace Go.M
open Go Go.Proofs
set_option maxRecDepth 100000
noncomputable def eqB {α : Type} (a b : α) : Bool := @decide (a = b) (Classical.propDecidable _)
theorem eqB_iff {α : Type} {a b : α} : eqB a b = true ↔ a = b := by unfold eqB; simp
theorem eqB_false {α : Type} {a b : α} : eqB a b = false ↔ a ≠ b := by unfold eqB; simp
theorem refMaster_ok (n : Int) : VC E0 154 0 [.s (.int .i64 n)] [] (RR (.s (.bool (isMaster n))) 0 []) := by
  refine VC.enterR L0 (show E0.func 154 = some Try.f154 by kernel_rfl) (fun _ _ => rfl) rfl rfl [] ?_
  ((conv => whnf) <;> repeat ((with_reducible refine Drawn.mk (by kernel_rfl) ?_) <;> conv => whnf))
  repeat' (first | ((first | (refine ⟨fun h => ?_, fun h => ?_⟩) | (refine nsplit (fun h => ?_) (fun h => ?_)) | (refine bsplit (fun h => ?_) (fun h => ?_))) <;> ((conv => whnf) <;> repeat ((with_reducible refine Drawn.mk (by kernel_rfl) ?_) <;> conv => whnf))))
  all_goals (refine ⟨[], [], [], _, _, ⟨?_, .nil, rfl⟩, rfl, rfl, rfl⟩)
  all_goals (refine .s (Lz.of (bool_eq ?_)); simp [isMaster, *]; try omega)
def refOfS (r w : Int) : Int × Int := if r < 1 ∨ r > 1152921504606846975 ∨ isMaster w = false then (0, 1) else (IntKind.u64.wrap (IntKind.u64.wrap (r * 8) + IntKind.u64.wrap w), 0)
theorem refOf_ok (r w : Int) : VC E0 150 0 [.s (.int .u64 r), .s (.int .i64 w)] [] (RR (.tup [.s (.int .u64 (refOfS r w).1), .s (.int .i64 (refOfS r w).2)]) 0 []) := by
  refine VC.enterR L0 (show E0.func 150 = some Try.f150 by kernel_rfl) (fun _ _ => rfl) rfl rfl [] ?_
  ((conv => whnf) <;> repeat ((with_reducible refine Drawn.mk (by kernel_rfl) ?_) <;> conv => whnf))
  (first | (refine ⟨fun h1 => ?_, fun h1 => ?_⟩) | (refine nsplit (fun h1 => ?_) (fun h1 => ?_)) | (refine bsplit (fun h1 => ?_) (fun h1 => ?_))) <;> have hz_ := True.intro <;> clear hz_
  · ((conv => whnf) <;> repeat ((with_reducible refine Drawn.mk (by kernel_rfl) ?_) <;> conv => whnf))
    refine ⟨[], [], ?_⟩
    iterate 3 constructor
    refine ⟨⟨?_, ?_, ?_⟩, rfl, rfl, rfl⟩
    all_goals (repeat' (first | (with_reducible exact Lz.rfl) | (exact Lw.rfl) | (exact Lz.wrap (by omega)) | ((unfold goInt); (with_reducible exact Lz.rfl)) | constructor))
    all_goals (refine Lz.int ?_; unfold refOfS; grind)
  · ((conv => whnf) <;> repeat ((with_reducible refine Drawn.mk (by kernel_rfl) ?_) <;> conv => whnf))
    (first | (refine ⟨fun h2 => ?_, fun h2 => ?_⟩) | (refine nsplit (fun h2 => ?_) (fun h2 => ?_)) | (refine bsplit (fun h2 => ?_) (fun h2 => ?_))) <;> have hz_ := True.intro <;> clear hz_
    · ((conv => whnf) <;> repeat ((with_reducible refine Drawn.mk (by kernel_rfl) ?_) <;> conv => whnf))
      refine ⟨[], [], ?_⟩
      iterate 3 constructor
      refine ⟨⟨?_, ?_, ?_⟩, rfl, rfl, rfl⟩
      all_goals (repeat' (first | (with_reducible exact Lz.rfl) | (exact Lw.rfl) | (exact Lz.wrap (by omega)) | ((unfold goInt); (with_reducible exact Lz.rfl)) | constructor))
      all_goals (refine Lz.int ?_; unfold refOfS; grind)
    · ((conv => whnf) <;> repeat ((with_reducible refine Drawn.mk (by kernel_rfl) ?_) <;> conv => whnf))
      refine ⟨[], [], _, _, _, _, refMaster_ok w, ⟨by (repeat' (first | (with_reducible exact Lz.rfl) | (exact Lw.rfl) | (exact Lz.wrap (by omega)) | ((unfold goInt); (with_reducible exact Lz.rfl)) | constructor)), by (repeat' (first | (with_reducible exact Lz.rfl) | (exact Lw.rfl) | (exact Lz.wrap (by omega)) | ((unfold goInt); (with_reducible exact Lz.rfl)) | constructor)), by rfl⟩, ?_⟩
      rintro r o' c' ⟨rfl, rfl, rfl⟩
      ((conv => whnf) <;> repeat ((with_reducible refine Drawn.mk (by kernel_rfl) ?_) <;> conv => whnf))
      (first | (refine ⟨fun h3 => ?_, fun h3 => ?_⟩) | (refine nsplit (fun h3 => ?_) (fun h3 => ?_)) | (refine bsplit (fun h3 => ?_) (fun h3 => ?_))) <;> have hz_ := True.intro <;> clear hz_
      · ((conv => whnf) <;> repeat ((with_reducible refine Drawn.mk (by kernel_rfl) ?_) <;> conv => whnf))
        refine ⟨[], [], ?_⟩
        iterate 3 constructor
        refine ⟨⟨?_, ?_, ?_⟩, rfl, rfl, rfl⟩
        all_goals (repeat' (first | (with_reducible exact Lz.rfl) | (exact Lw.rfl) | (exact Lz.wrap (by omega)) | ((unfold goInt); (with_reducible exact Lz.rfl)) | constructor))
        all_goals (refine Lz.int ?_; unfold refOfS; grind)
      · ((conv => whnf) <;> repeat ((with_reducible refine Drawn.mk (by kernel_rfl) ?_) <;> conv => whnf))
        refine ⟨[], [], ?_⟩
        iterate 3 constructor
        refine ⟨⟨?_, ?_, ?_⟩, rfl, rfl, rfl⟩
        all_goals (repeat' (first | (with_reducible exact Lz.rfl) | (exact Lw.rfl) | (exact Lz.wrap (by omega)) | ((unfold goInt); (with_reducible exact Lz.rfl)) | constructor))
        all_goals (refine Lz.int ?_; unfold refOfS; grind)
theorem refIs_ok (b : Int) : VC E0 121 0 [.s (.int .u64 b)] [] (RR (.s (.bool (isBallot b))) 0 []) := by
  refine VC.enterR L0 (show E0.func 121 = some Try.f121 by kernel_rfl) (fun _ _ => rfl) rfl rfl [] ?_
  ((conv => whnf) <;> repeat ((with_reducible refine Drawn.mk (by kernel_rfl) ?_) <;> conv => whnf))
  refine ⟨[], [], _, _, _, _, refOf_ok (IntKind.u64.wrap (b.tdiv 8)) (IntKind.i64.wrap (b.tmod 8)), ⟨by (repeat' (first | (with_reducible exact Lz.rfl) | (exact Lw.rfl) | (exact Lz.wrap (by omega)) | ((unfold goInt); (with_reducible exact Lz.rfl)) | constructor)), by (repeat' (first | (with_reducible exact Lz.rfl) | (exact Lw.rfl) | (exact Lz.wrap (by omega)) | ((unfold goInt); (with_reducible exact Lz.rfl)) | constructor)), by rfl⟩, ?_⟩
  rintro r o' c' ⟨rfl, rfl, rfl⟩
  ((conv => whnf) <;> repeat ((with_reducible refine Drawn.mk (by kernel_rfl) ?_) <;> conv => whnf))
  repeat' (first | ((first | (refine ⟨fun h => ?_, fun h => ?_⟩) | (refine nsplit (fun h => ?_) (fun h => ?_)) | (refine bsplit (fun h => ?_) (fun h => ?_))) <;> ((conv => whnf) <;> repeat ((with_reducible refine Drawn.mk (by kernel_rfl) ?_) <;> conv => whnf))))
  all_goals (refine ⟨[], [], [], _, _, ⟨?_, .nil, rfl⟩, rfl, rfl, rfl⟩)
  all_goals (refine .s (Lz.of (bool_eq ?_)); unfold isBallot; unfold refOfS at *; grind)
theorem refAt_ok (l : List Vote) (n : Int) (hl : l.length < 1000000) : VC E0 37 0 [.sl 6 (l.map encV) false, .s (.int .i64 n)] [] (RR (.tup [.agg (encV ((atS l n).getD noVote)), .s (.bool (atS l n).isSome)]) 0 []) := by
  refine VC.enterR L0 (show E0.func 37 = some Try.f37 by kernel_rfl) (fun _ _ => rfl) rfl rfl [] ?_
  ((conv => whnf) <;> repeat ((with_reducible refine Drawn.mk (by kernel_rfl) ?_) <;> conv => whnf))
  refine ⟨fun k f o c => ∃ i : Nat, i ≤ l.length ∧ k = l.length - i ∧ atS l n = atS (l.drop i) n ∧ c = 1 ∧ f = [(0, .sl 6 (l.map encV) false), (1, .s (.int .i64 n)), (4, .ptr 0 0), (6, .s (.int .i64 i))] ∧ o = [(0, .cells (encV noVote))], ⟨l.length, ?_⟩, ?_⟩
  · refine ⟨[], [some 0], ?_⟩
    iterate 3 constructor
    refine ⟨⟨?_, ?_, ?_⟩, ⟨0, Nat.zero_le _, rfl, rfl, rfl, rfl, rfl⟩⟩
    all_goals (repeat' (first | (with_reducible exact Lz.rfl) | (exact Lw.rfl) | (exact Lz.wrap (by omega)) | ((unfold goInt); (with_reducible exact Lz.rfl)) | constructor))
  · rintro k f1 o1 c1 ⟨i, hi, rfl, ha, rfl, rfl, rfl⟩
    ((conv => whnf) <;> repeat ((with_reducible refine Drawn.mk (by kernel_rfl) ?_) <;> conv => whnf))
    (first | (refine ⟨fun h => ?_, fun h => ?_⟩) | (refine nsplit (fun h => ?_) (fun h => ?_)) | (refine bsplit (fun h => ?_) (fun h => ?_))) <;> have hz_ := True.intro <;> clear hz_
    · have h := lenlt.1 h
      have hd : l.drop i = l[i] :: l.drop (i + 1) := List.drop_eq_getElem_cons h
      ((conv => whnf) <;> repeat ((with_reducible refine Drawn.mk (by kernel_rfl) ?_) <;> conv => whnf))
      refine idxI h ?_
      ((conv => whnf) <;> repeat ((with_reducible refine Drawn.mk (by kernel_rfl) ?_) <;> conv => whnf))
      (first | (refine ⟨fun hs => ?_, fun hs => ?_⟩) | (refine nsplit (fun hs => ?_) (fun hs => ?_)) | (refine bsplit (fun hs => ?_) (fun hs => ?_))) <;> have hz_ := True.intro <;> clear hz_
      · ((conv => whnf) <;> repeat ((with_reducible refine Drawn.mk (by kernel_rfl) ?_) <;> conv => whnf))
        refine idxI h ?_
        ((conv => whnf) <;> repeat ((with_reducible refine Drawn.mk (by kernel_rfl) ?_) <;> conv => whnf))
        have : atS l n = some l[i] := by rw [ha, hd, atS, List.find?_cons]; simp [hs, atS]
        rw [this]
        refine ⟨[], [], ?_⟩
        iterate 3 constructor
        refine ⟨⟨?_, ?_, ?_⟩, rfl, rfl, rfl⟩
        all_goals (repeat' (first | (with_reducible exact Lz.rfl) | (exact Lw.rfl) | (exact Lz.wrap (by omega)) | ((unfold goInt); (with_reducible exact Lz.rfl)) | constructor))
      · ((conv => whnf) <;> repeat ((with_reducible refine Drawn.mk (by kernel_rfl) ?_) <;> conv => whnf))
        refine ⟨l.length - (i + 1), ?_, by omega⟩
        refine ⟨[], [some 0], ?_⟩
        iterate 3 constructor
        refine ⟨⟨?_, ?_, ?_⟩, ⟨i + 1, h, rfl, by rw [ha, hd, atS, List.find?_cons]; simp [hs, atS]; rw [show (l[i].slot == n) = false by simp [hs]], rfl, rfl, rfl⟩⟩
        all_goals (repeat' (first | (with_reducible exact Lz.rfl) | (exact Lw.rfl) | (exact Lz.wrap (by omega)) | ((unfold goInt); (with_reducible exact Lz.rfl)) | constructor))
    · have h := mt lenlt.2 h
      ((conv => whnf) <;> repeat ((with_reducible refine Drawn.mk (by kernel_rfl) ?_) <;> conv => whnf))
      have : atS l n = none := by rw [ha, List.drop_eq_nil_of_le (by omega)]; rfl
      rw [this]
      refine ⟨[], [], ?_⟩
      iterate 3 constructor
      refine ⟨⟨?_, ?_, ?_⟩, rfl, rfl, rfl⟩
      all_goals (repeat' (first | (with_reducible exact Lz.rfl) | (exact Lw.rfl) | (exact Lz.wrap (by omega)) | ((unfold goInt); (with_reducible exact Lz.rfl)) | constructor))
def frmS (l : List Vote) (frm : Int) : List Vote := l.filter fun v => decide (frm ≤ v.slot)
theorem take_snoc {α : Type} (l : List α) (i : Nat) (h : i < l.length) : l.take (i + 1) = l.take i ++ [l[i]] := by rw [List.take_succ_eq_append_getElem h]
theorem frmS_snoc (l : List Vote) (frm : Int) (i : Nat) (h : i < l.length) : frmS (l.take (i + 1)) frm = frmS (l.take i) frm ++ (if frm ≤ l[i].slot then [l[i]] else []) := by
  unfold frmS
  rw [List.take_succ_eq_append_getElem h, List.filter_append]
  congr 1
  by_cases hf : frm ≤ l[i].slot <;> simp [hf]
theorem refFrom_ok (l : List Vote) (frm : Int) (hl : l.length < 1000000) : VC E0 42 0 [.sl 6 (l.map encV) false, .s (.int .i64 frm)] [] (RR (.sl 6 ((frmS l frm).map encV) false) 0 []) := by
  refine VC.enterR L0 (show E0.func 42 = some Try.f42 by kernel_rfl) (fun _ _ => rfl) rfl rfl [] ?_
  ((conv => whnf) <;> repeat ((with_reducible refine Drawn.mk (by kernel_rfl) ?_) <;> conv => whnf))
  refine ⟨fun k f o c => ∃ i : Nat, i ≤ l.length ∧ k = l.length - i ∧ c = 1 ∧ f = [(0, .sl 6 (l.map encV) false), (1, .s (.int .i64 frm)), (5, .tk 0), (6, .s (.int .i64 i))] ∧ o = [(0, .arr 6 true ((frmS (l.take i) frm).map encV))], ⟨l.length, ?_⟩, ?_⟩
  · refine ⟨[], [none], ?_⟩
    iterate 3 constructor
    refine ⟨⟨?_, ?_, ?_⟩, ⟨0, Nat.zero_le _, rfl, rfl, rfl, rfl⟩⟩
    all_goals (repeat' (first | (with_reducible exact Lz.rfl) | (exact Lw.rfl) | (exact Lz.wrap (by omega)) | ((unfold goInt); (with_reducible exact Lz.rfl)) | constructor))
  · rintro k f1 o1 c1 ⟨i, hi, rfl, rfl, rfl, rfl⟩
    ((conv => whnf) <;> repeat ((with_reducible refine Drawn.mk (by kernel_rfl) ?_) <;> conv => whnf))
    (first | (refine ⟨fun h => ?_, fun h => ?_⟩) | (refine nsplit (fun h => ?_) (fun h => ?_)) | (refine bsplit (fun h => ?_) (fun h => ?_))) <;> have hz_ := True.intro <;> clear hz_
    · have h := lenlt.1 h
      have hd := take_snoc l i h
      ((conv => whnf) <;> repeat ((with_reducible refine Drawn.mk (by kernel_rfl) ?_) <;> conv => whnf))
      refine idxI h ?_
      ((conv => whnf) <;> repeat ((with_reducible refine Drawn.mk (by kernel_rfl) ?_) <;> conv => whnf))
      (first | (refine ⟨fun hs => ?_, fun hs => ?_⟩) | (refine nsplit (fun hs => ?_) (fun hs => ?_)) | (refine bsplit (fun hs => ?_) (fun hs => ?_))) <;> have hz_ := True.intro <;> clear hz_
      · ((conv => whnf) <;> repeat ((with_reducible refine Drawn.mk (by kernel_rfl) ?_) <;> conv => whnf))
        refine idxI h ?_
        ((conv => whnf) <;> repeat ((with_reducible refine Drawn.mk (by kernel_rfl) ?_) <;> conv => whnf))
        have hle : (frmS (l.take i) frm).length ≤ i := Nat.le_trans (List.length_filter_le _ _) (by simp; omega)
        refine ⟨by simp; omega, ?_⟩
        ((conv => whnf) <;> repeat ((with_reducible refine Drawn.mk (by kernel_rfl) ?_) <;> conv => whnf))
        refine ⟨l.length - (i + 1), ?_, by omega⟩
        refine ⟨[], [some 2], ?_⟩
        iterate 3 constructor
        refine ⟨⟨?_, ?_, ?_⟩, ⟨i + 1, h, rfl, rfl, rfl, rfl⟩⟩
        all_goals (repeat' (first | (with_reducible exact Lz.rfl) | (exact Lw.rfl) | (exact Lz.wrap (by omega)) | ((unfold goInt); (with_reducible exact Lz.rfl)) | constructor))
        · rw [frmS_snoc l frm i h, if_pos hs, List.map_append]; exact Lz.rfl
      · ((conv => whnf) <;> repeat ((with_reducible refine Drawn.mk (by kernel_rfl) ?_) <;> conv => whnf))
        refine ⟨l.length - (i + 1), ?_, by omega⟩
        refine ⟨[], [some 0], ?_⟩
        iterate 3 constructor
        refine ⟨⟨?_, ?_, ?_⟩, ⟨i + 1, h, rfl, rfl, rfl, rfl⟩⟩
        all_goals (repeat' (first | (with_reducible exact Lz.rfl) | (exact Lw.rfl) | (exact Lz.wrap (by omega)) | ((unfold goInt); (with_reducible exact Lz.rfl)) | constructor))
        · rw [frmS_snoc l frm i h, if_neg hs, List.append_nil]; exact Lz.rfl
    · have h := mt lenlt.2 h
      ((conv => whnf) <;> repeat ((with_reducible refine Drawn.mk (by kernel_rfl) ?_) <;> conv => whnf))
      have : l.take i = l := List.take_of_length_le (by omega)
      rw [this]
      refine ⟨[0], [], ?_⟩
      iterate 3 constructor
      refine ⟨⟨?_, ?_, ?_⟩, rfl, rfl, rfl⟩
      all_goals (repeat' (first | (with_reducible exact Lz.rfl) | (exact Lw.rfl) | (exact Lz.wrap (by omega)) | ((unfold goInt); (with_reducible exact Lz.rfl)) | constructor))
end Go.M

namespace Go.M
open Go Go.Proofs
set_option maxRecDepth 100000
def restP (v : Vote) : List Vote → List Vote
  | [] => []
  | x :: r => if x.slot = v.slot then r else x :: r
theorem put_at (v : Vote) : ∀ (l : List Vote) (i : Nat), i ≤ l.length → (∀ x ∈ l.take i, x.slot < v.slot) → (∀ x, l[i]? = some x → ¬ x.slot < v.slot) → put l v = l.take i ++ v :: restP v (l.drop i)
  | [], i, hi, _, _ => by simp at hi; subst hi; simp [put, restP]
  | y :: l, 0, _, _, hx => by
    have := hx y rfl
    unfold put restP
    simp only [List.take_zero, List.nil_append, List.drop_zero]
    split
    · exact absurd ‹_› this
    · split <;> rfl
  | y :: l, i + 1, hi, hlt, hx => by
    have h1 := hlt y (by simp)
    have := put_at v l i (by simpa using hi) (fun x hx' => hlt x (by simp [hx'])) (fun x hx' => hx x (by simpa using hx'))
    unfold put
    rw [if_pos h1, this]
    simp
theorem refPut_ok (l : List Vote) (v : Vote) (hl : l.length < 1000) : VC E0 69 0 [.sl 6 (l.map encV) false, .agg (encV v)] [] (RR (.sl 6 ((put l v).map encV) false) 0 []) := by
  refine VC.enterR L0 (show E0.func 69 = some Try.f69 by kernel_rfl) (fun _ _ => rfl) rfl rfl [0] ?_
  ((conv => whnf) <;> repeat ((with_reducible refine Drawn.mk (by kernel_rfl) ?_) <;> conv => whnf))
  refine ⟨fun f o c => ∃ i : Nat, i ≤ l.length ∧ (∀ x ∈ l.take i, x.slot < v.slot) ∧ (∀ x, l[i]? = some x → ¬ x.slot < v.slot) ∧ c = 2 ∧ f = [(0, .sl 6 (l.map encV) false), (3, .ptr 0 0), (5, .tk 1), (6, .s (.int .i64 i))] ∧ o = [(0, .cells (encV v)), (1, .arr 6 true ((l.take i).map encV))], ?_, ?_⟩
  · ((conv => whnf) <;> repeat ((with_reducible refine Drawn.mk (by kernel_rfl) ?_) <;> conv => whnf))
    refine ⟨fun k f o c => ∃ i : Nat, i ≤ l.length ∧ (∀ x ∈ l.take i, x.slot < v.slot) ∧ k = l.length - i ∧ c = 2 ∧ f = [(0, .sl 6 (l.map encV) false), (3, .ptr 0 0), (5, .tk 1), (6, .s (.int .i64 i))] ∧ o = [(0, .cells (encV v)), (1, .arr 6 true ((l.take i).map encV))], ⟨l.length, ?_⟩, ?_⟩
    · refine ⟨[], [some 0, none], ?_⟩
      iterate 3 constructor
      refine ⟨⟨?_, ?_, ?_⟩, ⟨0, Nat.zero_le _, by simp, rfl, rfl, rfl, rfl⟩⟩
      all_goals (repeat' (first | (with_reducible exact Lz.rfl) | (exact Lw.rfl) | (exact Lz.wrap (by omega)) | ((unfold goInt); (with_reducible exact Lz.rfl)) | constructor))
    · rintro k f1 o1 c1 ⟨i, hi, hlt, rfl, rfl, rfl, rfl⟩
      ((conv => whnf) <;> repeat ((with_reducible refine Drawn.mk (by kernel_rfl) ?_) <;> conv => whnf))
      (first | (refine ⟨fun h => ?_, fun h => ?_⟩) | (refine nsplit (fun h => ?_) (fun h => ?_)) | (refine bsplit (fun h => ?_) (fun h => ?_))) <;> have hz_ := True.intro <;> clear hz_
      · have h := lenlt.1 h
        have hd := take_snoc l i h
        ((conv => whnf) <;> repeat ((with_reducible refine Drawn.mk (by kernel_rfl) ?_) <;> conv => whnf))
        refine idxI h ?_
        ((conv => whnf) <;> repeat ((with_reducible refine Drawn.mk (by kernel_rfl) ?_) <;> conv => whnf))
        (first | (refine ⟨fun hs => ?_, fun hs => ?_⟩) | (refine nsplit (fun hs => ?_) (fun hs => ?_)) | (refine bsplit (fun hs => ?_) (fun hs => ?_))) <;> have hz_ := True.intro <;> clear hz_
        · ((conv => whnf) <;> repeat ((with_reducible refine Drawn.mk (by kernel_rfl) ?_) <;> conv => whnf))
          refine idxI h ?_
          ((conv => whnf) <;> repeat ((with_reducible refine Drawn.mk (by kernel_rfl) ?_) <;> conv => whnf))
          refine ⟨by simp; omega, ?_⟩
          ((conv => whnf) <;> repeat ((with_reducible refine Drawn.mk (by kernel_rfl) ?_) <;> conv => whnf))
          refine ⟨l.length - (i + 1), ?_, by omega⟩
          refine ⟨[], [some 0, some 3], ?_⟩
          iterate 3 constructor
          refine ⟨⟨?_, ?_, ?_⟩, ⟨i + 1, h, by intro x hx; rw [hd] at hx; rcases List.mem_append.1 hx with h1 | h1; exact hlt x h1; simp at h1; subst h1; exact hs, rfl, rfl, rfl, rfl⟩⟩
          all_goals (repeat' (first | (with_reducible exact Lz.rfl) | (exact Lw.rfl) | (exact Lz.wrap (by omega)) | ((unfold goInt); (with_reducible exact Lz.rfl)) | constructor))
          rw [hd, List.map_append]; exact Lz.rfl
        · ((conv => whnf) <;> repeat ((with_reducible refine Drawn.mk (by kernel_rfl) ?_) <;> conv => whnf))
          refine ⟨[], [some 0, some 1], ?_⟩
          iterate 3 constructor
          refine ⟨⟨?_, ?_, ?_⟩, ⟨i, hi, hlt, fun x hx => by rw [List.getElem?_eq_getElem h] at hx; cases hx; exact hs, rfl, rfl, rfl⟩⟩
          all_goals (repeat' (first | (with_reducible exact Lz.rfl) | (exact Lw.rfl) | (exact Lz.wrap (by omega)) | ((unfold goInt); (with_reducible exact Lz.rfl)) | constructor))
      · have h := mt lenlt.2 h
        ((conv => whnf) <;> repeat ((with_reducible refine Drawn.mk (by kernel_rfl) ?_) <;> conv => whnf))
        refine ⟨[], [some 0, some 1], ?_⟩
        iterate 3 constructor
        refine ⟨⟨?_, ?_, ?_⟩, ⟨i, hi, hlt, fun x hx => (by rw [List.getElem?_eq_none (by omega)] at hx; cases hx), rfl, rfl, rfl⟩⟩
        all_goals (repeat' (first | (with_reducible exact Lz.rfl) | (exact Lw.rfl) | (exact Lz.wrap (by omega)) | ((unfold goInt); (with_reducible exact Lz.rfl)) | constructor))
  · rintro f1 o1 c1 ⟨i, hi, hlt, hx, rfl, rfl, rfl⟩
    have hp := put_at v l i hi hlt hx
    ((conv => whnf) <;> repeat ((with_reducible refine Drawn.mk (by kernel_rfl) ?_) <;> conv => whnf))
    refine ⟨by simp; omega, ?_⟩
    ((conv => whnf) <;> repeat ((with_reducible refine Drawn.mk (by kernel_rfl) ?_) <;> conv => whnf))
    (first | (refine ⟨fun h => ?_, fun h => ?_⟩) | (refine nsplit (fun h => ?_) (fun h => ?_)) | (refine bsplit (fun h => ?_) (fun h => ?_))) <;> have hz_ := True.intro <;> clear hz_
    · have h := lenlt.1 h
      have hdr : l.drop i = l[i] :: l.drop (i + 1) := List.drop_eq_getElem_cons h
      ((conv => whnf) <;> repeat ((with_reducible refine Drawn.mk (by kernel_rfl) ?_) <;> conv => whnf))
      refine idxI h ?_
      ((conv => whnf) <;> repeat ((with_reducible refine Drawn.mk (by kernel_rfl) ?_) <;> conv => whnf))
      (first | (refine ⟨fun hs => ?_, fun hs => ?_⟩) | (refine nsplit (fun hs => ?_) (fun hs => ?_)) | (refine bsplit (fun hs => ?_) (fun hs => ?_))) <;> have hz_ := True.intro <;> clear hz_
      · ((conv => whnf) <;> repeat ((with_reducible refine Drawn.mk (by kernel_rfl) ?_) <;> conv => whnf))
        rw [wrap_small i (by omega)]
        refine ⟨⟨by omega, by simp; omega, by simp⟩, ?_⟩
        ((conv => whnf) <;> repeat ((with_reducible refine Drawn.mk (by kernel_rfl) ?_) <;> conv => whnf))
        refine ⟨by simp; omega, ?_⟩
        ((conv => whnf) <;> repeat ((with_reducible refine Drawn.mk (by kernel_rfl) ?_) <;> conv => whnf))
        refine ⟨[4], [], ?_⟩
        iterate 3 constructor
        refine ⟨⟨?_, ?_, ?_⟩, rfl, rfl, rfl⟩
        all_goals (repeat' (first | (with_reducible exact Lz.rfl) | (exact Lw.rfl) | (exact Lz.wrap (by omega)) | ((unfold goInt); (with_reducible exact Lz.rfl)) | constructor))
        refine Lz.of ?_; rw [hp, hdr]; simp [restP, hs]; exact ⟨rfl, by rw [List.take_of_length_le (by simp)]⟩
      · ((conv => whnf) <;> repeat ((with_reducible refine Drawn.mk (by kernel_rfl) ?_) <;> conv => whnf))
        refine ⟨⟨by omega, by simp; omega, by simp⟩, ?_⟩
        ((conv => whnf) <;> repeat ((with_reducible refine Drawn.mk (by kernel_rfl) ?_) <;> conv => whnf))
        refine ⟨by simp; omega, ?_⟩
        ((conv => whnf) <;> repeat ((with_reducible refine Drawn.mk (by kernel_rfl) ?_) <;> conv => whnf))
        refine ⟨[4], [], ?_⟩
        iterate 3 constructor
        refine ⟨⟨?_, ?_, ?_⟩, rfl, rfl, rfl⟩
        all_goals (repeat' (first | (with_reducible exact Lz.rfl) | (exact Lw.rfl) | (exact Lz.wrap (by omega)) | ((unfold goInt); (with_reducible exact Lz.rfl)) | constructor))
        refine Lz.of ?_; rw [hp, hdr]; simp [restP, hs]; exact ⟨rfl, by rw [List.take_of_length_le (by simp)]⟩
    · have h := mt lenlt.2 h
      ((conv => whnf) <;> repeat ((with_reducible refine Drawn.mk (by kernel_rfl) ?_) <;> conv => whnf))
      refine ⟨⟨by omega, by simp; omega, by simp⟩, ?_⟩
      ((conv => whnf) <;> repeat ((with_reducible refine Drawn.mk (by kernel_rfl) ?_) <;> conv => whnf))
      refine ⟨by simp; omega, ?_⟩
      ((conv => whnf) <;> repeat ((with_reducible refine Drawn.mk (by kernel_rfl) ?_) <;> conv => whnf))
      refine ⟨[4], [], ?_⟩
      iterate 3 constructor
      refine ⟨⟨?_, ?_, ?_⟩, rfl, rfl, rfl⟩
      all_goals (repeat' (first | (with_reducible exact Lz.rfl) | (exact Lw.rfl) | (exact Lz.wrap (by omega)) | ((unfold goInt); (with_reducible exact Lz.rfl)) | constructor))
      have hd0 : l.drop i = [] := List.drop_eq_nil_of_le (by omega)
      refine Lz.of ?_; rw [hp, hd0]; simp [restP]; exact ⟨rfl, by omega⟩
theorem veq_vote (v w : Vote) : (veq1 (.int .i64 v.slot) (.int .i64 w.slot) && (veq1 (.int .u64 v.ballot) (.int .u64 w.ballot) && (veq1 (.int .i64 v.kind) (.int .i64 w.kind) && (veq1 (.int .i64 v.chain) (.int .i64 w.chain) && (veq1 (.int .u64 v.epoch) (.int .u64 w.epoch) && (veq1 (.int .i64 v.node) (.int .i64 w.node) && true)))))) = eqB v w := by
  obtain ⟨a, b, c, d, e, f⟩ := v
  obtain ⟨a', b', c', d', e', f'⟩ := w
  rw [Bool.eq_iff_iff, eqB_iff]
  simp [veq1]
theorem same_ok (l m : List Vote) (hl : l.length < 1000000) : VC E0 40 0 [.sl 6 (l.map encV) false, .sl 6 (m.map encV) false] [] (RR (.s (.bool (eqB l m))) 0 []) := by
  refine VC.enterR L0 (show E0.func 40 = some Try.f40 by kernel_rfl) (fun _ _ => rfl) rfl rfl [] ?_
  ((conv => whnf) <;> repeat ((with_reducible refine Drawn.mk (by kernel_rfl) ?_) <;> conv => whnf))
  (first | (refine ⟨fun hlm => ?_, fun hlm => ?_⟩) | (refine nsplit (fun hlm => ?_) (fun hlm => ?_)) | (refine bsplit (fun hlm => ?_) (fun hlm => ?_))) <;> have hz_ := True.intro <;> clear hz_
  · ((conv => whnf) <;> repeat ((with_reducible refine Drawn.mk (by kernel_rfl) ?_) <;> conv => whnf))
    refine ⟨[], [], ?_⟩
    iterate 3 constructor
    refine ⟨⟨?_, ?_, ?_⟩, rfl, rfl, rfl⟩
    all_goals (repeat' (first | (with_reducible exact Lz.rfl) | (exact Lw.rfl) | (exact Lz.wrap (by omega)) | ((unfold goInt); (with_reducible exact Lz.rfl)) | constructor))
    refine Lz.of (bool_eq (Eq.symm (eqB_false.2 fun e => hlm (by subst e; rfl))))
  · have hlm : l.length = m.length := by simp at hlm; omega
    ((conv => whnf) <;> repeat ((with_reducible refine Drawn.mk (by kernel_rfl) ?_) <;> conv => whnf))
    refine ⟨fun k f o c => ∃ i : Nat, i ≤ l.length ∧ k = l.length - i ∧ l.take i = m.take i ∧ c = 0 ∧ f = [(0, .sl 6 (l.map encV) false), (1, .sl 6 (m.map encV) false), (5, .s (.int .i64 i))] ∧ o = [], ⟨l.length, ?_⟩, ?_⟩
    · refine ⟨[], [], ?_⟩
      iterate 3 constructor
      refine ⟨⟨?_, ?_, ?_⟩, ⟨0, Nat.zero_le _, rfl, rfl, rfl, rfl, rfl⟩⟩
      all_goals (repeat' (first | (with_reducible exact Lz.rfl) | (exact Lw.rfl) | (exact Lz.wrap (by omega)) | ((unfold goInt); (with_reducible exact Lz.rfl)) | constructor))
    · rintro k f1 o1 c1 ⟨i, hi, rfl, ht, rfl, rfl, rfl⟩
      ((conv => whnf) <;> repeat ((with_reducible refine Drawn.mk (by kernel_rfl) ?_) <;> conv => whnf))
      (first | (refine ⟨fun h => ?_, fun h => ?_⟩) | (refine nsplit (fun h => ?_) (fun h => ?_)) | (refine bsplit (fun h => ?_) (fun h => ?_))) <;> have hz_ := True.intro <;> clear hz_
      · have h := lenlt.1 h
        have h2 : i < m.length := by omega
        ((conv => whnf) <;> repeat ((with_reducible refine Drawn.mk (by kernel_rfl) ?_) <;> conv => whnf))
        refine idxI h ?_
        ((conv => whnf) <;> repeat ((with_reducible refine Drawn.mk (by kernel_rfl) ?_) <;> conv => whnf))
        refine idxI h2 ?_
        ((conv => whnf) <;> repeat ((with_reducible refine Drawn.mk (by kernel_rfl) ?_) <;> conv => whnf))
        (first | (refine ⟨fun hv => ?_, fun hv => ?_⟩) | (refine nsplit (fun hv => ?_) (fun hv => ?_)) | (refine bsplit (fun hv => ?_) (fun hv => ?_))) <;> have hz_ := True.intro <;> clear hz_
        · have hv := (veq_vote l[i] m[i]).symm.trans hv
          ((conv => whnf) <;> repeat ((with_reducible refine Drawn.mk (by kernel_rfl) ?_) <;> conv => whnf))
          refine ⟨[], [], ?_⟩
          iterate 3 constructor
          refine ⟨⟨?_, ?_, ?_⟩, rfl, rfl, rfl⟩
          all_goals (repeat' (first | (with_reducible exact Lz.rfl) | (exact Lw.rfl) | (exact Lz.wrap (by omega)) | ((unfold goInt); (with_reducible exact Lz.rfl)) | constructor))
          refine Lz.of (bool_eq (Eq.symm (eqB_false.2 fun e => eqB_false.1 hv (by subst e; rfl))))
        · have hv : eqB l[i] m[i] = true := by rw [← veq_vote]; simpa using hv
          ((conv => whnf) <;> repeat ((with_reducible refine Drawn.mk (by kernel_rfl) ?_) <;> conv => whnf))
          refine ⟨l.length - (i + 1), ?_, by omega⟩
          refine ⟨[], [], ?_⟩
          iterate 3 constructor
          refine ⟨⟨?_, ?_, ?_⟩, ⟨i + 1, h, rfl, by rw [take_snoc l i h, take_snoc m i h2, ht, eqB_iff.1 hv], rfl, rfl, rfl⟩⟩
          all_goals (repeat' (first | (with_reducible exact Lz.rfl) | (exact Lw.rfl) | (exact Lz.wrap (by omega)) | ((unfold goInt); (with_reducible exact Lz.rfl)) | constructor))
      · have h := mt lenlt.2 h
        ((conv => whnf) <;> repeat ((with_reducible refine Drawn.mk (by kernel_rfl) ?_) <;> conv => whnf))
        refine ⟨[], [], ?_⟩
        iterate 3 constructor
        refine ⟨⟨?_, ?_, ?_⟩, rfl, rfl, rfl⟩
        all_goals (repeat' (first | (with_reducible exact Lz.rfl) | (exact Lw.rfl) | (exact Lz.wrap (by omega)) | ((unfold goInt); (with_reducible exact Lz.rfl)) | constructor))
        refine Lz.of (bool_eq (Eq.symm (eqB_iff.2 ?_)))
        rw [← List.take_of_length_le (Nat.not_lt.1 h), ht, List.take_of_length_le (by omega)]
end Go.M

namespace Go.M
open Go Go.Proofs
set_option maxRecDepth 100000
structure Cmd where
  kind : Int
  chain : Int
  epoch : Int
  node : Int
@[reducible] def cT4 (c : Cmd) : TV := cmdT c.kind c.chain c.epoch c.node
def Cmd.check (c : Cmd) : Int := checkS c.kind c.chain c.epoch c.node
def Vote.of (n b : Int) (c : Cmd) : Vote := ⟨n, b, c.kind, c.chain, c.epoch, c.node⟩
@[reducible] def refA (p : Int) (l : List Vote) : TV := .agg [.s (.int .u64 p), .sl 6 (l.map encV) false]
def prepL (p b : Int) (l : List Vote) (frm : Int) : Int × List Vote × Int :=
  if isBallot b = false ∨ frm < 0 ∨ frm > 512 then (p, [], 1) else if b < p then (p, [], 10) else (b, frmS l frm, 0)
def accL (p : Int) (l : List Vote) (b n : Int) (c : Cmd) : Int × List Vote × Int :=
  if isBallot b = false ∨ n < 0 ∨ n ≥ 512 then (p, l, 1) else if c.check ≠ 0 then (p, l, c.check) else if b < p then (p, l, 10) else (b, put l (.of n b c), 0)
theorem refPrepare_ok (p b : Int) (l : List Vote) (frm : Int) (hl : l.length < 1000) : VC E0 82 0 [refA p l, .s (.int .u64 b), .s (.int .i64 frm)] []
    (RR (.tup [refA (prepL p b l frm).1 l, .sl 6 ((prepL p b l frm).2.1.map encV) false, .s (.int .i64 (prepL p b l frm).2.2)]) 0 []) := by
  refine VC.enterR L0 (show E0.func 82 = some Try.f82 by kernel_rfl) (fun _ _ => rfl) rfl rfl [] ?_
  ((conv => whnf) <;> repeat ((with_reducible refine Drawn.mk (by kernel_rfl) ?_) <;> conv => whnf))
  refine ⟨[], [], _, _, _, _, refIs_ok b, ⟨by (repeat' (first | (with_reducible exact Lz.rfl) | (exact Lw.rfl) | (exact Lz.wrap (by omega)) | ((unfold goInt); (with_reducible exact Lz.rfl)) | constructor)), by (repeat' (first | (with_reducible exact Lz.rfl) | (exact Lw.rfl) | (exact Lz.wrap (by omega)) | ((unfold goInt); (with_reducible exact Lz.rfl)) | constructor)), by rfl⟩, ?_⟩
  rintro r o' c' ⟨rfl, rfl, rfl⟩
  have hz_ := True.intro
  clear hz_
  cases hb : isBallot b
  · have e : prepL p b l frm = (p, [], 1) := by unfold prepL; grind
    rw [e]
    ((conv => whnf) <;> repeat ((with_reducible refine Drawn.mk (by kernel_rfl) ?_) <;> conv => whnf))
    refine ⟨[], [], ?_⟩
    iterate 3 constructor
    refine ⟨⟨?_, ?_, ?_⟩, rfl, rfl, rfl⟩
    all_goals (repeat' (first | (with_reducible exact Lz.rfl) | (exact Lw.rfl) | (exact Lz.wrap (by omega)) | ((unfold goInt); (with_reducible exact Lz.rfl)) | constructor))
  · ((conv => whnf) <;> repeat ((with_reducible refine Drawn.mk (by kernel_rfl) ?_) <;> conv => whnf))
    (first | (refine ⟨fun h1 => ?_, fun h1 => ?_⟩) | (refine nsplit (fun h1 => ?_) (fun h1 => ?_)) | (refine bsplit (fun h1 => ?_) (fun h1 => ?_))) <;> have hz_ := True.intro <;> clear hz_
    · have e : prepL p b l frm = (p, [], 1) := by unfold prepL; grind
      rw [e]
      ((conv => whnf) <;> repeat ((with_reducible refine Drawn.mk (by kernel_rfl) ?_) <;> conv => whnf))
      refine ⟨[], [], ?_⟩
      iterate 3 constructor
      refine ⟨⟨?_, ?_, ?_⟩, rfl, rfl, rfl⟩
      all_goals (repeat' (first | (with_reducible exact Lz.rfl) | (exact Lw.rfl) | (exact Lz.wrap (by omega)) | ((unfold goInt); (with_reducible exact Lz.rfl)) | constructor))
    · ((conv => whnf) <;> repeat ((with_reducible refine Drawn.mk (by kernel_rfl) ?_) <;> conv => whnf))
      (first | (refine ⟨fun h2 => ?_, fun h2 => ?_⟩) | (refine nsplit (fun h2 => ?_) (fun h2 => ?_)) | (refine bsplit (fun h2 => ?_) (fun h2 => ?_))) <;> have hz_ := True.intro <;> clear hz_
      · have e : prepL p b l frm = (p, [], 1) := by unfold prepL; grind
        rw [e]
        ((conv => whnf) <;> repeat ((with_reducible refine Drawn.mk (by kernel_rfl) ?_) <;> conv => whnf))
        refine ⟨[], [], ?_⟩
        iterate 3 constructor
        refine ⟨⟨?_, ?_, ?_⟩, rfl, rfl, rfl⟩
        all_goals (repeat' (first | (with_reducible exact Lz.rfl) | (exact Lw.rfl) | (exact Lz.wrap (by omega)) | ((unfold goInt); (with_reducible exact Lz.rfl)) | constructor))
      · ((conv => whnf) <;> repeat ((with_reducible refine Drawn.mk (by kernel_rfl) ?_) <;> conv => whnf))
        (first | (refine ⟨fun h3 => ?_, fun h3 => ?_⟩) | (refine nsplit (fun h3 => ?_) (fun h3 => ?_)) | (refine bsplit (fun h3 => ?_) (fun h3 => ?_))) <;> have hz_ := True.intro <;> clear hz_
        · have e : prepL p b l frm = (p, [], 10) := by unfold prepL; grind
          rw [e]
          ((conv => whnf) <;> repeat ((with_reducible refine Drawn.mk (by kernel_rfl) ?_) <;> conv => whnf))
          refine ⟨[], [], ?_⟩
          iterate 3 constructor
          refine ⟨⟨?_, ?_, ?_⟩, rfl, rfl, rfl⟩
          all_goals (repeat' (first | (with_reducible exact Lz.rfl) | (exact Lw.rfl) | (exact Lz.wrap (by omega)) | ((unfold goInt); (with_reducible exact Lz.rfl)) | constructor))
        · have e : prepL p b l frm = (b, frmS l frm, 0) := by unfold prepL; grind
          rw [e]
          ((conv => whnf) <;> repeat ((with_reducible refine Drawn.mk (by kernel_rfl) ?_) <;> conv => whnf))
          refine ⟨[], [], _, _, _, _, refFrom_ok l frm (by omega), ⟨by (repeat' (first | (with_reducible exact Lz.rfl) | (exact Lw.rfl) | (exact Lz.wrap (by omega)) | ((unfold goInt); (with_reducible exact Lz.rfl)) | constructor)), by (repeat' (first | (with_reducible exact Lz.rfl) | (exact Lw.rfl) | (exact Lz.wrap (by omega)) | ((unfold goInt); (with_reducible exact Lz.rfl)) | constructor)), by rfl⟩, ?_⟩
          rintro r o' c' ⟨rfl, rfl, rfl⟩
          ((conv => whnf) <;> repeat ((with_reducible refine Drawn.mk (by kernel_rfl) ?_) <;> conv => whnf))
          refine ⟨[], [], ?_⟩
          iterate 3 constructor
          refine ⟨⟨?_, ?_, ?_⟩, rfl, rfl, rfl⟩
          all_goals (repeat' (first | (with_reducible exact Lz.rfl) | (exact Lw.rfl) | (exact Lz.wrap (by omega)) | ((unfold goInt); (with_reducible exact Lz.rfl)) | constructor))
theorem refAccept_ok (p : Int) (l : List Vote) (b n : Int) (c : Cmd) (hl : l.length < 1000) (hc : 0 ≤ c.epoch) : VC E0 83 0 [refA p l, .s (.int .u64 b), .s (.int .i64 n), cT4 c] []
    (RR (.tup [refA (accL p l b n c).1 (accL p l b n c).2.1, .s (.int .i64 (accL p l b n c).2.2)]) 0 []) := by
  refine VC.enterR L0 (show E0.func 83 = some Try.f83 by kernel_rfl) (fun _ _ => rfl) rfl rfl [] ?_
  ((conv => whnf) <;> repeat ((with_reducible refine Drawn.mk (by kernel_rfl) ?_) <;> conv => whnf))
  refine ⟨[], [], _, _, _, _, refIs_ok b, ⟨by (repeat' (first | (with_reducible exact Lz.rfl) | (exact Lw.rfl) | (exact Lz.wrap (by omega)) | ((unfold goInt); (with_reducible exact Lz.rfl)) | constructor)), by (repeat' (first | (with_reducible exact Lz.rfl) | (exact Lw.rfl) | (exact Lz.wrap (by omega)) | ((unfold goInt); (with_reducible exact Lz.rfl)) | constructor)), by rfl⟩, ?_⟩
  rintro r o' c' ⟨rfl, rfl, rfl⟩
  have hz_ := True.intro
  clear hz_
  cases hb : isBallot b
  · have e : accL p l b n c = (p, l, 1) := by unfold accL; grind
    rw [e]
    ((conv => whnf) <;> repeat ((with_reducible refine Drawn.mk (by kernel_rfl) ?_) <;> conv => whnf))
    refine ⟨[], [], ?_⟩
    iterate 3 constructor
    refine ⟨⟨?_, ?_, ?_⟩, rfl, rfl, rfl⟩
    all_goals (repeat' (first | (with_reducible exact Lz.rfl) | (exact Lw.rfl) | (exact Lz.wrap (by omega)) | ((unfold goInt); (with_reducible exact Lz.rfl)) | constructor))
  · ((conv => whnf) <;> repeat ((with_reducible refine Drawn.mk (by kernel_rfl) ?_) <;> conv => whnf))
    (first | (refine ⟨fun h1 => ?_, fun h1 => ?_⟩) | (refine nsplit (fun h1 => ?_) (fun h1 => ?_)) | (refine bsplit (fun h1 => ?_) (fun h1 => ?_))) <;> have hz_ := True.intro <;> clear hz_
    · have e : accL p l b n c = (p, l, 1) := by unfold accL; grind
      rw [e]
      ((conv => whnf) <;> repeat ((with_reducible refine Drawn.mk (by kernel_rfl) ?_) <;> conv => whnf))
      refine ⟨[], [], ?_⟩
      iterate 3 constructor
      refine ⟨⟨?_, ?_, ?_⟩, rfl, rfl, rfl⟩
      all_goals (repeat' (first | (with_reducible exact Lz.rfl) | (exact Lw.rfl) | (exact Lz.wrap (by omega)) | ((unfold goInt); (with_reducible exact Lz.rfl)) | constructor))
    · ((conv => whnf) <;> repeat ((with_reducible refine Drawn.mk (by kernel_rfl) ?_) <;> conv => whnf))
      (first | (refine ⟨fun h2 => ?_, fun h2 => ?_⟩) | (refine nsplit (fun h2 => ?_) (fun h2 => ?_)) | (refine bsplit (fun h2 => ?_) (fun h2 => ?_))) <;> have hz_ := True.intro <;> clear hz_
      · have e : accL p l b n c = (p, l, 1) := by unfold accL; grind
        rw [e]
        ((conv => whnf) <;> repeat ((with_reducible refine Drawn.mk (by kernel_rfl) ?_) <;> conv => whnf))
        refine ⟨[], [], ?_⟩
        iterate 3 constructor
        refine ⟨⟨?_, ?_, ?_⟩, rfl, rfl, rfl⟩
        all_goals (repeat' (first | (with_reducible exact Lz.rfl) | (exact Lw.rfl) | (exact Lz.wrap (by omega)) | ((unfold goInt); (with_reducible exact Lz.rfl)) | constructor))
      · ((conv => whnf) <;> repeat ((with_reducible refine Drawn.mk (by kernel_rfl) ?_) <;> conv => whnf))
        refine ⟨[], [], _, _, _, _, refCheck_ok c.kind c.chain c.epoch c.node hc, ⟨by (repeat' (first | (with_reducible exact Lz.rfl) | (exact Lw.rfl) | (exact Lz.wrap (by omega)) | ((unfold goInt); (with_reducible exact Lz.rfl)) | constructor)), by (repeat' (first | (with_reducible exact Lz.rfl) | (exact Lw.rfl) | (exact Lz.wrap (by omega)) | ((unfold goInt); (with_reducible exact Lz.rfl)) | constructor)), by rfl⟩, ?_⟩
        rintro r o' c' ⟨rfl, rfl, rfl⟩
        ((conv => whnf) <;> repeat ((with_reducible refine Drawn.mk (by kernel_rfl) ?_) <;> conv => whnf))
        (first | (refine ⟨fun hk => ?_, fun hk => ?_⟩) | (refine nsplit (fun hk => ?_) (fun hk => ?_)) | (refine bsplit (fun hk => ?_) (fun hk => ?_))) <;> have hz_ := True.intro <;> clear hz_
        · have hk : c.check ≠ 0 := hk
          have e : accL p l b n c = (p, l, c.check) := by unfold accL; grind
          rw [e]
          ((conv => whnf) <;> repeat ((with_reducible refine Drawn.mk (by kernel_rfl) ?_) <;> conv => whnf))
          refine ⟨[], [], ?_⟩
          iterate 3 constructor
          refine ⟨⟨?_, ?_, ?_⟩, rfl, rfl, rfl⟩
          all_goals (repeat' (first | (with_reducible exact Lz.rfl) | (exact Lw.rfl) | (exact Lz.wrap (by omega)) | ((unfold goInt); (with_reducible exact Lz.rfl)) | constructor))
        · have hk' : c.check = 0 := Classical.not_not.1 hk
          ((conv => whnf) <;> repeat ((with_reducible refine Drawn.mk (by kernel_rfl) ?_) <;> conv => whnf))
          (first | (refine ⟨fun h3 => ?_, fun h3 => ?_⟩) | (refine nsplit (fun h3 => ?_) (fun h3 => ?_)) | (refine bsplit (fun h3 => ?_) (fun h3 => ?_))) <;> have hz_ := True.intro <;> clear hz_
          · have e : accL p l b n c = (p, l, 10) := by unfold accL; grind
            rw [e]
            ((conv => whnf) <;> repeat ((with_reducible refine Drawn.mk (by kernel_rfl) ?_) <;> conv => whnf))
            refine ⟨[], [], ?_⟩
            iterate 3 constructor
            refine ⟨⟨?_, ?_, ?_⟩, rfl, rfl, rfl⟩
            all_goals (repeat' (first | (with_reducible exact Lz.rfl) | (exact Lw.rfl) | (exact Lz.wrap (by omega)) | ((unfold goInt); (with_reducible exact Lz.rfl)) | constructor))
          · have e : accL p l b n c = (b, put l (.of n b c), 0) := by unfold accL; grind
            rw [e]
            ((conv => whnf) <;> repeat ((with_reducible refine Drawn.mk (by kernel_rfl) ?_) <;> conv => whnf))
            refine ⟨[], [], _, _, _, _, refPut_ok l (.of n b c) hl, ⟨by (repeat' (first | (with_reducible exact Lz.rfl) | (exact Lw.rfl) | (exact Lz.wrap (by omega)) | ((unfold goInt); (with_reducible exact Lz.rfl)) | constructor)), by (repeat' (first | (with_reducible exact Lz.rfl) | (exact Lw.rfl) | (exact Lz.wrap (by omega)) | ((unfold goInt); (with_reducible exact Lz.rfl)) | constructor)), by rfl⟩, ?_⟩
            rintro r o' c' ⟨rfl, rfl, rfl⟩
            ((conv => whnf) <;> repeat ((with_reducible refine Drawn.mk (by kernel_rfl) ?_) <;> conv => whnf))
            refine ⟨[], [], ?_⟩
            iterate 3 constructor
            refine ⟨⟨?_, ?_, ?_⟩, rfl, rfl, rfl⟩
            all_goals (repeat' (first | (with_reducible exact Lz.rfl) | (exact Lw.rfl) | (exact Lz.wrap (by omega)) | ((unfold goInt); (with_reducible exact Lz.rfl)) | constructor))
end Go.M

namespace Go.M
open Go Go.Proofs
set_option maxRecDepth 100000
theorem len_ok (p : Int) (es : List (Int × Vote)) : VC E0 39 2 [.ptr 0 0] [(0, accO p 1), (1, mapO es)] (RR (.s (.int .i64 es.length)) 2 [(0, accO p 1), (1, mapO es)]) := by
  refine VC.enterR L0 (show E0.func 39 = some Try.f39 by kernel_rfl) (fun _ _ => rfl) rfl rfl [] ?_
  ((conv => whnf) <;> repeat ((with_reducible refine Drawn.mk (by kernel_rfl) ?_) <;> conv => whnf))
  refine ⟨[], [some 0, some 1], ?_⟩
  iterate 3 constructor
  refine ⟨⟨?_, ?_, ?_⟩, rfl, rfl, rfl⟩
  all_goals (repeat' (first | (with_reducible exact Lz.rfl) | (exact Lw.rfl) | (exact Lz.wrap (by omega)) | ((unfold goInt); (with_reducible exact Lz.rfl)) | constructor))
  exact Lz.of (int_eq (by simp))
def accS (p : Int) (es : List (Int × Vote)) (b n : Int) (c : Cmd) : Int × List (Int × Vote) × Int :=
  if isBallot b = false ∨ n < 0 ∨ n ≥ 512 then (p, es, 1) else if c.check ≠ 0 then (p, es, c.check) else if b < p then (p, es, 10) else (b, putE es n (.of n b c), 0)
theorem accept_ok (p : Int) (es : List (Int × Vote)) (b n : Int) (c : Cmd) : VC E0 45 2 [.ptr 0 0, .s (.int .u64 b), .s (.int .i64 n), cT4 c] [(0, accO p 1), (1, mapO es)]
    (RR (.s (.int .i64 (accS p es b n c).2.2)) 2 [(0, accO (accS p es b n c).1 1), (1, mapO (accS p es b n c).2.1)]) := by
  refine VC.enterR L0 (show E0.func 45 = some Try.f45 by kernel_rfl) (fun _ _ => rfl) rfl rfl [] ?_
  ((conv => whnf) <;> repeat ((with_reducible refine Drawn.mk (by kernel_rfl) ?_) <;> conv => whnf))
  refine ⟨[], [], _, _, _, _, is_ok b, ⟨by (repeat' (first | (with_reducible exact Lz.rfl) | (exact Lw.rfl) | (exact Lz.wrap (by omega)) | ((unfold goInt); (with_reducible exact Lz.rfl)) | constructor)), by (repeat' (first | (with_reducible exact Lz.rfl) | (exact Lw.rfl) | (exact Lz.wrap (by omega)) | ((unfold goInt); (with_reducible exact Lz.rfl)) | constructor)), by rfl⟩, ?_⟩
  rintro r o' c' ⟨rfl, rfl, rfl⟩
  have hz_ := True.intro
  clear hz_
  cases hb : isBallot b
  · have e : accS p es b n c = (p, es, 1) := by unfold accS; grind
    rw [e]
    ((conv => whnf) <;> repeat ((with_reducible refine Drawn.mk (by kernel_rfl) ?_) <;> conv => whnf))
    refine ⟨[], [some 0, some 1], ?_⟩
    iterate 3 constructor
    refine ⟨⟨?_, ?_, ?_⟩, rfl, rfl, rfl⟩
    all_goals (repeat' (first | (with_reducible exact Lz.rfl) | (exact Lw.rfl) | (exact Lz.wrap (by omega)) | ((unfold goInt); (with_reducible exact Lz.rfl)) | constructor))
  · ((conv => whnf) <;> repeat ((with_reducible refine Drawn.mk (by kernel_rfl) ?_) <;> conv => whnf))
    (first | (refine ⟨fun h1 => ?_, fun h1 => ?_⟩) | (refine nsplit (fun h1 => ?_) (fun h1 => ?_)) | (refine bsplit (fun h1 => ?_) (fun h1 => ?_))) <;> have hz_ := True.intro <;> clear hz_
    · have e : accS p es b n c = (p, es, 1) := by unfold accS; grind
      rw [e]
      ((conv => whnf) <;> repeat ((with_reducible refine Drawn.mk (by kernel_rfl) ?_) <;> conv => whnf))
      refine ⟨[], [some 0, some 1], ?_⟩
      iterate 3 constructor
      refine ⟨⟨?_, ?_, ?_⟩, rfl, rfl, rfl⟩
      all_goals (repeat' (first | (with_reducible exact Lz.rfl) | (exact Lw.rfl) | (exact Lz.wrap (by omega)) | ((unfold goInt); (with_reducible exact Lz.rfl)) | constructor))
    · ((conv => whnf) <;> repeat ((with_reducible refine Drawn.mk (by kernel_rfl) ?_) <;> conv => whnf))
      (first | (refine ⟨fun h2 => ?_, fun h2 => ?_⟩) | (refine nsplit (fun h2 => ?_) (fun h2 => ?_)) | (refine bsplit (fun h2 => ?_) (fun h2 => ?_))) <;> have hz_ := True.intro <;> clear hz_
      · have e : accS p es b n c = (p, es, 1) := by unfold accS; grind
        rw [e]
        ((conv => whnf) <;> repeat ((with_reducible refine Drawn.mk (by kernel_rfl) ?_) <;> conv => whnf))
        refine ⟨[], [some 0, some 1], ?_⟩
        iterate 3 constructor
        refine ⟨⟨?_, ?_, ?_⟩, rfl, rfl, rfl⟩
        all_goals (repeat' (first | (with_reducible exact Lz.rfl) | (exact Lw.rfl) | (exact Lz.wrap (by omega)) | ((unfold goInt); (with_reducible exact Lz.rfl)) | constructor))
      · ((conv => whnf) <;> repeat ((with_reducible refine Drawn.mk (by kernel_rfl) ?_) <;> conv => whnf))
        refine ⟨[], [], _, _, _, _, check_ok c.kind c.chain c.epoch c.node, ⟨by (repeat' (first | (with_reducible exact Lz.rfl) | (exact Lw.rfl) | (exact Lz.wrap (by omega)) | ((unfold goInt); (with_reducible exact Lz.rfl)) | constructor)), by (repeat' (first | (with_reducible exact Lz.rfl) | (exact Lw.rfl) | (exact Lz.wrap (by omega)) | ((unfold goInt); (with_reducible exact Lz.rfl)) | constructor)), by rfl⟩, ?_⟩
        rintro r o' c' ⟨rfl, rfl, rfl⟩
        ((conv => whnf) <;> repeat ((with_reducible refine Drawn.mk (by kernel_rfl) ?_) <;> conv => whnf))
        (first | (refine ⟨fun hk => ?_, fun hk => ?_⟩) | (refine nsplit (fun hk => ?_) (fun hk => ?_)) | (refine bsplit (fun hk => ?_) (fun hk => ?_))) <;> have hz_ := True.intro <;> clear hz_
        · have hk : c.check ≠ 0 := hk
          have e : accS p es b n c = (p, es, c.check) := by unfold accS; grind
          rw [e]
          ((conv => whnf) <;> repeat ((with_reducible refine Drawn.mk (by kernel_rfl) ?_) <;> conv => whnf))
          refine ⟨[], [some 0, some 1], ?_⟩
          iterate 3 constructor
          refine ⟨⟨?_, ?_, ?_⟩, rfl, rfl, rfl⟩
          all_goals (repeat' (first | (with_reducible exact Lz.rfl) | (exact Lw.rfl) | (exact Lz.wrap (by omega)) | ((unfold goInt); (with_reducible exact Lz.rfl)) | constructor))
        · have hk' : c.check = 0 := Classical.not_not.1 hk
          ((conv => whnf) <;> repeat ((with_reducible refine Drawn.mk (by kernel_rfl) ?_) <;> conv => whnf))
          (first | (refine ⟨fun h3 => ?_, fun h3 => ?_⟩) | (refine nsplit (fun h3 => ?_) (fun h3 => ?_)) | (refine bsplit (fun h3 => ?_) (fun h3 => ?_))) <;> have hz_ := True.intro <;> clear hz_
          · have e : accS p es b n c = (p, es, 10) := by unfold accS; grind
            rw [e]
            ((conv => whnf) <;> repeat ((with_reducible refine Drawn.mk (by kernel_rfl) ?_) <;> conv => whnf))
            refine ⟨[], [some 0, some 1], ?_⟩
            iterate 3 constructor
            refine ⟨⟨?_, ?_, ?_⟩, rfl, rfl, rfl⟩
            all_goals (repeat' (first | (with_reducible exact Lz.rfl) | (exact Lw.rfl) | (exact Lz.wrap (by omega)) | ((unfold goInt); (with_reducible exact Lz.rfl)) | constructor))
          · have e : accS p es b n c = (b, putE es n (.of n b c), 0) := by unfold accS; grind
            rw [e]
            ((conv => whnf) <;> repeat ((with_reducible refine Drawn.mk (by kernel_rfl) ?_) <;> conv => whnf))
            refine ⟨[], [some 0, some 1], ?_⟩
            iterate 3 constructor
            refine ⟨⟨?_, ?_, ?_⟩, rfl, rfl, rfl⟩
            all_goals (repeat' (first | (with_reducible exact Lz.rfl) | (exact Lw.rfl) | (exact Lz.wrap (by omega)) | ((unfold goInt); (with_reducible exact Lz.rfl)) | constructor))
            exact Lz.of (putM_enc n (.of n b c) es)
end Go.M

namespace Go.M
open Go Go.Proofs
set_option maxRecDepth 100000
structure Op11 where
  kind : Int
  ballot : Int
  slot : Int
  cmd : Cmd
def encOp (o : Op11) : List TV := [.s (.int .i64 o.kind), .s (.int .u64 o.ballot), .s (.int .i64 o.slot), .s (.int .i64 o.cmd.kind), .s (.int .i64 o.cmd.chain), .s (.int .u64 o.cmd.epoch), .s (.int .i64 o.cmd.node)]
theorem prep_eq {p b : Int} {es : List (Int × Vote)} (h : MV es) (frm : Int) : prepS p b es frm = prepL p b (allV es) frm := by
  unfold prepS prepL
  have : votesOf es frm = frmS (allV es) frm := rising_all h frm
  rw [this]
theorem acc_eq {p b n : Int} {c : Cmd} {es : List (Int × Vote)} (h : MV es) : accL p (allV es) b n c = ((accS p es b n c).1, allV (accS p es b n c).2.1, (accS p es b n c).2.2) := by
  unfold accS accL
  have : allV (putE es n (.of n b c)) = put (allV es) (.of n b c) := allV_put h (.of n b c)
  split
  · rfl
  · split
    · rfl
    · split
      · rfl
      · simp [this]
/-- What an acceptor's map holds, of ballots up to some. -/
structure KVo (p : Int) (es : List (Int × Vote)) : Prop where
  mv : MV es
  rng : ∀ e ∈ es, 0 ≤ e.1 ∧ e.1 < 512
  bal : ∀ e ∈ es, e.2.ballot ≤ p
theorem KVo.ok {p : Int} {es : List (Int × Vote)} (h : KVo p es) (hl : es.length < 1000) : ksOk (es.map (·.1)) := by
  refine ⟨by simp; omega, fun x hx => ?_, h.mv.nd⟩
  obtain ⟨e, he, rfl⟩ := List.mem_map.1 hx
  have := h.rng e he
  have h1 : IntKind.i64.min = -9223372036854775808 := rfl
  have h2 : IntKind.i64.max = 9223372036854775807 := rfl
  omega
def opS (p : Int) (es : List (Int × Vote)) (o : Op11) : Int × List (Int × Vote) := if o.kind = 0 then ((prepL p o.ballot (allV es) o.slot).1, es) else ((accS p es o.ballot o.slot o.cmd).1, (accS p es o.ballot o.slot o.cmd).2.1)
theorem prepL_le {p b frm : Int} {l : List Vote} : p ≤ (prepL p b l frm).1 := by
  unfold prepL
  split
  · exact Int.le_refl _
  · split
    · exact Int.le_refl _
    · simp; omega
theorem accS_kv {p b n : Int} {c : Cmd} {es : List (Int × Vote)} (h : KVo p es) : KVo (accS p es b n c).1 (accS p es b n c).2.1 ∧ p ≤ (accS p es b n c).1 ∧ (accS p es b n c).2.1.length ≤ es.length + 1 := by
  unfold accS
  split
  · exact ⟨h, Int.le_refl _, by simp⟩
  · split
    · exact ⟨h, Int.le_refl _, by simp⟩
    · split
      · exact ⟨h, Int.le_refl _, by simp⟩
      · rename_i h1 _ h3
        refine ⟨⟨h.mv.put (.of n b c), fun e he => ?_, fun e he => ?_⟩, by simp; omega, ?_⟩
        · rw [putE_mem h.mv.nd] at he
          rcases he with rfl | ⟨_, he⟩
          · simp at h1 ⊢; omega
          · exact h.rng e he
        · rw [putE_mem h.mv.nd] at he
          rcases he with rfl | ⟨_, he⟩
          · simp [Vote.of]
          · have := h.bal e he; simp; omega
        · have := congrArg List.length (putE_keys (n := n) (v := .of n b c) (es := es))
          simp only [List.length_map] at this
          simp only
          rw [this]; split <;> simp
theorem opS_kv {p : Int} {es : List (Int × Vote)} (h : KVo p es) (o : Op11) : KVo (opS p es o).1 (opS p es o).2 ∧ p ≤ (opS p es o).1 ∧ (opS p es o).2.length ≤ es.length + 1 := by
  unfold opS
  split
  · have hp : p ≤ (prepL p o.ballot (allV es) o.slot).1 := prepL_le
    exact ⟨⟨h.mv, h.rng, fun e he => Int.le_trans (h.bal e he) hp⟩, hp, by simp⟩
  · exact accS_kv h
theorem step_ok (p : Int) (es : List (Int × Vote)) (op : Op11) (h : KVo p es) (hl : es.length < 1000) (he : 0 ≤ op.cmd.epoch) : VC E0 35 2 [.ptr 0 0, refA p (allV es), .agg (encOp op)] [(0, accO p 1), (1, mapO es)]
    (RR (.tup [refA (opS p es op).1 (allV (opS p es op).2), .s (.bool true)]) 2 [(0, accO (opS p es op).1 1), (1, mapO (opS p es op).2)]) := by
  have hal : (allV es).length < 1000 := by rw [allV_len]; exact hl
  refine VC.enterR L0 (show E0.func 35 = some Try.f35 by kernel_rfl) (fun _ _ => rfl) rfl rfl [] ?_
  ((conv => whnf) <;> repeat ((with_reducible refine Drawn.mk (by kernel_rfl) ?_) <;> conv => whnf))
  (first | (refine ⟨fun hk => ?_, fun hk => ?_⟩) | (refine nsplit (fun hk => ?_) (fun hk => ?_)) | (refine bsplit (fun hk => ?_) (fun hk => ?_))) <;> have hz_ := True.intro <;> clear hz_
  · ((conv => whnf) <;> repeat ((with_reducible refine Drawn.mk (by kernel_rfl) ?_) <;> conv => whnf))
    refine ⟨[], [some 0, some 1], _, _, _, _, prep_ok p op.ballot es op.slot (h.ok hl) (by omega), ⟨by (repeat' (first | (with_reducible exact Lz.rfl) | (exact Lw.rfl) | (exact Lz.wrap (by omega)) | ((unfold goInt); (with_reducible exact Lz.rfl)) | constructor)), by (repeat' (first | (with_reducible exact Lz.rfl) | (exact Lw.rfl) | (exact Lz.wrap (by omega)) | ((unfold goInt); (with_reducible exact Lz.rfl)) | constructor)), by rfl⟩, ?_⟩
    rintro r o' c' ⟨rfl, rfl, rfl⟩
    rw [prep_eq h.mv]
    ((conv => whnf) <;> repeat ((with_reducible refine Drawn.mk (by kernel_rfl) ?_) <;> conv => whnf))
    refine ⟨[], [], _, _, _, _, refPrepare_ok p op.ballot (allV es) op.slot hal, ⟨by (repeat' (first | (with_reducible exact Lz.rfl) | (exact Lw.rfl) | (exact Lz.wrap (by omega)) | ((unfold goInt); (with_reducible exact Lz.rfl)) | constructor)), by (repeat' (first | (with_reducible exact Lz.rfl) | (exact Lw.rfl) | (exact Lz.wrap (by omega)) | ((unfold goInt); (with_reducible exact Lz.rfl)) | constructor)), by rfl⟩, ?_⟩
    rintro r o' c' ⟨rfl, rfl, rfl⟩
    ((conv => whnf) <;> repeat ((with_reducible refine Drawn.mk (by kernel_rfl) ?_) <;> conv => whnf))
    have hlen : (prepL p op.ballot (allV es) op.slot).2.1.length < 1000000 := by
      unfold prepL
      split
      · simp
      · split
        · simp
        · exact Nat.lt_of_le_of_lt (List.length_filter_le _ _) (by omega)
    refine ⟨[7], [], _, _, _, _, same_ok (prepL p op.ballot (allV es) op.slot).2.1 (prepL p op.ballot (allV es) op.slot).2.1 hlen, ⟨by (repeat' (first | (with_reducible exact Lz.rfl) | (exact Lw.rfl) | (exact Lz.wrap (by omega)) | ((unfold goInt); (with_reducible exact Lz.rfl)) | constructor)), by (repeat' (first | (with_reducible exact Lz.rfl) | (exact Lw.rfl) | (exact Lz.wrap (by omega)) | ((unfold goInt); (with_reducible exact Lz.rfl)) | constructor)), by rfl⟩, ?_⟩
    rintro r o' c' ⟨rfl, rfl, rfl⟩
    rw [show eqB (prepL p op.ballot (allV es) op.slot).2.1 (prepL p op.ballot (allV es) op.slot).2.1 = true from eqB_iff.2 rfl]
    ((conv => whnf) <;> repeat ((with_reducible refine Drawn.mk (by kernel_rfl) ?_) <;> conv => whnf))
    (first | (refine ⟨fun hx => ?_, fun hx => ?_⟩) | (refine nsplit (fun hx => ?_) (fun hx => ?_)) | (refine bsplit (fun hx => ?_) (fun hx => ?_))) <;> have hz_ := True.intro <;> clear hz_
    · ((conv => whnf) <;> repeat ((with_reducible refine Drawn.mk (by kernel_rfl) ?_) <;> conv => whnf))
      refine ⟨[], [some 0, some 1], ?_⟩
      iterate 3 constructor
      refine ⟨⟨?_, ?_, ?_⟩, rfl, rfl, rfl⟩
      all_goals (repeat' (first | (with_reducible exact Lz.rfl) | (exact Lw.rfl) | (exact Lz.wrap (by omega)) | ((unfold goInt); (with_reducible exact Lz.rfl)) | constructor))
      all_goals (refine Lz.of ?_; simp [opS, hk])
    · cases hx rfl
  · ((conv => whnf) <;> repeat ((with_reducible refine Drawn.mk (by kernel_rfl) ?_) <;> conv => whnf))
    refine ⟨[], [], _, _, _, _, refAccept_ok p (allV es) op.ballot op.slot op.cmd hal he, ⟨by (repeat' (first | (with_reducible exact Lz.rfl) | (exact Lw.rfl) | (exact Lz.wrap (by omega)) | ((unfold goInt); (with_reducible exact Lz.rfl)) | constructor)), by (repeat' (first | (with_reducible exact Lz.rfl) | (exact Lw.rfl) | (exact Lz.wrap (by omega)) | ((unfold goInt); (with_reducible exact Lz.rfl)) | constructor)), by rfl⟩, ?_⟩
    rintro r o' c' ⟨rfl, rfl, rfl⟩
    ((conv => whnf) <;> repeat ((with_reducible refine Drawn.mk (by kernel_rfl) ?_) <;> conv => whnf))
    refine ⟨[], [some 0, some 1], _, _, _, _, accept_ok p es op.ballot op.slot op.cmd, ⟨by (repeat' (first | (with_reducible exact Lz.rfl) | (exact Lw.rfl) | (exact Lz.wrap (by omega)) | ((unfold goInt); (with_reducible exact Lz.rfl)) | constructor)), by (repeat' (first | (with_reducible exact Lz.rfl) | (exact Lw.rfl) | (exact Lz.wrap (by omega)) | ((unfold goInt); (with_reducible exact Lz.rfl)) | constructor)), by rfl⟩, ?_⟩
    rintro r o' c' ⟨rfl, rfl, rfl⟩
    ((conv => whnf) <;> repeat ((with_reducible refine Drawn.mk (by kernel_rfl) ?_) <;> conv => whnf))
    (first | (refine ⟨fun hx => ?_, fun hx => ?_⟩) | (refine nsplit (fun hx => ?_) (fun hx => ?_)) | (refine bsplit (fun hx => ?_) (fun hx => ?_))) <;> have hz_ := True.intro <;> clear hz_
    · ((conv => whnf) <;> repeat ((with_reducible refine Drawn.mk (by kernel_rfl) ?_) <;> conv => whnf))
      refine ⟨[], [some 0, some 1], ?_⟩
      iterate 3 constructor
      refine ⟨⟨?_, ?_, ?_⟩, rfl, rfl, rfl⟩
      all_goals (repeat' (first | (with_reducible exact Lz.rfl) | (exact Lw.rfl) | (exact Lz.wrap (by omega)) | ((unfold goInt); (with_reducible exact Lz.rfl)) | constructor))
      all_goals (refine Lz.of ?_; simp [opS, hk, acc_eq h.mv])
    · rw [acc_eq h.mv] at hx
      cases hx rfl
end Go.M

namespace Go.M
open Go Go.Proofs
set_option maxRecDepth 100000
set_option maxHeartbeats 2000000
theorem promised2_ok (p : Int) (es : List (Int × Vote)) : VC E0 38 2 [.ptr 0 0] [(0, accO p 1), (1, mapO es)] (RR (.s (.int .u64 p)) 2 [(0, accO p 1), (1, mapO es)]) := by
  refine VC.enterR L0 (show E0.func 38 = some Try.f38 by kernel_rfl) (fun _ _ => rfl) rfl rfl [] ?_
  ((conv => whnf) <;> repeat ((with_reducible refine Drawn.mk (by kernel_rfl) ?_) <;> conv => whnf))
  refine ⟨[], [some 0, some 1], ?_⟩
  iterate 3 constructor
  refine ⟨⟨?_, ?_, ?_⟩, rfl, rfl, rfl⟩
  all_goals (repeat' (first | (with_reducible exact Lz.rfl) | (exact Lw.rfl) | (exact Lz.wrap (by omega)) | ((unfold goInt); (with_reducible exact Lz.rfl)) | constructor))
theorem awake11 : VC E0 43 0 [] [] (fun r o c => r = .s (.bool true) ∧ o = [] ∧ c = 0) := VC.awakeW (by kernel_rfl) rfl rfl rfl
theorem plays_ok (ops : List Op11) (frm : Int) (hep : ∀ o ∈ ops, 0 ≤ o.cmd.epoch) : VC E0 7 0 [.sl 7 (ops.map encOp) false, .s (.int .i64 frm)] [] (fun r _ _ => r = .s (.bool true)) := by
  refine VC.enterR L0 (show E0.func 7 = some Try.f7 by kernel_rfl) (fun _ _ => rfl) rfl rfl [] ?_
  ((conv => whnf) <;> repeat ((with_reducible refine Drawn.mk (by kernel_rfl) ?_) <;> conv => whnf))
  refine ⟨[], [], _, _, _, _, new_ok, ⟨by (repeat' (first | (with_reducible exact Lz.rfl) | (exact Lw.rfl) | (exact Lz.wrap (by omega)) | ((unfold goInt); (with_reducible exact Lz.rfl)) | constructor)), by (repeat' (first | (with_reducible exact Lz.rfl) | (exact Lw.rfl) | (exact Lz.wrap (by omega)) | ((unfold goInt); (with_reducible exact Lz.rfl)) | constructor)), by rfl⟩, ?_⟩
  rintro r o' c' ⟨rfl, rfl, rfl⟩
  ((conv => whnf) <;> repeat ((with_reducible refine Drawn.mk (by kernel_rfl) ?_) <;> conv => whnf))
  refine ⟨fun k f o c => ∃ (i : Nat) (p : Int) (es : List (Int × Vote)), i ≤ ops.length ∧ k = ops.length - i ∧ KVo p es ∧ es.length ≤ i ∧ i ≤ 60 ∧ c = 3 ∧ f = [(0, .sl 7 (ops.map encOp) false), (1, .s (.int .i64 frm)), (5, .ptr 0 0), (6, .ptr 2 0), (7, .s (.int .i64 i))] ∧
    o = [(0, accO p 1), (1, mapO es), (2, .cells [.s (.int .u64 p), .sl 6 ((allV es).map encV) false])], ⟨ops.length, ?_⟩, ?_⟩
  · refine ⟨[], [some 0, some 1, some 2], ?_⟩
    iterate 3 constructor
    refine ⟨⟨?_, ?_, ?_⟩, ⟨0, 0, [], Nat.zero_le _, rfl, ⟨⟨by simp, by simp⟩, by simp, by simp⟩, by simp, by omega, rfl, rfl, rfl⟩⟩
    all_goals (repeat' (first | (with_reducible exact Lz.rfl) | (exact Lw.rfl) | (exact Lz.wrap (by omega)) | ((unfold goInt); (with_reducible exact Lz.rfl)) | constructor))
    refine Lz.of ?_; simp [allV, sortZ]
  · rintro k f1 o1 c1 ⟨i, p, es, hi, rfl, hkv, hle, hi6, rfl, rfl, rfl⟩
    ((conv => whnf) <;> repeat ((with_reducible refine Drawn.mk (by kernel_rfl) ?_) <;> conv => whnf))
    (first | (refine ⟨fun h => ?_, fun h => ?_⟩) | (refine nsplit (fun h => ?_) (fun h => ?_)) | (refine bsplit (fun h => ?_) (fun h => ?_))) <;> have hz_ := True.intro <;> clear hz_
    · have h := lenlt.1 h
      ((conv => whnf) <;> repeat ((with_reducible refine Drawn.mk (by kernel_rfl) ?_) <;> conv => whnf))
      (first | (refine ⟨fun h60 => ?_, fun h60 => ?_⟩) | (refine nsplit (fun h60 => ?_) (fun h60 => ?_)) | (refine bsplit (fun h60 => ?_) (fun h60 => ?_))) <;> have hz_ := True.intro <;> clear hz_
      · ((conv => whnf) <;> repeat ((with_reducible refine Drawn.mk (by kernel_rfl) ?_) <;> conv => whnf))
        have hop : 0 ≤ ops[i].cmd.epoch := hep _ (List.getElem_mem h)
        refine idxI h ?_
        ((conv => whnf) <;> repeat ((with_reducible refine Drawn.mk (by kernel_rfl) ?_) <;> conv => whnf))
        refine ⟨[], [some 0, some 1], _, _, _, _, step_ok p es ops[i] hkv (by omega) hop, ⟨by (repeat' (first | (with_reducible exact Lz.rfl) | (exact Lw.rfl) | (exact Lz.wrap (by omega)) | ((unfold goInt); (with_reducible exact Lz.rfl)) | constructor)), by (repeat' (first | (with_reducible exact Lz.rfl) | (exact Lw.rfl) | (exact Lz.wrap (by omega)) | ((unfold goInt); (with_reducible exact Lz.rfl)) | constructor)), by rfl⟩, ?_⟩
        rintro r o' c' ⟨rfl, rfl, rfl⟩
        ((conv => whnf) <;> repeat ((with_reducible refine Drawn.mk (by kernel_rfl) ?_) <;> conv => whnf))
        obtain ⟨hq, hpq, hlq⟩ := opS_kv hkv ops[i]
        generalize hqe : opS p es ops[i] = q at *
        refine idxI h ?_
        ((conv => whnf) <;> repeat ((with_reducible refine Drawn.mk (by kernel_rfl) ?_) <;> conv => whnf))
        refine ⟨[], [some 0, some 1], _, _, _, _, vote_ok q.1 q.2 ops[i].slot, ⟨by (repeat' (first | (with_reducible exact Lz.rfl) | (exact Lw.rfl) | (exact Lz.wrap (by omega)) | ((unfold goInt); (with_reducible exact Lz.rfl)) | constructor)), by (repeat' (first | (with_reducible exact Lz.rfl) | (exact Lw.rfl) | (exact Lz.wrap (by omega)) | ((unfold goInt); (with_reducible exact Lz.rfl)) | constructor)), by rfl⟩, ?_⟩
        rintro r o' c' ⟨rfl, rfl, rfl⟩
        ((conv => whnf) <;> repeat ((with_reducible refine Drawn.mk (by kernel_rfl) ?_) <;> conv => whnf))
        refine idxI h ?_
        ((conv => whnf) <;> repeat ((with_reducible refine Drawn.mk (by kernel_rfl) ?_) <;> conv => whnf))
        rw [lookE_at hq.mv]
        refine ⟨[], [], _, _, _, _, refAt_ok (allV q.2) ops[i].slot (by rw [allV_len]; omega), ⟨by (repeat' (first | (with_reducible exact Lz.rfl) | (exact Lw.rfl) | (exact Lz.wrap (by omega)) | ((unfold goInt); (with_reducible exact Lz.rfl)) | constructor)), by (repeat' (first | (with_reducible exact Lz.rfl) | (exact Lw.rfl) | (exact Lz.wrap (by omega)) | ((unfold goInt); (with_reducible exact Lz.rfl)) | constructor)), by rfl⟩, ?_⟩
        rintro r o' c' ⟨rfl, rfl, rfl⟩
        ((conv => whnf) <;> repeat ((with_reducible refine Drawn.mk (by kernel_rfl) ?_) <;> conv => whnf))
        refine ⟨[], [some 0, some 1], _, _, _, _, promised2_ok q.1 q.2, ⟨by (repeat' (first | (with_reducible exact Lz.rfl) | (exact Lw.rfl) | (exact Lz.wrap (by omega)) | ((unfold goInt); (with_reducible exact Lz.rfl)) | constructor)), by (repeat' (first | (with_reducible exact Lz.rfl) | (exact Lw.rfl) | (exact Lz.wrap (by omega)) | ((unfold goInt); (with_reducible exact Lz.rfl)) | constructor)), by rfl⟩, ?_⟩
        rintro r o' c' ⟨rfl, rfl, rfl⟩
        ((conv => whnf) <;> repeat ((with_reducible refine Drawn.mk (by kernel_rfl) ?_) <;> conv => whnf))
        (first | (refine ⟨fun hx => ?_, fun hx => ?_⟩) | (refine nsplit (fun hx => ?_) (fun hx => ?_)) | (refine bsplit (fun hx => ?_) (fun hx => ?_))) <;> have hz_ := True.intro <;> clear hz_
        · cases hx rfl
        · ((conv => whnf) <;> repeat ((with_reducible refine Drawn.mk (by kernel_rfl) ?_) <;> conv => whnf))
          refine ⟨[], [some 0, some 1], _, _, _, _, len_ok q.1 q.2, ⟨by (repeat' (first | (with_reducible exact Lz.rfl) | (exact Lw.rfl) | (exact Lz.wrap (by omega)) | ((unfold goInt); (with_reducible exact Lz.rfl)) | constructor)), by (repeat' (first | (with_reducible exact Lz.rfl) | (exact Lw.rfl) | (exact Lz.wrap (by omega)) | ((unfold goInt); (with_reducible exact Lz.rfl)) | constructor)), by rfl⟩, ?_⟩
          rintro r o' c' ⟨rfl, rfl, rfl⟩
          ((conv => whnf) <;> repeat ((with_reducible refine Drawn.mk (by kernel_rfl) ?_) <;> conv => whnf))
          (first | (refine ⟨fun hx => ?_, fun hx => ?_⟩) | (refine nsplit (fun hx => ?_) (fun hx => ?_)) | (refine bsplit (fun hx => ?_) (fun hx => ?_))) <;> have hz_ := True.intro <;> clear hz_
          · have h8 : False := hx (by simp [allV_len])
            cases h8
          · ((conv => whnf) <;> repeat ((with_reducible refine Drawn.mk (by kernel_rfl) ?_) <;> conv => whnf))
            (first | (refine ⟨fun hv => ?_, fun hv => ?_⟩) | (refine nsplit (fun hv => ?_) (fun hv => ?_)) | (refine bsplit (fun hv => ?_) (fun hv => ?_))) <;> have hz_ := True.intro <;> clear hz_
            · cases eqB_false.1 ((veq_vote _ _).symm.trans hv) rfl
            ((conv => whnf) <;> repeat ((with_reducible refine Drawn.mk (by kernel_rfl) ?_) <;> conv => whnf))
            cases hb : (atS (allV q.2) ops[i].slot).isSome
            all_goals
              ((conv => whnf) <;> repeat ((with_reducible refine Drawn.mk (by kernel_rfl) ?_) <;> conv => whnf))
              have hvo : votesOf q.2 frm = frmS (allV q.2) frm := rising_all hq.mv frm
              refine ⟨[], [some 0, some 1], _, _, _, _, votes_ok q.1 q.2 frm (hq.ok (by omega)) (by omega), ⟨by (repeat' (first | (with_reducible exact Lz.rfl) | (exact Lw.rfl) | (exact Lz.wrap (by omega)) | ((unfold goInt); (with_reducible exact Lz.rfl)) | constructor)), by (repeat' (first | (with_reducible exact Lz.rfl) | (exact Lw.rfl) | (exact Lz.wrap (by omega)) | ((unfold goInt); (with_reducible exact Lz.rfl)) | constructor)), by rfl⟩, ?_⟩
              rintro r o' c' ⟨rfl, rfl, rfl⟩
              ((conv => whnf) <;> repeat ((with_reducible refine Drawn.mk (by kernel_rfl) ?_) <;> conv => whnf))
              refine ⟨[], [], _, _, _, _, refFrom_ok (allV q.2) frm (by rw [allV_len]; omega), ⟨by (repeat' (first | (with_reducible exact Lz.rfl) | (exact Lw.rfl) | (exact Lz.wrap (by omega)) | ((unfold goInt); (with_reducible exact Lz.rfl)) | constructor)), by (repeat' (first | (with_reducible exact Lz.rfl) | (exact Lw.rfl) | (exact Lz.wrap (by omega)) | ((unfold goInt); (with_reducible exact Lz.rfl)) | constructor)), by rfl⟩, ?_⟩
              rintro r o' c' ⟨rfl, rfl, rfl⟩
              ((conv => whnf) <;> repeat ((with_reducible refine Drawn.mk (by kernel_rfl) ?_) <;> conv => whnf))
              rw [hvo]
              refine ⟨[16], [], _, _, _, _, same_ok (frmS (allV q.2) frm) (frmS (allV q.2) frm) (Nat.lt_of_le_of_lt (List.length_filter_le _ _) (by rw [allV_len]; omega)), ⟨by (repeat' (first | (with_reducible exact Lz.rfl) | (exact Lw.rfl) | (exact Lz.wrap (by omega)) | ((unfold goInt); (with_reducible exact Lz.rfl)) | constructor)), by (repeat' (first | (with_reducible exact Lz.rfl) | (exact Lw.rfl) | (exact Lz.wrap (by omega)) | ((unfold goInt); (with_reducible exact Lz.rfl)) | constructor)), by rfl⟩, ?_⟩
              rintro r o' c' ⟨rfl, rfl, rfl⟩
              rw [show eqB (frmS (allV q.2) frm) (frmS (allV q.2) frm) = true from eqB_iff.2 rfl]
              ((conv => whnf) <;> repeat ((with_reducible refine Drawn.mk (by kernel_rfl) ?_) <;> conv => whnf))
              refine ⟨ops.length - (i + 1), ?_, by omega⟩
              refine ⟨[], [some 0, some 1, some 2], ?_⟩
              iterate 3 constructor
              refine ⟨⟨?_, ?_, ?_⟩, ⟨i + 1, q.1, q.2, h, rfl, hq, by omega, by omega, rfl, rfl, rfl⟩⟩
              all_goals (repeat' (first | (with_reducible exact Lz.rfl) | (exact Lw.rfl) | (exact Lz.wrap (by omega)) | ((unfold goInt); (with_reducible exact Lz.rfl)) | constructor))
      · ((conv => whnf) <;> repeat ((with_reducible refine Drawn.mk (by kernel_rfl) ?_) <;> conv => whnf))
        refine ⟨[], [], _, _, _, _, awake11, ⟨by (repeat' (first | (with_reducible exact Lz.rfl) | (exact Lw.rfl) | (exact Lz.wrap (by omega)) | ((unfold goInt); (with_reducible exact Lz.rfl)) | constructor)), by (repeat' (first | (with_reducible exact Lz.rfl) | (exact Lw.rfl) | (exact Lz.wrap (by omega)) | ((unfold goInt); (with_reducible exact Lz.rfl)) | constructor)), by rfl⟩, ?_⟩
        rintro r o' c' ⟨rfl, rfl, rfl⟩
        ((conv => whnf) <;> repeat ((with_reducible refine Drawn.mk (by kernel_rfl) ?_) <;> conv => whnf))
        exact ⟨[], [], [], .s (.bool true), [], ⟨.s Lz.rfl, .nil, rfl⟩, rfl⟩
    · ((conv => whnf) <;> repeat ((with_reducible refine Drawn.mk (by kernel_rfl) ?_) <;> conv => whnf))
      refine ⟨[], [], _, _, _, _, awake11, ⟨by (repeat' (first | (with_reducible exact Lz.rfl) | (exact Lw.rfl) | (exact Lz.wrap (by omega)) | ((unfold goInt); (with_reducible exact Lz.rfl)) | constructor)), by (repeat' (first | (with_reducible exact Lz.rfl) | (exact Lw.rfl) | (exact Lz.wrap (by omega)) | ((unfold goInt); (with_reducible exact Lz.rfl)) | constructor)), by rfl⟩, ?_⟩
      rintro r o' c' ⟨rfl, rfl, rfl⟩
      ((conv => whnf) <;> repeat ((with_reducible refine Drawn.mk (by kernel_rfl) ?_) <;> conv => whnf))
      exact ⟨[], [], [], .s (.bool true), [], ⟨.s Lz.rfl, .nil, rfl⟩, rfl⟩
end Go.M

namespace Go.M
open Go Go.Proofs
set_option maxRecDepth 100000
set_option maxHeartbeats 2000000
def inI (n : Int) : Prop := IntKind.i64.min ≤ n ∧ n ≤ IntKind.i64.max
def bestE1 (es : List (Int × Vote)) (v : Vote) : List (Int × Vote) := match lookE es v.slot with
  | none => putE es v.slot v
  | some w => if v.ballot > w.ballot then putE es v.slot v else es
def bestE (l : List Vote) : List (Int × Vote) := l.foldl bestE1 []
def bestR1 (out : List Vote) (v : Vote) : List Vote := match atS out v.slot with
  | none => put out v
  | some w => if v.ballot > w.ballot then put out v else out
theorem bestE_snoc (l : List Vote) (v : Vote) : bestE (l ++ [v]) = bestE1 (bestE l) v := by simp [bestE]
structure KB (es : List (Int × Vote)) : Prop where
  mv : MV es
  rng : ∀ e ∈ es, inI e.1
theorem KB.ok {es : List (Int × Vote)} (h : KB es) (hl : es.length < 1000) : ksOk (es.map (·.1)) := by
  refine ⟨by simp; omega, fun x hx => ?_, h.mv.nd⟩
  obtain ⟨e, he, rfl⟩ := List.mem_map.1 hx
  exact h.rng e he
theorem KB.put {es : List (Int × Vote)} (h : KB es) {v : Vote} (hv : inI v.slot) : KB (putE es v.slot v) :=
  ⟨h.mv.put v, fun e he => by
    rw [putE_mem h.mv.nd] at he
    rcases he with rfl | ⟨_, he⟩
    · exact hv
    · exact h.rng e he⟩
theorem putE_len (es : List (Int × Vote)) (n : Int) (v : Vote) : (putE es n v).length ≤ es.length + 1 := by
  have := congrArg List.length (putE_keys (n := n) (v := v) (es := es))
  simp only [List.length_map] at this
  rw [this]; split <;> simp
theorem bestE1_kb {es : List (Int × Vote)} (h : KB es) {v : Vote} (hv : inI v.slot) : KB (bestE1 es v) ∧ (bestE1 es v).length ≤ es.length + 1 ∧ allV (bestE1 es v) = bestR1 (allV es) v := by
  unfold bestE1 bestR1
  rw [← lookE_at h.mv]
  cases lookE es v.slot with
  | none => exact ⟨h.put hv, putE_len .., allV_put h.mv v⟩
  | some w =>
    by_cases hb : v.ballot > w.ballot
    · simp only [hb, if_true]; exact ⟨h.put hv, putE_len .., allV_put h.mv v⟩
    · simp only [hb, if_false]; exact ⟨h, Nat.le_succ _, trivial⟩
theorem bestE_kb {l : List Vote} (hl : ∀ v ∈ l, inI v.slot) : KB (bestE l) ∧ (bestE l).length ≤ l.length := by
  have : ∀ (l : List Vote) (es : List (Int × Vote)), KB es → (∀ v ∈ l, inI v.slot) → KB (l.foldl bestE1 es) ∧ (l.foldl bestE1 es).length ≤ es.length + l.length := by
    intro l
    induction l with
    | nil => intro es h _; exact ⟨h, Nat.le_refl _⟩
    | cons v l ih =>
      intro es h hv
      obtain ⟨h1, h2, _⟩ := bestE1_kb h (hv v List.mem_cons_self)
      obtain ⟨h3, h4⟩ := ih _ h1 fun w hw => hv w (List.mem_cons_of_mem _ hw)
      exact ⟨h3, by simp only [List.foldl_cons, List.length_cons]; omega⟩
  have := this l [] ⟨⟨by simp, by simp⟩, by simp⟩ hl
  unfold bestE
  simpa using this
def encL (l : List Vote) : List TV := [.sl 6 (l.map encV) false]
theorem flat_snoc {l : List (List Vote)} {i : Nat} (h : i < l.length) : (l.take (i + 1)).flatten = (l.take i).flatten ++ l[i] := by
  rw [List.take_succ_eq_append_getElem h, List.flatten_append, List.flatten_cons, List.flatten_nil, List.append_nil]
theorem flat_len8 {l : List (List Vote)} (h8 : l.length ≤ 8) (h40 : ∀ x ∈ l, x.length ≤ 40) {i : Nat} : (l.take i).flatten.length ≤ 320 := by
  have : ∀ m : List (List Vote), (∀ x ∈ m, x.length ≤ 40) → m.flatten.length ≤ 40 * m.length := by
    intro m
    induction m with
    | nil => simp
    | cons x m ih =>
      intro h
      have h1 := h x List.mem_cons_self
      have h2 := ih fun y hy => h y (List.mem_cons_of_mem _ hy)
      simp only [List.flatten_cons, List.length_append, List.length_cons]
      omega
  have h1 := this (l.take i) fun x hx => h40 x (List.mem_of_mem_take hx)
  have h2 : (l.take i).length ≤ 8 := by rw [List.length_take]; omega
  omega
theorem pre_in {l : List (List Vote)} (hr : ∀ x ∈ l, ∀ v ∈ x, inI v.slot) {i j : Nat} (h : i < l.length) : ∀ v ∈ (l.take i).flatten ++ l[i].take j, inI v.slot := by
  intro v hv
  rcases List.mem_append.1 hv with hv | hv
  · obtain ⟨x, hx, hv⟩ := List.mem_flatten.1 hv
    exact hr x (List.mem_of_mem_take hx) v hv
  · exact hr _ (List.getElem_mem h) v (List.mem_of_mem_take hv)
def bestV (l : List (List Vote)) : List Vote := allV (bestE l.flatten)
theorem min_rising {es : List (Int × Vote)} (h : MV es) (h0 : 0 < es.length) : rising es (Small.minZ (es.map (·.1))) (sortZ (es.map (·.1))) = allV es := by
  rw [rising_all h, List.filter_eq_self]
  intro v hv
  have := (mem_allV h).1 hv
  exact decide_eq_true ((Small.minZ_spec (by simpa using h0)).2 _ (List.mem_map.2 ⟨_, this, rfl⟩))
theorem collect_ok (es : List (Int × Vote)) (hok : ksOk (es.map (·.1))) (h0 : 0 < es.length) : VC E0 80 2 [.clo 123 [] [.ptr 1 0]] [(0, .map (kIdx .i64) (es.map encE)), (1, .cells [.mp 0])] (fun r o c => r = .bg 2 (es.map (·.1)).length ∧ c = 3 ∧
      o = [(2, .bag (es.map (·.1))), (0, .map (kIdx .i64) (es.map encE)), (1, .cells [.mp 0])]) :=
  VC.collect (E := E0) (g := 80) (its := [123, 127]) (k := 123) (by kernel_rfl) (fun _ _ => rfl) rfl (y := .map (kIdx .i64) (es.map encE)) (ks := es.map (·.1)) (by simp [KeysO, Function.comp_def, encE]) hok (by intro e; simp at e; subst e; simp at h0)
theorem minc_ok (ks : List Int) (h0 : 0 < ks.length) (hl : ks.length ≤ 1000000) : VC E0 86 1 [.bg 0 ks.length] [(0, .bag ks)] (fun r o c => r = .s (.int .i64 (Small.minZ ks)) ∧ c = 1 ∧ o = [(0, .bag ks)]) :=
  VC.bagged (E := E0) (g := 86) (val := minVal) (pre := []) (by kernel_rfl) (fun _ _ => rfl) (by simp) h0 (v := .int .i64 (Small.minZ ks)) (by
    cases ks with
    | nil => simp at h0
    | cons a l => simp only [minVal, grd]; rw [Nat.ble_eq_true_of_le hl]) rfl
theorem best_ok (l : List (List Vote)) (h8 : l.length ≤ 8) (h40 : ∀ x ∈ l, x.length ≤ 40) (hr : ∀ x ∈ l, ∀ v ∈ x, inI v.slot) : VC E0 46 0 [.sl 1 (l.map encL) false] [] (RR (.sl 6 ((bestV l).map encV) false) 0 []) := by
  refine VC.enterR L0 (show E0.func 46 = some Try.f46 by kernel_rfl) (fun _ _ => rfl) rfl rfl [] ?_
  ((conv => whnf) <;> repeat ((with_reducible refine Drawn.mk (by kernel_rfl) ?_) <;> conv => whnf))
  refine ⟨fun k f o c => ∃ i : Nat, i ≤ l.length ∧ k = l.length - i ∧ c = 1 ∧ f = [(3, .mp 0), (11, .sl 1 (l.map encL) false), (12, .s (.int .i64 l.length)), (13, .s (.int .i64 i))] ∧ o = [(0, mapO (bestE (l.take i).flatten))], ⟨l.length, ?_⟩, ?_⟩
  · refine ⟨[], [some 0], ?_⟩
    iterate 3 constructor
    refine ⟨⟨?_, ?_, ?_⟩, ⟨0, Nat.zero_le _, rfl, rfl, rfl, rfl⟩⟩
    all_goals (repeat' (first | (with_reducible exact Lz.rfl) | (exact Lw.rfl) | (exact Lz.wrap (by omega)) | ((unfold goInt); (with_reducible exact Lz.rfl)) | constructor))
    all_goals exact Lz.of (by simp [goInt])
  · rintro k f1 o1 c1 ⟨i, hi, rfl, rfl, rfl, rfl⟩
    ((conv => whnf) <;> repeat ((with_reducible refine Drawn.mk (by kernel_rfl) ?_) <;> conv => whnf))
    (first | (refine ⟨fun h => ?_, fun h => ?_⟩) | (refine nsplit (fun h => ?_) (fun h => ?_)) | (refine bsplit (fun h => ?_) (fun h => ?_))) <;> have hz_ := True.intro <;> clear hz_
    · have h : i < l.length := by simpa using h
      have hl40 := h40 _ (List.getElem_mem h)
      ((conv => whnf) <;> repeat ((with_reducible refine Drawn.mk (by kernel_rfl) ?_) <;> conv => whnf))
      refine idxI h ?_
      ((conv => whnf) <;> repeat ((with_reducible refine Drawn.mk (by kernel_rfl) ?_) <;> conv => whnf))
      refine ⟨fun k f o c => ∃ j : Nat, j ≤ l[i].length ∧ k = l[i].length - j ∧ c = 1 ∧ f = [(3, .mp 0), (11, .sl 1 (l.map encL) false), (12, .s (.int .i64 l.length)), (13, .s (.int .i64 i)), (17, .sl 6 (l[i].map encV) false), (18, .s (.int .i64 l[i].length)), (19, .s (.int .i64 j))] ∧ o = [(0, mapO (bestE ((l.take i).flatten ++ l[i].take j)))], ⟨l[i].length, ?_⟩, ?_⟩
      · refine ⟨[], [some 0], ?_⟩
        iterate 3 constructor
        refine ⟨⟨?_, ?_, ?_⟩, ⟨0, Nat.zero_le _, rfl, rfl, rfl, rfl⟩⟩
        all_goals (repeat' (first | (with_reducible exact Lz.rfl) | (exact Lw.rfl) | (exact Lz.wrap (by omega)) | ((unfold goInt); (with_reducible exact Lz.rfl)) | constructor))
        all_goals first | exact Lz.of (by simp [goInt]) | exact Lz.of (by simp)
      · rintro k f1 o1 c1 ⟨j, hj, rfl, rfl, rfl, rfl⟩
        ((conv => whnf) <;> repeat ((with_reducible refine Drawn.mk (by kernel_rfl) ?_) <;> conv => whnf))
        (first | (refine ⟨fun hj => ?_, fun hj => ?_⟩) | (refine nsplit (fun hj => ?_) (fun hj => ?_)) | (refine bsplit (fun hj => ?_) (fun hj => ?_))) <;> have hz_ := True.intro <;> clear hz_
        · have hj : j < l[i].length := by simpa using hj
          obtain ⟨hkb, hlen⟩ := bestE_kb (pre_in hr (j := j) h)
          have hsn : bestE ((l.take i).flatten ++ l[i].take (j + 1)) = bestE1 (bestE ((l.take i).flatten ++ l[i].take j)) l[i][j] := by
            rw [List.take_succ_eq_append_getElem hj, ← List.append_assoc, bestE_snoc]
          generalize hes : bestE ((l.take i).flatten ++ l[i].take j) = es at *
          ((conv => whnf) <;> repeat ((with_reducible refine Drawn.mk (by kernel_rfl) ?_) <;> conv => whnf))
          refine idxI hj ?_
          ((conv => whnf) <;> repeat ((with_reducible refine Drawn.mk (by kernel_rfl) ?_) <;> conv => whnf))
          have hlk := lookM_enc l[i][j].slot es
          cases hv : lookE es l[i][j].slot with
          | none =>
            rw [hv] at hlk
            refine ⟨_, hlk, ?_⟩
            ((conv => whnf) <;> repeat ((with_reducible refine Drawn.mk (by kernel_rfl) ?_) <;> conv => whnf))
            refine ⟨l[i].length - (j + 1), ?_, by omega⟩
            refine ⟨[], [some 0], ?_⟩
            iterate 3 constructor
            refine ⟨⟨?_, ?_, ?_⟩, ⟨j + 1, hj, rfl, rfl, rfl, rfl⟩⟩
            all_goals (repeat' (first | (with_reducible exact Lz.rfl) | (exact Lw.rfl) | (exact Lz.wrap (by omega)) | ((unfold goInt); (with_reducible exact Lz.rfl)) | constructor))
            refine Lz.of ?_
            rw [hsn]; unfold bestE1; rw [hv]; exact putM_enc _ _ _
          | some w =>
            rw [hv] at hlk
            refine ⟨_, hlk, ?_⟩
            ((conv => whnf) <;> repeat ((with_reducible refine Drawn.mk (by kernel_rfl) ?_) <;> conv => whnf))
            (first | (refine ⟨fun hb => ?_, fun hb => ?_⟩) | (refine nsplit (fun hb => ?_) (fun hb => ?_)) | (refine bsplit (fun hb => ?_) (fun hb => ?_))) <;> have hz_ := True.intro <;> clear hz_
            · ((conv => whnf) <;> repeat ((with_reducible refine Drawn.mk (by kernel_rfl) ?_) <;> conv => whnf))
              refine ⟨l[i].length - (j + 1), ?_, by omega⟩
              refine ⟨[], [some 0], ?_⟩
              iterate 3 constructor
              refine ⟨⟨?_, ?_, ?_⟩, ⟨j + 1, hj, rfl, rfl, rfl, rfl⟩⟩
              all_goals (repeat' (first | (with_reducible exact Lz.rfl) | (exact Lw.rfl) | (exact Lz.wrap (by omega)) | ((unfold goInt); (with_reducible exact Lz.rfl)) | constructor))
              refine Lz.of ?_
              rw [hsn]; unfold bestE1; rw [hv]; simp only; rw [if_pos hb]; exact putM_enc _ _ _
            · ((conv => whnf) <;> repeat ((with_reducible refine Drawn.mk (by kernel_rfl) ?_) <;> conv => whnf))
              refine ⟨l[i].length - (j + 1), ?_, by omega⟩
              refine ⟨[], [some 0], ?_⟩
              iterate 3 constructor
              refine ⟨⟨?_, ?_, ?_⟩, ⟨j + 1, hj, rfl, rfl, rfl, rfl⟩⟩
              all_goals (repeat' (first | (with_reducible exact Lz.rfl) | (exact Lw.rfl) | (exact Lz.wrap (by omega)) | ((unfold goInt); (with_reducible exact Lz.rfl)) | constructor))
              refine Lz.of ?_
              rw [hsn]; unfold bestE1; rw [hv]; simp only; rw [if_neg hb]
        · have hj' : j = l[i].length := by have : ¬ j < l[i].length := by simpa using hj
                                           omega
          subst hj'
          ((conv => whnf) <;> repeat ((with_reducible refine Drawn.mk (by kernel_rfl) ?_) <;> conv => whnf))
          refine ⟨l.length - (i + 1), ?_, by omega⟩
          refine ⟨[], [some 0], ?_⟩
          iterate 3 constructor
          refine ⟨⟨?_, ?_, ?_⟩, ⟨i + 1, h, rfl, rfl, rfl, rfl⟩⟩
          all_goals (repeat' (first | (with_reducible exact Lz.rfl) | (exact Lw.rfl) | (exact Lz.wrap (by omega)) | ((unfold goInt); (with_reducible exact Lz.rfl)) | constructor))
          refine Lz.of ?_
          rw [flat_snoc h, List.take_length]
    · have h' : i = l.length := by have : ¬ i < l.length := by simpa using h
                                   omega
      subst h'
      have hb : bestE (l.take l.length).flatten = bestE l.flatten := by rw [List.take_length]
      rw [hb]
      have hfl : l.flatten.length ≤ 320 := by have := flat_len8 h8 h40 (i := l.length); rwa [List.take_length] at this
      obtain ⟨hkb, hlen⟩ := bestE_kb (l := l.flatten) (fun v hv => by obtain ⟨x, hx, hv⟩ := List.mem_flatten.1 hv; exact hr x hx v hv)
      have hbv : bestV l = allV (bestE l.flatten) := rfl
      generalize hes : bestE l.flatten = es at *
      ((conv => whnf) <;> repeat ((with_reducible refine Drawn.mk (by kernel_rfl) ?_) <;> conv => whnf))
      (first | (refine ⟨fun h0 => ?_, fun h0 => ?_⟩) | (refine nsplit (fun h0 => ?_) (fun h0 => ?_)) | (refine bsplit (fun h0 => ?_) (fun h0 => ?_))) <;> have hz_ := True.intro <;> clear hz_
      · have h0 : es = [] := by simpa using h0
        subst h0
        rw [hbv]
        ((conv => whnf) <;> repeat ((with_reducible refine Drawn.mk (by kernel_rfl) ?_) <;> conv => whnf))
        refine ⟨[], [], ?_⟩
        iterate 3 constructor
        refine ⟨⟨?_, ?_, ?_⟩, rfl, rfl, rfl⟩
        all_goals (repeat' (first | (with_reducible exact Lz.rfl) | (exact Lw.rfl) | (exact Lz.wrap (by omega)) | ((unfold goInt); (with_reducible exact Lz.rfl)) | constructor))
        exact Lz.of (by simp [allV, sortZ])
      · have h0 : 0 < es.length := by
          have : es ≠ [] := by simpa using h0
          exact List.length_pos_iff.2 this
        ((conv => whnf) <;> repeat ((with_reducible refine Drawn.mk (by kernel_rfl) ?_) <;> conv => whnf))
        refine ⟨[], [some 0], _, _, _, _, keys_ok (es.map encE), ⟨by (repeat' (first | (with_reducible exact Lz.rfl) | (exact Lw.rfl) | (exact Lz.wrap (by omega)) | ((unfold goInt); (with_reducible exact Lz.rfl)) | constructor)), by (repeat' (first | (with_reducible exact Lz.rfl) | (exact Lw.rfl) | (exact Lz.wrap (by omega)) | ((unfold goInt); (with_reducible exact Lz.rfl)) | constructor)), by rfl⟩, ?_⟩
        rintro r o' c' ⟨rfl, rfl, rfl⟩
        ((conv => whnf) <;> repeat ((with_reducible refine Drawn.mk (by kernel_rfl) ?_) <;> conv => whnf))
        refine ⟨[], [some 0, some 2], _, _, _, _, collect_ok es (hkb.ok (by omega)) h0, ⟨by (repeat' (first | (with_reducible exact Lz.rfl) | (exact Lw.rfl) | (exact Lz.wrap (by omega)) | ((unfold goInt); (with_reducible exact Lz.rfl)) | constructor)), by (repeat' (first | (with_reducible exact Lz.rfl) | (exact Lw.rfl) | (exact Lz.wrap (by omega)) | ((unfold goInt); (with_reducible exact Lz.rfl)) | constructor)), by rfl⟩, ?_⟩
        rintro r o' c' ⟨rfl, rfl, rfl⟩
        ((conv => whnf) <;> repeat ((with_reducible refine Drawn.mk (by kernel_rfl) ?_) <;> conv => whnf))
        refine ⟨[], [some 5], _, _, _, _, minc_ok (es.map (·.1)) (by simpa using h0) (by simp; omega), ⟨by (repeat' (first | (with_reducible exact Lz.rfl) | (exact Lw.rfl) | (exact Lz.wrap (by omega)) | ((unfold goInt); (with_reducible exact Lz.rfl)) | constructor)), by (repeat' (first | (with_reducible exact Lz.rfl) | (exact Lw.rfl) | (exact Lz.wrap (by omega)) | ((unfold goInt); (with_reducible exact Lz.rfl)) | constructor)), by rfl⟩, ?_⟩
        rintro r o' c' ⟨rfl, rfl, rfl⟩
        ((conv => whnf) <;> repeat ((with_reducible refine Drawn.mk (by kernel_rfl) ?_) <;> conv => whnf))
        refine ⟨[], [some 0], _, _, _, _, rising_ok es (Small.minZ (es.map (·.1))) (hkb.ok (by omega)) (by omega), ⟨by (repeat' (first | (with_reducible exact Lz.rfl) | (exact Lw.rfl) | (exact Lz.wrap (by omega)) | ((unfold goInt); (with_reducible exact Lz.rfl)) | constructor)), by (repeat' (first | (with_reducible exact Lz.rfl) | (exact Lw.rfl) | (exact Lz.wrap (by omega)) | ((unfold goInt); (with_reducible exact Lz.rfl)) | constructor)), by rfl⟩, ?_⟩
        rintro r o' c' ⟨rfl, rfl, rfl⟩
        ((conv => whnf) <;> repeat ((with_reducible refine Drawn.mk (by kernel_rfl) ?_) <;> conv => whnf))
        rw [min_rising hkb.mv h0, hbv]
        refine ⟨[8], [], ?_⟩
        iterate 3 constructor
        refine ⟨⟨?_, ?_, ?_⟩, rfl, rfl, rfl⟩
        all_goals (repeat' (first | (with_reducible exact Lz.rfl) | (exact Lw.rfl) | (exact Lz.wrap (by omega)) | ((unfold goInt); (with_reducible exact Lz.rfl)) | constructor))
end Go.M

namespace Go.M
open Go Go.Proofs
set_option maxRecDepth 100000
set_option maxHeartbeats 2000000
theorem refBest_ok (l : List (List Vote)) (h8 : l.length ≤ 8) (h40 : ∀ x ∈ l, x.length ≤ 40) (hr : ∀ x ∈ l, ∀ v ∈ x, inI v.slot) : VC E0 47 0 [.sl 1 (l.map encL) false] [] (RR (.sl 6 ((bestV l).map encV) false) 0 []) := by
  refine VC.enterR L0 (show E0.func 47 = some Try.f47 by kernel_rfl) (fun _ _ => rfl) rfl rfl [] ?_
  ((conv => whnf) <;> repeat ((with_reducible refine Drawn.mk (by kernel_rfl) ?_) <;> conv => whnf))
  refine ⟨fun k f o c => ∃ i : Nat, i ≤ l.length ∧ k = l.length - i ∧ c = 0 ∧ f = [(0, .sl 1 (l.map encL) false), (3, .sl 6 ((allV (bestE (l.take i).flatten)).map encV) false), (4, .s (.int .i64 i))] ∧ o = [], ⟨l.length, ?_⟩, ?_⟩
  · refine ⟨[], [], ?_⟩
    iterate 3 constructor
    refine ⟨⟨?_, ?_, ?_⟩, ⟨0, Nat.zero_le _, rfl, rfl, rfl, rfl⟩⟩
    all_goals (repeat' (first | (with_reducible exact Lz.rfl) | (exact Lw.rfl) | (exact Lz.wrap (by omega)) | ((unfold goInt); (with_reducible exact Lz.rfl)) | constructor))
    refine Lz.of ?_; simp [bestE, allV, sortZ]
  · rintro k f1 o1 c1 ⟨i, hi, rfl, rfl, rfl, rfl⟩
    ((conv => whnf) <;> repeat ((with_reducible refine Drawn.mk (by kernel_rfl) ?_) <;> conv => whnf))
    (first | (refine ⟨fun h => ?_, fun h => ?_⟩) | (refine nsplit (fun h => ?_) (fun h => ?_)) | (refine bsplit (fun h => ?_) (fun h => ?_))) <;> have hz_ := True.intro <;> clear hz_
    · have h := lenlt.1 h
      have hl40 := h40 _ (List.getElem_mem h)
      ((conv => whnf) <;> repeat ((with_reducible refine Drawn.mk (by kernel_rfl) ?_) <;> conv => whnf))
      refine ⟨fun k f o c => ∃ j : Nat, j ≤ l[i].length ∧ k = l[i].length - j ∧ c = 0 ∧ f = [(0, .sl 1 (l.map encL) false), (3, .sl 6 ((allV (bestE ((l.take i).flatten ++ l[i].take j))).map encV) false), (4, .s (.int .i64 i)), (5, .s (.int .i64 j))] ∧ o = [], ⟨l[i].length, ?_⟩, ?_⟩
      · refine ⟨[], [], ?_⟩
        iterate 3 constructor
        refine ⟨⟨?_, ?_, ?_⟩, ⟨0, Nat.zero_le _, rfl, rfl, rfl, rfl⟩⟩
        all_goals (repeat' (first | (with_reducible exact Lz.rfl) | (exact Lw.rfl) | (exact Lz.wrap (by omega)) | ((unfold goInt); (with_reducible exact Lz.rfl)) | constructor))
        all_goals exact Lz.of (by simp)
      · rintro k f1 o1 c1 ⟨j, hj, rfl, rfl, rfl, rfl⟩
        ((conv => whnf) <;> repeat ((with_reducible refine Drawn.mk (by kernel_rfl) ?_) <;> conv => whnf))
        refine idxI h ?_
        ((conv => whnf) <;> repeat ((with_reducible refine Drawn.mk (by kernel_rfl) ?_) <;> conv => whnf))
        (first | (refine ⟨fun hj => ?_, fun hj => ?_⟩) | (refine nsplit (fun hj => ?_) (fun hj => ?_)) | (refine bsplit (fun hj => ?_) (fun hj => ?_))) <;> have hz_ := True.intro <;> clear hz_
        · have hj := lenlt.1 hj
          obtain ⟨hkb, hlen⟩ := bestE_kb (pre_in hr (j := j) h)
          have hfl := flat_len8 h8 h40 (i := i)
          have hin : inI l[i][j].slot := hr _ (List.getElem_mem h) _ (List.getElem_mem hj)
          have hsn : allV (bestE ((l.take i).flatten ++ l[i].take (j + 1))) = bestR1 (allV (bestE ((l.take i).flatten ++ l[i].take j))) l[i][j] := by
            rw [List.take_succ_eq_append_getElem hj, ← List.append_assoc, bestE_snoc]; exact (bestE1_kb hkb hin).2.2
          have hal : (allV (bestE ((l.take i).flatten ++ l[i].take j))).length < 1000 := by
            rw [allV_len]
            refine Nat.lt_of_le_of_lt hlen ?_
            rw [List.length_append, List.length_take]; omega
          generalize hes : allV (bestE ((l.take i).flatten ++ l[i].take j)) = out at *
          ((conv => whnf) <;> repeat ((with_reducible refine Drawn.mk (by kernel_rfl) ?_) <;> conv => whnf))
          refine idxI h ?_
          ((conv => whnf) <;> repeat ((with_reducible refine Drawn.mk (by kernel_rfl) ?_) <;> conv => whnf))
          refine idxI hj ?_
          ((conv => whnf) <;> repeat ((with_reducible refine Drawn.mk (by kernel_rfl) ?_) <;> conv => whnf))
          refine ⟨[], [], _, _, _, _, refAt_ok out l[i][j].slot (by omega), ⟨by (repeat' (first | (with_reducible exact Lz.rfl) | (exact Lw.rfl) | (exact Lz.wrap (by omega)) | ((unfold goInt); (with_reducible exact Lz.rfl)) | constructor)), by (repeat' (first | (with_reducible exact Lz.rfl) | (exact Lw.rfl) | (exact Lz.wrap (by omega)) | ((unfold goInt); (with_reducible exact Lz.rfl)) | constructor)), by rfl⟩, ?_⟩
          rintro r o' c' ⟨rfl, rfl, rfl⟩
          cases hv : atS out l[i][j].slot with
          | none =>
            ((conv => whnf) <;> repeat ((with_reducible refine Drawn.mk (by kernel_rfl) ?_) <;> conv => whnf))
            refine idxI h ?_
            ((conv => whnf) <;> repeat ((with_reducible refine Drawn.mk (by kernel_rfl) ?_) <;> conv => whnf))
            refine idxI hj ?_
            ((conv => whnf) <;> repeat ((with_reducible refine Drawn.mk (by kernel_rfl) ?_) <;> conv => whnf))
            refine ⟨[], [], _, _, _, _, refPut_ok out l[i][j] hal, ⟨by (repeat' (first | (with_reducible exact Lz.rfl) | (exact Lw.rfl) | (exact Lz.wrap (by omega)) | ((unfold goInt); (with_reducible exact Lz.rfl)) | constructor)), by (repeat' (first | (with_reducible exact Lz.rfl) | (exact Lw.rfl) | (exact Lz.wrap (by omega)) | ((unfold goInt); (with_reducible exact Lz.rfl)) | constructor)), by rfl⟩, ?_⟩
            rintro r o' c' ⟨rfl, rfl, rfl⟩
            ((conv => whnf) <;> repeat ((with_reducible refine Drawn.mk (by kernel_rfl) ?_) <;> conv => whnf))
            ((conv => whnf) <;> repeat ((with_reducible refine Drawn.mk (by kernel_rfl) ?_) <;> conv => whnf))
            refine ⟨l[i].length - (j + 1), ?_, by omega⟩
            refine ⟨[], [], ?_⟩
            iterate 3 constructor
            refine ⟨⟨?_, ?_, ?_⟩, ⟨j + 1, hj, rfl, rfl, rfl, rfl⟩⟩
            all_goals (repeat' (first | (with_reducible exact Lz.rfl) | (exact Lw.rfl) | (exact Lz.wrap (by omega)) | ((unfold goInt); (with_reducible exact Lz.rfl)) | constructor))
            refine Lz.of ?_
            rw [hsn]; unfold bestR1; rw [hv]
          | some w =>
            ((conv => whnf) <;> repeat ((with_reducible refine Drawn.mk (by kernel_rfl) ?_) <;> conv => whnf))
            refine idxI h ?_
            ((conv => whnf) <;> repeat ((with_reducible refine Drawn.mk (by kernel_rfl) ?_) <;> conv => whnf))
            refine idxI hj ?_
            ((conv => whnf) <;> repeat ((with_reducible refine Drawn.mk (by kernel_rfl) ?_) <;> conv => whnf))
            (first | (refine ⟨fun hb => ?_, fun hb => ?_⟩) | (refine nsplit (fun hb => ?_) (fun hb => ?_)) | (refine bsplit (fun hb => ?_) (fun hb => ?_))) <;> have hz_ := True.intro <;> clear hz_
            · have hb : l[i][j].ballot > w.ballot := hb
              ((conv => whnf) <;> repeat ((with_reducible refine Drawn.mk (by kernel_rfl) ?_) <;> conv => whnf))
              refine idxI h ?_
              ((conv => whnf) <;> repeat ((with_reducible refine Drawn.mk (by kernel_rfl) ?_) <;> conv => whnf))
              refine idxI hj ?_
              ((conv => whnf) <;> repeat ((with_reducible refine Drawn.mk (by kernel_rfl) ?_) <;> conv => whnf))
              refine ⟨[], [], _, _, _, _, refPut_ok out l[i][j] hal, ⟨by (repeat' (first | (with_reducible exact Lz.rfl) | (exact Lw.rfl) | (exact Lz.wrap (by omega)) | ((unfold goInt); (with_reducible exact Lz.rfl)) | constructor)), by (repeat' (first | (with_reducible exact Lz.rfl) | (exact Lw.rfl) | (exact Lz.wrap (by omega)) | ((unfold goInt); (with_reducible exact Lz.rfl)) | constructor)), by rfl⟩, ?_⟩
              rintro r o' c' ⟨rfl, rfl, rfl⟩
              ((conv => whnf) <;> repeat ((with_reducible refine Drawn.mk (by kernel_rfl) ?_) <;> conv => whnf))
              ((conv => whnf) <;> repeat ((with_reducible refine Drawn.mk (by kernel_rfl) ?_) <;> conv => whnf))
              refine ⟨l[i].length - (j + 1), ?_, by omega⟩
              refine ⟨[], [], ?_⟩
              iterate 3 constructor
              refine ⟨⟨?_, ?_, ?_⟩, ⟨j + 1, hj, rfl, rfl, rfl, rfl⟩⟩
              all_goals (repeat' (first | (with_reducible exact Lz.rfl) | (exact Lw.rfl) | (exact Lz.wrap (by omega)) | ((unfold goInt); (with_reducible exact Lz.rfl)) | constructor))
              refine Lz.of ?_
              rw [hsn]; unfold bestR1; rw [hv]; simp only; rw [if_pos hb]
            · have hb : ¬ l[i][j].ballot > w.ballot := hb
              ((conv => whnf) <;> repeat ((with_reducible refine Drawn.mk (by kernel_rfl) ?_) <;> conv => whnf))
              refine ⟨l[i].length - (j + 1), ?_, by omega⟩
              refine ⟨[], [], ?_⟩
              iterate 3 constructor
              refine ⟨⟨?_, ?_, ?_⟩, ⟨j + 1, hj, rfl, rfl, rfl, rfl⟩⟩
              all_goals (repeat' (first | (with_reducible exact Lz.rfl) | (exact Lw.rfl) | (exact Lz.wrap (by omega)) | ((unfold goInt); (with_reducible exact Lz.rfl)) | constructor))
              refine Lz.of ?_
              rw [hsn]; unfold bestR1; rw [hv]; simp only; rw [if_neg hb]
        · have hj' : j = l[i].length := by have := mt lenlt.2 hj
                                           omega
          subst hj'
          ((conv => whnf) <;> repeat ((with_reducible refine Drawn.mk (by kernel_rfl) ?_) <;> conv => whnf))
          refine ⟨l.length - (i + 1), ?_, by omega⟩
          refine ⟨[], [], ?_⟩
          iterate 3 constructor
          refine ⟨⟨?_, ?_, ?_⟩, ⟨i + 1, h, rfl, rfl, rfl, rfl⟩⟩
          all_goals (repeat' (first | (with_reducible exact Lz.rfl) | (exact Lw.rfl) | (exact Lz.wrap (by omega)) | ((unfold goInt); (with_reducible exact Lz.rfl)) | constructor))
          refine Lz.of ?_
          rw [flat_snoc h, List.take_length]
    · have h' : i = l.length := by have := mt lenlt.2 h
                                   omega
      subst h'
      ((conv => whnf) <;> repeat ((with_reducible refine Drawn.mk (by kernel_rfl) ?_) <;> conv => whnf))
      refine ⟨[], [], ?_⟩
      iterate 3 constructor
      refine ⟨⟨?_, ?_, ?_⟩, rfl, rfl, rfl⟩
      all_goals (repeat' (first | (with_reducible exact Lz.rfl) | (exact Lw.rfl) | (exact Lz.wrap (by omega)) | ((unfold goInt); (with_reducible exact Lz.rfl)) | constructor))
      all_goals exact Lz.of (by rw [List.take_length]; rfl)
theorem bestlaw_ok (l : List (List Vote)) (hr : ∀ x ∈ l, ∀ v ∈ x, inI v.slot) : VC E0 10 0 [.sl 1 (l.map encL) false] [] (fun r _ _ => r = .s (.bool true)) := by
  refine VC.enterR L0 (show E0.func 10 = some Try.f10 by kernel_rfl) (fun _ _ => rfl) rfl rfl [] ?_
  ((conv => whnf) <;> repeat ((with_reducible refine Drawn.mk (by kernel_rfl) ?_) <;> conv => whnf))
  (first | (refine ⟨fun h8 => ?_, fun h8 => ?_⟩) | (refine nsplit (fun h8 => ?_) (fun h8 => ?_)) | (refine bsplit (fun h8 => ?_) (fun h8 => ?_))) <;> have hz_ := True.intro <;> clear hz_
  · ((conv => whnf) <;> repeat ((with_reducible refine Drawn.mk (by kernel_rfl) ?_) <;> conv => whnf))
    refine ⟨[], [], _, _, _, _, awake11, ⟨by (repeat' (first | (with_reducible exact Lz.rfl) | (exact Lw.rfl) | (exact Lz.wrap (by omega)) | ((unfold goInt); (with_reducible exact Lz.rfl)) | constructor)), by (repeat' (first | (with_reducible exact Lz.rfl) | (exact Lw.rfl) | (exact Lz.wrap (by omega)) | ((unfold goInt); (with_reducible exact Lz.rfl)) | constructor)), by rfl⟩, ?_⟩
    rintro r o' c' ⟨rfl, rfl, rfl⟩
    ((conv => whnf) <;> repeat ((with_reducible refine Drawn.mk (by kernel_rfl) ?_) <;> conv => whnf))
    exact ⟨[], [], [], .s (.bool true), [], ⟨.s Lz.rfl, .nil, rfl⟩, rfl⟩
  · have h8 : l.length ≤ 8 := by have : ¬ (((l.map encL).length : Nat) : Int) > 8 := h8
                                 simp at this; omega
    ((conv => whnf) <;> repeat ((with_reducible refine Drawn.mk (by kernel_rfl) ?_) <;> conv => whnf))
    refine ⟨fun k f o c => ∃ i : Nat, i ≤ l.length ∧ k = l.length - i ∧ (∀ x ∈ l.take i, x.length ≤ 40) ∧ c = 0 ∧ f = [(0, .sl 1 (l.map encL) false), (3, .s (.int .i64 i))] ∧ o = [], ⟨l.length, ?_⟩, ?_⟩
    · refine ⟨[], [], ?_⟩
      iterate 3 constructor
      refine ⟨⟨?_, ?_, ?_⟩, ⟨0, Nat.zero_le _, rfl, by simp, rfl, rfl, rfl⟩⟩
      all_goals (repeat' (first | (with_reducible exact Lz.rfl) | (exact Lw.rfl) | (exact Lz.wrap (by omega)) | ((unfold goInt); (with_reducible exact Lz.rfl)) | constructor))
    · rintro k f1 o1 c1 ⟨i, hi, rfl, h40, rfl, rfl, rfl⟩
      ((conv => whnf) <;> repeat ((with_reducible refine Drawn.mk (by kernel_rfl) ?_) <;> conv => whnf))
      (first | (refine ⟨fun h => ?_, fun h => ?_⟩) | (refine nsplit (fun h => ?_) (fun h => ?_)) | (refine bsplit (fun h => ?_) (fun h => ?_))) <;> have hz_ := True.intro <;> clear hz_
      · have h := lenlt.1 h
        ((conv => whnf) <;> repeat ((with_reducible refine Drawn.mk (by kernel_rfl) ?_) <;> conv => whnf))
        refine idxI h ?_
        ((conv => whnf) <;> repeat ((with_reducible refine Drawn.mk (by kernel_rfl) ?_) <;> conv => whnf))
        (first | (refine ⟨fun hx => ?_, fun hx => ?_⟩) | (refine nsplit (fun hx => ?_) (fun hx => ?_)) | (refine bsplit (fun hx => ?_) (fun hx => ?_))) <;> have hz_ := True.intro <;> clear hz_
        · ((conv => whnf) <;> repeat ((with_reducible refine Drawn.mk (by kernel_rfl) ?_) <;> conv => whnf))
          refine ⟨[], [], _, _, _, _, awake11, ⟨by (repeat' (first | (with_reducible exact Lz.rfl) | (exact Lw.rfl) | (exact Lz.wrap (by omega)) | ((unfold goInt); (with_reducible exact Lz.rfl)) | constructor)), by (repeat' (first | (with_reducible exact Lz.rfl) | (exact Lw.rfl) | (exact Lz.wrap (by omega)) | ((unfold goInt); (with_reducible exact Lz.rfl)) | constructor)), by rfl⟩, ?_⟩
          rintro r o' c' ⟨rfl, rfl, rfl⟩
          ((conv => whnf) <;> repeat ((with_reducible refine Drawn.mk (by kernel_rfl) ?_) <;> conv => whnf))
          exact ⟨[], [], [], .s (.bool true), [], ⟨.s Lz.rfl, .nil, rfl⟩, rfl⟩
        · have hx : l[i].length ≤ 40 := by have : ¬ (((l[i].map encV).length : Nat) : Int) > 40 := hx
                                           simp at this; omega
          ((conv => whnf) <;> repeat ((with_reducible refine Drawn.mk (by kernel_rfl) ?_) <;> conv => whnf))
          refine ⟨l.length - (i + 1), ?_, by omega⟩
          refine ⟨[], [], ?_⟩
          iterate 3 constructor
          refine ⟨⟨?_, ?_, ?_⟩, ⟨i + 1, h, rfl, by intro x hx'; rw [List.take_succ_eq_append_getElem h] at hx'; rcases List.mem_append.1 hx' with h1 | h1; exact h40 x h1; simp at h1; subst h1; exact hx, rfl, rfl, rfl⟩⟩
          all_goals (repeat' (first | (with_reducible exact Lz.rfl) | (exact Lw.rfl) | (exact Lz.wrap (by omega)) | ((unfold goInt); (with_reducible exact Lz.rfl)) | constructor))
      · have h' : i = l.length := by have := mt lenlt.2 h
                                     omega
        subst h'
        rw [List.take_length] at h40
        have hbl : (bestV l).length < 1000000 := by
          obtain ⟨_, hlen⟩ := bestE_kb (l := l.flatten) (fun v hv => by obtain ⟨x, hx, hv⟩ := List.mem_flatten.1 hv; exact hr x hx v hv)
          have := flat_len8 h8 h40 (i := l.length)
          rw [List.take_length] at this
          unfold bestV; rw [allV_len]; omega
        ((conv => whnf) <;> repeat ((with_reducible refine Drawn.mk (by kernel_rfl) ?_) <;> conv => whnf))
        refine ⟨[], [], _, _, _, _, best_ok l h8 h40 hr, ⟨by (repeat' (first | (with_reducible exact Lz.rfl) | (exact Lw.rfl) | (exact Lz.wrap (by omega)) | ((unfold goInt); (with_reducible exact Lz.rfl)) | constructor)), by (repeat' (first | (with_reducible exact Lz.rfl) | (exact Lw.rfl) | (exact Lz.wrap (by omega)) | ((unfold goInt); (with_reducible exact Lz.rfl)) | constructor)), by rfl⟩, ?_⟩
        rintro r o' c' ⟨rfl, rfl, rfl⟩
        ((conv => whnf) <;> repeat ((with_reducible refine Drawn.mk (by kernel_rfl) ?_) <;> conv => whnf))
        refine ⟨[], [], _, _, _, _, refBest_ok l h8 h40 hr, ⟨by (repeat' (first | (with_reducible exact Lz.rfl) | (exact Lw.rfl) | (exact Lz.wrap (by omega)) | ((unfold goInt); (with_reducible exact Lz.rfl)) | constructor)), by (repeat' (first | (with_reducible exact Lz.rfl) | (exact Lw.rfl) | (exact Lz.wrap (by omega)) | ((unfold goInt); (with_reducible exact Lz.rfl)) | constructor)), by rfl⟩, ?_⟩
        rintro r o' c' ⟨rfl, rfl, rfl⟩
        ((conv => whnf) <;> repeat ((with_reducible refine Drawn.mk (by kernel_rfl) ?_) <;> conv => whnf))
        refine ⟨[], [], _, _, _, _, same_ok (bestV l) (bestV l) hbl, ⟨by (repeat' (first | (with_reducible exact Lz.rfl) | (exact Lw.rfl) | (exact Lz.wrap (by omega)) | ((unfold goInt); (with_reducible exact Lz.rfl)) | constructor)), by (repeat' (first | (with_reducible exact Lz.rfl) | (exact Lw.rfl) | (exact Lz.wrap (by omega)) | ((unfold goInt); (with_reducible exact Lz.rfl)) | constructor)), by rfl⟩, ?_⟩
        rintro r o' c' ⟨rfl, rfl, rfl⟩
        rw [show eqB (bestV l) (bestV l) = true from eqB_iff.2 rfl]
        ((conv => whnf) <;> repeat ((with_reducible refine Drawn.mk (by kernel_rfl) ?_) <;> conv => whnf))
        refine ⟨[], [], _, _, _, _, awake11, ⟨by (repeat' (first | (with_reducible exact Lz.rfl) | (exact Lw.rfl) | (exact Lz.wrap (by omega)) | ((unfold goInt); (with_reducible exact Lz.rfl)) | constructor)), by (repeat' (first | (with_reducible exact Lz.rfl) | (exact Lw.rfl) | (exact Lz.wrap (by omega)) | ((unfold goInt); (with_reducible exact Lz.rfl)) | constructor)), by rfl⟩, ?_⟩
        rintro r o' c' ⟨rfl, rfl, rfl⟩
        ((conv => whnf) <;> repeat ((with_reducible refine Drawn.mk (by kernel_rfl) ?_) <;> conv => whnf))
        exact ⟨[], [], [], .s (.bool true), [], ⟨.s Lz.rfl, .nil, rfl⟩, rfl⟩
end Go.M

namespace Go.M
open Go
section
variable {α : Type}
def encA (k : IntKind) (f : α → TV) (e : Int × α) : Value × TV := (.int k e.1, f e.2)
def lookA : List (Int × α) → Int → Option α
  | [], _ => none
  | e :: es, n => if n = e.1 then some e.2 else lookA es n
def putA : List (Int × α) → Int → α → List (Int × α)
  | [], n, v => [(n, v)]
  | e :: es, n, v => if n = e.1 then (n, v) :: es else e :: putA es n v
def delA : List (Int × α) → Int → List (Int × α)
  | [], _ => []
  | e :: es, n => if n = e.1 then es else e :: delA es n
@[reducible] def keysA (es : List (Int × α)) : List Int := es.map (·.1)
theorem keq_A {k k' : IntKind} {f : α → TV} {e : Int × α} {n : Int} : keq (.int k' n) (encA k f e).1 = decide (n = e.1) := by
  rw [Bool.eq_iff_iff]; simp [keq, encA]
theorem lookM_A (k k' : IntKind) (f : α → TV) (n : Int) : ∀ es : List (Int × α), lookM (es.map (encA k f)) (.int k' n) = (lookA es n).map f
  | [] => rfl
  | e :: es => by
    rw [List.map_cons]
    unfold lookM lookA
    rw [keq_A]
    by_cases he : n = e.1
    · simp [he, encA]
    · simp [he, lookM_A k k' f n es]
theorem putM_A (k : IntKind) (f : α → TV) (n : Int) (v : α) : ∀ es : List (Int × α), putM (es.map (encA k f)) (.int k n) (f v) = (putA es n v).map (encA k f)
  | [] => rfl
  | e :: es => by
    rw [List.map_cons]
    unfold putM putA
    rw [keq_A]
    by_cases he : n = e.1
    · simp [he, encA]
    · simp [he, putM_A k f n v es]
theorem delM_A (k k' : IntKind) (f : α → TV) (n : Int) : ∀ es : List (Int × α), delM (es.map (encA k f)) (.int k' n) = (delA es n).map (encA k f)
  | [] => rfl
  | e :: es => by
    rw [List.map_cons]
    unfold delM delA
    rw [keq_A]
    by_cases he : n = e.1
    · simp [he]
    · simp [he, delM_A k k' f n es]
theorem keysM_A (k : IntKind) (f : α → TV) (es : List (Int × α)) : (es.map (encA k f)).map (·.1) = (keysA es).map (.int k) := by
  simp [encA, keysA, Function.comp_def]
theorem putA_keys {n : Int} {v : α} : ∀ {es : List (Int × α)}, keysA (putA es n v) = if n ∈ keysA es then keysA es else keysA es ++ [n]
  | [] => rfl
  | e :: es => by
    have ih := putA_keys (n := n) (v := v) (es := es)
    unfold putA
    by_cases he : n = e.1
    · simp [he]
    · simp only [he, if_false, keysA, List.map_cons, List.mem_cons, false_or] at ih ⊢
      rw [ih]
      split <;> simp
theorem putA_new {n : Int} {v : α} : ∀ {es : List (Int × α)}, n ∉ keysA es → putA es n v = es ++ [(n, v)]
  | [], _ => rfl
  | e :: es, h => by
    simp only [keysA, List.map_cons, List.mem_cons, not_or] at h
    unfold putA
    rw [if_neg h.1, putA_new (es := es) h.2]; rfl
theorem putA_nodup {n : Int} {v : α} {es : List (Int × α)} (h : (keysA es).Nodup) : (keysA (putA es n v)).Nodup := by
  rw [putA_keys]
  split
  · exact h
  · rename_i hn
    rw [List.nodup_append]
    exact ⟨h, by simp, fun a ha b hb => by simp at hb; subst hb; rintro rfl; exact hn ha⟩
theorem putA_len (es : List (Int × α)) (n : Int) (v : α) : (putA es n v).length ≤ es.length + 1 := by
  have := congrArg List.length (putA_keys (n := n) (v := v) (es := es))
  simp only [keysA, List.length_map] at this
  rw [this]; split <;> simp
theorem delA_sub {n : Int} : ∀ {es : List (Int × α)}, (delA es n).Sublist es
  | [] => .refl _
  | e :: es => by
    unfold delA
    split
    · exact List.sublist_cons_self ..
    · exact (delA_sub (es := es)).cons_cons _
theorem delA_nodup {n : Int} {es : List (Int × α)} (h : (keysA es).Nodup) : (keysA (delA es n)).Nodup := ((delA_sub (n := n) (es := es)).map _).nodup h
theorem lookA_some {n : Int} {v : α} : ∀ {es : List (Int × α)}, (keysA es).Nodup → (lookA es n = some v ↔ (n, v) ∈ es)
  | [], _ => by simp [lookA]
  | e :: es, h => by
    simp only [keysA, List.map_cons, List.nodup_cons] at h
    unfold lookA
    by_cases he : n = e.1
    · rw [if_pos he]
      constructor
      · intro h1; cases h1; rw [he]; exact List.mem_cons_self
      · intro h1
        rcases List.mem_cons.1 h1 with h1 | h1
        · rw [← h1]
        · exact absurd (List.mem_map.2 ⟨_, h1, he⟩) h.1
    · rw [if_neg he, lookA_some h.2]
      constructor
      · exact fun h1 => List.mem_cons_of_mem _ h1
      · intro h1
        rcases List.mem_cons.1 h1 with h1 | h1
        · exact absurd (congrArg (·.1) h1) he
        · exact h1
theorem lookA_none {n : Int} : ∀ {es : List (Int × α)}, lookA es n = none ↔ n ∉ keysA es
  | [] => by simp [lookA]
  | e :: es => by
    have ih := lookA_none (n := n) (es := es)
    unfold lookA
    by_cases he : n = e.1
    · simp [he]
    · simp only [he, if_false, keysA, List.map_cons, List.mem_cons, false_or] at ih ⊢; exact ih
theorem lookA_put {n m : Int} {v : α} : ∀ {es : List (Int × α)}, lookA (putA es n v) m = if m = n then some v else lookA es m
  | [] => by simp [putA, lookA]
  | e :: es => by
    have ih := lookA_put (n := n) (m := m) (v := v) (es := es)
    unfold putA
    by_cases he : n = e.1
    · simp only [he, if_true, lookA]
      by_cases hm : m = e.1 <;> simp [hm]
    · simp only [he, if_false, lookA, ih]
      by_cases hm : m = e.1
      · rw [if_pos hm, if_pos hm, if_neg]; rintro rfl; exact he hm
      · rw [if_neg hm, if_neg hm]
theorem lookA_del {n m : Int} : ∀ {es : List (Int × α)}, (keysA es).Nodup → lookA (delA es n) m = if m = n then none else lookA es m
  | [], _ => by simp [delA, lookA]
  | e :: es, h => by
    simp only [keysA, List.map_cons, List.nodup_cons] at h
    have ih := lookA_del (n := n) (m := m) (es := es) h.2
    unfold delA
    by_cases he : n = e.1
    · simp only [he, if_true, lookA]
      by_cases hm : m = e.1
      · simp only [hm, if_true]; exact lookA_none.2 h.1
      · simp [hm]
    · simp only [he, if_false, lookA, ih]
      by_cases hm : m = e.1
      · rw [if_pos hm, if_pos hm, if_neg]; rintro rfl; exact he hm
      · rw [if_neg hm, if_neg hm]
theorem putA_mem {n : Int} {v : α} {x : Int × α} {es : List (Int × α)} (h : (keysA es).Nodup) : x ∈ putA es n v ↔ x = (n, v) ∨ x.1 ≠ n ∧ x ∈ es := by
  obtain ⟨a, b⟩ := x
  rw [← lookA_some (putA_nodup h), lookA_put]
  by_cases e : a = n
  · subst e
    simp
    exact eq_comm
  · simp [e, lookA_some h]
theorem delA_mem {n : Int} {x : Int × α} {es : List (Int × α)} (h : (keysA es).Nodup) : x ∈ delA es n ↔ x.1 ≠ n ∧ x ∈ es := by
  obtain ⟨a, b⟩ := x
  rw [← lookA_some (delA_nodup h), lookA_del h]
  by_cases e : a = n
  · subst e; simp
  · simp [e, lookA_some h]
end
end Go.M

namespace Go.M
open Go Go.Proofs
set_option maxRecDepth 100000
set_option maxHeartbeats 2000000
structure LeadS where
  me : Int
  masters : Int
  st : Int
  b : Int
  frm : Int
  nxt : Int
  came : List (Int × List Vote)
  opn : List (Int × Cmd × Nat)
def encVs (l : List Vote) : TV := .sl 6 (l.map encV) false
def encP (p : Cmd × Nat) : TV := .agg [.s (.int .i64 p.1.kind), .s (.int .i64 p.1.chain), .s (.int .u64 p.1.epoch), .s (.int .i64 p.1.node), .s (.int .u64 p.2)]
@[reducible] def leadO (x : LeadS) (i j : Nat) : TO := .cells [.s (.int .i64 x.me), .s (.int .i64 x.masters), .s (.int .i64 x.st), .s (.int .u64 x.b), .s (.int .i64 x.frm), .s (.int .i64 x.nxt), .mp i, .mp j]
@[reducible] def cameO (x : LeadS) : TO := .map (kIdx .i64) (x.came.map (encA .i64 encVs))
@[reducible] def openO (x : LeadS) : TO := .map (kIdx .i64) (x.opn.map (encA .i64 encP))
@[reducible] def stL (x : LeadS) : Ob := [(0, leadO x 1 2), (1, cameO x), (2, openO x)]
/-- One that never started. -/
@[reducible] def lead0 (me masters : Int) : TO := .cells [.s (.int .i64 me), .s (.int .i64 masters), .s (.int .i64 0), .s (.int .u64 0), .s (.int .i64 0), .s (.int .i64 0), .s (.map none), .s (.map none)]
theorem newL_ok (me masters : Int) (h1 : m5 masters) (h2 : 1 ≤ me ∧ me ≤ masters) : VC E0 50 0 [.s (.int .i64 me), .s (.int .i64 masters)] [] (RR (.tup [.ptr 0 0, .s (.int .i64 0)]) 1 [(0, lead0 me masters)]) := by
  unfold m5 at h1
  refine VC.enterR L0 (show E0.func 50 = some Try.f50 by kernel_rfl) (fun _ _ => rfl) rfl rfl [] ?_
  ((conv => whnf) <;> repeat ((with_reducible refine Drawn.mk (by kernel_rfl) ?_) <;> conv => whnf))
  (first | (refine ⟨fun a1 => ?_, fun a1 => ?_⟩) | (refine nsplit (fun a1 => ?_) (fun a1 => ?_)) | (refine bsplit (fun a1 => ?_) (fun a1 => ?_))) <;> have hz_ := True.intro <;> clear hz_
  · have a1 : masters < 1 := a1
    omega
  · ((conv => whnf) <;> repeat ((with_reducible refine Drawn.mk (by kernel_rfl) ?_) <;> conv => whnf))
    (first | (refine ⟨fun a2 => ?_, fun a2 => ?_⟩) | (refine nsplit (fun a2 => ?_) (fun a2 => ?_)) | (refine bsplit (fun a2 => ?_) (fun a2 => ?_))) <;> have hz_ := True.intro <;> clear hz_
    · have a2 : masters > 5 := a2
      omega
    · ((conv => whnf) <;> repeat ((with_reducible refine Drawn.mk (by kernel_rfl) ?_) <;> conv => whnf))
      (first | (refine ⟨fun a3 => ?_, fun a3 => ?_⟩) | (refine nsplit (fun a3 => ?_) (fun a3 => ?_)) | (refine bsplit (fun a3 => ?_) (fun a3 => ?_))) <;> have hz_ := True.intro <;> clear hz_
      · have a3 : me < 1 := a3
        omega
      · ((conv => whnf) <;> repeat ((with_reducible refine Drawn.mk (by kernel_rfl) ?_) <;> conv => whnf))
        (first | (refine ⟨fun a4 => ?_, fun a4 => ?_⟩) | (refine nsplit (fun a4 => ?_) (fun a4 => ?_)) | (refine bsplit (fun a4 => ?_) (fun a4 => ?_))) <;> have hz_ := True.intro <;> clear hz_
        · have a4 : me > masters := a4
          omega
        · ((conv => whnf) <;> repeat ((with_reducible refine Drawn.mk (by kernel_rfl) ?_) <;> conv => whnf))
          refine ⟨[], [some 0], ?_⟩
          iterate 3 constructor
          refine ⟨⟨?_, ?_, ?_⟩, rfl, rfl, rfl⟩
          all_goals (repeat' (first | (with_reducible exact Lz.rfl) | (exact Lw.rfl) | (exact Lz.wrap (by omega)) | ((unfold goInt); (with_reducible exact Lz.rfl)) | constructor))
theorem newL_no (me masters : Int) (h : ¬ (m5 masters ∧ 1 ≤ me ∧ me ≤ masters)) : VC E0 50 0 [.s (.int .i64 me), .s (.int .i64 masters)] [] (RR (.tup [.s (.pointer none), .s (.int .i64 1)]) 0 []) := by
  unfold m5 at h
  refine VC.enterR L0 (show E0.func 50 = some Try.f50 by kernel_rfl) (fun _ _ => rfl) rfl rfl [] ?_
  ((conv => whnf) <;> repeat ((with_reducible refine Drawn.mk (by kernel_rfl) ?_) <;> conv => whnf))
  repeat' (first | ((first | (refine ⟨fun h => ?_, fun h => ?_⟩) | (refine nsplit (fun h => ?_) (fun h => ?_)) | (refine bsplit (fun h => ?_) (fun h => ?_))) <;> ((conv => whnf) <;> repeat ((with_reducible refine Drawn.mk (by kernel_rfl) ?_) <;> conv => whnf))))
  all_goals first
    | (refine ⟨[], [], [], _, _, ⟨?_, .nil, rfl⟩, rfl, rfl, rfl⟩; exact .tup (.cons (.s Lz.rfl) (.cons (.s Lz.rfl) .nil)))
    | (exfalso; omega)
def isRight (me masters : Int) : Bool := decide (m5 masters ∧ 1 ≤ me ∧ me ≤ masters)
theorem isL_ok (x : LeadS) (s b : Int) : VC E0 89 3 [.ptr 0 0, .s (.int .i64 s), .s (.int .u64 b)] (stL x) (RR (.s (.bool (decide (x.st = s ∧ x.b = b)))) 3 (stL x)) := by
  refine VC.enterR L0 (show E0.func 89 = some Try.f89 by kernel_rfl) (fun _ _ => rfl) rfl rfl [] ?_
  ((conv => whnf) <;> repeat ((with_reducible refine Drawn.mk (by kernel_rfl) ?_) <;> conv => whnf))
  (first | (refine ⟨fun h1 => ?_, fun h1 => ?_⟩) | (refine nsplit (fun h1 => ?_) (fun h1 => ?_)) | (refine bsplit (fun h1 => ?_) (fun h1 => ?_))) <;> have hz_ := True.intro <;> clear hz_
  · have h1 : x.st = s := h1
    ((conv => whnf) <;> repeat ((with_reducible refine Drawn.mk (by kernel_rfl) ?_) <;> conv => whnf))
    (first | (refine ⟨fun h2 => ?_, fun h2 => ?_⟩) | (refine nsplit (fun h2 => ?_) (fun h2 => ?_)) | (refine bsplit (fun h2 => ?_) (fun h2 => ?_))) <;> have hz_ := True.intro <;> clear hz_
    · have h2 : x.b = b := h2
      ((conv => whnf) <;> repeat ((with_reducible refine Drawn.mk (by kernel_rfl) ?_) <;> conv => whnf))
      refine ⟨[], [some 0, some 1, some 2], ?_⟩
      iterate 3 constructor
      refine ⟨⟨?_, ?_, ?_⟩, rfl, rfl, rfl⟩
      all_goals (repeat' (first | (with_reducible exact Lz.rfl) | (exact Lw.rfl) | (exact Lz.wrap (by omega)) | ((unfold goInt); (with_reducible exact Lz.rfl)) | constructor))
      exact Lz.of (bool_eq (Eq.symm (decide_eq_true ⟨h1, h2⟩)))
    · have h2 : ¬ x.b = b := h2
      ((conv => whnf) <;> repeat ((with_reducible refine Drawn.mk (by kernel_rfl) ?_) <;> conv => whnf))
      refine ⟨[], [some 0, some 1, some 2], ?_⟩
      iterate 3 constructor
      refine ⟨⟨?_, ?_, ?_⟩, rfl, rfl, rfl⟩
      all_goals (repeat' (first | (with_reducible exact Lz.rfl) | (exact Lw.rfl) | (exact Lz.wrap (by omega)) | ((unfold goInt); (with_reducible exact Lz.rfl)) | constructor))
      exact Lz.of (bool_eq (Eq.symm (decide_eq_false fun h => h2 h.2)))
  · have h1 : ¬ x.st = s := h1
    ((conv => whnf) <;> repeat ((with_reducible refine Drawn.mk (by kernel_rfl) ?_) <;> conv => whnf))
    refine ⟨[], [some 0, some 1, some 2], ?_⟩
    iterate 3 constructor
    refine ⟨⟨?_, ?_, ?_⟩, rfl, rfl, rfl⟩
    all_goals (repeat' (first | (with_reducible exact Lz.rfl) | (exact Lw.rfl) | (exact Lz.wrap (by omega)) | ((unfold goInt); (with_reducible exact Lz.rfl)) | constructor))
    exact Lz.of (bool_eq (Eq.symm (decide_eq_false fun h => h1 h.1)))
theorem isM_ok (x : LeadS) (who : Int) : VC E0 90 3 [.ptr 0 0, .s (.int .i64 who)] (stL x) (RR (.s (.bool (decide (1 ≤ who ∧ who ≤ x.masters)))) 3 (stL x)) := by
  refine VC.enterR L0 (show E0.func 90 = some Try.f90 by kernel_rfl) (fun _ _ => rfl) rfl rfl [] ?_
  ((conv => whnf) <;> repeat ((with_reducible refine Drawn.mk (by kernel_rfl) ?_) <;> conv => whnf))
  (first | (refine ⟨fun h1 => ?_, fun h1 => ?_⟩) | (refine nsplit (fun h1 => ?_) (fun h1 => ?_)) | (refine bsplit (fun h1 => ?_) (fun h1 => ?_))) <;> have hz_ := True.intro <;> clear hz_
  · have h1 : who ≥ 1 := h1
    ((conv => whnf) <;> repeat ((with_reducible refine Drawn.mk (by kernel_rfl) ?_) <;> conv => whnf))
    (first | (refine ⟨fun h2 => ?_, fun h2 => ?_⟩) | (refine nsplit (fun h2 => ?_) (fun h2 => ?_)) | (refine bsplit (fun h2 => ?_) (fun h2 => ?_))) <;> have hz_ := True.intro <;> clear hz_
    · have h2 : who ≤ x.masters := h2
      ((conv => whnf) <;> repeat ((with_reducible refine Drawn.mk (by kernel_rfl) ?_) <;> conv => whnf))
      refine ⟨[], [some 0, some 1, some 2], ?_⟩
      iterate 3 constructor
      refine ⟨⟨?_, ?_, ?_⟩, rfl, rfl, rfl⟩
      all_goals (repeat' (first | (with_reducible exact Lz.rfl) | (exact Lw.rfl) | (exact Lz.wrap (by omega)) | ((unfold goInt); (with_reducible exact Lz.rfl)) | constructor))
      exact Lz.of (bool_eq (Eq.symm (decide_eq_true ⟨h1, h2⟩)))
    · have h2 : ¬ who ≤ x.masters := h2
      ((conv => whnf) <;> repeat ((with_reducible refine Drawn.mk (by kernel_rfl) ?_) <;> conv => whnf))
      refine ⟨[], [some 0, some 1, some 2], ?_⟩
      iterate 3 constructor
      refine ⟨⟨?_, ?_, ?_⟩, rfl, rfl, rfl⟩
      all_goals (repeat' (first | (with_reducible exact Lz.rfl) | (exact Lw.rfl) | (exact Lz.wrap (by omega)) | ((unfold goInt); (with_reducible exact Lz.rfl)) | constructor))
      exact Lz.of (bool_eq (Eq.symm (decide_eq_false fun h => h2 h.2)))
  · have h1 : ¬ who ≥ 1 := h1
    ((conv => whnf) <;> repeat ((with_reducible refine Drawn.mk (by kernel_rfl) ?_) <;> conv => whnf))
    refine ⟨[], [some 0, some 1, some 2], ?_⟩
    iterate 3 constructor
    refine ⟨⟨?_, ?_, ?_⟩, rfl, rfl, rfl⟩
    all_goals (repeat' (first | (with_reducible exact Lz.rfl) | (exact Lw.rfl) | (exact Lz.wrap (by omega)) | ((unfold goInt); (with_reducible exact Lz.rfl)) | constructor))
    exact Lz.of (bool_eq (Eq.symm (decide_eq_false fun h => h1 h.1)))
theorem stateL_ok (x : LeadS) : VC E0 58 3 [.ptr 0 0] (stL x) (RR (.s (.int .i64 x.st)) 3 (stL x)) := by
  refine VC.enterR L0 (show E0.func 58 = some Try.f58 by kernel_rfl) (fun _ _ => rfl) rfl rfl [] ?_
  ((conv => whnf) <;> repeat ((with_reducible refine Drawn.mk (by kernel_rfl) ?_) <;> conv => whnf))
  refine ⟨[], [some 0, some 1, some 2], ?_⟩
  iterate 3 constructor
  refine ⟨⟨?_, ?_, ?_⟩, rfl, rfl, rfl⟩
  all_goals (repeat' (first | (with_reducible exact Lz.rfl) | (exact Lw.rfl) | (exact Lz.wrap (by omega)) | ((unfold goInt); (with_reducible exact Lz.rfl)) | constructor))
theorem ballotL_ok (x : LeadS) : VC E0 59 3 [.ptr 0 0] (stL x) (RR (.s (.int .u64 x.b)) 3 (stL x)) := by
  refine VC.enterR L0 (show E0.func 59 = some Try.f59 by kernel_rfl) (fun _ _ => rfl) rfl rfl [] ?_
  ((conv => whnf) <;> repeat ((with_reducible refine Drawn.mk (by kernel_rfl) ?_) <;> conv => whnf))
  refine ⟨[], [some 0, some 1, some 2], ?_⟩
  iterate 3 constructor
  refine ⟨⟨?_, ?_, ?_⟩, rfl, rfl, rfl⟩
  all_goals (repeat' (first | (with_reducible exact Lz.rfl) | (exact Lw.rfl) | (exact Lz.wrap (by omega)) | ((unfold goInt); (with_reducible exact Lz.rfl)) | constructor))
theorem fromL_ok (x : LeadS) : VC E0 60 3 [.ptr 0 0] (stL x) (RR (.s (.int .i64 x.frm)) 3 (stL x)) := by
  refine VC.enterR L0 (show E0.func 60 = some Try.f60 by kernel_rfl) (fun _ _ => rfl) rfl rfl [] ?_
  ((conv => whnf) <;> repeat ((with_reducible refine Drawn.mk (by kernel_rfl) ?_) <;> conv => whnf))
  refine ⟨[], [some 0, some 1, some 2], ?_⟩
  iterate 3 constructor
  refine ⟨⟨?_, ?_, ?_⟩, rfl, rfl, rfl⟩
  all_goals (repeat' (first | (with_reducible exact Lz.rfl) | (exact Lw.rfl) | (exact Lz.wrap (by omega)) | ((unfold goInt); (with_reducible exact Lz.rfl)) | constructor))
theorem nextL_ok (x : LeadS) : VC E0 53 3 [.ptr 0 0] (stL x) (RR (.s (.int .i64 x.nxt)) 3 (stL x)) := by
  refine VC.enterR L0 (show E0.func 53 = some Try.f53 by kernel_rfl) (fun _ _ => rfl) rfl rfl [] ?_
  ((conv => whnf) <;> repeat ((with_reducible refine Drawn.mk (by kernel_rfl) ?_) <;> conv => whnf))
  refine ⟨[], [some 0, some 1, some 2], ?_⟩
  iterate 3 constructor
  refine ⟨⟨?_, ?_, ?_⟩, rfl, rfl, rfl⟩
  all_goals (repeat' (first | (with_reducible exact Lz.rfl) | (exact Lw.rfl) | (exact Lz.wrap (by omega)) | ((unfold goInt); (with_reducible exact Lz.rfl)) | constructor))
/-- A command in the next slot. -/
def layS (x : LeadS) (c : Cmd) : LeadS := { x with opn := putA x.opn x.nxt (c, 0), nxt := x.nxt + 1 }
theorem lay_ok (x : LeadS) (c : Cmd) (h : -1000000 ≤ x.nxt ∧ x.nxt ≤ 1000000) : VC E0 100 3 [.ptr 0 0, cT4 c] (stL x) (RR (.s (.int .i64 x.nxt)) 3 (stL (layS x c))) := by
  refine VC.enterR L0 (show E0.func 100 = some Try.f100 by kernel_rfl) (fun _ _ => rfl) rfl rfl [] ?_
  ((conv => whnf) <;> repeat ((with_reducible refine Drawn.mk (by kernel_rfl) ?_) <;> conv => whnf))
  refine ⟨[], [some 0, some 1, some 2], ?_⟩
  iterate 3 constructor
  refine ⟨⟨?_, ?_, ?_⟩, rfl, rfl, rfl⟩
  all_goals (repeat' (first | (with_reducible exact Lz.rfl) | (exact Lw.rfl) | (exact Lz.wrap (by omega)) | ((unfold goInt); (with_reducible exact Lz.rfl)) | constructor))
  · exact Lz.int (IntWalk.i64_in _ (by omega))
  · exact Lz.of (putM_A .i64 encP x.nxt (c, 0) x.opn)
def noCmd : Cmd := ⟨0, 0, 0, 0⟩
def voteS (x : LeadS) (n : Int) : Vote := .of n x.b ((lookA x.opn n).getD (noCmd, 0)).1
theorem voteL_ok (x : LeadS) (n : Int) : VC E0 99 3 [.ptr 0 0, .s (.int .i64 n)] (stL x) (RR (.agg (encV (voteS x n))) 3 (stL x)) := by
  refine VC.enterR L0 (show E0.func 99 = some Try.f99 by kernel_rfl) (fun _ _ => rfl) rfl rfl [] ?_
  ((conv => whnf) <;> repeat ((with_reducible refine Drawn.mk (by kernel_rfl) ?_) <;> conv => whnf))
  have hl := lookM_A .i64 .i64 encP n x.opn
  have hv : voteS x n = .of n x.b ((lookA x.opn n).getD (noCmd, 0)).1 := rfl
  cases h : lookA x.opn n with
  | none =>
    rw [h] at hl hv
    refine ⟨_, hl, ?_⟩
    ((conv => whnf) <;> repeat ((with_reducible refine Drawn.mk (by kernel_rfl) ?_) <;> conv => whnf))
    rw [hv]
    refine ⟨[], [some 0, some 1, some 2], ?_⟩
    iterate 3 constructor
    refine ⟨⟨?_, ?_, ?_⟩, rfl, rfl, rfl⟩
    all_goals (repeat' (first | (with_reducible exact Lz.rfl) | (exact Lw.rfl) | (exact Lz.wrap (by omega)) | ((unfold goInt); (with_reducible exact Lz.rfl)) | constructor))
  | some p =>
    rw [h] at hl hv
    refine ⟨_, hl, ?_⟩
    ((conv => whnf) <;> repeat ((with_reducible refine Drawn.mk (by kernel_rfl) ?_) <;> conv => whnf))
    rw [hv]
    refine ⟨[], [some 0, some 1, some 2], ?_⟩
    iterate 3 constructor
    refine ⟨⟨?_, ?_, ?_⟩, rfl, rfl, rfl⟩
    all_goals (repeat' (first | (with_reducible exact Lz.rfl) | (exact Lw.rfl) | (exact Lz.wrap (by omega)) | ((unfold goInt); (with_reducible exact Lz.rfl)) | constructor))
end Go.M

namespace Go.M
open Go Go.Proofs
set_option maxRecDepth 100000
set_option maxHeartbeats 2000000
theorem cloneV_ok (vs : List Vote) (hl : vs.length < 1000000) : VC E0 92 0 [encVs vs] [] (RR (.tk 0) 1 [(0, .arr 6 true (vs.map encV))]) := by
  refine VC.enterR L0 (show E0.func 92 = some Try.f92 by kernel_rfl) (fun _ _ => rfl) rfl rfl [] ?_
  ((conv => whnf) <;> repeat ((with_reducible refine Drawn.mk (by kernel_rfl) ?_) <;> conv => whnf))
  refine ⟨fun h => ?_, ?_⟩
  · have h : vs = [] := by simpa using h
    subst h
    ((conv => whnf) <;> repeat ((with_reducible refine Drawn.mk (by kernel_rfl) ?_) <;> conv => whnf))
    refine ⟨[], [none], ?_⟩
    iterate 3 constructor
    refine ⟨⟨?_, ?_, ?_⟩, rfl, rfl, rfl⟩
    all_goals (repeat' (first | (with_reducible exact Lz.rfl) | (exact Lw.rfl) | (exact Lz.wrap (by omega)) | ((unfold goInt); (with_reducible exact Lz.rfl)) | constructor))
  · ((conv => whnf) <;> repeat ((with_reducible refine Drawn.mk (by kernel_rfl) ?_) <;> conv => whnf))
    refine ⟨by simp; omega, ?_⟩
    ((conv => whnf) <;> repeat ((with_reducible refine Drawn.mk (by kernel_rfl) ?_) <;> conv => whnf))
    refine ⟨[], [some 1], ?_⟩
    iterate 3 constructor
    refine ⟨⟨?_, ?_, ?_⟩, rfl, rfl, rfl⟩
    all_goals (repeat' (first | (with_reducible exact Lz.rfl) | (exact Lw.rfl) | (exact Lz.wrap (by omega)) | ((unfold goInt); (with_reducible exact Lz.rfl)) | constructor))
def badV (frm : Int) (v : Vote) : Bool := decide (v.slot < frm ∨ v.slot ≥ 512)
def delV (frm : Int) (vs : List Vote) : List Vote := vs.filter fun v => !(badV frm v)
@[reducible] def stC (x : LeadS) : Ob := [(0, .cells [.ptr 1 0]), (1, leadO x 2 3), (2, cameO x), (3, openO x)]
@[reducible] def stD (x : LeadS) (vs : List Vote) : Ob := [(0, .arr 6 true (vs.map encV)), (1, .cells [.ptr 2 0]), (2, leadO x 3 4), (3, cameO x), (4, openO x)]
theorem bad_ok (x : LeadS) (v : Vote) : VC E0 93 4 [.agg (encV v), .ptr 0 0] (stC x) (RR (.s (.bool (badV x.frm v))) 4 (stC x)) := by
  refine VC.enterR L0 (show E0.func 93 = some Try.f93 by kernel_rfl) (fun _ _ => rfl) rfl rfl [] ?_
  ((conv => whnf) <;> repeat ((with_reducible refine Drawn.mk (by kernel_rfl) ?_) <;> conv => whnf))
  (first | (refine ⟨fun h1 => ?_, fun h1 => ?_⟩) | (refine nsplit (fun h1 => ?_) (fun h1 => ?_)) | (refine bsplit (fun h1 => ?_) (fun h1 => ?_))) <;> have hz_ := True.intro <;> clear hz_
  · have h1 : v.slot < x.frm := h1
    ((conv => whnf) <;> repeat ((with_reducible refine Drawn.mk (by kernel_rfl) ?_) <;> conv => whnf))
    refine ⟨[], [some 0, some 1, some 2, some 3], ?_⟩
    iterate 3 constructor
    refine ⟨⟨?_, ?_, ?_⟩, rfl, rfl, rfl⟩
    all_goals (repeat' (first | (with_reducible exact Lz.rfl) | (exact Lw.rfl) | (exact Lz.wrap (by omega)) | ((unfold goInt); (with_reducible exact Lz.rfl)) | constructor))
    exact Lz.of (bool_eq (Eq.symm (decide_eq_true (.inl h1))))
  · have h1 : ¬ v.slot < x.frm := h1
    ((conv => whnf) <;> repeat ((with_reducible refine Drawn.mk (by kernel_rfl) ?_) <;> conv => whnf))
    (first | (refine ⟨fun h2 => ?_, fun h2 => ?_⟩) | (refine nsplit (fun h2 => ?_) (fun h2 => ?_)) | (refine bsplit (fun h2 => ?_) (fun h2 => ?_))) <;> have hz_ := True.intro <;> clear hz_
    · have h2 : v.slot ≥ 512 := h2
      ((conv => whnf) <;> repeat ((with_reducible refine Drawn.mk (by kernel_rfl) ?_) <;> conv => whnf))
      refine ⟨[], [some 0, some 1, some 2, some 3], ?_⟩
      iterate 3 constructor
      refine ⟨⟨?_, ?_, ?_⟩, rfl, rfl, rfl⟩
      all_goals (repeat' (first | (with_reducible exact Lz.rfl) | (exact Lw.rfl) | (exact Lz.wrap (by omega)) | ((unfold goInt); (with_reducible exact Lz.rfl)) | constructor))
      exact Lz.of (bool_eq (Eq.symm (decide_eq_true (.inr h2))))
    · have h2 : ¬ v.slot ≥ 512 := h2
      ((conv => whnf) <;> repeat ((with_reducible refine Drawn.mk (by kernel_rfl) ?_) <;> conv => whnf))
      refine ⟨[], [some 0, some 1, some 2, some 3], ?_⟩
      iterate 3 constructor
      refine ⟨⟨?_, ?_, ?_⟩, rfl, rfl, rfl⟩
      all_goals (repeat' (first | (with_reducible exact Lz.rfl) | (exact Lw.rfl) | (exact Lz.wrap (by omega)) | ((unfold goInt); (with_reducible exact Lz.rfl)) | constructor))
      exact Lz.of (bool_eq (Eq.symm (decide_eq_false fun h => h.elim h1 h2)))
theorem idxV_ok (x : LeadS) (vs : List Vote) (hl : vs.length < 1000000) : VC E0 125 5 [.tk 0, .clo 93 [] [.ptr 1 0]] (stD x vs)
    (fun r o c => ∃ i : Int, r = .s (.int .i64 i) ∧ c = 5 ∧ o = stD x vs ∧ ((i = -1 ∧ ∀ v ∈ vs, badV x.frm v = false) ∨ ∃ j : Nat, ∃ h : j < vs.length, i = j ∧ (∀ v ∈ vs.take j, badV x.frm v = false) ∧ badV x.frm vs[j] = true)) := by
  refine VC.enterR L0 (show E0.func 125 = some Try.f125 by kernel_rfl) (fun _ _ => rfl) rfl rfl [] ?_
  ((conv => whnf) <;> repeat ((with_reducible refine Drawn.mk (by kernel_rfl) ?_) <;> conv => whnf))
  refine ⟨fun k f o c => ∃ j : Nat, j ≤ vs.length ∧ k = vs.length - j ∧ (∀ v ∈ vs.take j, badV x.frm v = false) ∧ c = 5 ∧ f = [(0, .tk 0), (1, .clo 93 [] [.ptr 1 0]), (7, .s (.int .i64 vs.length)), (8, .s (.int .i64 j))] ∧ o = stD x vs, ⟨vs.length, ?_⟩, ?_⟩
  · refine ⟨[], [some 0, some 1, some 2, some 3, some 4], ?_⟩
    iterate 3 constructor
    refine ⟨⟨?_, ?_, ?_⟩, ⟨0, Nat.zero_le _, rfl, by simp, rfl, rfl, rfl⟩⟩
    all_goals (repeat' (first | (with_reducible exact Lz.rfl) | (exact Lw.rfl) | (exact Lz.wrap (by omega)) | ((unfold goInt); (with_reducible exact Lz.rfl)) | constructor))
    all_goals exact Lz.of (by simp [goInt])
  · rintro k f1 o1 c1 ⟨j, hj, rfl, hb, rfl, rfl, rfl⟩
    ((conv => whnf) <;> repeat ((with_reducible refine Drawn.mk (by kernel_rfl) ?_) <;> conv => whnf))
    (first | (refine ⟨fun h => ?_, fun h => ?_⟩) | (refine nsplit (fun h => ?_) (fun h => ?_)) | (refine bsplit (fun h => ?_) (fun h => ?_))) <;> have hz_ := True.intro <;> clear hz_
    · have h : j < vs.length := by simpa using h
      ((conv => whnf) <;> repeat ((with_reducible refine Drawn.mk (by kernel_rfl) ?_) <;> conv => whnf))
      refine ⟨⟨by omega, by simp; omega⟩, encV vs[j], by simp [h], ?_⟩
      ((conv => whnf) <;> repeat ((with_reducible refine Drawn.mk (by kernel_rfl) ?_) <;> conv => whnf))
      refine ⟨[], [some 1, some 2, some 3, some 4], _, _, _, _, bad_ok x vs[j], ⟨by (repeat' (first | (with_reducible exact Lz.rfl) | (exact Lw.rfl) | (exact Lz.wrap (by omega)) | ((unfold goInt); (with_reducible exact Lz.rfl)) | constructor)), by (repeat' (first | (with_reducible exact Lz.rfl) | (exact Lw.rfl) | (exact Lz.wrap (by omega)) | ((unfold goInt); (with_reducible exact Lz.rfl)) | constructor)), by rfl⟩, ?_⟩
      rintro r o' c' ⟨rfl, rfl, rfl⟩
      have hz_ := True.intro
      clear hz_
      cases hv : badV x.frm vs[j]
      · ((conv => whnf) <;> repeat ((with_reducible refine Drawn.mk (by kernel_rfl) ?_) <;> conv => whnf))
        refine ⟨vs.length - (j + 1), ?_, by omega⟩
        refine ⟨[], [some 0, some 1, some 2, some 3, some 4], ?_⟩
        iterate 3 constructor
        refine ⟨⟨?_, ?_, ?_⟩, ⟨j + 1, h, rfl, by intro v hv'; rw [List.take_succ_eq_append_getElem h] at hv'; rcases List.mem_append.1 hv' with h1 | h1; exact hb v h1; simp at h1; subst h1; exact hv, rfl, rfl, rfl⟩⟩
        all_goals (repeat' (first | (with_reducible exact Lz.rfl) | (exact Lw.rfl) | (exact Lz.wrap (by omega)) | ((unfold goInt); (with_reducible exact Lz.rfl)) | constructor))
      · ((conv => whnf) <;> repeat ((with_reducible refine Drawn.mk (by kernel_rfl) ?_) <;> conv => whnf))
        refine ⟨[], [some 0, some 1, some 2, some 3, some 4], ?_⟩
        iterate 3 constructor
        refine ⟨⟨?_, ?_, ?_⟩, (j : Int), rfl, rfl, rfl, .inr ⟨j, h, rfl, hb, hv⟩⟩
        all_goals (repeat' (first | (with_reducible exact Lz.rfl) | (exact Lw.rfl) | (exact Lz.wrap (by omega)) | ((unfold goInt); (with_reducible exact Lz.rfl)) | constructor))
    · have h' : j = vs.length := by have : ¬ j < vs.length := by simpa using h
                                    omega
      subst h'
      rw [List.take_length] at hb
      ((conv => whnf) <;> repeat ((with_reducible refine Drawn.mk (by kernel_rfl) ?_) <;> conv => whnf))
      refine ⟨[], [some 0, some 1, some 2, some 3, some 4], ?_⟩
      iterate 3 constructor
      refine ⟨⟨?_, ?_, ?_⟩, -1, rfl, rfl, rfl, .inl ⟨rfl, hb⟩⟩
      all_goals (repeat' (first | (with_reducible exact Lz.rfl) | (exact Lw.rfl) | (exact Lz.wrap (by omega)) | ((unfold goInt); (with_reducible exact Lz.rfl)) | constructor))
theorem delV_all {frm : Int} {vs : List Vote} (h : ∀ v ∈ vs, badV frm v = false) : delV frm vs = vs := by
  unfold delV
  rw [List.filter_eq_self]
  intro v hv; rw [h v hv]; rfl
theorem delV_snoc (frm : Int) (vs : List Vote) (j : Nat) (h : j < vs.length) : delV frm (vs.take (j + 1)) = delV frm (vs.take j) ++ (if badV frm vs[j] = true then [] else [vs[j]]) := by
  unfold delV
  rw [List.take_succ_eq_append_getElem h, List.filter_append]
  congr 1
  by_cases hb : badV frm vs[j] = true <;> simp [hb]
theorem delf_ok (x : LeadS) (vs : List Vote) (hl : vs.length < 1000000) : VC E0 91 5 [.tk 0, .clo 93 [] [.ptr 1 0]] (stD x vs)
    (RR (encVs (delV x.frm vs)) 5 [(1, .cells [.ptr 2 0]), (2, leadO x 3 4), (3, cameO x), (4, openO x)]) := by
  refine VC.enterR L0 (show E0.func 91 = some Try.f91 by kernel_rfl) (fun _ _ => rfl) rfl rfl [] ?_
  ((conv => whnf) <;> repeat ((with_reducible refine Drawn.mk (by kernel_rfl) ?_) <;> conv => whnf))
  refine ⟨[], [some 0, some 1, some 2, some 3, some 4], _, _, _, _, idxV_ok x vs hl, ⟨by (repeat' (first | (with_reducible exact Lz.rfl) | (exact Lw.rfl) | (exact Lz.wrap (by omega)) | ((unfold goInt); (with_reducible exact Lz.rfl)) | constructor)), by (repeat' (first | (with_reducible exact Lz.rfl) | (exact Lw.rfl) | (exact Lz.wrap (by omega)) | ((unfold goInt); (with_reducible exact Lz.rfl)) | constructor)), by rfl⟩, ?_⟩
  rintro r o' c' ⟨i0, rfl, rfl, rfl, hi0⟩
  ((conv => whnf) <;> repeat ((with_reducible refine Drawn.mk (by kernel_rfl) ?_) <;> conv => whnf))
  (first | (refine ⟨fun hm => ?_, fun hm => ?_⟩) | (refine nsplit (fun hm => ?_) (fun hm => ?_)) | (refine bsplit (fun hm => ?_) (fun hm => ?_))) <;> have hz_ := True.intro <;> clear hz_
  · have hm : i0 = -1 := hm
    rcases hi0 with ⟨_, hall⟩ | ⟨j, h, e, _, _⟩
    · ((conv => whnf) <;> repeat ((with_reducible refine Drawn.mk (by kernel_rfl) ?_) <;> conv => whnf))
      refine ⟨[0], [some 0, some 1, some 2, some 3, some 4], ?_⟩
      iterate 3 constructor
      refine ⟨⟨?_, ?_, ?_⟩, rfl, rfl, rfl⟩
      all_goals (repeat' (first | (with_reducible exact Lz.rfl) | (exact Lw.rfl) | (exact Lz.wrap (by omega)) | ((unfold goInt); (with_reducible exact Lz.rfl)) | constructor))
      rw [delV_all hall]; exact Lz.rfl
    · omega
  · have hm : ¬ i0 = -1 := hm
    rcases hi0 with ⟨e, _⟩ | ⟨j0, h0, rfl, hb0, hv0⟩
    · exact absurd e hm
    ((conv => whnf) <;> repeat ((with_reducible refine Drawn.mk (by kernel_rfl) ?_) <;> conv => whnf))
    refine ⟨fun k f o c => ∃ (i j : Nat) (ws : List Vote), i < j ∧ j ≤ vs.length ∧ k = vs.length - j ∧ ws.length = vs.length ∧ ws.take i = delV x.frm (vs.take j) ∧ ws.drop j = vs.drop j ∧ c = 5 ∧ f = [(0, .tk 0), (1, .clo 93 [] [.ptr 1 0]), (5, .s (.int .i64 i)), (6, .s (.int .i64 j))] ∧ o = stD x ws, ⟨vs.length - (j0 + 1), ?_⟩, ?_⟩
    · refine ⟨[], [some 0, some 1, some 2, some 3, some 4], ?_⟩
      iterate 3 constructor
      refine ⟨⟨?_, ?_, ?_⟩, ⟨j0, j0 + 1, vs, by omega, h0, rfl, rfl, (by rw [delV_snoc _ _ _ h0, if_pos hv0, List.append_nil]; exact (delV_all hb0).symm), rfl, rfl, rfl, rfl⟩⟩
      all_goals (repeat' (first | (with_reducible exact Lz.rfl) | (exact Lw.rfl) | (exact Lz.wrap (by omega)) | ((unfold goInt); (with_reducible exact Lz.rfl)) | constructor))
    · rintro k f1 o1 c1 ⟨i, j, ws, hij, hj, rfl, hlen, htk, hdr, rfl, rfl, rfl⟩
      ((conv => whnf) <;> repeat ((with_reducible refine Drawn.mk (by kernel_rfl) ?_) <;> conv => whnf))
      (first | (refine ⟨fun h => ?_, fun h => ?_⟩) | (refine nsplit (fun h => ?_) (fun h => ?_)) | (refine bsplit (fun h => ?_) (fun h => ?_))) <;> have hz_ := True.intro <;> clear hz_
      · have h : j < vs.length := by rw [List.length_map, hlen] at h; omega
        have hw : ws[j]? = some vs[j] := by
          have := congrArg (fun l => l[0]?) hdr
          simpa [h] using this
        have hdr1 : ws.drop (j + 1) = vs.drop (j + 1) := by
          have := congrArg (List.drop 1) hdr
          simpa [List.drop_drop, Nat.add_comm] using this
        ((conv => whnf) <;> repeat ((with_reducible refine Drawn.mk (by kernel_rfl) ?_) <;> conv => whnf))
        refine ⟨⟨by omega, by simp; omega⟩, encV vs[j], by simp [hw], ?_⟩
        ((conv => whnf) <;> repeat ((with_reducible refine Drawn.mk (by kernel_rfl) ?_) <;> conv => whnf))
        refine ⟨[], [some 1, some 2, some 3, some 4], _, _, _, _, bad_ok x vs[j], ⟨by (repeat' (first | (with_reducible exact Lz.rfl) | (exact Lw.rfl) | (exact Lz.wrap (by omega)) | ((unfold goInt); (with_reducible exact Lz.rfl)) | constructor)), by (repeat' (first | (with_reducible exact Lz.rfl) | (exact Lw.rfl) | (exact Lz.wrap (by omega)) | ((unfold goInt); (with_reducible exact Lz.rfl)) | constructor)), by rfl⟩, ?_⟩
        rintro r o' c' ⟨rfl, rfl, rfl⟩
        have hz_ := True.intro
        clear hz_
        cases hv : badV x.frm vs[j]
        · ((conv => whnf) <;> repeat ((with_reducible refine Drawn.mk (by kernel_rfl) ?_) <;> conv => whnf))
          refine ⟨⟨by omega, by simp; omega⟩, encV (ws[i]'(by omega)), by simp [show i < ws.length by omega], ?_⟩
          ((conv => whnf) <;> repeat ((with_reducible refine Drawn.mk (by kernel_rfl) ?_) <;> conv => whnf))
          refine ⟨vs.length - (j + 1), ?_, by omega⟩
          refine ⟨[], [some 0, some 1, some 2, some 3, some 4], ?_⟩
          iterate 3 constructor
          refine ⟨⟨?_, ?_, ?_⟩, ⟨i + 1, j + 1, ws.set i vs[j], by omega, h, rfl, by simpa using hlen, (by rw [delV_snoc _ _ _ h, if_neg (by simp [hv]), List.take_succ_eq_append_getElem (by simp; omega), List.take_set_of_le (Nat.le_refl _), htk]; simp), (by rw [List.drop_set_of_lt (by omega)]; exact hdr1), rfl, rfl, rfl⟩⟩
          all_goals (repeat' (first | (with_reducible exact Lz.rfl) | (exact Lw.rfl) | (exact Lz.wrap (by omega)) | ((unfold goInt); (with_reducible exact Lz.rfl)) | constructor))
          refine Lz.of ?_
          rw [List.map_set]; rfl
        · ((conv => whnf) <;> repeat ((with_reducible refine Drawn.mk (by kernel_rfl) ?_) <;> conv => whnf))
          refine ⟨vs.length - (j + 1), ?_, by omega⟩
          refine ⟨[], [some 0, some 1, some 2, some 3, some 4], ?_⟩
          iterate 3 constructor
          refine ⟨⟨?_, ?_, ?_⟩, ⟨i, j + 1, ws, by omega, h, rfl, hlen, (by rw [delV_snoc _ _ _ h, if_pos hv, List.append_nil]; exact htk), hdr1, rfl, rfl, rfl⟩⟩
          all_goals (repeat' (first | (with_reducible exact Lz.rfl) | (exact Lw.rfl) | (exact Lz.wrap (by omega)) | ((unfold goInt); (with_reducible exact Lz.rfl)) | constructor))
      · have h' : j = vs.length := by have : ¬ (j : Int) < (((ws.map encV).length : Nat) : Int) := h
                                      rw [List.length_map, hlen] at this; omega
        subst h'
        rw [List.take_length] at htk
        ((conv => whnf) <;> repeat ((with_reducible refine Drawn.mk (by kernel_rfl) ?_) <;> conv => whnf))
        refine ⟨⟨by omega, by simp; try omega, by simp⟩, .inr ?_⟩
        ((conv => whnf) <;> repeat ((with_reducible refine Drawn.mk (by kernel_rfl) ?_) <;> conv => whnf))
        refine ⟨fun hc => absurd hc (by simp; omega), fun _ => ?_⟩
        ((conv => whnf) <;> repeat ((with_reducible refine Drawn.mk (by kernel_rfl) ?_) <;> conv => whnf))
        refine ⟨⟨by omega, by simp; try omega, by simp; try omega⟩, ?_⟩
        ((conv => whnf) <;> repeat ((with_reducible refine Drawn.mk (by kernel_rfl) ?_) <;> conv => whnf))
        refine ⟨[], [some 0, some 1, some 2, some 3, some 4], ?_⟩
        iterate 3 constructor
        refine ⟨⟨?_, ?_, ?_⟩, rfl, rfl, rfl⟩
        all_goals (repeat' (first | (with_reducible exact Lz.rfl) | (exact Lw.rfl) | (exact Lz.wrap (by omega)) | ((unfold goInt); (with_reducible exact Lz.rfl)) | constructor))
        refine Lz.of ?_
        rw [← htk]
        simp [List.take_append, show i ≤ ws.length by omega]
end Go.M

namespace Go.M
open Go Go.Proofs
set_option maxRecDepth 100000
set_option maxHeartbeats 2000000
theorem keysP_ok (es : List (Value × TV)) : VC E0 102 1 [.mp 0] [(0, .map (kIdx .i64) es)] (fun r o c => r = .clo 134 [] [.ptr 1 0] ∧ c = 2 ∧ o = [(1, .cells [.mp 0]), (0, .map (kIdx .i64) es)]) := by
  refine VC.enterR L0 (show E0.func 102 = some Try.f102 by kernel_rfl) (fun _ _ => rfl) rfl rfl [] ?_
  ((conv => whnf) <;> repeat ((with_reducible refine Drawn.mk (by kernel_rfl) ?_) <;> conv => whnf))
  refine ⟨[], [some 0, some 1], ?_⟩
  iterate 3 constructor
  refine ⟨⟨?_, ?_, ?_⟩, rfl, rfl, rfl⟩
  all_goals (repeat' (first | (with_reducible exact Lz.rfl) | (exact Lw.rfl) | (exact Lz.wrap (by omega)) | ((unfold goInt); (with_reducible exact Lz.rfl)) | constructor))
theorem keysC_ok (es : List (Value × TV)) : VC E0 95 1 [.mp 0] [(0, .map (kIdx .i64) es)] (fun r o c => r = .clo 127 [] [.ptr 1 0] ∧ c = 2 ∧ o = [(1, .cells [.mp 0]), (0, .map (kIdx .i64) es)]) := by
  refine VC.enterR L0 (show E0.func 95 = some Try.f95 by kernel_rfl) (fun _ _ => rfl) rfl rfl [] ?_
  ((conv => whnf) <;> repeat ((with_reducible refine Drawn.mk (by kernel_rfl) ?_) <;> conv => whnf))
  refine ⟨[], [some 0, some 1], ?_⟩
  iterate 3 constructor
  refine ⟨⟨?_, ?_, ?_⟩, rfl, rfl, rfl⟩
  all_goals (repeat' (first | (with_reducible exact Lz.rfl) | (exact Lw.rfl) | (exact Lz.wrap (by omega)) | ((unfold goInt); (with_reducible exact Lz.rfl)) | constructor))
theorem hasSorted : (E0.func 101).isSome = true := by kernel_rfl
theorem sortedA_ok {α : Type} (f : α → TV) (k : Nat) (hk : memN k [123, 134, 127] = true) (es : List (Int × α)) (hok : ksOk (keysA es)) :
    VC E0 101 2 [.clo k [] [.ptr 1 0]] [(0, .map (kIdx .i64) (es.map (encA .i64 f))), (1, .cells [.mp 0])] (fun r o c => r = .tk 2 ∧ c = 3 ∧
      o = [(2, .arr 1 true ((sortZ (keysA es)).map encI1)), (0, .map (kIdx .i64) (es.map (encA .i64 f))), (1, .cells [.mp 0])]) :=
  VC.sortedO (E := E0) (g := 101) (its := [123, 134, 127]) (k := k) hasSorted (fun _ _ => rfl) hk (y := .map (kIdx .i64) (es.map (encA .i64 f))) (ks := keysA es) (by show (es.map (encA .i64 f)).map (·.1) = _; exact keysM_A _ _ _) hok
/-- Proposals, as votes by rising slots. -/
def openV (x : LeadS) : List Vote := (sortZ (keysA x.opn)).map (voteS x)
theorem openL_ok (x : LeadS) (hok : ksOk (keysA x.opn)) (hlen : x.opn.length < 1000000) : VC E0 56 3 [.ptr 0 0] (stL x) (RR (encVs (openV x)) 3 (stL x)) := by
  refine VC.enterR L0 (show E0.func 56 = some Try.f56 by kernel_rfl) (fun _ _ => rfl) rfl rfl [] ?_
  ((conv => whnf) <;> repeat ((with_reducible refine Drawn.mk (by kernel_rfl) ?_) <;> conv => whnf))
  refine ⟨[], [some 2], _, _, _, _, keysP_ok _, ⟨by (repeat' (first | (with_reducible exact Lz.rfl) | (exact Lw.rfl) | (exact Lz.wrap (by omega)) | ((unfold goInt); (with_reducible exact Lz.rfl)) | constructor)), by (repeat' (first | (with_reducible exact Lz.rfl) | (exact Lw.rfl) | (exact Lz.wrap (by omega)) | ((unfold goInt); (with_reducible exact Lz.rfl)) | constructor)), by rfl⟩, ?_⟩
  rintro r o' c' ⟨rfl, rfl, rfl⟩
  ((conv => whnf) <;> repeat ((with_reducible refine Drawn.mk (by kernel_rfl) ?_) <;> conv => whnf))
  refine ⟨[], [some 2, some 4], _, _, _, _, sortedA_ok encP _ rfl x.opn hok, ⟨by (repeat' (first | (with_reducible exact Lz.rfl) | (exact Lw.rfl) | (exact Lz.wrap (by omega)) | ((unfold goInt); (with_reducible exact Lz.rfl)) | constructor)), by (repeat' (first | (with_reducible exact Lz.rfl) | (exact Lw.rfl) | (exact Lz.wrap (by omega)) | ((unfold goInt); (with_reducible exact Lz.rfl)) | constructor)), by rfl⟩, ?_⟩
  rintro r o' c' ⟨rfl, rfl, rfl⟩
  ((conv => whnf) <;> repeat ((with_reducible refine Drawn.mk (by kernel_rfl) ?_) <;> conv => whnf))
  have hv : openV x = (sortZ (keysA x.opn)).map (voteS x) := rfl
  have hl1 : (sortZ (keysA x.opn)).length < 1000000 := by rw [sortZ_len]; simpa using hlen
  generalize hks : sortZ (keysA x.opn) = ks at *
  refine ⟨fun k f o c => ∃ i : Nat, i ≤ ks.length ∧ k = ks.length - i ∧ c = 5 ∧ f = [(0, .ptr 0 0), (3, .tk 3), (13, .tk 4), (14, .s (.int .i64 ks.length)), (15, .s (.int .i64 i))] ∧ o = [(0, leadO x 1 2), (1, cameO x), (2, openO x), (3, .arr 6 true (((ks.take i).map (voteS x)).map encV)), (4, .arr 1 true (ks.map encI1))], ⟨ks.length, ?_⟩, ?_⟩
  · refine ⟨[], [some 0, some 1, some 2, none, some 7], ?_⟩
    iterate 3 constructor
    refine ⟨⟨?_, ?_, ?_⟩, ⟨0, Nat.zero_le _, rfl, rfl, rfl, rfl⟩⟩
    all_goals (repeat' (first | (with_reducible exact Lz.rfl) | (exact Lw.rfl) | (exact Lz.wrap (by omega)) | ((unfold goInt); (with_reducible exact Lz.rfl)) | constructor))
    all_goals exact Lz.of (by simp [goInt])
  · rintro k f1 o1 c1 ⟨i, hi, rfl, rfl, rfl, rfl⟩
    ((conv => whnf) <;> repeat ((with_reducible refine Drawn.mk (by kernel_rfl) ?_) <;> conv => whnf))
    (first | (refine ⟨fun h => ?_, fun h => ?_⟩) | (refine nsplit (fun h => ?_) (fun h => ?_)) | (refine bsplit (fun h => ?_) (fun h => ?_))) <;> have hz_ := True.intro <;> clear hz_
    · have h : i < ks.length := by simpa using h
      ((conv => whnf) <;> repeat ((with_reducible refine Drawn.mk (by kernel_rfl) ?_) <;> conv => whnf))
      refine ⟨⟨by omega, by simp; omega⟩, encI1 ks[i], by simp [h], ?_⟩
      ((conv => whnf) <;> repeat ((with_reducible refine Drawn.mk (by kernel_rfl) ?_) <;> conv => whnf))
      refine ⟨[], [some 0, some 1, some 2], _, _, _, _, voteL_ok x ks[i], ⟨by (repeat' (first | (with_reducible exact Lz.rfl) | (exact Lw.rfl) | (exact Lz.wrap (by omega)) | ((unfold goInt); (with_reducible exact Lz.rfl)) | constructor)), by (repeat' (first | (with_reducible exact Lz.rfl) | (exact Lw.rfl) | (exact Lz.wrap (by omega)) | ((unfold goInt); (with_reducible exact Lz.rfl)) | constructor)), by rfl⟩, ?_⟩
      rintro r o' c' ⟨rfl, rfl, rfl⟩
      ((conv => whnf) <;> repeat ((with_reducible refine Drawn.mk (by kernel_rfl) ?_) <;> conv => whnf))
      refine ⟨by simp; omega, ?_⟩
      ((conv => whnf) <;> repeat ((with_reducible refine Drawn.mk (by kernel_rfl) ?_) <;> conv => whnf))
      refine ⟨ks.length - (i + 1), ?_, by omega⟩
      refine ⟨[], [some 0, some 1, some 2, some 9, some 4], ?_⟩
      iterate 3 constructor
      refine ⟨⟨?_, ?_, ?_⟩, ⟨i + 1, h, rfl, rfl, rfl, rfl⟩⟩
      all_goals (repeat' (first | (with_reducible exact Lz.rfl) | (exact Lw.rfl) | (exact Lz.wrap (by omega)) | ((unfold goInt); (with_reducible exact Lz.rfl)) | constructor))
      refine Lz.of ?_
      rw [List.take_succ_eq_append_getElem h, List.map_append, List.map_append]; rfl
    · have h' : i = ks.length := by have : ¬ i < ks.length := by simpa using h
                                    omega
      subst h'
      rw [List.take_length, ← hv]
      ((conv => whnf) <;> repeat ((with_reducible refine Drawn.mk (by kernel_rfl) ?_) <;> conv => whnf))
      refine ⟨[3], [some 0, some 1, some 2], ?_⟩
      iterate 3 constructor
      refine ⟨⟨?_, ?_, ?_⟩, rfl, rfl, rfl⟩
      all_goals (repeat' (first | (with_reducible exact Lz.rfl) | (exact Lw.rfl) | (exact Lz.wrap (by omega)) | ((unfold goInt); (with_reducible exact Lz.rfl)) | constructor))
/-- Everybody's votes, by who told them. -/
def allL (x : LeadS) : List (List Vote) := (sortZ (keysA x.came)).map fun w => (lookA x.came w).getD []
theorem all_ok (x : LeadS) (hok : ksOk (keysA x.came)) (hlen : x.came.length < 1000000) : VC E0 130 3 [.ptr 0 0] (stL x) (RR (.sl 1 ((allL x).map encL) false) 3 (stL x)) := by
  refine VC.enterR L0 (show E0.func 130 = some Try.f130 by kernel_rfl) (fun _ _ => rfl) rfl rfl [] ?_
  ((conv => whnf) <;> repeat ((with_reducible refine Drawn.mk (by kernel_rfl) ?_) <;> conv => whnf))
  refine ⟨[], [some 1], _, _, _, _, keysC_ok _, ⟨by (repeat' (first | (with_reducible exact Lz.rfl) | (exact Lw.rfl) | (exact Lz.wrap (by omega)) | ((unfold goInt); (with_reducible exact Lz.rfl)) | constructor)), by (repeat' (first | (with_reducible exact Lz.rfl) | (exact Lw.rfl) | (exact Lz.wrap (by omega)) | ((unfold goInt); (with_reducible exact Lz.rfl)) | constructor)), by rfl⟩, ?_⟩
  rintro r o' c' ⟨rfl, rfl, rfl⟩
  ((conv => whnf) <;> repeat ((with_reducible refine Drawn.mk (by kernel_rfl) ?_) <;> conv => whnf))
  refine ⟨[], [some 1, some 4], _, _, _, _, sortedA_ok encVs _ rfl x.came hok, ⟨by (repeat' (first | (with_reducible exact Lz.rfl) | (exact Lw.rfl) | (exact Lz.wrap (by omega)) | ((unfold goInt); (with_reducible exact Lz.rfl)) | constructor)), by (repeat' (first | (with_reducible exact Lz.rfl) | (exact Lw.rfl) | (exact Lz.wrap (by omega)) | ((unfold goInt); (with_reducible exact Lz.rfl)) | constructor)), by rfl⟩, ?_⟩
  rintro r o' c' ⟨rfl, rfl, rfl⟩
  ((conv => whnf) <;> repeat ((with_reducible refine Drawn.mk (by kernel_rfl) ?_) <;> conv => whnf))
  have hv : allL x = (sortZ (keysA x.came)).map fun w => (lookA x.came w).getD [] := rfl
  have hmem : ∀ w ∈ sortZ (keysA x.came), w ∈ keysA x.came := fun w hw => mem_sortZ.1 hw
  have hl1 : (sortZ (keysA x.came)).length < 1000000 := by rw [sortZ_len]; simpa using hlen
  generalize hks : sortZ (keysA x.came) = ks at *
  refine ⟨fun k f o c => ∃ i : Nat, i ≤ ks.length ∧ k = ks.length - i ∧ c = 5 ∧ f = [(0, .ptr 0 0), (3, .tk 3), (11, .tk 4), (12, .s (.int .i64 ks.length)), (13, .s (.int .i64 i))] ∧ o = [(0, leadO x 1 2), (1, cameO x), (2, openO x), (3, .arr 1 true (((ks.take i).map fun w => (lookA x.came w).getD []).map encL)), (4, .arr 1 true (ks.map encI1))], ⟨ks.length, ?_⟩, ?_⟩
  · refine ⟨[], [some 0, some 1, some 2, none, some 7], ?_⟩
    iterate 3 constructor
    refine ⟨⟨?_, ?_, ?_⟩, ⟨0, Nat.zero_le _, rfl, rfl, rfl, rfl⟩⟩
    all_goals (repeat' (first | (with_reducible exact Lz.rfl) | (exact Lw.rfl) | (exact Lz.wrap (by omega)) | ((unfold goInt); (with_reducible exact Lz.rfl)) | constructor))
    all_goals exact Lz.of (by simp [goInt])
  · rintro k f1 o1 c1 ⟨i, hi, rfl, rfl, rfl, rfl⟩
    ((conv => whnf) <;> repeat ((with_reducible refine Drawn.mk (by kernel_rfl) ?_) <;> conv => whnf))
    (first | (refine ⟨fun h => ?_, fun h => ?_⟩) | (refine nsplit (fun h => ?_) (fun h => ?_)) | (refine bsplit (fun h => ?_) (fun h => ?_))) <;> have hz_ := True.intro <;> clear hz_
    · have h : i < ks.length := by simpa using h
      ((conv => whnf) <;> repeat ((with_reducible refine Drawn.mk (by kernel_rfl) ?_) <;> conv => whnf))
      refine ⟨⟨by omega, by simp; omega⟩, encI1 ks[i], by simp [h], ?_⟩
      ((conv => whnf) <;> repeat ((with_reducible refine Drawn.mk (by kernel_rfl) ?_) <;> conv => whnf))
      have hlk := lookM_A .i64 .i64 encVs ks[i] x.came
      have hsn : ((ks.take (i + 1)).map fun w => (lookA x.came w).getD []).map encL = ((ks.take i).map fun w => (lookA x.came w).getD []).map encL ++ [encL ((lookA x.came ks[i]).getD [])] := by
        rw [List.take_succ_eq_append_getElem h, List.map_append, List.map_append]; rfl
      cases hc : lookA x.came ks[i] with
      | none => exact absurd (hmem _ (List.getElem_mem h)) (lookA_none.1 hc)
      | some vs =>
        rw [hc] at hlk hsn
        refine ⟨_, hlk, ?_⟩
        ((conv => whnf) <;> repeat ((with_reducible refine Drawn.mk (by kernel_rfl) ?_) <;> conv => whnf))
        refine ⟨by simp; omega, ?_⟩
        ((conv => whnf) <;> repeat ((with_reducible refine Drawn.mk (by kernel_rfl) ?_) <;> conv => whnf))
        refine ⟨ks.length - (i + 1), ?_, by omega⟩
        refine ⟨[], [some 0, some 1, some 2, some 6, some 4], ?_⟩
        iterate 3 constructor
        refine ⟨⟨?_, ?_, ?_⟩, ⟨i + 1, h, rfl, rfl, rfl, rfl⟩⟩
        all_goals (repeat' (first | (with_reducible exact Lz.rfl) | (exact Lw.rfl) | (exact Lz.wrap (by omega)) | ((unfold goInt); (with_reducible exact Lz.rfl)) | constructor))
        refine Lz.of ?_
        rw [hsn]; rfl
    · have h' : i = ks.length := by have : ¬ i < ks.length := by simpa using h
                                    omega
      subst h'
      rw [List.take_length, ← hv]
      ((conv => whnf) <;> repeat ((with_reducible refine Drawn.mk (by kernel_rfl) ?_) <;> conv => whnf))
      refine ⟨[3], [some 0, some 1, some 2], ?_⟩
      iterate 3 constructor
      refine ⟨⟨?_, ?_, ?_⟩, rfl, rfl, rfl⟩
      all_goals (repeat' (first | (with_reducible exact Lz.rfl) | (exact Lw.rfl) | (exact Lz.wrap (by omega)) | ((unfold goInt); (with_reducible exact Lz.rfl)) | constructor))
end Go.M

namespace Go.M
open Go Go.Proofs
set_option maxRecDepth 100000
set_option maxHeartbeats 4000000
def cmdOf (v : Vote) : Cmd := ⟨v.kind, v.chain, v.epoch, v.node⟩
def layN (x : LeadS) : Nat → LeadS
  | 0 => x
  | m + 1 => layS (layN x m) noCmd
theorem layN_nxt (x : LeadS) : ∀ m, (layN x m).nxt = x.nxt + m
  | 0 => by simp [layN]
  | m + 1 => by simp [layN, layS, layN_nxt x m]; omega
def layUp (x : LeadS) (s : Int) : LeadS := layN x (s - x.nxt).toNat
def fillL (x : LeadS) (l : List Vote) : LeadS := l.foldl (fun x v => layS (layUp x v.slot) (cmdOf v)) x
theorem fillL_snoc (x : LeadS) (l : List Vote) (v : Vote) : fillL x (l ++ [v]) = layS (layUp (fillL x l) v.slot) (cmdOf v) := by simp [fillL]
theorem bestE1_mem {es : List (Int × Vote)} (h : KB es) {v : Vote} {e : Int × Vote} (he : e ∈ bestE1 es v) : e.2 = v ∨ e ∈ es := by
  unfold bestE1 at he
  split at he
  · rcases (putE_mem h.mv.nd).1 he with rfl | ⟨_, h⟩
    · exact .inl rfl
    · exact .inr h
  · split at he
    · rcases (putE_mem h.mv.nd).1 he with rfl | ⟨_, h⟩
      · exact .inl rfl
      · exact .inr h
    · exact .inr he
theorem bestE_mem {l : List Vote} (hl : ∀ v ∈ l, inI v.slot) {e : Int × Vote} (he : e ∈ bestE l) : e.2 ∈ l := by
  have : ∀ (l : List Vote) (es : List (Int × Vote)), KB es → (∀ v ∈ l, inI v.slot) → ∀ e ∈ l.foldl bestE1 es, e.2 ∈ l ∨ e ∈ es := by
    intro l
    induction l with
    | nil => intro es _ _ e he; exact .inr he
    | cons v l ih =>
      intro es h hv e he
      obtain ⟨h1, _, _⟩ := bestE1_kb h (hv v List.mem_cons_self)
      rcases ih _ h1 (fun w hw => hv w (List.mem_cons_of_mem _ hw)) e he with h2 | h2
      · exact .inl (List.mem_cons_of_mem _ h2)
      · rcases bestE1_mem h h2 with h3 | h3
        · rw [h3]; exact .inl List.mem_cons_self
        · exact .inr h3
  rcases this l [] ⟨⟨by simp, by simp⟩, by simp⟩ hl e he with h | h
  · exact h
  · cases h
theorem bestV_mem {l : List (List Vote)} (hl : ∀ x ∈ l, ∀ v ∈ x, inI v.slot) {v : Vote} (hv : v ∈ bestV l) : ∃ x ∈ l, v ∈ x := by
  have hf : ∀ v ∈ l.flatten, inI v.slot := fun v hv => by obtain ⟨x, hx, hv⟩ := List.mem_flatten.1 hv; exact hl x hx v hv
  have := bestE_mem hf ((mem_allV (bestE_kb hf).1.mv).1 hv)
  obtain ⟨x, hx, hv⟩ := List.mem_flatten.1 this
  exact ⟨x, hx, hv⟩
/-- What a leader was told may be. -/
structure CameOk (x : LeadS) : Prop where
  nd : (keysA x.came).Nodup
  k5 : ∀ w ∈ keysA x.came, m5 w
  l40 : ∀ e ∈ x.came, e.2.length ≤ 40 ∧ ∀ v ∈ e.2, inI v.slot ∧ v.slot < 512
theorem nodup_le : ∀ (n : Nat) (l : List Int), l.Nodup → (∀ w ∈ l, 1 ≤ w ∧ w ≤ n) → l.length ≤ n
  | 0, l, _, h => by
    cases l with
    | nil => simp
    | cons a _ => have := h a (by simp); omega
  | n + 1, l, hn, h => by
    have h1 := nodup_le n (l.erase ((n + 1 : Nat) : Int)) (hn.erase _) fun w hw => by
      obtain ⟨q1, q2⟩ := hn.mem_erase_iff.1 hw
      have := h w q2; omega
    rw [List.length_erase] at h1
    split at h1 <;> omega
theorem nodup5 {l : List Int} (h : l.Nodup) (h5 : ∀ w ∈ l, m5 w) : l.length ≤ 5 := nodup_le 5 l h fun w hw => by have := h5 w hw; unfold m5 at this; omega
theorem CameOk.len {x : LeadS} (h : CameOk x) : x.came.length ≤ 5 := by have := nodup5 h.nd h.k5; simpa using this
theorem m5_in {w : Int} (h : m5 w) : IntKind.i64.min ≤ w ∧ w ≤ IntKind.i64.max := by
  unfold m5 at h
  have h1 : IntKind.i64.min = -9223372036854775808 := rfl
  have h2 : IntKind.i64.max = 9223372036854775807 := rfl
  omega
theorem CameOk.ks {x : LeadS} (h : CameOk x) : ksOk (keysA x.came) := ⟨by have := h.len; simp; omega, fun w hw => m5_in (h.k5 w hw), h.nd⟩
theorem CameOk.all {x : LeadS} (h : CameOk x) : (allL x).length ≤ 8 ∧ ∀ l ∈ allL x, l.length ≤ 40 ∧ ∀ v ∈ l, inI v.slot ∧ v.slot < 512 := by
  refine ⟨by have := h.len; simp [allL, sortZ_len]; omega, fun l hl => ?_⟩
  obtain ⟨w, hw, rfl⟩ := List.mem_map.1 hl
  cases hc : lookA x.came w with
  | none => simp
  | some vs => exact h.l40 _ ((lookA_some h.nd).1 hc)
theorem fill_ok (x : LeadS) (h : CameOk x) (hn : 0 ≤ x.nxt ∧ x.nxt ≤ 512) : VC E0 97 3 [.ptr 0 0] (stL x) (RR (.tup []) 3 (stL (fillL x (bestV (allL x))))) := by
  obtain ⟨a1, a2⟩ := h.all
  have hB : ∀ v ∈ bestV (allL x), v.slot < 512 := fun v hv => by
    obtain ⟨l, hl, hv⟩ := bestV_mem (fun l hl v hv => ((a2 l hl).2 v hv).1) hv
    exact ((a2 l hl).2 v hv).2
  have hBl : (bestV (allL x)).length ≤ 320 := by
    obtain ⟨_, hlen⟩ := bestE_kb (l := (allL x).flatten) (fun v hv => by obtain ⟨l, hl, hv⟩ := List.mem_flatten.1 hv; exact ((a2 l hl).2 v hv).1)
    have := flat_len8 a1 (fun l hl => (a2 l hl).1) (i := (allL x).length)
    rw [List.take_length] at this
    unfold bestV; rw [allV_len]; omega
  refine VC.enterR L0 (show E0.func 97 = some Try.f97 by kernel_rfl) (fun _ _ => rfl) rfl rfl [] ?_
  ((conv => whnf) <;> repeat ((with_reducible refine Drawn.mk (by kernel_rfl) ?_) <;> conv => whnf))
  refine ⟨[], [some 0, some 1, some 2], _, _, _, _, all_ok x h.ks (by have := h.len; omega), ⟨by (repeat' (first | (with_reducible exact Lz.rfl) | (exact Lw.rfl) | (exact Lz.wrap (by omega)) | ((unfold goInt); (with_reducible exact Lz.rfl)) | constructor)), by (repeat' (first | (with_reducible exact Lz.rfl) | (exact Lw.rfl) | (exact Lz.wrap (by omega)) | ((unfold goInt); (with_reducible exact Lz.rfl)) | constructor)), by rfl⟩, ?_⟩
  rintro r o' c' ⟨rfl, rfl, rfl⟩
  ((conv => whnf) <;> repeat ((with_reducible refine Drawn.mk (by kernel_rfl) ?_) <;> conv => whnf))
  refine ⟨[], [], _, _, _, _, best_ok (allL x) a1 (fun l hl => (a2 l hl).1) (fun l hl v hv => ((a2 l hl).2 v hv).1), ⟨by (repeat' (first | (with_reducible exact Lz.rfl) | (exact Lw.rfl) | (exact Lz.wrap (by omega)) | ((unfold goInt); (with_reducible exact Lz.rfl)) | constructor)), by (repeat' (first | (with_reducible exact Lz.rfl) | (exact Lw.rfl) | (exact Lz.wrap (by omega)) | ((unfold goInt); (with_reducible exact Lz.rfl)) | constructor)), by rfl⟩, ?_⟩
  rintro r o' c' ⟨rfl, rfl, rfl⟩
  ((conv => whnf) <;> repeat ((with_reducible refine Drawn.mk (by kernel_rfl) ?_) <;> conv => whnf))
  generalize hBe : bestV (allL x) = B at *
  refine ⟨fun k f o c => ∃ (i : Nat) (y : LeadS), i ≤ B.length ∧ k = B.length - i ∧ y = fillL x (B.take i) ∧ 0 ≤ y.nxt ∧ y.nxt ≤ 512 + i ∧ c = 3 ∧ f = [(0, .ptr 0 0), (6, .sl 6 (B.map encV) false), (7, .s (.int .i64 B.length)), (8, .s (.int .i64 i))] ∧ o = stL y, ⟨B.length, ?_⟩, ?_⟩
  · refine ⟨[], [some 0, some 1, some 2], ?_⟩
    iterate 3 constructor
    refine ⟨⟨?_, ?_, ?_⟩, ⟨0, x, Nat.zero_le _, rfl, rfl, hn.1, by have := hn.2; simpa using this, rfl, rfl, rfl⟩⟩
    all_goals (repeat' (first | (with_reducible exact Lz.rfl) | (exact Lw.rfl) | (exact Lz.wrap (by omega)) | ((unfold goInt); (with_reducible exact Lz.rfl)) | constructor))
    all_goals exact Lz.of (by simp [goInt])
  · rintro k f1 o1 c1 ⟨i, y, hi, rfl, hy, hy0, hy1, rfl, rfl, rfl⟩
    ((conv => whnf) <;> repeat ((with_reducible refine Drawn.mk (by kernel_rfl) ?_) <;> conv => whnf))
    (first | (refine ⟨fun hl => ?_, fun hl => ?_⟩) | (refine nsplit (fun hl => ?_) (fun hl => ?_)) | (refine bsplit (fun hl => ?_) (fun hl => ?_))) <;> have hz_ := True.intro <;> clear hz_
    · have hl : i < B.length := by simpa using hl
      have hsl := hB _ (List.getElem_mem hl)
      have hsn : fillL x (B.take (i + 1)) = layS (layUp y B[i].slot) (cmdOf B[i]) := by rw [List.take_succ_eq_append_getElem hl, fillL_snoc, hy]
      ((conv => whnf) <;> repeat ((with_reducible refine Drawn.mk (by kernel_rfl) ?_) <;> conv => whnf))
      refine idxI hl ?_
      ((conv => whnf) <;> repeat ((with_reducible refine Drawn.mk (by kernel_rfl) ?_) <;> conv => whnf))
      generalize hve : B[i] = v at *
      refine ⟨fun k f o c => ∃ m : Nat, m ≤ (v.slot - y.nxt).toNat ∧ k = (v.slot - y.nxt).toNat - m ∧ c = 4 ∧ f = [(0, .ptr 0 0), (3, .ptr 3 0), (6, .sl 6 (B.map encV) false), (7, .s (.int .i64 B.length)), (8, .s (.int .i64 i))] ∧ o = [(0, leadO (layN y m) 1 2), (1, cameO (layN y m)), (2, openO (layN y m)), (3, .cells (encV v))], ⟨(v.slot - y.nxt).toNat, ?_⟩, ?_⟩
      · refine ⟨[], [some 0, some 1, some 2, some 3], ?_⟩
        iterate 3 constructor
        refine ⟨⟨?_, ?_, ?_⟩, ⟨0, Nat.zero_le _, rfl, rfl, rfl, rfl⟩⟩
        all_goals (repeat' (first | (with_reducible exact Lz.rfl) | (exact Lw.rfl) | (exact Lz.wrap (by omega)) | ((unfold goInt); (with_reducible exact Lz.rfl)) | constructor))
      · rintro k f1 o1 c1 ⟨m, hm, rfl, rfl, rfl, rfl⟩
        have hnx := layN_nxt y m
        ((conv => whnf) <;> repeat ((with_reducible refine Drawn.mk (by kernel_rfl) ?_) <;> conv => whnf))
        (first | (refine ⟨fun hlt => ?_, fun hlt => ?_⟩) | (refine nsplit (fun hlt => ?_) (fun hlt => ?_)) | (refine bsplit (fun hlt => ?_) (fun hlt => ?_))) <;> have hz_ := True.intro <;> clear hz_
        · have hlt : (layN y m).nxt < v.slot := hlt
          ((conv => whnf) <;> repeat ((with_reducible refine Drawn.mk (by kernel_rfl) ?_) <;> conv => whnf))
          refine ⟨[], [some 0, some 1, some 2], _, _, _, _, lay_ok (layN y m) noCmd (by omega), ⟨by (repeat' (first | (with_reducible exact Lz.rfl) | (exact Lw.rfl) | (exact Lz.wrap (by omega)) | ((unfold goInt); (with_reducible exact Lz.rfl)) | constructor)), by (repeat' (first | (with_reducible exact Lz.rfl) | (exact Lw.rfl) | (exact Lz.wrap (by omega)) | ((unfold goInt); (with_reducible exact Lz.rfl)) | constructor)), by rfl⟩, ?_⟩
          rintro r o' c' ⟨rfl, rfl, rfl⟩
          ((conv => whnf) <;> repeat ((with_reducible refine Drawn.mk (by kernel_rfl) ?_) <;> conv => whnf))
          refine ⟨(v.slot - y.nxt).toNat - (m + 1), ?_, by omega⟩
          refine ⟨[], [some 0, some 1, some 2, some 3], ?_⟩
          iterate 3 constructor
          refine ⟨⟨?_, ?_, ?_⟩, ⟨m + 1, by omega, rfl, rfl, rfl, rfl⟩⟩
          all_goals (repeat' (first | (with_reducible exact Lz.rfl) | (exact Lw.rfl) | (exact Lz.wrap (by omega)) | ((unfold goInt); (with_reducible exact Lz.rfl)) | constructor))
        · have hlt : ¬ (layN y m).nxt < v.slot := hlt
          have hme : m = (v.slot - y.nxt).toNat := by omega
          have hup : layUp y v.slot = layN y m := by rw [hme]; rfl
          ((conv => whnf) <;> repeat ((with_reducible refine Drawn.mk (by kernel_rfl) ?_) <;> conv => whnf))
          refine ⟨[], [some 0, some 1, some 2], _, _, _, _, lay_ok (layN y m) (cmdOf v) (by omega), ⟨by (repeat' (first | (with_reducible exact Lz.rfl) | (exact Lw.rfl) | (exact Lz.wrap (by omega)) | ((unfold goInt); (with_reducible exact Lz.rfl)) | constructor)), by (repeat' (first | (with_reducible exact Lz.rfl) | (exact Lw.rfl) | (exact Lz.wrap (by omega)) | ((unfold goInt); (with_reducible exact Lz.rfl)) | constructor)), by rfl⟩, ?_⟩
          rintro r o' c' ⟨rfl, rfl, rfl⟩
          ((conv => whnf) <;> repeat ((with_reducible refine Drawn.mk (by kernel_rfl) ?_) <;> conv => whnf))
          refine ⟨B.length - (i + 1), ?_, by omega⟩
          rw [hup] at hsn
          refine ⟨[], [some 0, some 1, some 2], ?_⟩
          iterate 3 constructor
          refine ⟨⟨?_, ?_, ?_⟩, ⟨i + 1, layS (layN y m) (cmdOf v), hl, rfl, hsn.symm, by simp [layS]; omega, by simp [layS]; omega, rfl, rfl, rfl⟩⟩
          all_goals (repeat' (first | (with_reducible exact Lz.rfl) | (exact Lw.rfl) | (exact Lz.wrap (by omega)) | ((unfold goInt); (with_reducible exact Lz.rfl)) | constructor))
    · have h' : i = B.length := by have : ¬ i < B.length := by simpa using hl
                                   omega
      subst h'
      rw [List.take_length] at hy
      subst hy
      ((conv => whnf) <;> repeat ((with_reducible refine Drawn.mk (by kernel_rfl) ?_) <;> conv => whnf))
      refine ⟨[], [some 0, some 1, some 2], ?_⟩
      iterate 3 constructor
      refine ⟨⟨?_, ?_, ?_⟩, rfl, rfl, rfl⟩
      all_goals (repeat' (first | (with_reducible exact Lz.rfl) | (exact Lw.rfl) | (exact Lz.wrap (by omega)) | ((unfold goInt); (with_reducible exact Lz.rfl)) | constructor))
theorem collectC_ok (x : LeadS) (hok : ksOk (keysA x.came)) (h0 : x.came ≠ []) : VC E0 80 2 [.clo 127 [] [.ptr 1 0]] [(0, cameO x), (1, .cells [.mp 0])] (fun r o c => r = .bg 2 (keysA x.came).length ∧ c = 3 ∧
      o = [(2, .bag (keysA x.came)), (0, cameO x), (1, .cells [.mp 0])]) :=
  VC.collect (E := E0) (g := 80) (its := [123, 127]) (k := 127) (by kernel_rfl) (fun _ _ => rfl) rfl (y := cameO x) (ks := keysA x.came) (by show (x.came.map (encA .i64 encVs)).map (·.1) = _; exact keysM_A _ _ _) hok (by intro e; simp [keysA] at e; exact h0 e)
theorem withB_ok (ks : List Int) (h0 : 0 < ks.length) (hl : ks.length < 1000000) (h5 : ∀ w ∈ ks, m5 w) : VC E0 94 1 [.s (.int .u64 0), .bg 0 ks.length] [(0, .bag ks)] (fun r o c => r = .s (.int .u64 (withN 0 ks)) ∧ c = 1 ∧ o = [(0, .bag ks)]) :=
  VC.bagged (E := E0) (g := 94) (val := withVal) (pre := [.int .u64 0]) (by kernel_rfl) (fun _ _ => rfl) (by simp [scalar]) h0 (v := .int .u64 (withN 0 ks)) (withVal_some h5 hl) rfl
/-- A promise is taken. -/
@[reducible] def promC (x : LeadS) (who : Int) (vs : List Vote) : LeadS := { x with came := if who ∈ keysA x.came then x.came else x.came ++ [(who, delV x.frm vs)] }
def promS (x : LeadS) (b who : Int) (vs : List Vote) : LeadS × List Vote × Bool :=
  if (x.st = 1 ∧ x.b = b) ∧ 1 ≤ who ∧ who ≤ x.masters then
    (if enoughN (withN 0 (keysA (promC x who vs).came)) x.masters = true then
      (let y := fillL { promC x who vs with st := 2 } (bestV (allL { promC x who vs with st := 2 })); (y, openV y, true))
    else (promC x who vs, [], false))
  else (x, [], false)
theorem promC_ok {x : LeadS} (h : CameOk x) {who : Int} (hw : m5 who) {vs : List Vote} (hl : vs.length ≤ 40) (hv : ∀ v ∈ vs, inI v.slot) : CameOk (promC x who vs) ∧ (promC x who vs).came ≠ [] := by
  unfold promC
  by_cases hm : who ∈ keysA x.came
  · simp only [hm, if_true]
    exact ⟨⟨h.nd, h.k5, h.l40⟩, by rintro e; simp [e, keysA] at hm⟩
  · simp only [hm, if_false]
    refine ⟨⟨?_, fun w hw' => ?_, fun e he => ?_⟩, by simp⟩
    · simp only [keysA, List.map_append, List.nodup_append]
      exact ⟨h.nd, by simp, fun a ha b hb => by simp at hb; subst hb; rintro rfl; exact hm ha⟩
    · simp only [keysA, List.map_append, List.mem_append] at hw'
      rcases hw' with h1 | h1
      · exact h.k5 w h1
      · simp at h1; subst h1; exact hw
    · rcases List.mem_append.1 he with h1 | h1
      · exact h.l40 e h1
      · simp at h1; subst h1
        refine ⟨Nat.le_trans (List.length_filter_le _ _) hl, fun v hv' => ?_⟩
        obtain ⟨q1, q2⟩ := List.mem_filter.1 hv'
        exact ⟨hv v q1, by simp [badV] at q2; omega⟩
end Go.M
