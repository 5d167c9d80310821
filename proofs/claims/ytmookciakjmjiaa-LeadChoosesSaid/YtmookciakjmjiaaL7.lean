/-
  Part 7 of the library that the proof leans on.
-/
import Derived.KernelRfl
import Derived.Test.YtmookciakjmjiaaL6
namespace Go.M
open Go Go.Proofs
set_option maxRecDepth 100000
set_option maxHeartbeats 4000000
structure OpnOk (x : LeadS) : Prop where
  nd : (keysA x.opn).Nodup
  rng : ∀ n ∈ keysA x.opn, 0 ≤ n ∧ n < x.nxt
theorem OpnOk.lay {x : LeadS} (h : OpnOk x) (hn : 0 ≤ x.nxt) (c : Cmd) : OpnOk (layS x c) := by
  refine ⟨putA_nodup h.nd, fun n hm => ?_⟩
  have hm : n ∈ keysA (putA x.opn x.nxt (c, 0)) := hm
  rw [putA_keys] at hm
  show 0 ≤ n ∧ n < x.nxt + 1
  split at hm
  · have := h.rng n hm; omega
  · rcases List.mem_append.1 hm with h1 | h1
    · have := h.rng n h1; omega
    · simp at h1; omega
theorem OpnOk.layN {x : LeadS} (h : OpnOk x) (hn : 0 ≤ x.nxt) : ∀ m, OpnOk (layN x m)
  | 0 => h
  | m + 1 => (OpnOk.layN h hn m).lay (by rw [layN_nxt]; omega) noCmd
theorem OpnOk.fill {x : LeadS} (h : OpnOk x) (hn : 0 ≤ x.nxt) : ∀ l : List Vote, OpnOk (fillL x l) ∧ 0 ≤ (fillL x l).nxt ∧ ((∀ v ∈ l, v.slot < 512) → x.nxt ≤ 512 → (fillL x l).nxt ≤ 512 + l.length) := by
  intro l
  induction l generalizing x with
  | nil => exact ⟨h, hn, fun _ hx => by simpa [fillL] using hx⟩
  | cons v l ih =>
    have e : fillL x (v :: l) = fillL (layS (layUp x v.slot) (cmdOf v)) l := by simp [fillL]
    have h1 : (layUp x v.slot).nxt = x.nxt + (v.slot - x.nxt).toNat := layN_nxt x _
    have h2 : OpnOk (layUp x v.slot) := h.layN hn _
    have h3 : (layS (layUp x v.slot) (cmdOf v)).nxt = (layUp x v.slot).nxt + 1 := rfl
    rw [e]
    have gen : ∀ (l : List Vote) (y : LeadS) (k : Nat), (∀ v ∈ l, v.slot < 512) → 0 ≤ y.nxt → y.nxt ≤ 512 + k → (fillL y l).nxt ≤ 512 + k + l.length := by
      intro l
      induction l with
      | nil => intro y k _ _ hy; simpa [fillL] using hy
      | cons v l ih =>
        intro y k hv hy0 hy
        have e : fillL y (v :: l) = fillL (layS (layUp y v.slot) (cmdOf v)) l := by simp [fillL]
        have h1 : (layUp y v.slot).nxt = y.nxt + (v.slot - y.nxt).toNat := layN_nxt y _
        have h3 : (layS (layUp y v.slot) (cmdOf v)).nxt = (layUp y v.slot).nxt + 1 := rfl
        have := hv v List.mem_cons_self
        have := ih (layS (layUp y v.slot) (cmdOf v)) (k + 1) (fun w hw => hv w (List.mem_cons_of_mem _ hw)) (by omega) (by omega)
        rw [e, List.length_cons]
        omega
    obtain ⟨q1, q2, _⟩ := ih (h2.lay (by omega) (cmdOf v)) (by omega)
    refine ⟨q1, q2, fun hv hx => ?_⟩
    have := hv v List.mem_cons_self
    have := gen l (layS (layUp x v.slot) (cmdOf v)) 1 (fun w hw => hv w (List.mem_cons_of_mem _ hw)) (by omega) (by omega)
    rw [List.length_cons]; omega
theorem OpnOk.len {x : LeadS} (h : OpnOk x) (hn : x.nxt ≤ 100000) : x.opn.length ≤ 100000 := by
  have h2 : ((keysA x.opn).map (· + 1)).Nodup := by
    refine List.Pairwise.map _ ?_ h.nd
    intro a b hab e; exact hab (by omega)
  have := nodup_le 100000 ((keysA x.opn).map (· + 1)) h2 fun w hw => by
    obtain ⟨n, hn', rfl⟩ := List.mem_map.1 hw
    have := h.rng n hn'; omega
  simpa using this
theorem OpnOk.ks {x : LeadS} (h : OpnOk x) (hn : x.nxt ≤ 100000) : ksOk (keysA x.opn) := by
  refine ⟨by have := h.len hn; simp; omega, fun n hm => ?_, h.nd⟩
  have := h.rng n hm
  have h1 : IntKind.i64.min = -9223372036854775808 := rfl
  have h2 : IntKind.i64.max = 9223372036854775807 := rfl
  omega
theorem bestV_len {l : List (List Vote)} (h8 : l.length ≤ 8) (h40 : ∀ x ∈ l, x.length ≤ 40) (hr : ∀ x ∈ l, ∀ v ∈ x, inI v.slot) : (bestV l).length ≤ 320 := by
  obtain ⟨_, hlen⟩ := bestE_kb (l := l.flatten) (fun v hv => by obtain ⟨x, hx, hv⟩ := List.mem_flatten.1 hv; exact hr x hx v hv)
  have := flat_len8 h8 h40 (i := l.length)
  rw [List.take_length] at this
  unfold bestV; rw [allV_len]; omega
theorem fill_opn {x : LeadS} (h : CameOk x) (ho : OpnOk x) (hn : 0 ≤ x.nxt ∧ x.nxt ≤ 512) : OpnOk (fillL x (bestV (allL x))) ∧ 0 ≤ (fillL x (bestV (allL x))).nxt ∧ (fillL x (bestV (allL x))).nxt ≤ 832 := by
  obtain ⟨a1, a2⟩ := h.all
  obtain ⟨q1, q2, q3⟩ := ho.fill hn.1 (bestV (allL x))
  have := bestV_len a1 (fun l hl => (a2 l hl).1) (fun l hl v hv => ((a2 l hl).2 v hv).1)
  have := q3 (fun v hv => by
    obtain ⟨l, hl, hv⟩ := bestV_mem (fun l hl v hv => ((a2 l hl).2 v hv).1) hv
    exact ((a2 l hl).2 v hv).2) hn.2
  exact ⟨q1, q2, by omega⟩
theorem keysA_ne {α : Type} {es : List (Int × α)} (h : es ≠ []) : 0 < (keysA es).length := by
  simp only [keysA, List.length_map]; exact List.length_pos_iff.2 h
theorem promise_ok (x : LeadS) (b who : Int) (vs : List Vote) (hc : CameOk x) (ho : OpnOk x) (hm : m5 x.masters) (hl : vs.length ≤ 40) (hv : ∀ v ∈ vs, inI v.slot) (hn : 0 ≤ x.nxt ∧ x.nxt ≤ 512) :
    VC E0 52 3 [.ptr 0 0, .s (.int .u64 b), .s (.int .i64 who), encVs vs] (stL x) (RR (.tup [encVs (promS x b who vs).2.1, .s (.bool (promS x b who vs).2.2)]) 3 (stL (promS x b who vs).1)) := by
  refine VC.enterR L0 (show E0.func 52 = some Try.f52 by kernel_rfl) (fun _ _ => rfl) rfl rfl [] ?_
  ((conv => whnf) <;> repeat ((with_reducible refine Drawn.mk (by kernel_rfl) ?_) <;> conv => whnf))
  refine ⟨[], [some 0, some 1, some 2], _, _, _, _, isL_ok x 1 b, ⟨by (repeat' (first | (with_reducible exact Lz.rfl) | (exact Lw.rfl) | (exact Lz.wrap (by omega)) | ((unfold goInt); (with_reducible exact Lz.rfl)) | constructor)), by (repeat' (first | (with_reducible exact Lz.rfl) | (exact Lw.rfl) | (exact Lz.wrap (by omega)) | ((unfold goInt); (with_reducible exact Lz.rfl)) | constructor)), by rfl⟩, ?_⟩
  rintro r o' c' ⟨rfl, rfl, rfl⟩
  have hz_ := True.intro
  clear hz_
  cases h1 : decide (x.st = 1 ∧ x.b = b)
  · have e : promS x b who vs = (x, [], false) := by unfold promS; rw [if_neg fun h => of_decide_eq_false h1 h.1]
    rw [e]
    ((conv => whnf) <;> repeat ((with_reducible refine Drawn.mk (by kernel_rfl) ?_) <;> conv => whnf))
    refine ⟨[], [some 0, some 1, some 2], ?_⟩
    iterate 3 constructor
    refine ⟨⟨?_, ?_, ?_⟩, rfl, rfl, rfl⟩
    all_goals (repeat' (first | (with_reducible exact Lz.rfl) | (exact Lw.rfl) | (exact Lz.wrap (by omega)) | ((unfold goInt); (with_reducible exact Lz.rfl)) | constructor))
  · ((conv => whnf) <;> repeat ((with_reducible refine Drawn.mk (by kernel_rfl) ?_) <;> conv => whnf))
    refine ⟨[], [some 0, some 1, some 2], _, _, _, _, isM_ok x who, ⟨by (repeat' (first | (with_reducible exact Lz.rfl) | (exact Lw.rfl) | (exact Lz.wrap (by omega)) | ((unfold goInt); (with_reducible exact Lz.rfl)) | constructor)), by (repeat' (first | (with_reducible exact Lz.rfl) | (exact Lw.rfl) | (exact Lz.wrap (by omega)) | ((unfold goInt); (with_reducible exact Lz.rfl)) | constructor)), by rfl⟩, ?_⟩
    rintro r o' c' ⟨rfl, rfl, rfl⟩
    have hz_ := True.intro
    clear hz_
    cases h2 : decide (1 ≤ who ∧ who ≤ x.masters)
    · have e : promS x b who vs = (x, [], false) := by unfold promS; rw [if_neg fun h => of_decide_eq_false h2 h.2]
      rw [e]
      ((conv => whnf) <;> repeat ((with_reducible refine Drawn.mk (by kernel_rfl) ?_) <;> conv => whnf))
      refine ⟨[], [some 0, some 1, some 2], ?_⟩
      iterate 3 constructor
      refine ⟨⟨?_, ?_, ?_⟩, rfl, rfl, rfl⟩
      all_goals (repeat' (first | (with_reducible exact Lz.rfl) | (exact Lw.rfl) | (exact Lz.wrap (by omega)) | ((unfold goInt); (with_reducible exact Lz.rfl)) | constructor))
    · have hw : m5 who := by have := of_decide_eq_true h2; unfold m5 at *; omega
      have hpc := promC_ok hc hw hl hv
      ((conv => whnf) <;> repeat ((with_reducible refine Drawn.mk (by kernel_rfl) ?_) <;> conv => whnf))
      have hlk := lookM_A .i64 .i64 encVs who x.came
      cases hx : lookA x.came who with
      | none =>
        have hnm := lookA_none.1 hx
        rw [hx] at hlk
        refine ⟨_, hlk, ?_⟩
        ((conv => whnf) <;> repeat ((with_reducible refine Drawn.mk (by kernel_rfl) ?_) <;> conv => whnf))
        refine ⟨[], [], _, _, _, _, cloneV_ok vs (by omega), ⟨by (repeat' (first | (with_reducible exact Lz.rfl) | (exact Lw.rfl) | (exact Lz.wrap (by omega)) | ((unfold goInt); (with_reducible exact Lz.rfl)) | constructor)), by (repeat' (first | (with_reducible exact Lz.rfl) | (exact Lw.rfl) | (exact Lz.wrap (by omega)) | ((unfold goInt); (with_reducible exact Lz.rfl)) | constructor)), by rfl⟩, ?_⟩
        rintro r o' c' ⟨rfl, rfl, rfl⟩
        ((conv => whnf) <;> repeat ((with_reducible refine Drawn.mk (by kernel_rfl) ?_) <;> conv => whnf))
        refine ⟨[], [some 10, some 3, some 0, some 1, some 2], _, _, _, _, delf_ok x vs (by omega), ⟨by (repeat' (first | (with_reducible exact Lz.rfl) | (exact Lw.rfl) | (exact Lz.wrap (by omega)) | ((unfold goInt); (with_reducible exact Lz.rfl)) | constructor)), by (repeat' (first | (with_reducible exact Lz.rfl) | (exact Lw.rfl) | (exact Lz.wrap (by omega)) | ((unfold goInt); (with_reducible exact Lz.rfl)) | constructor)), by rfl⟩, ?_⟩
        rintro r o' c' ⟨rfl, rfl, rfl⟩
        ((conv => whnf) <;> repeat ((with_reducible refine Drawn.mk (by kernel_rfl) ?_) <;> conv => whnf))
        refine ⟨[], [some 1], _, _, _, _, keysC_ok _, ⟨by (repeat' (first | (with_reducible exact Lz.rfl) | (exact Lw.rfl) | (exact Lz.wrap (by omega)) | ((unfold goInt); (with_reducible exact Lz.rfl)) | constructor)), by (repeat' (first | (with_reducible exact Lz.rfl) | (exact Lw.rfl) | (exact Lz.wrap (by omega)) | ((unfold goInt); (with_reducible exact Lz.rfl)) | constructor)), by rfl⟩, ?_⟩
        rintro r o' c' ⟨rfl, rfl, rfl⟩
        ((conv => whnf) <;> repeat ((with_reducible refine Drawn.mk (by kernel_rfl) ?_) <;> conv => whnf))
        have hput : putM (x.came.map (encA .i64 encVs)) (.int .i64 who) (encVs (delV x.frm vs)) = (promC x who vs).came.map (encA .i64 encVs) := by
          rw [putM_A, putA_new hnm]; simp [promC, hnm]
        refine ⟨[], [some 1, some 17], _, _, _, _, collectC_ok (promC x who vs) hpc.1.ks hpc.2, ⟨by ((repeat' (first | (with_reducible exact Lz.rfl) | (exact Lw.rfl) | (exact Lz.wrap (by omega)) | ((unfold goInt); (with_reducible exact Lz.rfl)) | constructor)); all_goals (first | exact Lz.of hput | exact hput)), by ((repeat' (first | (with_reducible exact Lz.rfl) | (exact Lw.rfl) | (exact Lz.wrap (by omega)) | ((unfold goInt); (with_reducible exact Lz.rfl)) | constructor)); all_goals (first | exact Lz.of hput | exact hput)), by rfl⟩, ?_⟩
        rintro r o' c' ⟨rfl, rfl, rfl⟩
        ((conv => whnf) <;> repeat ((with_reducible refine Drawn.mk (by kernel_rfl) ?_) <;> conv => whnf))
        refine ⟨[], [some 20], _, _, _, _, withB_ok (keysA (promC x who vs).came) (keysA_ne hpc.2) (by have := nodup5 hpc.1.nd hpc.1.k5; omega) hpc.1.k5, ⟨by (repeat' (first | (with_reducible exact Lz.rfl) | (exact Lw.rfl) | (exact Lz.wrap (by omega)) | ((unfold goInt); (with_reducible exact Lz.rfl)) | constructor)), by (repeat' (first | (with_reducible exact Lz.rfl) | (exact Lw.rfl) | (exact Lz.wrap (by omega)) | ((unfold goInt); (with_reducible exact Lz.rfl)) | constructor)), by rfl⟩, ?_⟩
        rintro r o' c' ⟨rfl, rfl, rfl⟩
        ((conv => whnf) <;> repeat ((with_reducible refine Drawn.mk (by kernel_rfl) ?_) <;> conv => whnf))
        refine ⟨[], [], _, _, _, _, enough_ok (withN 0 (keysA (promC x who vs).came)) x.masters (withN_ev (by decide) hpc.1.k5).1 hm, ⟨by (repeat' (first | (with_reducible exact Lz.rfl) | (exact Lw.rfl) | (exact Lz.wrap (by omega)) | ((unfold goInt); (with_reducible exact Lz.rfl)) | constructor)), by (repeat' (first | (with_reducible exact Lz.rfl) | (exact Lw.rfl) | (exact Lz.wrap (by omega)) | ((unfold goInt); (with_reducible exact Lz.rfl)) | constructor)), by rfl⟩, ?_⟩
        rintro r o' c' ⟨rfl, rfl, rfl⟩
        have hz_ := True.intro
        clear hz_
        cases he : enoughN (withN 0 (keysA (promC x who vs).came)) x.masters
        · have e : promS x b who vs = (promC x who vs, [], false) := by unfold promS; rw [if_pos ⟨of_decide_eq_true h1, of_decide_eq_true h2⟩, if_neg (by simp [he])]
          rw [e]
          ((conv => whnf) <;> repeat ((with_reducible refine Drawn.mk (by kernel_rfl) ?_) <;> conv => whnf))
          refine ⟨[], [some 0, some 1, some 2], ?_⟩
          iterate 3 constructor
          refine ⟨⟨?_, ?_, ?_⟩, rfl, rfl, rfl⟩
          all_goals (repeat' (first | (with_reducible exact Lz.rfl) | (exact Lw.rfl) | (exact Lz.wrap (by omega)) | ((unfold goInt); (with_reducible exact Lz.rfl)) | constructor))
        · have e : promS x b who vs = (fillL { promC x who vs with st := 2 } (bestV (allL { promC x who vs with st := 2 })), openV (fillL { promC x who vs with st := 2 } (bestV (allL { promC x who vs with st := 2 }))), true) := by unfold promS; rw [if_pos ⟨of_decide_eq_true h1, of_decide_eq_true h2⟩, if_pos he]
          have hc2 : CameOk { promC x who vs with st := 2 } := ⟨hpc.1.nd, hpc.1.k5, hpc.1.l40⟩
          obtain ⟨f1, f2, f3⟩ := fill_opn hc2 (⟨ho.nd, ho.rng⟩ : OpnOk { promC x who vs with st := 2 }) hn
          rw [e]
          ((conv => whnf) <;> repeat ((with_reducible refine Drawn.mk (by kernel_rfl) ?_) <;> conv => whnf))
          refine ⟨[], [some 0, some 1, some 2], _, _, _, _, fill_ok { promC x who vs with st := 2 } hc2 hn, ⟨by (repeat' (first | (with_reducible exact Lz.rfl) | (exact Lw.rfl) | (exact Lz.wrap (by omega)) | ((unfold goInt); (with_reducible exact Lz.rfl)) | constructor)), by (repeat' (first | (with_reducible exact Lz.rfl) | (exact Lw.rfl) | (exact Lz.wrap (by omega)) | ((unfold goInt); (with_reducible exact Lz.rfl)) | constructor)), by rfl⟩, ?_⟩
          rintro r o' c' ⟨rfl, rfl, rfl⟩
          ((conv => whnf) <;> repeat ((with_reducible refine Drawn.mk (by kernel_rfl) ?_) <;> conv => whnf))
          generalize fillL { promC x who vs with st := 2 } (bestV (allL { promC x who vs with st := 2 })) = z at *
          refine ⟨[], [some 0, some 1, some 2], _, _, _, _, openL_ok z (f1.ks (by omega)) (by have := f1.len (by omega); omega), ⟨by (repeat' (first | (with_reducible exact Lz.rfl) | (exact Lw.rfl) | (exact Lz.wrap (by omega)) | ((unfold goInt); (with_reducible exact Lz.rfl)) | constructor)), by (repeat' (first | (with_reducible exact Lz.rfl) | (exact Lw.rfl) | (exact Lz.wrap (by omega)) | ((unfold goInt); (with_reducible exact Lz.rfl)) | constructor)), by rfl⟩, ?_⟩
          rintro r o' c' ⟨rfl, rfl, rfl⟩
          ((conv => whnf) <;> repeat ((with_reducible refine Drawn.mk (by kernel_rfl) ?_) <;> conv => whnf))
          refine ⟨[], [some 0, some 1, some 2], ?_⟩
          iterate 3 constructor
          refine ⟨⟨?_, ?_, ?_⟩, rfl, rfl, rfl⟩
          all_goals (repeat' (first | (with_reducible exact Lz.rfl) | (exact Lw.rfl) | (exact Lz.wrap (by omega)) | ((unfold goInt); (with_reducible exact Lz.rfl)) | constructor))
      | some ws =>
        have hmm : who ∈ keysA x.came := Classical.not_not.1 fun hn => by rw [lookA_none.2 hn] at hx; cases hx
        have hcm : x.came = (promC x who vs).came := by simp [promC, hmm]
        rw [hx] at hlk
        refine ⟨_, hlk, ?_⟩
        ((conv => whnf) <;> repeat ((with_reducible refine Drawn.mk (by kernel_rfl) ?_) <;> conv => whnf))
        refine ⟨[], [some 1], _, _, _, _, keysC_ok _, ⟨by (repeat' (first | (with_reducible exact Lz.rfl) | (exact Lw.rfl) | (exact Lz.wrap (by omega)) | ((unfold goInt); (with_reducible exact Lz.rfl)) | constructor)), by (repeat' (first | (with_reducible exact Lz.rfl) | (exact Lw.rfl) | (exact Lz.wrap (by omega)) | ((unfold goInt); (with_reducible exact Lz.rfl)) | constructor)), by rfl⟩, ?_⟩
        rintro r o' c' ⟨rfl, rfl, rfl⟩
        ((conv => whnf) <;> repeat ((with_reducible refine Drawn.mk (by kernel_rfl) ?_) <;> conv => whnf))
        refine ⟨[], [some 1, some 11], _, _, _, _, collectC_ok (promC x who vs) hpc.1.ks hpc.2, ⟨by ((repeat' (first | (with_reducible exact Lz.rfl) | (exact Lw.rfl) | (exact Lz.wrap (by omega)) | ((unfold goInt); (with_reducible exact Lz.rfl)) | constructor)); all_goals (first | exact Lz.of (by rw [← hcm]) | rw [← hcm])), by ((repeat' (first | (with_reducible exact Lz.rfl) | (exact Lw.rfl) | (exact Lz.wrap (by omega)) | ((unfold goInt); (with_reducible exact Lz.rfl)) | constructor)); all_goals (first | exact Lz.of (by rw [← hcm]) | rw [← hcm])), by rfl⟩, ?_⟩
        rintro r o' c' ⟨rfl, rfl, rfl⟩
        ((conv => whnf) <;> repeat ((with_reducible refine Drawn.mk (by kernel_rfl) ?_) <;> conv => whnf))
        refine ⟨[], [some 14], _, _, _, _, withB_ok (keysA (promC x who vs).came) (keysA_ne hpc.2) (by have := nodup5 hpc.1.nd hpc.1.k5; omega) hpc.1.k5, ⟨by (repeat' (first | (with_reducible exact Lz.rfl) | (exact Lw.rfl) | (exact Lz.wrap (by omega)) | ((unfold goInt); (with_reducible exact Lz.rfl)) | constructor)), by (repeat' (first | (with_reducible exact Lz.rfl) | (exact Lw.rfl) | (exact Lz.wrap (by omega)) | ((unfold goInt); (with_reducible exact Lz.rfl)) | constructor)), by rfl⟩, ?_⟩
        rintro r o' c' ⟨rfl, rfl, rfl⟩
        ((conv => whnf) <;> repeat ((with_reducible refine Drawn.mk (by kernel_rfl) ?_) <;> conv => whnf))
        refine ⟨[], [], _, _, _, _, enough_ok (withN 0 (keysA (promC x who vs).came)) x.masters (withN_ev (by decide) hpc.1.k5).1 hm, ⟨by (repeat' (first | (with_reducible exact Lz.rfl) | (exact Lw.rfl) | (exact Lz.wrap (by omega)) | ((unfold goInt); (with_reducible exact Lz.rfl)) | constructor)), by (repeat' (first | (with_reducible exact Lz.rfl) | (exact Lw.rfl) | (exact Lz.wrap (by omega)) | ((unfold goInt); (with_reducible exact Lz.rfl)) | constructor)), by rfl⟩, ?_⟩
        rintro r o' c' ⟨rfl, rfl, rfl⟩
        have hz_ := True.intro
        clear hz_
        cases he : enoughN (withN 0 (keysA (promC x who vs).came)) x.masters
        · have e : promS x b who vs = (promC x who vs, [], false) := by unfold promS; rw [if_pos ⟨of_decide_eq_true h1, of_decide_eq_true h2⟩, if_neg (by simp [he])]
          rw [e]
          ((conv => whnf) <;> repeat ((with_reducible refine Drawn.mk (by kernel_rfl) ?_) <;> conv => whnf))
          refine ⟨[], [some 0, some 1, some 2], ?_⟩
          iterate 3 constructor
          refine ⟨⟨?_, ?_, ?_⟩, rfl, rfl, rfl⟩
          all_goals (repeat' (first | (with_reducible exact Lz.rfl) | (exact Lw.rfl) | (exact Lz.wrap (by omega)) | ((unfold goInt); (with_reducible exact Lz.rfl)) | constructor))
        · have e : promS x b who vs = (fillL { promC x who vs with st := 2 } (bestV (allL { promC x who vs with st := 2 })), openV (fillL { promC x who vs with st := 2 } (bestV (allL { promC x who vs with st := 2 }))), true) := by unfold promS; rw [if_pos ⟨of_decide_eq_true h1, of_decide_eq_true h2⟩, if_pos he]
          have hc2 : CameOk { promC x who vs with st := 2 } := ⟨hpc.1.nd, hpc.1.k5, hpc.1.l40⟩
          obtain ⟨f1, f2, f3⟩ := fill_opn hc2 (⟨ho.nd, ho.rng⟩ : OpnOk { promC x who vs with st := 2 }) hn
          rw [e]
          ((conv => whnf) <;> repeat ((with_reducible refine Drawn.mk (by kernel_rfl) ?_) <;> conv => whnf))
          refine ⟨[], [some 0, some 1, some 2], _, _, _, _, fill_ok { promC x who vs with st := 2 } hc2 hn, ⟨by (repeat' (first | (with_reducible exact Lz.rfl) | (exact Lw.rfl) | (exact Lz.wrap (by omega)) | ((unfold goInt); (with_reducible exact Lz.rfl)) | constructor)), by (repeat' (first | (with_reducible exact Lz.rfl) | (exact Lw.rfl) | (exact Lz.wrap (by omega)) | ((unfold goInt); (with_reducible exact Lz.rfl)) | constructor)), by rfl⟩, ?_⟩
          rintro r o' c' ⟨rfl, rfl, rfl⟩
          ((conv => whnf) <;> repeat ((with_reducible refine Drawn.mk (by kernel_rfl) ?_) <;> conv => whnf))
          generalize fillL { promC x who vs with st := 2 } (bestV (allL { promC x who vs with st := 2 })) = z at *
          refine ⟨[], [some 0, some 1, some 2], _, _, _, _, openL_ok z (f1.ks (by omega)) (by have := f1.len (by omega); omega), ⟨by (repeat' (first | (with_reducible exact Lz.rfl) | (exact Lw.rfl) | (exact Lz.wrap (by omega)) | ((unfold goInt); (with_reducible exact Lz.rfl)) | constructor)), by (repeat' (first | (with_reducible exact Lz.rfl) | (exact Lw.rfl) | (exact Lz.wrap (by omega)) | ((unfold goInt); (with_reducible exact Lz.rfl)) | constructor)), by rfl⟩, ?_⟩
          rintro r o' c' ⟨rfl, rfl, rfl⟩
          ((conv => whnf) <;> repeat ((with_reducible refine Drawn.mk (by kernel_rfl) ?_) <;> conv => whnf))
          refine ⟨[], [some 0, some 1, some 2], ?_⟩
          iterate 3 constructor
          refine ⟨⟨?_, ?_, ?_⟩, rfl, rfl, rfl⟩
          all_goals (repeat' (first | (with_reducible exact Lz.rfl) | (exact Lw.rfl) | (exact Lz.wrap (by omega)) | ((unfold goInt); (with_reducible exact Lz.rfl)) | constructor))
end Go.M

namespace Go.M
open Go Go.Proofs
set_option maxRecDepth 100000
set_option maxHeartbeats 4000000
theorem ofP_ok (r w : Int) (hr : 1 ≤ r ∧ r < 1152921504606846976) (hw : m5 w) : VC E0 124 0 [.s (.int .u64 r), .s (.int .i64 w)] [] (RR (.tup [.s (.int .u64 (8 * r + w)), .s (.int .i64 0)]) 0 []) := by
  unfold m5 at hw
  refine VC.enterR L0 (show E0.func 124 = some Try.f124 by kernel_rfl) (fun _ _ => rfl) rfl rfl [] ?_
  ((conv => whnf) <;> repeat ((with_reducible refine Drawn.mk (by kernel_rfl) ?_) <;> conv => whnf))
  (first | (refine ⟨fun h1 => ?_, fun h1 => ?_⟩) | (refine nsplit (fun h1 => ?_) (fun h1 => ?_)) | (refine bsplit (fun h1 => ?_) (fun h1 => ?_))) <;> have hz_ := True.intro <;> clear hz_
  · have h1 : r < 1 := h1
    omega
  · ((conv => whnf) <;> repeat ((with_reducible refine Drawn.mk (by kernel_rfl) ?_) <;> conv => whnf))
    (first | (refine ⟨fun h2 => ?_, fun h2 => ?_⟩) | (refine nsplit (fun h2 => ?_) (fun h2 => ?_)) | (refine bsplit (fun h2 => ?_) (fun h2 => ?_))) <;> have hz_ := True.intro <;> clear hz_
    · have h2 : r ≥ 1152921504606846976 := h2
      omega
    · ((conv => whnf) <;> repeat ((with_reducible refine Drawn.mk (by kernel_rfl) ?_) <;> conv => whnf))
      refine ⟨[], [], _, _, _, _, master_ok w, ⟨by (repeat' (first | (with_reducible exact Lz.rfl) | (exact Lw.rfl) | (exact Lz.wrap (by omega)) | ((unfold goInt); (with_reducible exact Lz.rfl)) | constructor)), by (repeat' (first | (with_reducible exact Lz.rfl) | (exact Lw.rfl) | (exact Lz.wrap (by omega)) | ((unfold goInt); (with_reducible exact Lz.rfl)) | constructor)), by rfl⟩, ?_⟩
      rintro r o' c' ⟨rfl, rfl, rfl⟩
      have hz_ := True.intro
      clear hz_
      cases h0 : isMaster w
      · exact absurd (decide_eq_true (show w ≥ 1 ∧ w ≤ 5 by omega)) (by unfold isMaster at h0; simp [h0])
      · ((conv => whnf) <;> repeat ((with_reducible refine Drawn.mk (by kernel_rfl) ?_) <;> conv => whnf))
        refine ⟨[], [], ?_⟩
        iterate 3 constructor
        refine ⟨⟨?_, ?_, ?_⟩, rfl, rfl, rfl⟩
        all_goals (repeat' (first | (with_reducible exact Lz.rfl) | (exact Lw.rfl) | (exact Lz.wrap (by omega)) | ((unfold goInt); (with_reducible exact Lz.rfl)) | constructor))
        refine Lz.int ?_
        rw [IntWalk.u64_in (8 * r) (by omega), IntWalk.u64_in w (by omega), IntWalk.u64_in _ (by omega)]
def nextS (b who : Int) : Int × Int :=
  let r0 := if 1 > b / 8 then 1 else b / 8
  let r1 := if 8 * r0 + who ≤ b then r0 + 1 else r0
  if r1 ≥ 1152921504606846976 then (0, 9) else (8 * r1 + who, 0)
theorem next_ok (b who : Int) (hb : 0 ≤ b ∧ b ≤ 18446744073709551615) (hw : m5 who) : VC E0 88 0 [.s (.int .u64 b), .s (.int .i64 who)] [] (RR (.tup [.s (.int .u64 (nextS b who).1), .s (.int .i64 (nextS b who).2)]) 0 []) := by
  have e0 : IntKind.u64.wrap (b.tdiv 8) = b / 8 := by rw [Int.tdiv_eq_ediv_of_nonneg hb.1]; exact IntWalk.u64_in _ (by omega)
  have hw' := hw
  unfold m5 at hw
  refine VC.enterR L0 (show E0.func 88 = some Try.f88 by kernel_rfl) (fun _ _ => rfl) rfl rfl [] ?_
  ((conv => whnf) <;> repeat ((with_reducible refine Drawn.mk (by kernel_rfl) ?_) <;> conv => whnf))
  refine ⟨[], [], _, _, _, _, master_ok who, ⟨by (repeat' (first | (with_reducible exact Lz.rfl) | (exact Lw.rfl) | (exact Lz.wrap (by omega)) | ((unfold goInt); (with_reducible exact Lz.rfl)) | constructor)), by (repeat' (first | (with_reducible exact Lz.rfl) | (exact Lw.rfl) | (exact Lz.wrap (by omega)) | ((unfold goInt); (with_reducible exact Lz.rfl)) | constructor)), by rfl⟩, ?_⟩
  rintro r o' c' ⟨rfl, rfl, rfl⟩
  have hz_ := True.intro
  clear hz_
  cases h0 : isMaster who
  · exact absurd (decide_eq_true (show who ≥ 1 ∧ who ≤ 5 by omega)) (by unfold isMaster at h0; simp [h0])
  · obtain ⟨r0, hr0⟩ : ∃ r0, r0 = (if (1 : Int) > IntKind.u64.wrap (b.tdiv 8) then 1 else IntKind.u64.wrap (b.tdiv 8)) := ⟨_, rfl⟩
    have hr1 : r0 = if (1 : Int) > b / 8 then 1 else b / 8 := by rw [hr0, e0]
    have hrr : 1 ≤ r0 ∧ r0 ≤ 2305843009213693951 ∧ 8 * r0 ≤ 18446744073709551608 := by rw [hr1]; split <;> omega
    ((conv => whnf) <;> repeat ((with_reducible refine Drawn.mk (by kernel_rfl) ?_) <;> conv => whnf))
    (first | (refine ⟨fun h1 => ?_, fun h1 => ?_⟩) | (refine nsplit (fun h1 => ?_) (fun h1 => ?_)) | (refine bsplit (fun h1 => ?_) (fun h1 => ?_))) <;> have hz_ := True.intro <;> clear hz_
    · have h1 : IntKind.u64.wrap (IntKind.u64.wrap (8 * (if (1 : Int) > IntKind.u64.wrap (b.tdiv 8) then 1 else IntKind.u64.wrap (b.tdiv 8))) + IntKind.u64.wrap who) ≤ b := h1
      rw [← hr0, IntWalk.u64_in (8 * r0) (by omega), IntWalk.u64_in who (by omega), IntWalk.u64_in _ (by omega)] at h1
      ((conv => whnf) <;> repeat ((with_reducible refine Drawn.mk (by kernel_rfl) ?_) <;> conv => whnf))
      (first | (refine ⟨fun h2 => ?_, fun h2 => ?_⟩) | (refine nsplit (fun h2 => ?_) (fun h2 => ?_)) | (refine bsplit (fun h2 => ?_) (fun h2 => ?_))) <;> have hz_ := True.intro <;> clear hz_
      · have h2 : IntKind.u64.wrap ((if (1 : Int) > IntKind.u64.wrap (b.tdiv 8) then 1 else IntKind.u64.wrap (b.tdiv 8)) + 1) ≥ 1152921504606846976 := h2
        rw [← hr0, IntWalk.u64_in _ (by omega)] at h2
        ((conv => whnf) <;> repeat ((with_reducible refine Drawn.mk (by kernel_rfl) ?_) <;> conv => whnf))
        have e : nextS b who = (0, 9) := by unfold nextS; rw [← hr1]; simp only [h1, if_true, h2]
        rw [e]
        refine ⟨[], [], ?_⟩
        iterate 3 constructor
        refine ⟨⟨?_, ?_, ?_⟩, rfl, rfl, rfl⟩
        all_goals (repeat' (first | (with_reducible exact Lz.rfl) | (exact Lw.rfl) | (exact Lz.wrap (by omega)) | ((unfold goInt); (with_reducible exact Lz.rfl)) | constructor))
      · have h2 : ¬ IntKind.u64.wrap ((if (1 : Int) > IntKind.u64.wrap (b.tdiv 8) then 1 else IntKind.u64.wrap (b.tdiv 8)) + 1) ≥ 1152921504606846976 := h2
        rw [← hr0, IntWalk.u64_in _ (by omega)] at h2
        ((conv => whnf) <;> repeat ((with_reducible refine Drawn.mk (by kernel_rfl) ?_) <;> conv => whnf))
        have e3 : IntKind.u64.wrap ((if (1 : Int) > IntKind.u64.wrap (b.tdiv 8) then 1 else IntKind.u64.wrap (b.tdiv 8)) + 1) = r0 + 1 := by rw [← hr0]; exact IntWalk.u64_in _ (by omega)
        refine ⟨[], [], _, _, _, _, ofP_ok (r0 + 1) who (by omega) hw', ⟨by ((repeat' (first | (with_reducible exact Lz.rfl) | (exact Lw.rfl) | (exact Lz.wrap (by omega)) | ((unfold goInt); (with_reducible exact Lz.rfl)) | constructor)); all_goals (exact Lz.int e3)), by ((repeat' (first | (with_reducible exact Lz.rfl) | (exact Lw.rfl) | (exact Lz.wrap (by omega)) | ((unfold goInt); (with_reducible exact Lz.rfl)) | constructor)); all_goals (exact Lz.int e3)), by rfl⟩, ?_⟩
        rintro r o' c' ⟨rfl, rfl, rfl⟩
        ((conv => whnf) <;> repeat ((with_reducible refine Drawn.mk (by kernel_rfl) ?_) <;> conv => whnf))
        have e : nextS b who = (8 * (r0 + 1) + who, 0) := by unfold nextS; rw [← hr1]; simp only [h1, if_true, h2, if_false]
        rw [e]
        refine ⟨[], [], ?_⟩
        iterate 3 constructor
        refine ⟨⟨?_, ?_, ?_⟩, rfl, rfl, rfl⟩
        all_goals (repeat' (first | (with_reducible exact Lz.rfl) | (exact Lw.rfl) | (exact Lz.wrap (by omega)) | ((unfold goInt); (with_reducible exact Lz.rfl)) | constructor))
    · have h1 : ¬ IntKind.u64.wrap (IntKind.u64.wrap (8 * (if (1 : Int) > IntKind.u64.wrap (b.tdiv 8) then 1 else IntKind.u64.wrap (b.tdiv 8))) + IntKind.u64.wrap who) ≤ b := h1
      rw [← hr0, IntWalk.u64_in (8 * r0) (by omega), IntWalk.u64_in who (by omega), IntWalk.u64_in _ (by omega)] at h1
      ((conv => whnf) <;> repeat ((with_reducible refine Drawn.mk (by kernel_rfl) ?_) <;> conv => whnf))
      (first | (refine ⟨fun h2 => ?_, fun h2 => ?_⟩) | (refine nsplit (fun h2 => ?_) (fun h2 => ?_)) | (refine bsplit (fun h2 => ?_) (fun h2 => ?_))) <;> have hz_ := True.intro <;> clear hz_
      · have h2 : (if (1 : Int) > IntKind.u64.wrap (b.tdiv 8) then 1 else IntKind.u64.wrap (b.tdiv 8)) ≥ 1152921504606846976 := h2
        rw [← hr0] at h2
        ((conv => whnf) <;> repeat ((with_reducible refine Drawn.mk (by kernel_rfl) ?_) <;> conv => whnf))
        have e : nextS b who = (0, 9) := by unfold nextS; rw [← hr1]; simp only [h1, if_false, h2, if_true]
        rw [e]
        refine ⟨[], [], ?_⟩
        iterate 3 constructor
        refine ⟨⟨?_, ?_, ?_⟩, rfl, rfl, rfl⟩
        all_goals (repeat' (first | (with_reducible exact Lz.rfl) | (exact Lw.rfl) | (exact Lz.wrap (by omega)) | ((unfold goInt); (with_reducible exact Lz.rfl)) | constructor))
      · have h2 : ¬ (if (1 : Int) > IntKind.u64.wrap (b.tdiv 8) then 1 else IntKind.u64.wrap (b.tdiv 8)) ≥ 1152921504606846976 := h2
        rw [← hr0] at h2
        ((conv => whnf) <;> repeat ((with_reducible refine Drawn.mk (by kernel_rfl) ?_) <;> conv => whnf))
        refine ⟨[], [], _, _, _, _, ofP_ok r0 who (by omega) hw', ⟨by ((repeat' (first | (with_reducible exact Lz.rfl) | (exact Lw.rfl) | (exact Lz.wrap (by omega)) | ((unfold goInt); (with_reducible exact Lz.rfl)) | constructor)); all_goals (exact Lz.int hr0.symm)), by ((repeat' (first | (with_reducible exact Lz.rfl) | (exact Lw.rfl) | (exact Lz.wrap (by omega)) | ((unfold goInt); (with_reducible exact Lz.rfl)) | constructor)); all_goals (exact Lz.int hr0.symm)), by rfl⟩, ?_⟩
        rintro r o' c' ⟨rfl, rfl, rfl⟩
        ((conv => whnf) <;> repeat ((with_reducible refine Drawn.mk (by kernel_rfl) ?_) <;> conv => whnf))
        have e : nextS b who = (8 * r0 + who, 0) := by unfold nextS; rw [← hr1]; simp only [h1, if_false, h2]
        rw [e]
        refine ⟨[], [], ?_⟩
        iterate 3 constructor
        refine ⟨⟨?_, ?_, ?_⟩, rfl, rfl, rfl⟩
        all_goals (repeat' (first | (with_reducible exact Lz.rfl) | (exact Lw.rfl) | (exact Lz.wrap (by omega)) | ((unfold goInt); (with_reducible exact Lz.rfl)) | constructor))
/-- A leader that starts. -/
@[reducible] def startS (me masters b frm : Int) : LeadS := ⟨me, masters, 1, b, frm, frm, [], []⟩
/-- It never started: it starts above 0. -/
theorem start0_ok (me masters : Int) (hme : m5 me) : VC E0 51 1 [.ptr 0 0, .s (.int .u64 0), .s (.int .i64 0)] [(0, lead0 me masters)] (RR (.tup [.s (.int .u64 (8 + me)), .s (.int .i64 0)]) 3 (stL (startS me masters (8 + me) 0))) := by
  have hne : nextS 0 me = (8 + me, 0) := by unfold m5 at hme; unfold nextS; simp only []; grind
  refine VC.enterR L0 (show E0.func 51 = some Try.f51 by kernel_rfl) (fun _ _ => rfl) rfl rfl [] ?_
  ((conv => whnf) <;> repeat ((with_reducible refine Drawn.mk (by kernel_rfl) ?_) <;> conv => whnf))
  repeat ((first | (refine ⟨fun h_ => ?_, fun h_ => ?_⟩) | (refine nsplit (fun h_ => ?_) (fun h_ => ?_)) | (refine bsplit (fun h_ => ?_) (fun h_ => ?_))) <;> first | (exfalso; revert h_; decide; done) | (exact absurd rfl h_) | (have hz_ := True.intro; clear hz_; ((conv => whnf) <;> repeat ((with_reducible refine Drawn.mk (by kernel_rfl) ?_) <;> conv => whnf))))
  refine ⟨[], [], _, _, _, _, next_ok 0 me (by omega) hme, ⟨by ((repeat' (first | (with_reducible exact Lz.rfl) | (exact Lw.rfl) | (exact Lz.wrap (by omega)) | ((unfold goInt); (with_reducible exact Lz.rfl)) | constructor)); all_goals (exact Lz.rfl)), by ((repeat' (first | (with_reducible exact Lz.rfl) | (exact Lw.rfl) | (exact Lz.wrap (by omega)) | ((unfold goInt); (with_reducible exact Lz.rfl)) | constructor)); all_goals (exact Lz.rfl)), by rfl⟩, ?_⟩
  rintro r o' c' ⟨rfl, rfl, rfl⟩
  ((conv => whnf) <;> repeat ((with_reducible refine Drawn.mk (by kernel_rfl) ?_) <;> conv => whnf))
  rw [hne]
  ((conv => whnf) <;> repeat ((with_reducible refine Drawn.mk (by kernel_rfl) ?_) <;> conv => whnf))
  repeat ((first | (refine ⟨fun h_ => ?_, fun h_ => ?_⟩) | (refine nsplit (fun h_ => ?_) (fun h_ => ?_)) | (refine bsplit (fun h_ => ?_) (fun h_ => ?_))) <;> first | (exfalso; revert h_; decide; done) | (exact absurd rfl h_) | (have hz_ := True.intro; clear hz_; ((conv => whnf) <;> repeat ((with_reducible refine Drawn.mk (by kernel_rfl) ?_) <;> conv => whnf))))
  refine ⟨[], [some 0, some 1, some 2], ?_⟩
  iterate 3 constructor
  refine ⟨⟨?_, ?_, ?_⟩, rfl, rfl, rfl⟩
  all_goals (repeat' (first | (with_reducible exact Lz.rfl) | (exact Lw.rfl) | (exact Lz.wrap (by omega)) | ((unfold goInt); (with_reducible exact Lz.rfl)) | constructor))
end Go.M

namespace Go.M
open Go Go.Proofs
set_option maxRecDepth 100000
set_option maxHeartbeats 4000000
def sameC (a b : Cmd) : Bool := decide (a.kind = b.kind ∧ a.chain = b.chain ∧ a.epoch = b.epoch ∧ a.node = b.node)
theorem sameC_iff {a b : Cmd} : sameC a b = true ↔ a = b := by
  obtain ⟨a1, a2, a3, a4⟩ := a
  obtain ⟨b1, b2, b3, b4⟩ := b
  simp [sameC]
theorem veq_cmd (a b : Cmd) : (veq1 (.int .i64 a.kind) (.int .i64 b.kind) && (veq1 (.int .i64 a.chain) (.int .i64 b.chain) && (veq1 (.int .u64 a.epoch) (.int .u64 b.epoch) && (veq1 (.int .i64 a.node) (.int .i64 b.node) && true)))) = sameC a b := by
  rw [Bool.eq_iff_iff]; simp [veq1, sameC]
@[reducible] def stP (c : Cmd) : Ob := [(0, .cells [.s (.int .i64 c.kind), .s (.int .i64 c.chain), .s (.int .u64 c.epoch), .s (.int .i64 c.node)])]
theorem prop1_ok (c : Cmd) (v : Vote) : VC E0 132 1 [.agg (encV v), .ptr 0 0] (stP c) (RR (.s (.bool (sameC (cmdOf v) c))) 1 (stP c)) := by
  refine VC.enterR L0 (show E0.func 132 = some Try.f132 by kernel_rfl) (fun _ _ => rfl) rfl rfl [] ?_
  ((conv => whnf) <;> repeat ((with_reducible refine Drawn.mk (by kernel_rfl) ?_) <;> conv => whnf))
  (first | (refine ⟨fun h => ?_, fun h => ?_⟩) | (refine nsplit (fun h => ?_) (fun h => ?_)) | (refine bsplit (fun h => ?_) (fun h => ?_))) <;> have hz_ := True.intro <;> clear hz_
  · have h : sameC (cmdOf v) c = true := (veq_cmd (cmdOf v) c).symm.trans h
    rw [h]
    ((conv => whnf) <;> repeat ((with_reducible refine Drawn.mk (by kernel_rfl) ?_) <;> conv => whnf))
    refine ⟨[], [some 0], ?_⟩
    iterate 3 constructor
    refine ⟨⟨?_, ?_, ?_⟩, rfl, rfl, rfl⟩
    all_goals (repeat' (first | (with_reducible exact Lz.rfl) | (exact Lw.rfl) | (exact Lz.wrap (by omega)) | ((unfold goInt); (with_reducible exact Lz.rfl)) | constructor))
  · have h : sameC (cmdOf v) c = false := by
      have : ¬ sameC (cmdOf v) c = true := fun e => h ((veq_cmd (cmdOf v) c).trans e)
      simpa using this
    rw [h]
    ((conv => whnf) <;> repeat ((with_reducible refine Drawn.mk (by kernel_rfl) ?_) <;> conv => whnf))
    refine ⟨[], [some 0], ?_⟩
    iterate 3 constructor
    refine ⟨⟨?_, ?_, ?_⟩, rfl, rfl, rfl⟩
    all_goals (repeat' (first | (with_reducible exact Lz.rfl) | (exact Lw.rfl) | (exact Lz.wrap (by omega)) | ((unfold goInt); (with_reducible exact Lz.rfl)) | constructor))
theorem idxP_ok (c : Cmd) (vs : List Vote) (hl : vs.length < 1000000) : VC E0 125 1 [encVs vs, .clo 132 [] [.ptr 0 0]] (stP c)
    (fun r o c' => ∃ i : Int, r = .s (.int .i64 i) ∧ c' = 1 ∧ o = stP c ∧ ((i = -1 ∧ ∀ v ∈ vs, sameC (cmdOf v) c = false) ∨ 0 ≤ i ∧ ∃ v ∈ vs, sameC (cmdOf v) c = true)) := by
  refine VC.enterR L0 (show E0.func 125 = some Try.f125 by kernel_rfl) (fun _ _ => rfl) rfl rfl [] ?_
  ((conv => whnf) <;> repeat ((with_reducible refine Drawn.mk (by kernel_rfl) ?_) <;> conv => whnf))
  refine ⟨fun k f o c' => ∃ j : Nat, j ≤ vs.length ∧ k = vs.length - j ∧ (∀ v ∈ vs.take j, sameC (cmdOf v) c = false) ∧ c' = 1 ∧ f = [(0, encVs vs), (1, .clo 132 [] [.ptr 0 0]), (7, .s (.int .i64 vs.length)), (8, .s (.int .i64 j))] ∧ o = stP c, ⟨vs.length, ?_⟩, ?_⟩
  · refine ⟨[], [some 0], ?_⟩
    iterate 3 constructor
    refine ⟨⟨?_, ?_, ?_⟩, ⟨0, Nat.zero_le _, rfl, by simp, rfl, rfl, rfl⟩⟩
    all_goals (repeat' (first | (with_reducible exact Lz.rfl) | (exact Lw.rfl) | (exact Lz.wrap (by omega)) | ((unfold goInt); (with_reducible exact Lz.rfl)) | constructor))
    all_goals first | exact Lz.of (by simp [goInt]) | exact Lz.rfl
  · rintro k f1 o1 c1 ⟨j, hj, rfl, hb, rfl, rfl, rfl⟩
    ((conv => whnf) <;> repeat ((with_reducible refine Drawn.mk (by kernel_rfl) ?_) <;> conv => whnf))
    (first | (refine ⟨fun h => ?_, fun h => ?_⟩) | (refine nsplit (fun h => ?_) (fun h => ?_)) | (refine bsplit (fun h => ?_) (fun h => ?_))) <;> have hz_ := True.intro <;> clear hz_
    · have h : j < vs.length := by simpa using h
      ((conv => whnf) <;> repeat ((with_reducible refine Drawn.mk (by kernel_rfl) ?_) <;> conv => whnf))
      refine idxI h ?_
      ((conv => whnf) <;> repeat ((with_reducible refine Drawn.mk (by kernel_rfl) ?_) <;> conv => whnf))
      refine ⟨[], [some 0], _, _, _, _, prop1_ok c vs[j], ⟨by (repeat' (first | (with_reducible exact Lz.rfl) | (exact Lw.rfl) | (exact Lz.wrap (by omega)) | ((unfold goInt); (with_reducible exact Lz.rfl)) | constructor)), by (repeat' (first | (with_reducible exact Lz.rfl) | (exact Lw.rfl) | (exact Lz.wrap (by omega)) | ((unfold goInt); (with_reducible exact Lz.rfl)) | constructor)), by rfl⟩, ?_⟩
      rintro r o' c' ⟨rfl, rfl, rfl⟩
      have hz_ := True.intro
      clear hz_
      cases hv : sameC (cmdOf vs[j]) c
      · ((conv => whnf) <;> repeat ((with_reducible refine Drawn.mk (by kernel_rfl) ?_) <;> conv => whnf))
        refine ⟨vs.length - (j + 1), ?_, by omega⟩
        refine ⟨[], [some 0], ?_⟩
        iterate 3 constructor
        refine ⟨⟨?_, ?_, ?_⟩, ⟨j + 1, h, rfl, by intro v hv'; rw [List.take_succ_eq_append_getElem h] at hv'; rcases List.mem_append.1 hv' with h1 | h1; exact hb v h1; simp at h1; subst h1; exact hv, rfl, rfl, rfl⟩⟩
        all_goals (repeat' (first | (with_reducible exact Lz.rfl) | (exact Lw.rfl) | (exact Lz.wrap (by omega)) | ((unfold goInt); (with_reducible exact Lz.rfl)) | constructor))
        all_goals exact Lz.rfl
      · ((conv => whnf) <;> repeat ((with_reducible refine Drawn.mk (by kernel_rfl) ?_) <;> conv => whnf))
        refine ⟨[], [some 0], ?_⟩
        iterate 3 constructor
        refine ⟨⟨?_, ?_, ?_⟩, (j : Int), rfl, rfl, rfl, .inr ⟨by omega, _, List.getElem_mem h, hv⟩⟩
        all_goals (repeat' (first | (with_reducible exact Lz.rfl) | (exact Lw.rfl) | (exact Lz.wrap (by omega)) | ((unfold goInt); (with_reducible exact Lz.rfl)) | constructor))
    · have h' : j = vs.length := by have : ¬ j < vs.length := by simpa using h
                                    omega
      subst h'
      rw [List.take_length] at hb
      ((conv => whnf) <;> repeat ((with_reducible refine Drawn.mk (by kernel_rfl) ?_) <;> conv => whnf))
      refine ⟨[], [some 0], ?_⟩
      iterate 3 constructor
      refine ⟨⟨?_, ?_, ?_⟩, -1, rfl, rfl, rfl, .inl ⟨rfl, hb⟩⟩
      all_goals (repeat' (first | (with_reducible exact Lz.rfl) | (exact Lw.rfl) | (exact Lz.wrap (by omega)) | ((unfold goInt); (with_reducible exact Lz.rfl)) | constructor))
def hasCmd (c : Cmd) (vs : List Vote) : Bool := vs.any fun v => sameC (cmdOf v) c
theorem containsP_ok (c : Cmd) (vs : List Vote) (hl : vs.length < 1000000) : VC E0 131 1 [encVs vs, .clo 132 [] [.ptr 0 0]] (stP c) (RR (.s (.bool (hasCmd c vs))) 1 (stP c)) := by
  refine VC.enterR L0 (show E0.func 131 = some Try.f131 by kernel_rfl) (fun _ _ => rfl) rfl rfl [] ?_
  ((conv => whnf) <;> repeat ((with_reducible refine Drawn.mk (by kernel_rfl) ?_) <;> conv => whnf))
  refine ⟨[], [some 0], _, _, _, _, idxP_ok c vs hl, ⟨by (repeat' (first | (with_reducible exact Lz.rfl) | (exact Lw.rfl) | (exact Lz.wrap (by omega)) | ((unfold goInt); (with_reducible exact Lz.rfl)) | constructor)), by (repeat' (first | (with_reducible exact Lz.rfl) | (exact Lw.rfl) | (exact Lz.wrap (by omega)) | ((unfold goInt); (with_reducible exact Lz.rfl)) | constructor)), by rfl⟩, ?_⟩
  rintro r o' c' ⟨i, rfl, rfl, rfl, hi⟩
  ((conv => whnf) <;> repeat ((with_reducible refine Drawn.mk (by kernel_rfl) ?_) <;> conv => whnf))
  (first | (refine ⟨fun h => ?_, fun h => ?_⟩) | (refine nsplit (fun h => ?_) (fun h => ?_)) | (refine bsplit (fun h => ?_) (fun h => ?_))) <;> have hz_ := True.intro <;> clear hz_
  · have h : i ≥ 0 := h
    ((conv => whnf) <;> repeat ((with_reducible refine Drawn.mk (by kernel_rfl) ?_) <;> conv => whnf))
    refine ⟨[], [some 0], ?_⟩
    iterate 3 constructor
    refine ⟨⟨?_, ?_, ?_⟩, rfl, rfl, rfl⟩
    all_goals (repeat' (first | (with_reducible exact Lz.rfl) | (exact Lw.rfl) | (exact Lz.wrap (by omega)) | ((unfold goInt); (with_reducible exact Lz.rfl)) | constructor))
    refine Lz.of (bool_eq (Eq.symm ?_))
    rcases hi with ⟨e, _⟩ | ⟨_, v, hv, hs⟩
    · omega
    · exact List.any_eq_true.2 ⟨v, hv, hs⟩
  · have h : ¬ i ≥ 0 := h
    ((conv => whnf) <;> repeat ((with_reducible refine Drawn.mk (by kernel_rfl) ?_) <;> conv => whnf))
    refine ⟨[], [some 0], ?_⟩
    iterate 3 constructor
    refine ⟨⟨?_, ?_, ?_⟩, rfl, rfl, rfl⟩
    all_goals (repeat' (first | (with_reducible exact Lz.rfl) | (exact Lw.rfl) | (exact Lz.wrap (by omega)) | ((unfold goInt); (with_reducible exact Lz.rfl)) | constructor))
    refine Lz.of (bool_eq (Eq.symm ?_))
    rcases hi with ⟨_, hall⟩ | ⟨e, _⟩
    · exact List.any_eq_false.2 fun v hv => by rw [hall v hv]; simp
    · omega
theorem proposed_ok (x : LeadS) (c : Cmd) (ho : OpnOk x) (hn : x.nxt ≤ 100000) : VC E0 98 3 [.ptr 0 0, cT4 c] (stL x) (RR (.s (.bool (hasCmd c (openV x)))) 3 (stL x)) := by
  have hlen : (openV x).length < 1000000 := by have := ho.len hn; simp [openV, sortZ_len]; omega
  refine VC.enterR L0 (show E0.func 98 = some Try.f98 by kernel_rfl) (fun _ _ => rfl) rfl rfl [] ?_
  ((conv => whnf) <;> repeat ((with_reducible refine Drawn.mk (by kernel_rfl) ?_) <;> conv => whnf))
  refine ⟨[], [some 0, some 1, some 2], _, _, _, _, openL_ok x (ho.ks hn) (by have := ho.len hn; omega), ⟨by (repeat' (first | (with_reducible exact Lz.rfl) | (exact Lw.rfl) | (exact Lz.wrap (by omega)) | ((unfold goInt); (with_reducible exact Lz.rfl)) | constructor)), by (repeat' (first | (with_reducible exact Lz.rfl) | (exact Lw.rfl) | (exact Lz.wrap (by omega)) | ((unfold goInt); (with_reducible exact Lz.rfl)) | constructor)), by rfl⟩, ?_⟩
  rintro r o' c' ⟨rfl, rfl, rfl⟩
  ((conv => whnf) <;> repeat ((with_reducible refine Drawn.mk (by kernel_rfl) ?_) <;> conv => whnf))
  refine ⟨[], [some 3], _, _, _, _, containsP_ok c (openV x) hlen, ⟨by (repeat' (first | (with_reducible exact Lz.rfl) | (exact Lw.rfl) | (exact Lz.wrap (by omega)) | ((unfold goInt); (with_reducible exact Lz.rfl)) | constructor)), by (repeat' (first | (with_reducible exact Lz.rfl) | (exact Lw.rfl) | (exact Lz.wrap (by omega)) | ((unfold goInt); (with_reducible exact Lz.rfl)) | constructor)), by rfl⟩, ?_⟩
  rintro r o' c' ⟨rfl, rfl, rfl⟩
  ((conv => whnf) <;> repeat ((with_reducible refine Drawn.mk (by kernel_rfl) ?_) <;> conv => whnf))
  refine ⟨[], [some 0, some 1, some 2], ?_⟩
  iterate 3 constructor
  refine ⟨⟨?_, ?_, ?_⟩, rfl, rfl, rfl⟩
  all_goals (repeat' (first | (with_reducible exact Lz.rfl) | (exact Lw.rfl) | (exact Lz.wrap (by omega)) | ((unfold goInt); (with_reducible exact Lz.rfl)) | constructor))
def proposeS (x : LeadS) (c : Cmd) : LeadS × Vote × Int :=
  if x.st ≠ 2 then (x, noVote, 12) else if c.check ≠ 0 then (x, noVote, c.check) else if c.kind ≠ 0 ∧ hasCmd c (openV x) = true then (x, noVote, 8)
  else if x.opn.length ≥ 8 ∨ x.nxt ≥ 512 then (x, noVote, 9) else (layS x c, voteS (layS x c) x.nxt, 0)
theorem propose_ok (x : LeadS) (c : Cmd) (ho : OpnOk x) (hn : 0 ≤ x.nxt ∧ x.nxt ≤ 100000) : VC E0 54 3 [.ptr 0 0, cT4 c] (stL x) (RR (.tup [.agg (encV (proposeS x c).2.1), .s (.int .i64 (proposeS x c).2.2)]) 3 (stL (proposeS x c).1)) := by
  refine VC.enterR L0 (show E0.func 54 = some Try.f54 by kernel_rfl) (fun _ _ => rfl) rfl rfl [] ?_
  ((conv => whnf) <;> repeat ((with_reducible refine Drawn.mk (by kernel_rfl) ?_) <;> conv => whnf))
  (first | (refine ⟨fun h1 => ?_, fun h1 => ?_⟩) | (refine nsplit (fun h1 => ?_) (fun h1 => ?_)) | (refine bsplit (fun h1 => ?_) (fun h1 => ?_))) <;> have hz_ := True.intro <;> clear hz_
  · have h1 : x.st ≠ 2 := h1
    have e : proposeS x c = (x, noVote, 12) := by unfold proposeS; rw [if_pos h1]
    rw [e]
    ((conv => whnf) <;> repeat ((with_reducible refine Drawn.mk (by kernel_rfl) ?_) <;> conv => whnf))
    refine ⟨[], [some 0, some 1, some 2], ?_⟩
    iterate 3 constructor
    refine ⟨⟨?_, ?_, ?_⟩, rfl, rfl, rfl⟩
    all_goals (repeat' (first | (with_reducible exact Lz.rfl) | (exact Lw.rfl) | (exact Lz.wrap (by omega)) | ((unfold goInt); (with_reducible exact Lz.rfl)) | constructor))
  · have h1 : x.st = 2 := Classical.not_not.1 h1
    ((conv => whnf) <;> repeat ((with_reducible refine Drawn.mk (by kernel_rfl) ?_) <;> conv => whnf))
    refine ⟨[], [], _, _, _, _, check_ok c.kind c.chain c.epoch c.node, ⟨by (repeat' (first | (with_reducible exact Lz.rfl) | (exact Lw.rfl) | (exact Lz.wrap (by omega)) | ((unfold goInt); (with_reducible exact Lz.rfl)) | constructor)), by (repeat' (first | (with_reducible exact Lz.rfl) | (exact Lw.rfl) | (exact Lz.wrap (by omega)) | ((unfold goInt); (with_reducible exact Lz.rfl)) | constructor)), by rfl⟩, ?_⟩
    rintro r o' c' ⟨rfl, rfl, rfl⟩
    ((conv => whnf) <;> repeat ((with_reducible refine Drawn.mk (by kernel_rfl) ?_) <;> conv => whnf))
    (first | (refine ⟨fun h2 => ?_, fun h2 => ?_⟩) | (refine nsplit (fun h2 => ?_) (fun h2 => ?_)) | (refine bsplit (fun h2 => ?_) (fun h2 => ?_))) <;> have hz_ := True.intro <;> clear hz_
    · have h2 : c.check ≠ 0 := h2
      have e : proposeS x c = (x, noVote, c.check) := by unfold proposeS; rw [if_neg (fun h => h h1), if_pos h2]
      rw [e]
      ((conv => whnf) <;> repeat ((with_reducible refine Drawn.mk (by kernel_rfl) ?_) <;> conv => whnf))
      refine ⟨[], [some 0, some 1, some 2], ?_⟩
      iterate 3 constructor
      refine ⟨⟨?_, ?_, ?_⟩, rfl, rfl, rfl⟩
      all_goals (repeat' (first | (with_reducible exact Lz.rfl) | (exact Lw.rfl) | (exact Lz.wrap (by omega)) | ((unfold goInt); (with_reducible exact Lz.rfl)) | constructor))
    · have h2 : c.check = 0 := Classical.not_not.1 h2
      ((conv => whnf) <;> repeat ((with_reducible refine Drawn.mk (by kernel_rfl) ?_) <;> conv => whnf))
      (first | (refine ⟨fun h6 => ?_, fun h6 => ?_⟩) | (refine nsplit (fun h6 => ?_) (fun h6 => ?_)) | (refine bsplit (fun h6 => ?_) (fun h6 => ?_))) <;> have hz_ := True.intro <;> clear hz_
      · have h6 : c.kind ≠ 0 := h6
        ((conv => whnf) <;> repeat ((with_reducible refine Drawn.mk (by kernel_rfl) ?_) <;> conv => whnf))
        refine ⟨[], [some 0, some 1, some 2], _, _, _, _, proposed_ok x c ho hn.2, ⟨by (repeat' (first | (with_reducible exact Lz.rfl) | (exact Lw.rfl) | (exact Lz.wrap (by omega)) | ((unfold goInt); (with_reducible exact Lz.rfl)) | constructor)), by (repeat' (first | (with_reducible exact Lz.rfl) | (exact Lw.rfl) | (exact Lz.wrap (by omega)) | ((unfold goInt); (with_reducible exact Lz.rfl)) | constructor)), by rfl⟩, ?_⟩
        rintro r o' c' ⟨rfl, rfl, rfl⟩
        have hz_ := True.intro
        clear hz_
        cases h7 : hasCmd c (openV x)
        · have h3 : ¬ (c.kind ≠ 0 ∧ hasCmd c (openV x) = true) := fun h => by simp [h7] at h
          ((conv => whnf) <;> repeat ((with_reducible refine Drawn.mk (by kernel_rfl) ?_) <;> conv => whnf))
          (first | (refine ⟨fun h4 => ?_, fun h4 => ?_⟩) | (refine nsplit (fun h4 => ?_) (fun h4 => ?_)) | (refine bsplit (fun h4 => ?_) (fun h4 => ?_))) <;> have hz_ := True.intro <;> clear hz_
          · have h4 : ((x.opn.map (encA .i64 encP)).length : Int) ≥ 8 := h4
            rw [List.length_map] at h4
            have e : proposeS x c = (x, noVote, 9) := by unfold proposeS; rw [if_neg (fun h => h h1), if_neg (fun h => h h2), if_neg h3, if_pos (.inl (by omega))]
            rw [e]
            ((conv => whnf) <;> repeat ((with_reducible refine Drawn.mk (by kernel_rfl) ?_) <;> conv => whnf))
            refine ⟨[], [some 0, some 1, some 2], ?_⟩
            iterate 3 constructor
            refine ⟨⟨?_, ?_, ?_⟩, rfl, rfl, rfl⟩
            all_goals (repeat' (first | (with_reducible exact Lz.rfl) | (exact Lw.rfl) | (exact Lz.wrap (by omega)) | ((unfold goInt); (with_reducible exact Lz.rfl)) | constructor))
          · have h4 : ¬ ((x.opn.map (encA .i64 encP)).length : Int) ≥ 8 := h4
            rw [List.length_map] at h4
            ((conv => whnf) <;> repeat ((with_reducible refine Drawn.mk (by kernel_rfl) ?_) <;> conv => whnf))
            (first | (refine ⟨fun h5 => ?_, fun h5 => ?_⟩) | (refine nsplit (fun h5 => ?_) (fun h5 => ?_)) | (refine bsplit (fun h5 => ?_) (fun h5 => ?_))) <;> have hz_ := True.intro <;> clear hz_
            · have h5 : x.nxt ≥ 512 := h5
              have e : proposeS x c = (x, noVote, 9) := by unfold proposeS; rw [if_neg (fun h => h h1), if_neg (fun h => h h2), if_neg h3, if_pos (.inr h5)]
              rw [e]
              ((conv => whnf) <;> repeat ((with_reducible refine Drawn.mk (by kernel_rfl) ?_) <;> conv => whnf))
              refine ⟨[], [some 0, some 1, some 2], ?_⟩
              iterate 3 constructor
              refine ⟨⟨?_, ?_, ?_⟩, rfl, rfl, rfl⟩
              all_goals (repeat' (first | (with_reducible exact Lz.rfl) | (exact Lw.rfl) | (exact Lz.wrap (by omega)) | ((unfold goInt); (with_reducible exact Lz.rfl)) | constructor))
            · have h5 : ¬ x.nxt ≥ 512 := h5
              have e : proposeS x c = (layS x c, voteS (layS x c) x.nxt, 0) := by unfold proposeS; rw [if_neg (fun h => h h1), if_neg (fun h => h h2), if_neg h3, if_neg (by omega)]
              rw [e]
              ((conv => whnf) <;> repeat ((with_reducible refine Drawn.mk (by kernel_rfl) ?_) <;> conv => whnf))
              refine ⟨[], [some 0, some 1, some 2], _, _, _, _, lay_ok x c (by omega), ⟨by (repeat' (first | (with_reducible exact Lz.rfl) | (exact Lw.rfl) | (exact Lz.wrap (by omega)) | ((unfold goInt); (with_reducible exact Lz.rfl)) | constructor)), by (repeat' (first | (with_reducible exact Lz.rfl) | (exact Lw.rfl) | (exact Lz.wrap (by omega)) | ((unfold goInt); (with_reducible exact Lz.rfl)) | constructor)), by rfl⟩, ?_⟩
              rintro r o' c' ⟨rfl, rfl, rfl⟩
              ((conv => whnf) <;> repeat ((with_reducible refine Drawn.mk (by kernel_rfl) ?_) <;> conv => whnf))
              refine ⟨[], [some 0, some 1, some 2], _, _, _, _, voteL_ok (layS x c) x.nxt, ⟨by (repeat' (first | (with_reducible exact Lz.rfl) | (exact Lw.rfl) | (exact Lz.wrap (by omega)) | ((unfold goInt); (with_reducible exact Lz.rfl)) | constructor)), by (repeat' (first | (with_reducible exact Lz.rfl) | (exact Lw.rfl) | (exact Lz.wrap (by omega)) | ((unfold goInt); (with_reducible exact Lz.rfl)) | constructor)), by rfl⟩, ?_⟩
              rintro r o' c' ⟨rfl, rfl, rfl⟩
              ((conv => whnf) <;> repeat ((with_reducible refine Drawn.mk (by kernel_rfl) ?_) <;> conv => whnf))
              refine ⟨[], [some 0, some 1, some 2], ?_⟩
              iterate 3 constructor
              refine ⟨⟨?_, ?_, ?_⟩, rfl, rfl, rfl⟩
              all_goals (repeat' (first | (with_reducible exact Lz.rfl) | (exact Lw.rfl) | (exact Lz.wrap (by omega)) | ((unfold goInt); (with_reducible exact Lz.rfl)) | constructor))
        · have e : proposeS x c = (x, noVote, 8) := by unfold proposeS; rw [if_neg (fun h => h h1), if_neg (fun h => h h2), if_pos ⟨h6, h7⟩]
          rw [e]
          ((conv => whnf) <;> repeat ((with_reducible refine Drawn.mk (by kernel_rfl) ?_) <;> conv => whnf))
          refine ⟨[], [some 0, some 1, some 2], ?_⟩
          iterate 3 constructor
          refine ⟨⟨?_, ?_, ?_⟩, rfl, rfl, rfl⟩
          all_goals (repeat' (first | (with_reducible exact Lz.rfl) | (exact Lw.rfl) | (exact Lz.wrap (by omega)) | ((unfold goInt); (with_reducible exact Lz.rfl)) | constructor))
      · have h6 : ¬ c.kind ≠ 0 := h6
        have h3 : ¬ (c.kind ≠ 0 ∧ hasCmd c (openV x) = true) := fun h => h6 h.1
        ((conv => whnf) <;> repeat ((with_reducible refine Drawn.mk (by kernel_rfl) ?_) <;> conv => whnf))
        (first | (refine ⟨fun h4 => ?_, fun h4 => ?_⟩) | (refine nsplit (fun h4 => ?_) (fun h4 => ?_)) | (refine bsplit (fun h4 => ?_) (fun h4 => ?_))) <;> have hz_ := True.intro <;> clear hz_
        · have h4 : ((x.opn.map (encA .i64 encP)).length : Int) ≥ 8 := h4
          rw [List.length_map] at h4
          have e : proposeS x c = (x, noVote, 9) := by unfold proposeS; rw [if_neg (fun h => h h1), if_neg (fun h => h h2), if_neg h3, if_pos (.inl (by omega))]
          rw [e]
          ((conv => whnf) <;> repeat ((with_reducible refine Drawn.mk (by kernel_rfl) ?_) <;> conv => whnf))
          refine ⟨[], [some 0, some 1, some 2], ?_⟩
          iterate 3 constructor
          refine ⟨⟨?_, ?_, ?_⟩, rfl, rfl, rfl⟩
          all_goals (repeat' (first | (with_reducible exact Lz.rfl) | (exact Lw.rfl) | (exact Lz.wrap (by omega)) | ((unfold goInt); (with_reducible exact Lz.rfl)) | constructor))
        · have h4 : ¬ ((x.opn.map (encA .i64 encP)).length : Int) ≥ 8 := h4
          rw [List.length_map] at h4
          ((conv => whnf) <;> repeat ((with_reducible refine Drawn.mk (by kernel_rfl) ?_) <;> conv => whnf))
          (first | (refine ⟨fun h5 => ?_, fun h5 => ?_⟩) | (refine nsplit (fun h5 => ?_) (fun h5 => ?_)) | (refine bsplit (fun h5 => ?_) (fun h5 => ?_))) <;> have hz_ := True.intro <;> clear hz_
          · have h5 : x.nxt ≥ 512 := h5
            have e : proposeS x c = (x, noVote, 9) := by unfold proposeS; rw [if_neg (fun h => h h1), if_neg (fun h => h h2), if_neg h3, if_pos (.inr h5)]
            rw [e]
            ((conv => whnf) <;> repeat ((with_reducible refine Drawn.mk (by kernel_rfl) ?_) <;> conv => whnf))
            refine ⟨[], [some 0, some 1, some 2], ?_⟩
            iterate 3 constructor
            refine ⟨⟨?_, ?_, ?_⟩, rfl, rfl, rfl⟩
            all_goals (repeat' (first | (with_reducible exact Lz.rfl) | (exact Lw.rfl) | (exact Lz.wrap (by omega)) | ((unfold goInt); (with_reducible exact Lz.rfl)) | constructor))
          · have h5 : ¬ x.nxt ≥ 512 := h5
            have e : proposeS x c = (layS x c, voteS (layS x c) x.nxt, 0) := by unfold proposeS; rw [if_neg (fun h => h h1), if_neg (fun h => h h2), if_neg h3, if_neg (by omega)]
            rw [e]
            ((conv => whnf) <;> repeat ((with_reducible refine Drawn.mk (by kernel_rfl) ?_) <;> conv => whnf))
            refine ⟨[], [some 0, some 1, some 2], _, _, _, _, lay_ok x c (by omega), ⟨by (repeat' (first | (with_reducible exact Lz.rfl) | (exact Lw.rfl) | (exact Lz.wrap (by omega)) | ((unfold goInt); (with_reducible exact Lz.rfl)) | constructor)), by (repeat' (first | (with_reducible exact Lz.rfl) | (exact Lw.rfl) | (exact Lz.wrap (by omega)) | ((unfold goInt); (with_reducible exact Lz.rfl)) | constructor)), by rfl⟩, ?_⟩
            rintro r o' c' ⟨rfl, rfl, rfl⟩
            ((conv => whnf) <;> repeat ((with_reducible refine Drawn.mk (by kernel_rfl) ?_) <;> conv => whnf))
            refine ⟨[], [some 0, some 1, some 2], _, _, _, _, voteL_ok (layS x c) x.nxt, ⟨by (repeat' (first | (with_reducible exact Lz.rfl) | (exact Lw.rfl) | (exact Lz.wrap (by omega)) | ((unfold goInt); (with_reducible exact Lz.rfl)) | constructor)), by (repeat' (first | (with_reducible exact Lz.rfl) | (exact Lw.rfl) | (exact Lz.wrap (by omega)) | ((unfold goInt); (with_reducible exact Lz.rfl)) | constructor)), by rfl⟩, ?_⟩
            rintro r o' c' ⟨rfl, rfl, rfl⟩
            ((conv => whnf) <;> repeat ((with_reducible refine Drawn.mk (by kernel_rfl) ?_) <;> conv => whnf))
            refine ⟨[], [some 0, some 1, some 2], ?_⟩
            iterate 3 constructor
            refine ⟨⟨?_, ?_, ?_⟩, rfl, rfl, rfl⟩
            all_goals (repeat' (first | (with_reducible exact Lz.rfl) | (exact Lw.rfl) | (exact Lz.wrap (by omega)) | ((unfold goInt); (with_reducible exact Lz.rfl)) | constructor))
def acceptedS (x : LeadS) (b slot who : Int) : LeadS × Vote × Bool :=
  if (x.st = 2 ∧ x.b = b) ∧ 1 ≤ who ∧ who ≤ x.masters then
    (match lookA x.opn slot with
    | none => (x, noVote, false)
    | some p => if enoughN (withN p.2 [who]) x.masters = true then ({ x with opn := delA (putA x.opn slot (p.1, withN p.2 [who])) slot }, .of slot x.b p.1, true) else ({ x with opn := putA x.opn slot (p.1, withN p.2 [who]) }, noVote, false))
  else (x, noVote, false)
theorem accepted_ok (x : LeadS) (b slot who : Int) (hm : m5 x.masters) (hev : ∀ e ∈ x.opn, ev64 e.2.2) (hnd : (keysA x.opn).Nodup) :
    VC E0 55 3 [.ptr 0 0, .s (.int .u64 b), .s (.int .i64 slot), .s (.int .i64 who)] (stL x) (RR (.tup [.agg (encV (acceptedS x b slot who).2.1), .s (.bool (acceptedS x b slot who).2.2)]) 3 (stL (acceptedS x b slot who).1)) := by
  refine VC.enterR L0 (show E0.func 55 = some Try.f55 by kernel_rfl) (fun _ _ => rfl) rfl rfl [] ?_
  ((conv => whnf) <;> repeat ((with_reducible refine Drawn.mk (by kernel_rfl) ?_) <;> conv => whnf))
  refine ⟨[], [some 0, some 1, some 2], _, _, _, _, isL_ok x 2 b, ⟨by (repeat' (first | (with_reducible exact Lz.rfl) | (exact Lw.rfl) | (exact Lz.wrap (by omega)) | ((unfold goInt); (with_reducible exact Lz.rfl)) | constructor)), by (repeat' (first | (with_reducible exact Lz.rfl) | (exact Lw.rfl) | (exact Lz.wrap (by omega)) | ((unfold goInt); (with_reducible exact Lz.rfl)) | constructor)), by rfl⟩, ?_⟩
  rintro r o' c' ⟨rfl, rfl, rfl⟩
  have hz_ := True.intro
  clear hz_
  cases h1 : decide (x.st = 2 ∧ x.b = b)
  · have e : acceptedS x b slot who = (x, noVote, false) := by unfold acceptedS; rw [if_neg fun h => of_decide_eq_false h1 h.1]
    rw [e]
    ((conv => whnf) <;> repeat ((with_reducible refine Drawn.mk (by kernel_rfl) ?_) <;> conv => whnf))
    refine ⟨[], [some 0, some 1, some 2], ?_⟩
    iterate 3 constructor
    refine ⟨⟨?_, ?_, ?_⟩, rfl, rfl, rfl⟩
    all_goals (repeat' (first | (with_reducible exact Lz.rfl) | (exact Lw.rfl) | (exact Lz.wrap (by omega)) | ((unfold goInt); (with_reducible exact Lz.rfl)) | constructor))
  · ((conv => whnf) <;> repeat ((with_reducible refine Drawn.mk (by kernel_rfl) ?_) <;> conv => whnf))
    refine ⟨[], [some 0, some 1, some 2], _, _, _, _, isM_ok x who, ⟨by (repeat' (first | (with_reducible exact Lz.rfl) | (exact Lw.rfl) | (exact Lz.wrap (by omega)) | ((unfold goInt); (with_reducible exact Lz.rfl)) | constructor)), by (repeat' (first | (with_reducible exact Lz.rfl) | (exact Lw.rfl) | (exact Lz.wrap (by omega)) | ((unfold goInt); (with_reducible exact Lz.rfl)) | constructor)), by rfl⟩, ?_⟩
    rintro r o' c' ⟨rfl, rfl, rfl⟩
    have hz_ := True.intro
    clear hz_
    cases h2 : decide (1 ≤ who ∧ who ≤ x.masters)
    · have e : acceptedS x b slot who = (x, noVote, false) := by unfold acceptedS; rw [if_neg fun h => of_decide_eq_false h2 h.2]
      rw [e]
      ((conv => whnf) <;> repeat ((with_reducible refine Drawn.mk (by kernel_rfl) ?_) <;> conv => whnf))
      refine ⟨[], [some 0, some 1, some 2], ?_⟩
      iterate 3 constructor
      refine ⟨⟨?_, ?_, ?_⟩, rfl, rfl, rfl⟩
      all_goals (repeat' (first | (with_reducible exact Lz.rfl) | (exact Lw.rfl) | (exact Lz.wrap (by omega)) | ((unfold goInt); (with_reducible exact Lz.rfl)) | constructor))
    · have hw : m5 who := by have := of_decide_eq_true h2; unfold m5 at *; omega
      ((conv => whnf) <;> repeat ((with_reducible refine Drawn.mk (by kernel_rfl) ?_) <;> conv => whnf))
      have hlk := lookM_A .i64 .i64 encP slot x.opn
      cases hx : lookA x.opn slot with
      | none =>
        have e : acceptedS x b slot who = (x, noVote, false) := by unfold acceptedS; rw [if_pos ⟨of_decide_eq_true h1, of_decide_eq_true h2⟩, hx]
        rw [hx] at hlk
        refine ⟨_, hlk, ?_⟩
        rw [e]
        ((conv => whnf) <;> repeat ((with_reducible refine Drawn.mk (by kernel_rfl) ?_) <;> conv => whnf))
        refine ⟨[], [some 0, some 1, some 2], ?_⟩
        iterate 3 constructor
        refine ⟨⟨?_, ?_, ?_⟩, rfl, rfl, rfl⟩
        all_goals (repeat' (first | (with_reducible exact Lz.rfl) | (exact Lw.rfl) | (exact Lz.wrap (by omega)) | ((unfold goInt); (with_reducible exact Lz.rfl)) | constructor))
      | some p =>
        have hpe : ev64 p.2 := hev _ ((lookA_some hnd).1 hx)
        rw [hx] at hlk
        refine ⟨_, hlk, ?_⟩
        ((conv => whnf) <;> repeat ((with_reducible refine Drawn.mk (by kernel_rfl) ?_) <;> conv => whnf))
        refine ⟨[11], [], _, _, _, _, with_ok p.2 [who] hpe (by simpa using hw) (by simp), ⟨by (repeat' (first | (with_reducible exact Lz.rfl) | (exact Lw.rfl) | (exact Lz.wrap (by omega)) | ((unfold goInt); (with_reducible exact Lz.rfl)) | constructor)), by (repeat' (first | (with_reducible exact Lz.rfl) | (exact Lw.rfl) | (exact Lz.wrap (by omega)) | ((unfold goInt); (with_reducible exact Lz.rfl)) | constructor)), by rfl⟩, ?_⟩
        rintro r o' c' ⟨rfl, rfl, rfl⟩
        ((conv => whnf) <;> repeat ((with_reducible refine Drawn.mk (by kernel_rfl) ?_) <;> conv => whnf))
        have hwe : ev64 (withN p.2 [who]) := withN_ev hpe (by simpa using hw)
        have hput := putM_A .i64 encP slot (p.1, withN p.2 [who]) x.opn
        refine ⟨[], [], _, _, _, _, enough_ok (withN p.2 [who]) x.masters hwe.1 hm, ⟨by (repeat' (first | (with_reducible exact Lz.rfl) | (exact Lw.rfl) | (exact Lz.wrap (by omega)) | ((unfold goInt); (with_reducible exact Lz.rfl)) | constructor)), by (repeat' (first | (with_reducible exact Lz.rfl) | (exact Lw.rfl) | (exact Lz.wrap (by omega)) | ((unfold goInt); (with_reducible exact Lz.rfl)) | constructor)), by rfl⟩, ?_⟩
        rintro r o' c' ⟨rfl, rfl, rfl⟩
        have hz_ := True.intro
        clear hz_
        cases he : enoughN (withN p.2 [who]) x.masters
        · have e : acceptedS x b slot who = ({ x with opn := putA x.opn slot (p.1, withN p.2 [who]) }, noVote, false) := by unfold acceptedS; rw [if_pos ⟨of_decide_eq_true h1, of_decide_eq_true h2⟩, hx]; simp only; rw [if_neg (by simp [he])]
          rw [e]
          ((conv => whnf) <;> repeat ((with_reducible refine Drawn.mk (by kernel_rfl) ?_) <;> conv => whnf))
          refine ⟨[], [some 0, some 1, some 2], ?_⟩
          iterate 3 constructor
          refine ⟨⟨?_, ?_, ?_⟩, rfl, rfl, rfl⟩
          all_goals (repeat' (first | (with_reducible exact Lz.rfl) | (exact Lw.rfl) | (exact Lz.wrap (by omega)) | ((unfold goInt); (with_reducible exact Lz.rfl)) | constructor))
          exact Lz.of hput
        · have e : acceptedS x b slot who = ({ x with opn := delA (putA x.opn slot (p.1, withN p.2 [who])) slot }, .of slot x.b p.1, true) := by unfold acceptedS; rw [if_pos ⟨of_decide_eq_true h1, of_decide_eq_true h2⟩, hx]; simp only; rw [if_pos he]
          have hvo : voteS { x with opn := putA x.opn slot (p.1, withN p.2 [who]) } slot = .of slot x.b p.1 := by simp [voteS, lookA_put]
          rw [e]
          ((conv => whnf) <;> repeat ((with_reducible refine Drawn.mk (by kernel_rfl) ?_) <;> conv => whnf))
          refine ⟨[], [some 0, some 1, some 2], _, _, _, _, voteL_ok { x with opn := putA x.opn slot (p.1, withN p.2 [who]) } slot, ⟨by ((repeat' (first | (with_reducible exact Lz.rfl) | (exact Lw.rfl) | (exact Lz.wrap (by omega)) | ((unfold goInt); (with_reducible exact Lz.rfl)) | constructor)); all_goals (first | exact Lz.of hput | exact hput)), by ((repeat' (first | (with_reducible exact Lz.rfl) | (exact Lw.rfl) | (exact Lz.wrap (by omega)) | ((unfold goInt); (with_reducible exact Lz.rfl)) | constructor)); all_goals (first | exact Lz.of hput | exact hput)), by rfl⟩, ?_⟩
          rintro r o' c' ⟨rfl, rfl, rfl⟩
          ((conv => whnf) <;> repeat ((with_reducible refine Drawn.mk (by kernel_rfl) ?_) <;> conv => whnf))
          rw [hvo]
          refine ⟨[], [some 0, some 1, some 2], ?_⟩
          iterate 3 constructor
          refine ⟨⟨?_, ?_, ?_⟩, rfl, rfl, rfl⟩
          all_goals (repeat' (first | (with_reducible exact Lz.rfl) | (exact Lw.rfl) | (exact Lz.wrap (by omega)) | ((unfold goInt); (with_reducible exact Lz.rfl)) | constructor))
          exact Lz.of (delM_A .i64 .i64 encP slot _)
def refuseS (x : LeadS) (b : Int) : LeadS × Bool := if x.st = 0 ∨ b ≤ x.b then (x, false) else ({ x with st := 0, opn := [], came := [] }, true)
theorem refuse_ok (x : LeadS) (b : Int) : VC E0 108 3 [.ptr 0 0, .s (.int .u64 b)] (stL x) (RR (.s (.bool (refuseS x b).2)) 3 (stL (refuseS x b).1)) := by
  refine VC.enterR L0 (show E0.func 108 = some Try.f108 by kernel_rfl) (fun _ _ => rfl) rfl rfl [] ?_
  ((conv => whnf) <;> repeat ((with_reducible refine Drawn.mk (by kernel_rfl) ?_) <;> conv => whnf))
  (first | (refine ⟨fun h1 => ?_, fun h1 => ?_⟩) | (refine nsplit (fun h1 => ?_) (fun h1 => ?_)) | (refine bsplit (fun h1 => ?_) (fun h1 => ?_))) <;> have hz_ := True.intro <;> clear hz_
  · have h1 : x.st = 0 := h1
    have e : refuseS x b = (x, false) := by unfold refuseS; rw [if_pos (.inl h1)]
    rw [e]
    ((conv => whnf) <;> repeat ((with_reducible refine Drawn.mk (by kernel_rfl) ?_) <;> conv => whnf))
    refine ⟨[], [some 0, some 1, some 2], ?_⟩
    iterate 3 constructor
    refine ⟨⟨?_, ?_, ?_⟩, rfl, rfl, rfl⟩
    all_goals (repeat' (first | (with_reducible exact Lz.rfl) | (exact Lw.rfl) | (exact Lz.wrap (by omega)) | ((unfold goInt); (with_reducible exact Lz.rfl)) | constructor))
  · have h1 : ¬ x.st = 0 := h1
    ((conv => whnf) <;> repeat ((with_reducible refine Drawn.mk (by kernel_rfl) ?_) <;> conv => whnf))
    (first | (refine ⟨fun h2 => ?_, fun h2 => ?_⟩) | (refine nsplit (fun h2 => ?_) (fun h2 => ?_)) | (refine bsplit (fun h2 => ?_) (fun h2 => ?_))) <;> have hz_ := True.intro <;> clear hz_
    · have h2 : b ≤ x.b := h2
      have e : refuseS x b = (x, false) := by unfold refuseS; rw [if_pos (.inr h2)]
      rw [e]
      ((conv => whnf) <;> repeat ((with_reducible refine Drawn.mk (by kernel_rfl) ?_) <;> conv => whnf))
      refine ⟨[], [some 0, some 1, some 2], ?_⟩
      iterate 3 constructor
      refine ⟨⟨?_, ?_, ?_⟩, rfl, rfl, rfl⟩
      all_goals (repeat' (first | (with_reducible exact Lz.rfl) | (exact Lw.rfl) | (exact Lz.wrap (by omega)) | ((unfold goInt); (with_reducible exact Lz.rfl)) | constructor))
    · have h2 : ¬ b ≤ x.b := h2
      have e : refuseS x b = ({ x with st := 0, opn := [], came := [] }, true) := by unfold refuseS; rw [if_neg (by rintro (h | h); exact h1 h; exact h2 h)]
      rw [e]
      ((conv => whnf) <;> repeat ((with_reducible refine Drawn.mk (by kernel_rfl) ?_) <;> conv => whnf))
      refine ⟨[], [some 0, some 1, some 2], ?_⟩
      iterate 3 constructor
      refine ⟨⟨?_, ?_, ?_⟩, rfl, rfl, rfl⟩
      all_goals (repeat' (first | (with_reducible exact Lz.rfl) | (exact Lw.rfl) | (exact Lz.wrap (by omega)) | ((unfold goInt); (with_reducible exact Lz.rfl)) | constructor))
end Go.M

namespace Go.M
open Go Go.Proofs
set_option maxRecDepth 100000
set_option maxHeartbeats 4000000
theorem rightR_ok (me masters : Int) : VC E0 48 0 [.s (.int .i64 me), .s (.int .i64 masters)] [] (RR (.s (.bool (isRight me masters))) 0 []) := by
  refine VC.enterR L0 (show E0.func 48 = some Try.f48 by kernel_rfl) (fun _ _ => rfl) rfl rfl [] ?_
  ((conv => whnf) <;> repeat ((with_reducible refine Drawn.mk (by kernel_rfl) ?_) <;> conv => whnf))
  repeat' (first | ((first | (refine ⟨fun h => ?_, fun h => ?_⟩) | (refine nsplit (fun h => ?_) (fun h => ?_)) | (refine bsplit (fun h => ?_) (fun h => ?_))) <;> ((conv => whnf) <;> repeat ((with_reducible refine Drawn.mk (by kernel_rfl) ?_) <;> conv => whnf))))
  all_goals (refine ⟨[], [], [], _, _, ⟨?_, .nil, rfl⟩, rfl, rfl, rfl⟩)
  all_goals (refine .s (Lz.of (bool_eq ?_)); simp [isRight, m5, *]; try omega)
theorem awake13 : VC E0 49 0 [] [] (fun r o c => r = .s (.bool true) ∧ o = [] ∧ c = 0) := VC.awakeW (by kernel_rfl) rfl rfl rfl
/-! ### What is said, without the program -/
theorem best_nil {l : List (List Vote)} (h : ∀ x ∈ l, x = []) : bestV l = [] := by
  have : l.flatten = [] := by
    rw [List.flatten_eq_nil_iff]; exact h
  unfold bestV; rw [this]; simp [bestE, allV, sortZ]
def manyM (masters : Int) : Nat := masters.toNat / 2 + 1
def came1 (n : Nat) : List (Int × List Vote) := (List.range n).map fun (k : Nat) => ((k : Int) + 1, [])
/-- Behind i promises. -/
@[reducible] def L1 (me masters : Int) (i : Nat) : LeadS := ⟨me, masters, if i < manyM masters then 1 else 2, 8 + me, 0, 0, came1 i, []⟩
theorem came1_keys (n : Nat) : keysA (came1 n) = (List.range n).map fun (k : Nat) => (k : Int) + 1 := by simp [came1, keysA, Function.comp_def]
theorem came1_nil {n : Nat} {e : Int × List Vote} (h : e ∈ came1 n) : e.2 = [] := by
  obtain ⟨k, _, rfl⟩ := List.mem_map.1 h; rfl
theorem came1_nd (n : Nat) : (keysA (came1 n)).Nodup := by
  rw [came1_keys]
  refine List.Pairwise.map _ ?_ List.nodup_range
  intro a b h e; exact h (by omega)
theorem enough1 : ∀ m : Nat, m < 6 → 0 < m → ∀ i : Nat, i < 4 → i < m / 2 + 1 → enoughN (withN 0 ((List.range (i + 1)).map fun (k : Nat) => (k : Int) + 1)) (m : Int) = decide (i + 1 = m / 2 + 1) := by decide +kernel
theorem came1_ok {n : Nat} (hn : n ≤ 5) (x : LeadS) (h : x.came = came1 n) : CameOk x := by
  refine ⟨by rw [h]; exact came1_nd n, fun w hw => ?_, fun e he => ?_⟩
  · rw [h, came1_keys] at hw
    obtain ⟨k, hk, rfl⟩ := List.mem_map.1 hw
    have := List.mem_range.1 hk
    unfold m5; omega
  · rw [h] at he; rw [came1_nil he]; simp
theorem all1_nil {n : Nat} (x : LeadS) (h : x.came = came1 n) : ∀ l ∈ allL x, l = [] := by
  intro l hl
  obtain ⟨w, hw, rfl⟩ := List.mem_map.1 hl
  cases hc : lookA x.came w with
  | none => rfl
  | some vs =>
    rw [h] at hc
    exact came1_nil ((lookA_some (came1_nd n)).1 hc)
theorem prom1 {me masters : Int} (hm : m5 masters) {i : Nat} (hi : i < manyM masters) : promS (L1 me masters i) (8 + me) ((i + 1 : Nat) : Int) [] = (L1 me masters (i + 1), [], decide (i + 1 = manyM masters)) := by
  have hmm : manyM masters ≤ 3 ∧ (manyM masters : Int) ≤ masters := by unfold m5 at hm; unfold manyM; omega
  have hnk : ((i + 1 : Nat) : Int) ∉ keysA (came1 i) := by
    rw [came1_keys]
    intro h
    obtain ⟨k, hk, e⟩ := List.mem_map.1 h
    have := List.mem_range.1 hk
    omega
  have hc : promC (L1 me masters i) ((i + 1 : Nat) : Int) [] = { L1 me masters i with came := came1 (i + 1) } := by
    simp only [promC, L1]
    rw [if_neg hnk]
    simp [came1, List.range_succ, delV]
  have hen := enough1 masters.toNat (by unfold m5 at hm; omega) (by unfold m5 at hm; omega) i (by omega) (by unfold manyM at hi; omega)
  rw [show ((masters.toNat : Nat) : Int) = masters by unfold m5 at hm; omega] at hen
  unfold promS
  rw [if_pos ⟨⟨by simp [hi], rfl⟩, by omega, by show ((i + 1 : Nat) : Int) ≤ masters; omega⟩, hc]
  simp only [came1_keys]
  simp only [L1]
  rw [hen]
  by_cases hl : i + 1 = manyM masters
  · have hl' : i + 1 = masters.toNat / 2 + 1 := hl
    rw [if_pos (decide_eq_true hl')]
    rw [best_nil (all1_nil (n := i + 1) _ rfl)]
    simp only [fillL, List.foldl_nil]
    simp [hl, openV, sortZ]
  · have hl' : ¬ i + 1 = masters.toNat / 2 + 1 := hl
    rw [if_neg (by simpa using hl')]
    have : i + 1 < manyM masters := by omega
    simp [hi, this, hl]
/-- n commands were chosen. -/
@[reducible] def L2 (me masters : Int) (n : Nat) : LeadS := ⟨me, masters, 2, 8 + me, 0, n, came1 (manyM masters), []⟩
theorem propose2 {me masters : Int} {n : Nat} (hn : n < 512) (c : Cmd) : proposeS (L2 me masters n) c = if c.check ≠ 0 then (L2 me masters n, noVote, c.check) else (layS (L2 me masters n) c, .of n (8 + me) c, 0) := by
  unfold proposeS
  rw [if_neg (by simp)]
  split
  · rfl
  · have h1 : hasCmd c (openV (L2 me masters n)) = false := by simp [openV, sortZ, hasCmd]
    rw [if_neg (by simp [h1]), if_neg (by simp; omega)]
    simp [voteS, layS, putA, lookA]
def whoL (masters : Int) (t : Nat) : Nat := withN 0 ((List.range t).map fun (k : Nat) => masters - k)
theorem enough3 : ∀ m : Nat, m < 6 → 0 < m → ∀ t : Nat, t < 4 → t < m / 2 + 1 → ev64 (whoL m (t + 1)) ∧ withN (whoL m t) [((m : Int) - t)] = whoL m (t + 1) ∧ enoughN (whoL m (t + 1)) (m : Int) = decide (t + 1 = m / 2 + 1) := by decide +kernel
/-- Behind t of those that accept. -/
@[reducible] def L3 (me masters : Int) (n : Nat) (c : Cmd) (t : Nat) : LeadS := ⟨me, masters, 2, 8 + me, 0, ((n + 1 : Nat) : Int), came1 (manyM masters), if t < manyM masters then [((n : Int), c, whoL masters t)] else []⟩
theorem lay3 (me masters : Int) (n : Nat) (c : Cmd) : layS (L2 me masters n) c = L3 me masters n c 0 := by
  have : 0 < manyM masters := by unfold manyM; omega
  simp [layS, putA, this, whoL, withN]
theorem done3 (me masters : Int) (n : Nat) (c : Cmd) : L3 me masters n c (manyM masters) = L2 me masters (n + 1) := by simp
theorem accept3 {me masters : Int} (hm : m5 masters) {n : Nat} {c : Cmd} {t : Nat} (ht : t < manyM masters) :
    acceptedS (L3 me masters n c t) (8 + me) n (masters - t) = (L3 me masters n c (t + 1), if t + 1 = manyM masters then .of n (8 + me) c else noVote, decide (t + 1 = manyM masters)) := by
  have hmm : manyM masters ≤ 3 ∧ (manyM masters : Int) ≤ masters := by unfold m5 at hm; unfold manyM; omega
  obtain ⟨e1, e2, e3⟩ := enough3 masters.toNat (by unfold m5 at hm; omega) (by unfold m5 at hm; omega) t (by omega) (by unfold manyM at ht; omega)
  rw [show ((masters.toNat : Nat) : Int) = masters by unfold m5 at hm; omega] at e1 e2 e3
  unfold acceptedS
  rw [if_pos ⟨⟨rfl, rfl⟩, by omega, by show masters - (t : Int) ≤ masters; omega⟩]
  simp only [L3, ht, if_true, lookA]
  rw [e2, e3]
  by_cases hl : t + 1 = manyM masters
  · have hl' : t + 1 = masters.toNat / 2 + 1 := hl
    rw [if_pos (decide_eq_true hl')]
    simp [hl, putA, delA]
  · have hl' : ¬ t + 1 = masters.toNat / 2 + 1 := hl
    have : t + 1 < manyM masters := by omega
    rw [if_neg (by simpa using hl')]
    simp [hl, putA, this]
theorem opn1 (me masters : Int) (i : Nat) : OpnOk (L1 me masters i) := ⟨by simp, by simp⟩
theorem opn2 (me masters : Int) (n : Nat) : OpnOk (L2 me masters n) := ⟨by simp, by simp⟩
theorem ev3 {me masters : Int} (hm : m5 masters) {n : Nat} {c : Cmd} {t : Nat} (ht : t < manyM masters) : (∀ e ∈ (L3 me masters n c t).opn, ev64 e.2.2) ∧ (keysA (L3 me masters n c t).opn).Nodup := by
  have hmm : manyM masters ≤ 3 := by unfold m5 at hm; unfold manyM; omega
  simp only [L3, ht, if_true]
  refine ⟨fun e he => ?_, by simp⟩
  simp at he; subst he
  cases t with
  | zero => exact (by decide : ev64 0)
  | succ t =>
    obtain ⟨e1, _, _⟩ := enough3 masters.toNat (by unfold m5 at hm; omega) (by unfold m5 at hm; omega) t (by omega) (by unfold manyM at ht; omega)
    rw [show ((masters.toNat : Nat) : Int) = masters by unfold m5 at hm; omega] at e1
    exact e1
/-! ### The law -/
@[reducible] def encC (c : Cmd) : List TV := [.s (.int .i64 c.kind), .s (.int .i64 c.chain), .s (.int .u64 c.epoch), .s (.int .i64 c.node)]
theorem chooses_ok (me masters : Int) (cs : List Cmd) : VC E0 11 0 [.s (.int .i64 me), .s (.int .i64 masters), .sl 4 (cs.map encC) false] [] (fun r _ _ => r = .s (.bool true)) := by
  refine VC.enterR L0 (show E0.func 11 = some Try.f11 by kernel_rfl) (fun _ _ => rfl) rfl rfl [] ?_
  ((conv => whnf) <;> repeat ((with_reducible refine Drawn.mk (by kernel_rfl) ?_) <;> conv => whnf))
  refine ⟨[], [], _, _, _, _, rightR_ok me masters, ⟨by (repeat' (first | (with_reducible exact Lz.rfl) | (exact Lw.rfl) | (exact Lz.wrap (by omega)) | ((unfold goInt); (with_reducible exact Lz.rfl)) | constructor)), by (repeat' (first | (with_reducible exact Lz.rfl) | (exact Lw.rfl) | (exact Lz.wrap (by omega)) | ((unfold goInt); (with_reducible exact Lz.rfl)) | constructor)), by rfl⟩, ?_⟩
  rintro r o' c' ⟨rfl, rfl, rfl⟩
  have hz_ := True.intro
  clear hz_
  cases hr : isRight me masters
  · ((conv => whnf) <;> repeat ((with_reducible refine Drawn.mk (by kernel_rfl) ?_) <;> conv => whnf))
    refine ⟨[], [], _, _, _, _, awake13, ⟨by (repeat' (first | (with_reducible exact Lz.rfl) | (exact Lw.rfl) | (exact Lz.wrap (by omega)) | ((unfold goInt); (with_reducible exact Lz.rfl)) | constructor)), by (repeat' (first | (with_reducible exact Lz.rfl) | (exact Lw.rfl) | (exact Lz.wrap (by omega)) | ((unfold goInt); (with_reducible exact Lz.rfl)) | constructor)), by rfl⟩, ?_⟩
    rintro r o' c' ⟨rfl, rfl, rfl⟩
    ((conv => whnf) <;> repeat ((with_reducible refine Drawn.mk (by kernel_rfl) ?_) <;> conv => whnf))
    exact ⟨[], [], [], .s (.bool true), [], ⟨.s Lz.rfl, .nil, rfl⟩, rfl⟩
  · obtain ⟨hm, hme1, hme2⟩ := of_decide_eq_true hr
    have hme : m5 me := by unfold m5 at *; omega
    have hmm : 1 ≤ manyM masters ∧ manyM masters ≤ 3 ∧ (manyM masters : Int) ≤ masters := by unfold m5 at hm; unfold manyM; omega
    ((conv => whnf) <;> repeat ((with_reducible refine Drawn.mk (by kernel_rfl) ?_) <;> conv => whnf))
    (first | (refine ⟨fun h60 => ?_, fun h60 => ?_⟩) | (refine nsplit (fun h60 => ?_) (fun h60 => ?_)) | (refine bsplit (fun h60 => ?_) (fun h60 => ?_))) <;> have hz_ := True.intro <;> clear hz_
    · ((conv => whnf) <;> repeat ((with_reducible refine Drawn.mk (by kernel_rfl) ?_) <;> conv => whnf))
      refine ⟨[], [], _, _, _, _, awake13, ⟨by (repeat' (first | (with_reducible exact Lz.rfl) | (exact Lw.rfl) | (exact Lz.wrap (by omega)) | ((unfold goInt); (with_reducible exact Lz.rfl)) | constructor)), by (repeat' (first | (with_reducible exact Lz.rfl) | (exact Lw.rfl) | (exact Lz.wrap (by omega)) | ((unfold goInt); (with_reducible exact Lz.rfl)) | constructor)), by rfl⟩, ?_⟩
      rintro r o' c' ⟨rfl, rfl, rfl⟩
      ((conv => whnf) <;> repeat ((with_reducible refine Drawn.mk (by kernel_rfl) ?_) <;> conv => whnf))
      exact ⟨[], [], [], .s (.bool true), [], ⟨.s Lz.rfl, .nil, rfl⟩, rfl⟩
    · have h60 : cs.length ≤ 60 := by have : ¬ (((cs.map encC).length : Nat) : Int) > 60 := h60
                                      simp at this; omega
      ((conv => whnf) <;> repeat ((with_reducible refine Drawn.mk (by kernel_rfl) ?_) <;> conv => whnf))
      refine ⟨[], [], _, _, _, _, newL_ok me masters hm ⟨hme1, hme2⟩, ⟨by (repeat' (first | (with_reducible exact Lz.rfl) | (exact Lw.rfl) | (exact Lz.wrap (by omega)) | ((unfold goInt); (with_reducible exact Lz.rfl)) | constructor)), by (repeat' (first | (with_reducible exact Lz.rfl) | (exact Lw.rfl) | (exact Lz.wrap (by omega)) | ((unfold goInt); (with_reducible exact Lz.rfl)) | constructor)), by rfl⟩, ?_⟩
      rintro r o' c' ⟨rfl, rfl, rfl⟩
      ((conv => whnf) <;> repeat ((with_reducible refine Drawn.mk (by kernel_rfl) ?_) <;> conv => whnf))
      refine ⟨[], [some 0], _, _, _, _, start0_ok me masters hme, ⟨by (repeat' (first | (with_reducible exact Lz.rfl) | (exact Lw.rfl) | (exact Lz.wrap (by omega)) | ((unfold goInt); (with_reducible exact Lz.rfl)) | constructor)), by (repeat' (first | (with_reducible exact Lz.rfl) | (exact Lw.rfl) | (exact Lz.wrap (by omega)) | ((unfold goInt); (with_reducible exact Lz.rfl)) | constructor)), by rfl⟩, ?_⟩
      rintro r o' c' ⟨rfl, rfl, rfl⟩
      ((conv => whnf) <;> repeat ((with_reducible refine Drawn.mk (by kernel_rfl) ?_) <;> conv => whnf))
      have hmany : IntKind.i64.wrap (IntKind.i64.wrap (masters.tdiv 2) + 1) = (manyM masters : Nat) := by
        unfold m5 at hm
        rw [Int.tdiv_eq_ediv_of_nonneg (by omega), IntWalk.i64_in (masters / 2) (by omega), IntWalk.i64_in (masters / 2 + 1) (by omega)]
        unfold manyM; omega
      refine ⟨fun k f o c => ∃ i : Nat, i ≤ manyM masters ∧ k = manyM masters - i ∧ c = 3 ∧ f = [(1, .s (.int .i64 masters)), (2, .sl 4 (cs.map encC) false), (7, .ptr 0 0), (9, .s (.int .u64 (8 + me))), (11, .s (.int .i64 (manyM masters))), (12, .s (.int .i64 ((i + 1 : Nat) : Int)))] ∧ o = stL (L1 me masters i), ⟨manyM masters, ?_⟩, ?_⟩
      · refine ⟨[], [some 0, some 2, some 3], ?_⟩
        iterate 3 constructor
        refine ⟨⟨?_, ?_, ?_⟩, ⟨0, Nat.zero_le _, rfl, rfl, rfl, rfl⟩⟩
        all_goals (repeat' (first | (with_reducible exact Lz.rfl) | (exact Lw.rfl) | (exact Lz.wrap (by omega)) | ((unfold goInt); (with_reducible exact Lz.rfl)) | constructor))
        all_goals first | exact Lz.int hmany | (refine Lz.int ?_; rw [if_pos (by omega)]) | exact Lz.of (by simp [came1])
      · rintro k f1 o1 c1 ⟨i, hi, rfl, rfl, rfl, rfl⟩
        ((conv => whnf) <;> repeat ((with_reducible refine Drawn.mk (by kernel_rfl) ?_) <;> conv => whnf))
        (first | (refine ⟨fun hle => ?_, fun hle => ?_⟩) | (refine nsplit (fun hle => ?_) (fun hle => ?_)) | (refine bsplit (fun hle => ?_) (fun hle => ?_))) <;> have hz_ := True.intro <;> clear hz_
        · have hle : ((i + 1 : Nat) : Int) ≤ (manyM masters : Nat) := hle
          have hi' : i < manyM masters := by omega
          ((conv => whnf) <;> repeat ((with_reducible refine Drawn.mk (by kernel_rfl) ?_) <;> conv => whnf))
          refine ⟨[], [some 0, some 1, some 2], _, _, _, _, promise_ok (L1 me masters i) (8 + me) ((i + 1 : Nat) : Int) [] (came1_ok (n := i) (by omega) _ rfl) (opn1 ..) hm (by simp) (by simp) (by simp), ⟨by (repeat' (first | (with_reducible exact Lz.rfl) | (exact Lw.rfl) | (exact Lz.wrap (by omega)) | ((unfold goInt); (with_reducible exact Lz.rfl)) | constructor)), by (repeat' (first | (with_reducible exact Lz.rfl) | (exact Lw.rfl) | (exact Lz.wrap (by omega)) | ((unfold goInt); (with_reducible exact Lz.rfl)) | constructor)), by rfl⟩, ?_⟩
          rintro r o' c' ⟨rfl, rfl, rfl⟩
          rw [prom1 hm hi']
          by_cases hl : i + 1 = manyM masters
          · rw [show decide (i + 1 = manyM masters) = true from decide_eq_true hl]
            ((conv => whnf) <;> repeat ((with_reducible refine Drawn.mk (by kernel_rfl) ?_) <;> conv => whnf))
            (first | (refine ⟨fun he => ?_, fun he => ?_⟩) | (refine nsplit (fun he => ?_) (fun he => ?_)) | (refine bsplit (fun he => ?_) (fun he => ?_))) <;> have hz_ := True.intro <;> clear hz_
            · ((conv => whnf) <;> repeat ((with_reducible refine Drawn.mk (by kernel_rfl) ?_) <;> conv => whnf))
              repeat ((first | (refine ⟨fun h_ => ?_, fun h_ => ?_⟩) | (refine nsplit (fun h_ => ?_) (fun h_ => ?_)) | (refine bsplit (fun h_ => ?_) (fun h_ => ?_))) <;> first | (exfalso; revert h_; decide; done) | (exact absurd rfl h_) | (have hz_ := True.intro; clear hz_; ((conv => whnf) <;> repeat ((with_reducible refine Drawn.mk (by kernel_rfl) ?_) <;> conv => whnf))))
              refine ⟨manyM masters - (i + 1), ?_, by omega⟩
              refine ⟨[], [some 0, some 1, some 2], ?_⟩
              iterate 3 constructor
              refine ⟨⟨?_, ?_, ?_⟩, ⟨i + 1, by omega, rfl, rfl, rfl, rfl⟩⟩
              all_goals (repeat' (first | (with_reducible exact Lz.rfl) | (exact Lw.rfl) | (exact Lz.wrap (by omega)) | ((unfold goInt); (with_reducible exact Lz.rfl)) | constructor))
            · have he : ¬ ((i + 1 : Nat) : Int) = (manyM masters : Nat) := he
              omega
          · rw [show decide (i + 1 = manyM masters) = false from decide_eq_false hl]
            ((conv => whnf) <;> repeat ((with_reducible refine Drawn.mk (by kernel_rfl) ?_) <;> conv => whnf))
            (first | (refine ⟨fun he => ?_, fun he => ?_⟩) | (refine nsplit (fun he => ?_) (fun he => ?_)) | (refine bsplit (fun he => ?_) (fun he => ?_))) <;> have hz_ := True.intro <;> clear hz_
            · have he : ((i + 1 : Nat) : Int) = (manyM masters : Nat) := he
              omega
            · ((conv => whnf) <;> repeat ((with_reducible refine Drawn.mk (by kernel_rfl) ?_) <;> conv => whnf))
              repeat ((first | (refine ⟨fun h_ => ?_, fun h_ => ?_⟩) | (refine nsplit (fun h_ => ?_) (fun h_ => ?_)) | (refine bsplit (fun h_ => ?_) (fun h_ => ?_))) <;> first | (exfalso; revert h_; decide; done) | (exact absurd rfl h_) | (have hz_ := True.intro; clear hz_; ((conv => whnf) <;> repeat ((with_reducible refine Drawn.mk (by kernel_rfl) ?_) <;> conv => whnf))))
              refine ⟨manyM masters - (i + 1), ?_, by omega⟩
              refine ⟨[], [some 0, some 1, some 2], ?_⟩
              iterate 3 constructor
              refine ⟨⟨?_, ?_, ?_⟩, ⟨i + 1, by omega, rfl, rfl, rfl, rfl⟩⟩
              all_goals (repeat' (first | (with_reducible exact Lz.rfl) | (exact Lw.rfl) | (exact Lz.wrap (by omega)) | ((unfold goInt); (with_reducible exact Lz.rfl)) | constructor))
        · have hle : ¬ ((i + 1 : Nat) : Int) ≤ (manyM masters : Nat) := hle
          have hie : i = manyM masters := by omega
          subst hie
          have hL : L1 me masters (manyM masters) = L2 me masters 0 := by simp [L1, L2]
          rw [hL]
          ((conv => whnf) <;> repeat ((with_reducible refine Drawn.mk (by kernel_rfl) ?_) <;> conv => whnf))
          refine ⟨fun k f o c => ∃ j n : Nat, j ≤ cs.length ∧ n ≤ j ∧ k = cs.length - j ∧ c = 3 ∧ f = [(1, .s (.int .i64 masters)), (2, .sl 4 (cs.map encC) false), (7, .ptr 0 0), (9, .s (.int .u64 (8 + me))), (11, .s (.int .i64 (manyM masters))), (15, .s (.int .i64 j))] ∧ o = stL (L2 me masters n), ⟨cs.length, ?_⟩, ?_⟩
          · refine ⟨[], [some 0, some 1, some 2], ?_⟩
            iterate 3 constructor
            refine ⟨⟨?_, ?_, ?_⟩, ⟨0, 0, Nat.zero_le _, Nat.le_refl _, rfl, rfl, rfl, rfl⟩⟩
            all_goals (repeat' (first | (with_reducible exact Lz.rfl) | (exact Lw.rfl) | (exact Lz.wrap (by omega)) | ((unfold goInt); (with_reducible exact Lz.rfl)) | constructor))
          · rintro k f1 o1 c1 ⟨j, n, hj, hnj, rfl, rfl, rfl, rfl⟩
            ((conv => whnf) <;> repeat ((with_reducible refine Drawn.mk (by kernel_rfl) ?_) <;> conv => whnf))
            (first | (refine ⟨fun h => ?_, fun h => ?_⟩) | (refine nsplit (fun h => ?_) (fun h => ?_)) | (refine bsplit (fun h => ?_) (fun h => ?_))) <;> have hz_ := True.intro <;> clear hz_
            · have h : j < cs.length := by simpa using h
              ((conv => whnf) <;> repeat ((with_reducible refine Drawn.mk (by kernel_rfl) ?_) <;> conv => whnf))
              refine ⟨[], [some 0, some 1, some 2], _, _, _, _, nextL_ok (L2 me masters n), ⟨by (repeat' (first | (with_reducible exact Lz.rfl) | (exact Lw.rfl) | (exact Lz.wrap (by omega)) | ((unfold goInt); (with_reducible exact Lz.rfl)) | constructor)), by (repeat' (first | (with_reducible exact Lz.rfl) | (exact Lw.rfl) | (exact Lz.wrap (by omega)) | ((unfold goInt); (with_reducible exact Lz.rfl)) | constructor)), by rfl⟩, ?_⟩
              rintro r o' c' ⟨rfl, rfl, rfl⟩
              ((conv => whnf) <;> repeat ((with_reducible refine Drawn.mk (by kernel_rfl) ?_) <;> conv => whnf))
              refine idxI h ?_
              ((conv => whnf) <;> repeat ((with_reducible refine Drawn.mk (by kernel_rfl) ?_) <;> conv => whnf))
              refine ⟨[], [some 0, some 1, some 2], _, _, _, _, propose_ok (L2 me masters n) cs[j] (opn2 ..) (by simp only []; omega), ⟨by (repeat' (first | (with_reducible exact Lz.rfl) | (exact Lw.rfl) | (exact Lz.wrap (by omega)) | ((unfold goInt); (with_reducible exact Lz.rfl)) | constructor)), by (repeat' (first | (with_reducible exact Lz.rfl) | (exact Lw.rfl) | (exact Lz.wrap (by omega)) | ((unfold goInt); (with_reducible exact Lz.rfl)) | constructor)), by rfl⟩, ?_⟩
              rintro r o' c' ⟨rfl, rfl, rfl⟩
              rw [propose2 (by omega)]
              generalize hcj : cs[j] = cj at *
              by_cases hck : cj.check ≠ 0
              · rw [if_pos hck]
                ((conv => whnf) <;> repeat ((with_reducible refine Drawn.mk (by kernel_rfl) ?_) <;> conv => whnf))
                (first | (refine ⟨fun hne => ?_, fun hne => ?_⟩) | (refine nsplit (fun hne => ?_) (fun hne => ?_)) | (refine bsplit (fun hne => ?_) (fun hne => ?_))) <;> have hz_ := True.intro <;> clear hz_
                · ((conv => whnf) <;> repeat ((with_reducible refine Drawn.mk (by kernel_rfl) ?_) <;> conv => whnf))
                  refine ⟨cs.length - (j + 1), ?_, by omega⟩
                  refine ⟨[], [some 0, some 1, some 2], ?_⟩
                  iterate 3 constructor
                  refine ⟨⟨?_, ?_, ?_⟩, ⟨j + 1, n, h, by omega, rfl, rfl, rfl, rfl⟩⟩
                  all_goals (repeat' (first | (with_reducible exact Lz.rfl) | (exact Lw.rfl) | (exact Lz.wrap (by omega)) | ((unfold goInt); (with_reducible exact Lz.rfl)) | constructor))
                · exact absurd hck hne
              · rw [if_neg hck, lay3]
                ((conv => whnf) <;> repeat ((with_reducible refine Drawn.mk (by kernel_rfl) ?_) <;> conv => whnf))
                repeat ((first | (refine ⟨fun h_ => ?_, fun h_ => ?_⟩) | (refine nsplit (fun h_ => ?_) (fun h_ => ?_)) | (refine bsplit (fun h_ => ?_) (fun h_ => ?_))) <;> first | (exfalso; revert h_; decide; done) | (exact absurd rfl h_) | (have hz_ := True.intro; clear hz_; ((conv => whnf) <;> repeat ((with_reducible refine Drawn.mk (by kernel_rfl) ?_) <;> conv => whnf))))
                have hwr : IntKind.i64.wrap (masters - (manyM masters : Nat)) = masters - (manyM masters : Nat) := IntWalk.i64_in _ (by unfold m5 at hm; omega)
                refine ⟨fun k f o c => ∃ t : Nat, t ≤ manyM masters ∧ k = manyM masters - t ∧ c = 4 ∧ f = [(1, .s (.int .i64 masters)), (2, .sl 4 (cs.map encC) false), (7, .ptr 0 0), (9, .s (.int .u64 (8 + me))), (11, .s (.int .i64 (manyM masters))), (15, .s (.int .i64 j)), (16, .s (.int .i64 n)), (17, .ptr 3 0), (19, .s (.int .i64 (masters - t)))] ∧
                  o = [(0, leadO (L3 me masters n cj t) 1 2), (1, cameO (L3 me masters n cj t)), (2, openO (L3 me masters n cj t)), (3, .cells (encV (.of n (8 + me) cj)))], ⟨manyM masters, ?_⟩, ?_⟩
                · refine ⟨[], [some 0, some 1, some 2, some 9], ?_⟩
                  iterate 3 constructor
                  refine ⟨⟨?_, ?_, ?_⟩, ⟨0, Nat.zero_le _, rfl, rfl, rfl, rfl⟩⟩
                  all_goals (repeat' (first | (with_reducible exact Lz.rfl) | (exact Lw.rfl) | (exact Lz.wrap (by omega)) | ((unfold goInt); (with_reducible exact Lz.rfl)) | constructor))
                  all_goals exact Lz.int (by simp)
                · rintro k f1 o1 c1 ⟨t, ht, rfl, rfl, rfl, rfl⟩
                  ((conv => whnf) <;> repeat ((with_reducible refine Drawn.mk (by kernel_rfl) ?_) <;> conv => whnf))
                  (first | (refine ⟨fun hgt => ?_, fun hgt => ?_⟩) | (refine nsplit (fun hgt => ?_) (fun hgt => ?_)) | (refine bsplit (fun hgt => ?_) (fun hgt => ?_))) <;> have hz_ := True.intro <;> clear hz_
                  · have hgt : masters - t > IntKind.i64.wrap (masters - (manyM masters : Nat)) := hgt
                    rw [hwr] at hgt
                    have ht' : t < manyM masters := by omega
                    ((conv => whnf) <;> repeat ((with_reducible refine Drawn.mk (by kernel_rfl) ?_) <;> conv => whnf))
                    obtain ⟨v1, v2⟩ := ev3 (me := me) hm (n := n) (c := cj) ht'
                    refine ⟨[], [some 0, some 1, some 2], _, _, _, _, accepted_ok (L3 me masters n cj t) (8 + me) n (masters - t) hm v1 v2, ⟨by (repeat' (first | (with_reducible exact Lz.rfl) | (exact Lw.rfl) | (exact Lz.wrap (by omega)) | ((unfold goInt); (with_reducible exact Lz.rfl)) | constructor)), by (repeat' (first | (with_reducible exact Lz.rfl) | (exact Lw.rfl) | (exact Lz.wrap (by omega)) | ((unfold goInt); (with_reducible exact Lz.rfl)) | constructor)), by rfl⟩, ?_⟩
                    rintro r o' c' ⟨rfl, rfl, rfl⟩
                    rw [accept3 hm ht']
                    by_cases hl : t + 1 = manyM masters
                    · rw [show decide (t + 1 = manyM masters) = true from decide_eq_true hl, if_pos hl]
                      ((conv => whnf) <;> repeat ((with_reducible refine Drawn.mk (by kernel_rfl) ?_) <;> conv => whnf))
                      (first | (refine ⟨fun he => ?_, fun he => ?_⟩) | (refine nsplit (fun he => ?_) (fun he => ?_)) | (refine bsplit (fun he => ?_) (fun he => ?_))) <;> have hz_ := True.intro <;> clear hz_
                      · ((conv => whnf) <;> repeat ((with_reducible refine Drawn.mk (by kernel_rfl) ?_) <;> conv => whnf))
                        (first | (refine ⟨fun hx => ?_, fun hx => ?_⟩) | (refine nsplit (fun hx => ?_) (fun hx => ?_)) | (refine bsplit (fun hx => ?_) (fun hx => ?_))) <;> have hz_ := True.intro <;> clear hz_
                        · cases eqB_false.1 ((veq_vote _ _).symm.trans hx) rfl
                        · ((conv => whnf) <;> repeat ((with_reducible refine Drawn.mk (by kernel_rfl) ?_) <;> conv => whnf))
                          (first | (refine ⟨fun hy => ?_, fun hy => ?_⟩) | (refine nsplit (fun hy => ?_) (fun hy => ?_)) | (refine bsplit (fun hy => ?_) (fun hy => ?_))) <;> have hz_ := True.intro <;> clear hz_
                          · exact absurd rfl hy
                          · ((conv => whnf) <;> repeat ((with_reducible refine Drawn.mk (by kernel_rfl) ?_) <;> conv => whnf))
                            refine idxI h ?_
                            rw [hcj]
                            ((conv => whnf) <;> repeat ((with_reducible refine Drawn.mk (by kernel_rfl) ?_) <;> conv => whnf))
                            (first | (refine ⟨fun hz => ?_, fun hz => ?_⟩) | (refine nsplit (fun hz => ?_) (fun hz => ?_)) | (refine bsplit (fun hz => ?_) (fun hz => ?_))) <;> have hz_ := True.intro <;> clear hz_
                            · have hz : sameC cj cj = false := (veq_cmd cj cj).symm.trans hz
                              rw [sameC_iff.2 rfl] at hz; cases hz
                            · ((conv => whnf) <;> repeat ((with_reducible refine Drawn.mk (by kernel_rfl) ?_) <;> conv => whnf))
                              refine ⟨manyM masters - (t + 1), ?_, by omega⟩
                              refine ⟨[], [some 0, some 1, some 2, some 3], ?_⟩
                              iterate 3 constructor
                              refine ⟨⟨?_, ?_, ?_⟩, ⟨t + 1, ht', rfl, rfl, rfl, rfl⟩⟩
                              all_goals (repeat' (first | (with_reducible exact Lz.rfl) | (exact Lw.rfl) | (exact Lz.wrap (by omega)) | ((unfold goInt); (with_reducible exact Lz.rfl)) | constructor))
                              all_goals (refine Lz.int ?_; rw [IntWalk.i64_in _ (by unfold m5 at hm; omega)]; omega)
                      · have he : ¬ masters - t = IntKind.i64.wrap (IntKind.i64.wrap (masters - (manyM masters : Nat)) + 1) := he
                        rw [hwr, IntWalk.i64_in _ (by unfold m5 at hm; omega)] at he
                        omega
                    · rw [show decide (t + 1 = manyM masters) = false from decide_eq_false hl, if_neg hl]
                      ((conv => whnf) <;> repeat ((with_reducible refine Drawn.mk (by kernel_rfl) ?_) <;> conv => whnf))
                      (first | (refine ⟨fun he => ?_, fun he => ?_⟩) | (refine nsplit (fun he => ?_) (fun he => ?_)) | (refine bsplit (fun he => ?_) (fun he => ?_))) <;> have hz_ := True.intro <;> clear hz_
                      · have he : masters - t = IntKind.i64.wrap (IntKind.i64.wrap (masters - (manyM masters : Nat)) + 1) := he
                        rw [hwr, IntWalk.i64_in _ (by unfold m5 at hm; omega)] at he
                        omega
                      · ((conv => whnf) <;> repeat ((with_reducible refine Drawn.mk (by kernel_rfl) ?_) <;> conv => whnf))
                        refine ⟨manyM masters - (t + 1), ?_, by omega⟩
                        refine ⟨[], [some 0, some 1, some 2, some 3], ?_⟩
                        iterate 3 constructor
                        refine ⟨⟨?_, ?_, ?_⟩, ⟨t + 1, ht', rfl, rfl, rfl, rfl⟩⟩
                        all_goals (repeat' (first | (with_reducible exact Lz.rfl) | (exact Lw.rfl) | (exact Lz.wrap (by omega)) | ((unfold goInt); (with_reducible exact Lz.rfl)) | constructor))
                        all_goals (refine Lz.int ?_; rw [IntWalk.i64_in _ (by unfold m5 at hm; omega)]; omega)
                  · have hgt : ¬ masters - t > IntKind.i64.wrap (masters - (manyM masters : Nat)) := hgt
                    rw [hwr] at hgt
                    have ht' : t = manyM masters := by omega
                    subst ht'
                    rw [done3]
                    ((conv => whnf) <;> repeat ((with_reducible refine Drawn.mk (by kernel_rfl) ?_) <;> conv => whnf))
                    refine ⟨cs.length - (j + 1), ?_, by omega⟩
                    refine ⟨[], [some 0, some 1, some 2], ?_⟩
                    iterate 3 constructor
                    refine ⟨⟨?_, ?_, ?_⟩, ⟨j + 1, n + 1, h, by omega, rfl, rfl, rfl, rfl⟩⟩
                    all_goals (repeat' (first | (with_reducible exact Lz.rfl) | (exact Lw.rfl) | (exact Lz.wrap (by omega)) | ((unfold goInt); (with_reducible exact Lz.rfl)) | constructor))
            · ((conv => whnf) <;> repeat ((with_reducible refine Drawn.mk (by kernel_rfl) ?_) <;> conv => whnf))
              refine ⟨[], [some 0, some 1, some 2], _, _, _, _, openL_ok (L2 me masters n) ((opn2 ..).ks (by simp only []; omega)) (by simp), ⟨by (repeat' (first | (with_reducible exact Lz.rfl) | (exact Lw.rfl) | (exact Lz.wrap (by omega)) | ((unfold goInt); (with_reducible exact Lz.rfl)) | constructor)), by (repeat' (first | (with_reducible exact Lz.rfl) | (exact Lw.rfl) | (exact Lz.wrap (by omega)) | ((unfold goInt); (with_reducible exact Lz.rfl)) | constructor)), by rfl⟩, ?_⟩
              rintro r o' c' ⟨rfl, rfl, rfl⟩
              ((conv => whnf) <;> repeat ((with_reducible refine Drawn.mk (by kernel_rfl) ?_) <;> conv => whnf))
              (first | (refine ⟨fun hz => ?_, fun hz => ?_⟩) | (refine nsplit (fun hz => ?_) (fun hz => ?_)) | (refine bsplit (fun hz => ?_) (fun hz => ?_))) <;> have hz_ := True.intro <;> clear hz_
              · ((conv => whnf) <;> repeat ((with_reducible refine Drawn.mk (by kernel_rfl) ?_) <;> conv => whnf))
                refine ⟨[], [], _, _, _, _, awake13, ⟨by (repeat' (first | (with_reducible exact Lz.rfl) | (exact Lw.rfl) | (exact Lz.wrap (by omega)) | ((unfold goInt); (with_reducible exact Lz.rfl)) | constructor)), by (repeat' (first | (with_reducible exact Lz.rfl) | (exact Lw.rfl) | (exact Lz.wrap (by omega)) | ((unfold goInt); (with_reducible exact Lz.rfl)) | constructor)), by rfl⟩, ?_⟩
                rintro r o' c' ⟨rfl, rfl, rfl⟩
                ((conv => whnf) <;> repeat ((with_reducible refine Drawn.mk (by kernel_rfl) ?_) <;> conv => whnf))
                exact ⟨[], [], [], .s (.bool true), [], ⟨.s Lz.rfl, .nil, rfl⟩, rfl⟩
              · exact absurd (by simp [openV, sortZ]) hz
end Go.M

namespace Go.M
open Go Go.Proofs Go.RowKit Go.Maps Go.Sort Go.Shelf
set_option maxRecDepth 1000000
def keys102_ren : Go.Shelf.Ren := ⟨fun | 7 => 102 | 10 => 134 | n => n, fun | 23 => 145 | 26 => 3 | 3 => 160 | 28 => 131 | 0 => 0 | 27 => 130 | 33 => 149 | 4 => 4 | n => n, fun | n => n⟩
theorem keys102 : Go.Proofs.SlLaysZI.n7 Try.prog keys102_ren where
  mixed := by kernel_rfl
  f7 := ⟨Try.f102.name, by kernel_rfl, Try.func102.trans (congrArg some (by kernel_rfl))⟩
  f10 := ⟨Try.f134.name, by kernel_rfl, Try.func134.trans (congrArg some (by kernel_rfl))⟩
  t0 := Try.underlying0
  a0 := Try.isAgg0
  z0 := Try.sizeOf0
  v0 := Try.zeroValue0
  t4 := Try.underlying4
  a4 := Try.isAgg4
  z4 := Try.sizeOf4
  v4 := Try.zeroValue4
  t23 := Try.underlying145
  a23 := Try.isAgg145
  z23 := Try.sizeOf145
  v23 := Try.zeroValue145
  t26 := Try.underlying3
  a26 := Try.isAgg3
  z26 := Try.sizeOf3
  v26 := Try.zeroValue3
  t27 := Try.underlying130
  a27 := Try.isAgg130
  z27 := Try.sizeOf130
  v27 := Try.zeroValue130
  t28 := Try.underlying131
  a28 := Try.isAgg131
  z28 := Try.sizeOf131
  v28 := Try.zeroValue131
  t33 := Try.underlying149
  a33 := Try.isAgg149
  z33 := Try.sizeOf149
  v33 := Try.zeroValue149
theorem sorts101_134 : SortsKeys Try.prog 101 134 :=
  sortsKeys_of (ρ := sorted101_ren) (σ := keys102_ren) sorted101 { keys102 with } sortsIn101 (enters_of Try.func133 (by kernel_rfl) rfl) (enters_of Try.func134 (by kernel_rfl) rfl)
def keys95_ren : Go.Shelf.Ren := ⟨fun | 7 => 95 | 10 => 127 | n => n, fun | 23 => 144 | 26 => 3 | 3 => 22 | 28 => 131 | 0 => 0 | 27 => 130 | 33 => 149 | 4 => 4 | n => n, fun | n => n⟩
theorem keys95 : Go.Proofs.SlLaysZI.n7 Try.prog keys95_ren where
  mixed := by kernel_rfl
  f7 := ⟨Try.f95.name, by kernel_rfl, Try.func95.trans (congrArg some (by kernel_rfl))⟩
  f10 := ⟨Try.f127.name, by kernel_rfl, Try.func127.trans (congrArg some (by kernel_rfl))⟩
  t0 := Try.underlying0
  a0 := Try.isAgg0
  z0 := Try.sizeOf0
  v0 := Try.zeroValue0
  t4 := Try.underlying4
  a4 := Try.isAgg4
  z4 := Try.sizeOf4
  v4 := Try.zeroValue4
  t23 := Try.underlying144
  a23 := Try.isAgg144
  z23 := Try.sizeOf144
  v23 := Try.zeroValue144
  t26 := Try.underlying3
  a26 := Try.isAgg3
  z26 := Try.sizeOf3
  v26 := Try.zeroValue3
  t27 := Try.underlying130
  a27 := Try.isAgg130
  z27 := Try.sizeOf130
  v27 := Try.zeroValue130
  t28 := Try.underlying131
  a28 := Try.isAgg131
  z28 := Try.sizeOf131
  v28 := Try.zeroValue131
  t33 := Try.underlying149
  a33 := Try.isAgg149
  z33 := Try.sizeOf149
  v33 := Try.zeroValue149
theorem sorts101_127 : SortsKeys Try.prog 101 127 :=
  sortsKeys_of (ρ := sorted101_ren) (σ := keys95_ren) sorted101 { keys95 with } sortsIn101 (enters_of Try.func133 (by kernel_rfl) rfl) (enters_of Try.func127 (by kernel_rfl) rfl)
theorem collects80_127 : CollectsKeys Try.prog 80 127 :=
  collectsKeys_of (ρ := sorted101_ren) (σ := keys95_ren) { sorted101 with } { keys95 with } (enters_of Try.func127 (by kernel_rfl) rfl)
end Go.M

namespace Go.M
open Go Go.Proofs
set_option maxRecDepth 1000000
theorem mixed0 : Try.prog.follows .mixedOrders = true := by kernel_rfl
theorem awake14 : Awake Try.prog 14 := awake_of mixed0 (fs := []) (bs := []) (ps := []) (m := 0) (n := 100000) (by kernel_rfl)
theorem awake43 : Awake Try.prog 43 := awake_of mixed0 (fs := []) (bs := []) (ps := []) (m := 0) (n := 100000) (by kernel_rfl)
theorem awake49 : Awake Try.prog 49 := awake_of mixed0 (fs := [101]) (bs := [80]) (ps := [94]) (m := 100000) (n := 100000) (by kernel_rfl)
theorem orc0 (base B : Nat) : OrcOk Try.prog E0 base B := by
  refine orcW_ok (fun g hg => ?_) (fun g its hi k hk => ?_) (fun g its hi k hk => ?_) (fun g val hv => ?_) base B
  · simp only [List.mem_cons, List.not_mem_nil, or_false] at hg
    rcases hg with rfl | rfl | rfl
    · exact awake14
    · exact awake43
    · exact awake49
  · simp only [look] at hi
    split at hi
    · rename_i h
      have h := beq_iff.1 h
      subst h
      cases hi
      simp only [List.mem_cons, List.not_mem_nil, or_false] at hk
      rcases hk with rfl | rfl | rfl
      · exact sorts101_123
      · exact sorts101_134
      · exact sorts101_127
    · cases hi
  · simp only [look] at hi
    split at hi
    · rename_i h
      have h := beq_iff.1 h
      subst h
      cases hi
      simp only [List.mem_cons, List.not_mem_nil, or_false] at hk
      rcases hk with rfl | rfl
      · exact collects80_123
      · exact collects80_127
    · cases hi
  · simp only [look] at hv
    split at hv
    · rename_i h
      have h := beq_iff.1 h
      subst h
      cases hv
      exact minBag
    · split at hv
      · rename_i h
        have h := beq_iff.1 h
        subst h
        cases hv
        exact withBag
      · cases hv
end Go.M
