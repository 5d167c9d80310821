/-
  Part 6 of the library that the proof leans on.
-/
import Derived.Test.YtmookciakjmjiaaL5
namespace Go.M
open Go Go.Proofs
set_option maxRecDepth 100000
set_option maxHeartbeats 4000000
structure OpnOk (x : LeadS) : Prop where
 nd : (keysA x.opn).Nodup
 rng : ∀ n ∈ keysA x.opn, 0 ≤ n ∧ n < x.nxt
theorem OpnOk.lay {x : LeadS} (h : OpnOk x) (hn : 0 ≤ x.nxt) (c : Cmd) : OpnOk (layS x c) := by
 refine ⟨putA_nodup h.nd, fun n hm => ?_⟩
 have hm : n ∈ keysA (putA x.opn x.nxt (c, 0)) := hm
 rw [putA_keys] at hm
 show 0 ≤ n ∧ n < x.nxt + 1
 split at hm
 ·have := h.rng n hm; omega
 ·rcases List.mem_append.1 hm with h1 | h1
  ·have := h.rng n h1; omega
  ·simp at h1; omega
theorem OpnOk.layN {x : LeadS} (h : OpnOk x) (hn : 0 ≤ x.nxt) : ∀ m, OpnOk (layN x m)
 | 0 => h
 | m + 1 => (OpnOk.layN h hn m).lay (by rw [layN_nxt]; omega) noCmd
theorem OpnOk.fill {x : LeadS} (h : OpnOk x) (hn : 0 ≤ x.nxt) : ∀ l : List Vote, OpnOk (fillL x l) ∧ 0 ≤ (fillL x l).nxt ∧ ((∀ v ∈ l, v.slot < 512) → x.nxt ≤ 512 → (fillL x l).nxt ≤ 512 + l.length) := by
 intro l
 induction l generalizing x with
 | nil => exact ⟨h, hn, fun _ hx => by simpa [fillL] using hx⟩
 | cons v l ih =>
  have e : fillL x (v :: l) = fillL (layS (layUp x v.slot) (cmdOf v)) l := by simp [fillL]
  have h1 : (layUp x v.slot).nxt = x.nxt + (v.slot - x.nxt).toNat := layN_nxt x _
  have h2 : OpnOk (layUp x v.slot) := h.layN hn _
  have h3 : (layS (layUp x v.slot) (cmdOf v)).nxt = (layUp x v.slot).nxt + 1 := rfl
  rw [e]
  have gen : ∀ (l : List Vote) (y : LeadS) (k : Nat), (∀ v ∈ l, v.slot < 512) → 0 ≤ y.nxt → y.nxt ≤ 512 + k → (fillL y l).nxt ≤ 512 + k + l.length := by
   intro l
   induction l with
   | nil => intro y k _ _ hy; simpa [fillL] using hy
   | cons v l ih =>
    intro y k hv hy0 hy
    have e : fillL y (v :: l) = fillL (layS (layUp y v.slot) (cmdOf v)) l := by simp [fillL]
    have h1 : (layUp y v.slot).nxt = y.nxt + (v.slot - y.nxt).toNat := layN_nxt y _
    have h3 : (layS (layUp y v.slot) (cmdOf v)).nxt = (layUp y v.slot).nxt + 1 := rfl
    have := hv v List.mem_cons_self
    have := ih (layS (layUp y v.slot) (cmdOf v)) (k + 1) (fun w hw => hv w (List.mem_cons_of_mem _ hw)) (by omega) (by omega)
    rw [e, List.length_cons]
    omega
  obtain ⟨q1, q2, _⟩ := ih (h2.lay (by omega) (cmdOf v)) (by omega)
  refine ⟨q1, q2, fun hv hx => ?_⟩
  have := hv v List.mem_cons_self
  have := gen l (layS (layUp x v.slot) (cmdOf v)) 1 (fun w hw => hv w (List.mem_cons_of_mem _ hw)) (by omega) (by omega)
  rw [List.length_cons]; omega
theorem OpnOk.len {x : LeadS} (h : OpnOk x) (hn : x.nxt ≤ 100000) : x.opn.length ≤ 100000 := by
 have h2 : ((keysA x.opn).map (· + 1)).Nodup := by
  refine List.Pairwise.map _ ?_ h.nd
  intro a b hab e; exact hab (by omega)
 have := nodup_le 100000 ((keysA x.opn).map (· + 1)) h2 fun w hw => by
  obtain ⟨n, hn', rfl⟩ := List.mem_map.1 hw
  have := h.rng n hn'; omega
 simpa using this
theorem OpnOk.ks {x : LeadS} (h : OpnOk x) (hn : x.nxt ≤ 100000) : ksOk (keysA x.opn) := by
 refine ⟨by have := h.len hn; simp; omega, fun n hm => ?_, h.nd⟩
 have := h.rng n hm
 have h1 : IntKind.i64.min = -9223372036854775808 := rfl
 have h2 : IntKind.i64.max = 9223372036854775807 := rfl
 omega
theorem bestV_len {l : List (List Vote)} (h8 : l.length ≤ 8) (h40 : ∀ x ∈ l, x.length ≤ 40) (hr : ∀ x ∈ l, ∀ v ∈ x, inI v.slot) : (bestV l).length ≤ 320 := by
 obtain ⟨_, hlen⟩ := bestE_kb (l := l.flatten) (fun v hv => by obtain ⟨x, hx, hv⟩ := List.mem_flatten.1 hv; exact hr x hx v hv)
 have := flat_len8 h8 h40 (i := l.length)
 rw [List.take_length] at this
 unfold bestV; rw [allV_len]; omega
theorem fill_opn {x : LeadS} (h : CameOk x) (ho : OpnOk x) (hn : 0 ≤ x.nxt ∧ x.nxt ≤ 512) : OpnOk (fillL x (bestV (allL x))) ∧ 0 ≤ (fillL x (bestV (allL x))).nxt ∧ (fillL x (bestV (allL x))).nxt ≤ 832 := by
 obtain ⟨a1, a2⟩ := h.all
 obtain ⟨q1, q2, q3⟩ := ho.fill hn.1 (bestV (allL x))
 have := bestV_len a1 (fun l hl => (a2 l hl).1) (fun l hl v hv => ((a2 l hl).2 v hv).1)
 have := q3 (fun v hv => by
  obtain ⟨l, hl, hv⟩ := bestV_mem (fun l hl v hv => ((a2 l hl).2 v hv).1) hv
  exact ((a2 l hl).2 v hv).2) hn.2
 exact ⟨q1, q2, by omega⟩
theorem keysA_ne {α : Type} {es : List (Int × α)} (h : es ≠ []) : 0 < (keysA es).length := by
 simp only [keysA, List.length_map]; exact List.length_pos_iff.2 h
theorem promise_ok (x : LeadS) (b who : Int) (vs : List Vote) (hc : CameOk x) (ho : OpnOk x) (hm : m5 x.masters) (hl : vs.length ≤ 40) (hv : ∀ v ∈ vs, inI v.slot) (hn : 0 ≤ x.nxt ∧ x.nxt ≤ 512) :
 VC E0 52 3 [.ptr 0 0, .s (.int .u64 b), .s (.int .i64 who), encVs vs] (stL x) (RR (.tup [encVs (promS x b who vs).2.1, .s (.bool (promS x b who vs).2.2)]) 3 (stL (promS x b who vs).1)) := by
 refine VC.enterR L0 (show E0.func 52 = some Try.f52 by kernel_rfl) (fun _ _ => rfl) rfl rfl [] ?_
 ((conv=>whnf)<;>repeat(with_reducible refine D1 ?_)<;>conv=>whnf)
 refine ⟨[], [some 0, some 1, some 2], _, _, _, _, isL_ok x 1 b, t3, ?_⟩
 rintro r o' c' ⟨rfl, rfl, rfl⟩
 have hz_ := True.intro
 clear hz_
 cases h1 : decide (x.st = 1 ∧ x.b = b)
 ·have e : promS x b who vs = (x, [], false) := by unfold promS; rw [if_neg fun h => of_decide_eq_false h1 h.1]
  rw [e]
  ((conv=>whnf)<;>repeat(with_reducible refine D1 ?_)<;>conv=>whnf)
  exact ⟨[], [some 0, some 1, some 2], _, _, _, t3, rfl, rfl, rfl⟩
 ·((conv=>whnf)<;>repeat(with_reducible refine D1 ?_)<;>conv=>whnf)
  refine ⟨[], [some 0, some 1, some 2], _, _, _, _, isM_ok x who, t3, ?_⟩
  rintro r o' c' ⟨rfl, rfl, rfl⟩
  have hz_ := True.intro
  clear hz_
  cases h2 : decide (1 ≤ who ∧ who ≤ x.masters)
  ·have e : promS x b who vs = (x, [], false) := by unfold promS; rw [if_neg fun h => of_decide_eq_false h2 h.2]
   rw [e]
   ((conv=>whnf)<;>repeat(with_reducible refine D1 ?_)<;>conv=>whnf)
   exact ⟨[], [some 0, some 1, some 2], _, _, _, t3, rfl, rfl, rfl⟩
  ·have hw : m5 who := by have := of_decide_eq_true h2; unfold m5 at *; omega
   have hpc := promC_ok hc hw hl hv
   ((conv=>whnf)<;>repeat(with_reducible refine D1 ?_)<;>conv=>whnf)
   have hlk := lookM_A .i64 .i64 encVs who x.came
   cases hx : lookA x.came who with
   | none =>
    have hnm := lookA_none.1 hx
    rw [hx] at hlk
    refine ⟨_, hlk, ?_⟩
    ((conv=>whnf)<;>repeat(with_reducible refine D1 ?_)<;>conv=>whnf)
    refine ⟨[], [], _, _, _, _, cloneV_ok vs (by omega), t3, ?_⟩
    rintro r o' c' ⟨rfl, rfl, rfl⟩
    ((conv=>whnf)<;>repeat(with_reducible refine D1 ?_)<;>conv=>whnf)
    refine ⟨[], [some 10, some 3, some 0, some 1, some 2], _, _, _, _, delf_ok x vs (by omega), t3, ?_⟩
    rintro r o' c' ⟨rfl, rfl, rfl⟩
    ((conv=>whnf)<;>repeat(with_reducible refine D1 ?_)<;>conv=>whnf)
    refine ⟨[], [some 1], _, _, _, _, keysC_ok _, t3, ?_⟩
    rintro r o' c' ⟨rfl, rfl, rfl⟩
    ((conv=>whnf)<;>repeat(with_reducible refine D1 ?_)<;>conv=>whnf)
    have hput : putM (x.came.map (encA .i64 encVs)) (.int .i64 who) (encVs (delV x.frm vs)) = (promC x who vs).came.map (encA .i64 encVs) := by
     rw [putM_A, putA_new hnm]; simp [promC, hnm]
    refine ⟨[], [some 1, some 17], _, _, _, _, collectC_ok (promC x who vs) hpc.1.ks hpc.2, ⟨by ((repeat' first|with_reducible exact Lz.rfl|exact Lw.rfl|exact Lz.wrap (by omega)|(unfold goInt;with_reducible exact Lz.rfl)|exact flx _|constructor); all_goals (first | exact Lz.of hput | exact hput)), by ((repeat' first|with_reducible exact Lz.rfl|exact Lw.rfl|exact Lz.wrap (by omega)|(unfold goInt;with_reducible exact Lz.rfl)|exact flx _|constructor); all_goals (first | exact Lz.of hput | exact hput)), by rfl⟩, ?_⟩
    rintro r o' c' ⟨rfl, rfl, rfl⟩
    ((conv=>whnf)<;>repeat(with_reducible refine D1 ?_)<;>conv=>whnf)
    refine ⟨[], [some 20], _, _, _, _, withB_ok (keysA (promC x who vs).came) (keysA_ne hpc.2) (by have := nodup5 hpc.1.nd hpc.1.k5; omega) hpc.1.k5, t3, ?_⟩
    rintro r o' c' ⟨rfl, rfl, rfl⟩
    ((conv=>whnf)<;>repeat(with_reducible refine D1 ?_)<;>conv=>whnf)
    refine ⟨[], [], _, _, _, _, enough_ok (withN 0 (keysA (promC x who vs).came)) x.masters (withN_ev (by decide) hpc.1.k5).1 hm, t3, ?_⟩
    rintro r o' c' ⟨rfl, rfl, rfl⟩
    have hz_ := True.intro
    clear hz_
    cases he : enoughN (withN 0 (keysA (promC x who vs).came)) x.masters
    ·have e : promS x b who vs = (promC x who vs, [], false) := by unfold promS; rw [if_pos ⟨of_decide_eq_true h1, of_decide_eq_true h2⟩, if_neg (by simp [he])]
     rw [e]
     ((conv=>whnf)<;>repeat(with_reducible refine D1 ?_)<;>conv=>whnf)
     exact ⟨[], [some 0, some 1, some 2], _, _, _, t3, rfl, rfl, rfl⟩
    ·have e : promS x b who vs = (fillL { promC x who vs with st := 2 } (bestV (allL { promC x who vs with st := 2 })), openV (fillL { promC x who vs with st := 2 } (bestV (allL { promC x who vs with st := 2 }))), true) := by unfold promS; rw [if_pos ⟨of_decide_eq_true h1, of_decide_eq_true h2⟩, if_pos he]
     have hc2 : CameOk { promC x who vs with st := 2 } := ⟨hpc.1.nd, hpc.1.k5, hpc.1.l40⟩
     obtain ⟨f1, f2, f3⟩ := fill_opn hc2 (⟨ho.nd, ho.rng⟩ : OpnOk { promC x who vs with st := 2 }) hn
     rw [e]
     ((conv=>whnf)<;>repeat(with_reducible refine D1 ?_)<;>conv=>whnf)
     refine ⟨[], [some 0, some 1, some 2], _, _, _, _, fill_ok { promC x who vs with st := 2 } hc2 hn, t3, ?_⟩
     rintro r o' c' ⟨rfl, rfl, rfl⟩
     ((conv=>whnf)<;>repeat(with_reducible refine D1 ?_)<;>conv=>whnf)
     generalize fillL { promC x who vs with st := 2 } (bestV (allL { promC x who vs with st := 2 })) = z at *
     refine ⟨[], [some 0, some 1, some 2], _, _, _, _, openL_ok z (f1.ks (by omega)) (by have := f1.len (by omega); omega), t3, ?_⟩
     rintro r o' c' ⟨rfl, rfl, rfl⟩
     ((conv=>whnf)<;>repeat(with_reducible refine D1 ?_)<;>conv=>whnf)
     exact ⟨[], [some 0, some 1, some 2], _, _, _, t3, rfl, rfl, rfl⟩
   | some ws =>
    have hmm : who ∈ keysA x.came := Classical.not_not.1 fun hn => by rw [lookA_none.2 hn] at hx; cases hx
    have hcm : x.came = (promC x who vs).came := by simp [promC, hmm]
    rw [hx] at hlk
    refine ⟨_, hlk, ?_⟩
    ((conv=>whnf)<;>repeat(with_reducible refine D1 ?_)<;>conv=>whnf)
    refine ⟨[], [some 1], _, _, _, _, keysC_ok _, t3, ?_⟩
    rintro r o' c' ⟨rfl, rfl, rfl⟩
    ((conv=>whnf)<;>repeat(with_reducible refine D1 ?_)<;>conv=>whnf)
    refine ⟨[], [some 1, some 11], _, _, _, _, collectC_ok (promC x who vs) hpc.1.ks hpc.2, ⟨by ((repeat' first|with_reducible exact Lz.rfl|exact Lw.rfl|exact Lz.wrap (by omega)|(unfold goInt;with_reducible exact Lz.rfl)|exact flx _|constructor); all_goals (first | exact Lz.of (by rw [← hcm]) | rw [← hcm])), by ((repeat' first|with_reducible exact Lz.rfl|exact Lw.rfl|exact Lz.wrap (by omega)|(unfold goInt;with_reducible exact Lz.rfl)|exact flx _|constructor); all_goals (first | exact Lz.of (by rw [← hcm]) | rw [← hcm])), by rfl⟩, ?_⟩
    rintro r o' c' ⟨rfl, rfl, rfl⟩
    ((conv=>whnf)<;>repeat(with_reducible refine D1 ?_)<;>conv=>whnf)
    refine ⟨[], [some 14], _, _, _, _, withB_ok (keysA (promC x who vs).came) (keysA_ne hpc.2) (by have := nodup5 hpc.1.nd hpc.1.k5; omega) hpc.1.k5, t3, ?_⟩
    rintro r o' c' ⟨rfl, rfl, rfl⟩
    ((conv=>whnf)<;>repeat(with_reducible refine D1 ?_)<;>conv=>whnf)
    refine ⟨[], [], _, _, _, _, enough_ok (withN 0 (keysA (promC x who vs).came)) x.masters (withN_ev (by decide) hpc.1.k5).1 hm, t3, ?_⟩
    rintro r o' c' ⟨rfl, rfl, rfl⟩
    have hz_ := True.intro
    clear hz_
    cases he : enoughN (withN 0 (keysA (promC x who vs).came)) x.masters
    ·have e : promS x b who vs = (promC x who vs, [], false) := by unfold promS; rw [if_pos ⟨of_decide_eq_true h1, of_decide_eq_true h2⟩, if_neg (by simp [he])]
     rw [e]
     ((conv=>whnf)<;>repeat(with_reducible refine D1 ?_)<;>conv=>whnf)
     exact ⟨[], [some 0, some 1, some 2], _, _, _, t3, rfl, rfl, rfl⟩
    ·have e : promS x b who vs = (fillL { promC x who vs with st := 2 } (bestV (allL { promC x who vs with st := 2 })), openV (fillL { promC x who vs with st := 2 } (bestV (allL { promC x who vs with st := 2 }))), true) := by unfold promS; rw [if_pos ⟨of_decide_eq_true h1, of_decide_eq_true h2⟩, if_pos he]
     have hc2 : CameOk { promC x who vs with st := 2 } := ⟨hpc.1.nd, hpc.1.k5, hpc.1.l40⟩
     obtain ⟨f1, f2, f3⟩ := fill_opn hc2 (⟨ho.nd, ho.rng⟩ : OpnOk { promC x who vs with st := 2 }) hn
     rw [e]
     ((conv=>whnf)<;>repeat(with_reducible refine D1 ?_)<;>conv=>whnf)
     refine ⟨[], [some 0, some 1, some 2], _, _, _, _, fill_ok { promC x who vs with st := 2 } hc2 hn, t3, ?_⟩
     rintro r o' c' ⟨rfl, rfl, rfl⟩
     ((conv=>whnf)<;>repeat(with_reducible refine D1 ?_)<;>conv=>whnf)
     generalize fillL { promC x who vs with st := 2 } (bestV (allL { promC x who vs with st := 2 })) = z at *
     refine ⟨[], [some 0, some 1, some 2], _, _, _, _, openL_ok z (f1.ks (by omega)) (by have := f1.len (by omega); omega), t3, ?_⟩
     rintro r o' c' ⟨rfl, rfl, rfl⟩
     ((conv=>whnf)<;>repeat(with_reducible refine D1 ?_)<;>conv=>whnf)
     exact ⟨[], [some 0, some 1, some 2], _, _, _, t3, rfl, rfl, rfl⟩
end Go.M
namespace Go.M
open Go Go.Proofs
set_option maxRecDepth 100000
set_option maxHeartbeats 4000000
theorem ofP_ok (r w : Int) (hr : 1 ≤ r ∧ r < 1152921504606846976) (hw : m5 w) : VC E0 124 0 [.s (.int .u64 r), .s (.int .i64 w)] [] (RR (.tup [.s (.int .u64 (8 * r + w)), .s (.int .i64 0)]) 0 []) := by
 unfold m5 at hw
 refine VC.enterR L0 (show E0.func 124 = some Try.f124 by kernel_rfl) (fun _ _ => rfl) rfl rfl [] ?_
 ((conv=>whnf)<;>repeat(with_reducible refine D1 ?_)<;>conv=>whnf)
 (first|refine ⟨?_,?_⟩|refine nsplit ?_ ?_|refine bsplit ?_ ?_)<;>intro h1<;>have hz_:=True.intro<;>clear hz_
 ·have h1 : r < 1 := h1
  omega
 ·((conv=>whnf)<;>repeat(with_reducible refine D1 ?_)<;>conv=>whnf)
  (first|refine ⟨?_,?_⟩|refine nsplit ?_ ?_|refine bsplit ?_ ?_)<;>intro h2<;>have hz_:=True.intro<;>clear hz_
  ·have h2 : r ≥ 1152921504606846976 := h2
   omega
  ·((conv=>whnf)<;>repeat(with_reducible refine D1 ?_)<;>conv=>whnf)
   refine ⟨[], [], _, _, _, _, master_ok w, t3, ?_⟩
   rintro r o' c' ⟨rfl, rfl, rfl⟩
   have hz_ := True.intro
   clear hz_
   cases h0 : isMaster w
   ·exact absurd (decide_eq_true (show w ≥ 1 ∧ w ≤ 5 by omega)) (by unfold isMaster at h0; simp [h0])
   ·((conv=>whnf)<;>repeat(with_reducible refine D1 ?_)<;>conv=>whnf)
    refine ⟨[], [], ?_⟩
    iterate 3 constructor
    refine ⟨⟨?_, ?_, ?_⟩, rfl, rfl, rfl⟩
    all_goals (repeat' first|with_reducible exact Lz.rfl|exact Lw.rfl|exact Lz.wrap (by omega)|(unfold goInt;with_reducible exact Lz.rfl)|exact flx _|constructor)
    refine Lz.int ?_
    rw [IntWalk.u64_in (8 * r) (by omega), IntWalk.u64_in w (by omega), IntWalk.u64_in _ (by omega)]
def nextS (b who : Int) : Int × Int :=
 let r0 := if 1 > b / 8 then 1 else b / 8
 let r1 := if 8 * r0 + who ≤ b then r0 + 1 else r0
 if r1 ≥ 1152921504606846976 then (0, 9) else (8 * r1 + who, 0)
theorem next_ok (b who : Int) (hb : 0 ≤ b ∧ b ≤ 18446744073709551615) (hw : m5 who) : VC E0 88 0 [.s (.int .u64 b), .s (.int .i64 who)] [] (RR (.tup [.s (.int .u64 (nextS b who).1), .s (.int .i64 (nextS b who).2)]) 0 []) := by
 have e0 : IntKind.u64.wrap (b.tdiv 8) = b / 8 := by rw [Int.tdiv_eq_ediv_of_nonneg hb.1]; exact IntWalk.u64_in _ (by omega)
 have hw' := hw
 unfold m5 at hw
 refine VC.enterR L0 (show E0.func 88 = some Try.f88 by kernel_rfl) (fun _ _ => rfl) rfl rfl [] ?_
 ((conv=>whnf)<;>repeat(with_reducible refine D1 ?_)<;>conv=>whnf)
 refine ⟨[], [], _, _, _, _, master_ok who, t3, ?_⟩
 rintro r o' c' ⟨rfl, rfl, rfl⟩
 have hz_ := True.intro
 clear hz_
 cases h0 : isMaster who
 ·exact absurd (decide_eq_true (show who ≥ 1 ∧ who ≤ 5 by omega)) (by unfold isMaster at h0; simp [h0])
 ·obtain ⟨r0, hr0⟩ : ∃ r0, r0 = (if (1 : Int) > IntKind.u64.wrap (b.tdiv 8) then 1 else IntKind.u64.wrap (b.tdiv 8)) := ⟨_, rfl⟩
  have hr1 : r0 = if (1 : Int) > b / 8 then 1 else b / 8 := by rw [hr0, e0]
  have hrr : 1 ≤ r0 ∧ r0 ≤ 2305843009213693951 ∧ 8 * r0 ≤ 18446744073709551608 := by rw [hr1]; split <;> omega
  ((conv=>whnf)<;>repeat(with_reducible refine D1 ?_)<;>conv=>whnf)
  (first|refine ⟨?_,?_⟩|refine nsplit ?_ ?_|refine bsplit ?_ ?_)<;>intro h1<;>have hz_:=True.intro<;>clear hz_
  ·have h1 : IntKind.u64.wrap (IntKind.u64.wrap (8 * (if (1 : Int) > IntKind.u64.wrap (b.tdiv 8) then 1 else IntKind.u64.wrap (b.tdiv 8))) + IntKind.u64.wrap who) ≤ b := h1
   rw [← hr0, IntWalk.u64_in (8 * r0) (by omega), IntWalk.u64_in who (by omega), IntWalk.u64_in _ (by omega)] at h1
   ((conv=>whnf)<;>repeat(with_reducible refine D1 ?_)<;>conv=>whnf)
   (first|refine ⟨?_,?_⟩|refine nsplit ?_ ?_|refine bsplit ?_ ?_)<;>intro h2<;>have hz_:=True.intro<;>clear hz_
   ·have h2 : IntKind.u64.wrap ((if (1 : Int) > IntKind.u64.wrap (b.tdiv 8) then 1 else IntKind.u64.wrap (b.tdiv 8)) + 1) ≥ 1152921504606846976 := h2
    rw [← hr0, IntWalk.u64_in _ (by omega)] at h2
    ((conv=>whnf)<;>repeat(with_reducible refine D1 ?_)<;>conv=>whnf)
    have e : nextS b who = (0, 9) := by unfold nextS; rw [← hr1]; simp only [h1, if_true, h2]
    rw [e]
    exact ⟨[], [], _, _, _, t3, rfl, rfl, rfl⟩
   ·have h2 : ¬ IntKind.u64.wrap ((if (1 : Int) > IntKind.u64.wrap (b.tdiv 8) then 1 else IntKind.u64.wrap (b.tdiv 8)) + 1) ≥ 1152921504606846976 := h2
    rw [← hr0, IntWalk.u64_in _ (by omega)] at h2
    ((conv=>whnf)<;>repeat(with_reducible refine D1 ?_)<;>conv=>whnf)
    have e3 : IntKind.u64.wrap ((if (1 : Int) > IntKind.u64.wrap (b.tdiv 8) then 1 else IntKind.u64.wrap (b.tdiv 8)) + 1) = r0 + 1 := by rw [← hr0]; exact IntWalk.u64_in _ (by omega)
    refine ⟨[], [], _, _, _, _, ofP_ok (r0 + 1) who (by omega) hw', ⟨by ((repeat' first|with_reducible exact Lz.rfl|exact Lw.rfl|exact Lz.wrap (by omega)|(unfold goInt;with_reducible exact Lz.rfl)|exact flx _|constructor); all_goals (exact Lz.int e3)), by ((repeat' first|with_reducible exact Lz.rfl|exact Lw.rfl|exact Lz.wrap (by omega)|(unfold goInt;with_reducible exact Lz.rfl)|exact flx _|constructor); all_goals (exact Lz.int e3)), by rfl⟩, ?_⟩
    rintro r o' c' ⟨rfl, rfl, rfl⟩
    ((conv=>whnf)<;>repeat(with_reducible refine D1 ?_)<;>conv=>whnf)
    have e : nextS b who = (8 * (r0 + 1) + who, 0) := by unfold nextS; rw [← hr1]; simp only [h1, if_true, h2, if_false]
    rw [e]
    exact ⟨[], [], _, _, _, t3, rfl, rfl, rfl⟩
  ·have h1 : ¬ IntKind.u64.wrap (IntKind.u64.wrap (8 * (if (1 : Int) > IntKind.u64.wrap (b.tdiv 8) then 1 else IntKind.u64.wrap (b.tdiv 8))) + IntKind.u64.wrap who) ≤ b := h1
   rw [← hr0, IntWalk.u64_in (8 * r0) (by omega), IntWalk.u64_in who (by omega), IntWalk.u64_in _ (by omega)] at h1
   ((conv=>whnf)<;>repeat(with_reducible refine D1 ?_)<;>conv=>whnf)
   (first|refine ⟨?_,?_⟩|refine nsplit ?_ ?_|refine bsplit ?_ ?_)<;>intro h2<;>have hz_:=True.intro<;>clear hz_
   ·have h2 : (if (1 : Int) > IntKind.u64.wrap (b.tdiv 8) then 1 else IntKind.u64.wrap (b.tdiv 8)) ≥ 1152921504606846976 := h2
    rw [← hr0] at h2
    ((conv=>whnf)<;>repeat(with_reducible refine D1 ?_)<;>conv=>whnf)
    have e : nextS b who = (0, 9) := by unfold nextS; rw [← hr1]; simp only [h1, if_false, h2, if_true]
    rw [e]
    exact ⟨[], [], _, _, _, t3, rfl, rfl, rfl⟩
   ·have h2 : ¬ (if (1 : Int) > IntKind.u64.wrap (b.tdiv 8) then 1 else IntKind.u64.wrap (b.tdiv 8)) ≥ 1152921504606846976 := h2
    rw [← hr0] at h2
    ((conv=>whnf)<;>repeat(with_reducible refine D1 ?_)<;>conv=>whnf)
    refine ⟨[], [], _, _, _, _, ofP_ok r0 who (by omega) hw', ⟨by ((repeat' first|with_reducible exact Lz.rfl|exact Lw.rfl|exact Lz.wrap (by omega)|(unfold goInt;with_reducible exact Lz.rfl)|exact flx _|constructor); all_goals (exact Lz.int hr0.symm)), by ((repeat' first|with_reducible exact Lz.rfl|exact Lw.rfl|exact Lz.wrap (by omega)|(unfold goInt;with_reducible exact Lz.rfl)|exact flx _|constructor); all_goals (exact Lz.int hr0.symm)), by rfl⟩, ?_⟩
    rintro r o' c' ⟨rfl, rfl, rfl⟩
    ((conv=>whnf)<;>repeat(with_reducible refine D1 ?_)<;>conv=>whnf)
    have e : nextS b who = (8 * r0 + who, 0) := by unfold nextS; rw [← hr1]; simp only [h1, if_false, h2]
    rw [e]
    exact ⟨[], [], _, _, _, t3, rfl, rfl, rfl⟩
@[reducible] def startS (me masters b frm : Int) : LeadS := ⟨me, masters, 1, b, frm, frm, [], []⟩
end Go.M
namespace Go.M
open Go Go.Proofs
set_option maxRecDepth 100000
set_option maxHeartbeats 4000000
def sameC (a b : Cmd) : Bool := decide (a.kind = b.kind ∧ a.chain = b.chain ∧ a.epoch = b.epoch ∧ a.node = b.node)
theorem veq_cmd (a b : Cmd) : (veq1 (.int .i64 a.kind) (.int .i64 b.kind) && (veq1 (.int .i64 a.chain) (.int .i64 b.chain) && (veq1 (.int .u64 a.epoch) (.int .u64 b.epoch) && (veq1 (.int .i64 a.node) (.int .i64 b.node) && true)))) = sameC a b := by
 rw [Bool.eq_iff_iff]; simp [veq1, sameC]
@[reducible] def stP (c : Cmd) : Ob := [(0, .cells [.s (.int .i64 c.kind), .s (.int .i64 c.chain), .s (.int .u64 c.epoch), .s (.int .i64 c.node)])]
theorem prop1_ok (c : Cmd) (v : Vote) : VC E0 132 1 [.agg (encV v), .ptr 0 0] (stP c) (RR (.s (.bool (sameC (cmdOf v) c))) 1 (stP c)) := by
 refine VC.enterR L0 (show E0.func 132 = some Try.f132 by kernel_rfl) (fun _ _ => rfl) rfl rfl [] ?_
 ((conv=>whnf)<;>repeat(with_reducible refine D1 ?_)<;>conv=>whnf)
 (first|refine ⟨?_,?_⟩|refine nsplit ?_ ?_|refine bsplit ?_ ?_)<;>intro h<;>have hz_:=True.intro<;>clear hz_
 ·have h : sameC (cmdOf v) c = true := (veq_cmd (cmdOf v) c).symm.trans h
  rw [h]
  ((conv=>whnf)<;>repeat(with_reducible refine D1 ?_)<;>conv=>whnf)
  exact ⟨[], [some 0], _, _, _, t3, rfl, rfl, rfl⟩
 ·have h : sameC (cmdOf v) c = false := by
   have : ¬ sameC (cmdOf v) c = true := fun e => h ((veq_cmd (cmdOf v) c).trans e)
   simpa using this
  rw [h]
  ((conv=>whnf)<;>repeat(with_reducible refine D1 ?_)<;>conv=>whnf)
  exact ⟨[], [some 0], _, _, _, t3, rfl, rfl, rfl⟩
theorem idxP_ok (c : Cmd) (vs : List Vote) (hl : vs.length < 1000000) : VC E0 125 1 [encVs vs, .clo 132 [] [.ptr 0 0]] (stP c)
 (fun r o c' => ∃ i : Int, r = .s (.int .i64 i) ∧ c' = 1 ∧ o = stP c ∧ ((i = -1 ∧ ∀ v ∈ vs, sameC (cmdOf v) c = false) ∨ 0 ≤ i ∧ ∃ v ∈ vs, sameC (cmdOf v) c = true)) := by
 refine VC.enterR L0 (show E0.func 125 = some Try.f125 by kernel_rfl) (fun _ _ => rfl) rfl rfl [] ?_
 ((conv=>whnf)<;>repeat(with_reducible refine D1 ?_)<;>conv=>whnf)
 refine ⟨fun k f o c' => ∃ j : Nat, j ≤ vs.length ∧ k = vs.length - j ∧ (∀ v ∈ vs.take j, sameC (cmdOf v) c = false) ∧ c' = 1 ∧ f = [(0, encVs vs), (1, .clo 132 [] [.ptr 0 0]), (7, .s (.int .i64 vs.length)), (8, .s (.int .i64 j))] ∧ o = stP c, ⟨vs.length, ?_⟩, ?_⟩
 ·refine ⟨[], [some 0], ?_⟩
  iterate 3 constructor
  refine ⟨⟨?_, ?_, ?_⟩, ⟨0, Nat.zero_le _, rfl, by simp, rfl, rfl, rfl⟩⟩
  all_goals (repeat' first|with_reducible exact Lz.rfl|exact Lw.rfl|exact Lz.wrap (by omega)|(unfold goInt;with_reducible exact Lz.rfl)|exact flx _|constructor)
  all_goals first | exact Lz.of (by simp [goInt]) | exact Lz.rfl
 ·rintro k f1 o1 c1 ⟨j, hj, rfl, hb, rfl, rfl, rfl⟩
  ((conv=>whnf)<;>repeat(with_reducible refine D1 ?_)<;>conv=>whnf)
  (first|refine ⟨?_,?_⟩|refine nsplit ?_ ?_|refine bsplit ?_ ?_)<;>intro h<;>have hz_:=True.intro<;>clear hz_
  ·have h : j < vs.length := by simpa using h
   ((conv=>whnf)<;>repeat(with_reducible refine D1 ?_)<;>conv=>whnf)
   refine idxI h ?_
   ((conv=>whnf)<;>repeat(with_reducible refine D1 ?_)<;>conv=>whnf)
   refine ⟨[], [some 0], _, _, _, _, prop1_ok c vs[j], t3, ?_⟩
   rintro r o' c' ⟨rfl, rfl, rfl⟩
   have hz_ := True.intro
   clear hz_
   cases hv : sameC (cmdOf vs[j]) c
   ·((conv=>whnf)<;>repeat(with_reducible refine D1 ?_)<;>conv=>whnf)
    refine ⟨vs.length - (j + 1), ?_, by omega⟩
    refine ⟨[], [some 0], ?_⟩
    iterate 3 constructor
    refine ⟨⟨?_, ?_, ?_⟩, ⟨j + 1, h, rfl, by intro v hv'; rw [List.take_succ_eq_append_getElem h] at hv'; rcases List.mem_append.1 hv' with h1 | h1; exact hb v h1; simp at h1; subst h1; exact hv, rfl, rfl, rfl⟩⟩
    all_goals (repeat' first|with_reducible exact Lz.rfl|exact Lw.rfl|exact Lz.wrap (by omega)|(unfold goInt;with_reducible exact Lz.rfl)|exact flx _|constructor)
    all_goals exact Lz.rfl
   ·((conv=>whnf)<;>repeat(with_reducible refine D1 ?_)<;>conv=>whnf)
    exact ⟨[], [some 0], _, _, _, t3, (j : Int), rfl, rfl, rfl, .inr ⟨by omega, _, List.getElem_mem h, hv⟩⟩
  ·have h' : j = vs.length := by have : ¬ j < vs.length := by simpa using h
                                 omega
   subst h'
   rw [List.take_length] at hb
   ((conv=>whnf)<;>repeat(with_reducible refine D1 ?_)<;>conv=>whnf)
   exact ⟨[], [some 0], _, _, _, t3, -1, rfl, rfl, rfl, .inl ⟨rfl, hb⟩⟩
def hasCmd (c : Cmd) (vs : List Vote) : Bool := vs.any fun v => sameC (cmdOf v) c
theorem containsP_ok (c : Cmd) (vs : List Vote) (hl : vs.length < 1000000) : VC E0 131 1 [encVs vs, .clo 132 [] [.ptr 0 0]] (stP c) (RR (.s (.bool (hasCmd c vs))) 1 (stP c)) := by
 refine VC.enterR L0 (show E0.func 131 = some Try.f131 by kernel_rfl) (fun _ _ => rfl) rfl rfl [] ?_
 ((conv=>whnf)<;>repeat(with_reducible refine D1 ?_)<;>conv=>whnf)
 refine ⟨[], [some 0], _, _, _, _, idxP_ok c vs hl, t3, ?_⟩
 rintro r o' c' ⟨i, rfl, rfl, rfl, hi⟩
 ((conv=>whnf)<;>repeat(with_reducible refine D1 ?_)<;>conv=>whnf)
 (first|refine ⟨?_,?_⟩|refine nsplit ?_ ?_|refine bsplit ?_ ?_)<;>intro h<;>have hz_:=True.intro<;>clear hz_
 ·have h : i ≥ 0 := h
  ((conv=>whnf)<;>repeat(with_reducible refine D1 ?_)<;>conv=>whnf)
  refine ⟨[], [some 0], ?_⟩
  iterate 3 constructor
  refine ⟨⟨?_, ?_, ?_⟩, rfl, rfl, rfl⟩
  all_goals (repeat' first|with_reducible exact Lz.rfl|exact Lw.rfl|exact Lz.wrap (by omega)|(unfold goInt;with_reducible exact Lz.rfl)|exact flx _|constructor)
  refine Lz.of (bool_eq (Eq.symm ?_))
  rcases hi with ⟨e, _⟩ | ⟨_, v, hv, hs⟩
  ·omega
  ·exact List.any_eq_true.2 ⟨v, hv, hs⟩
 ·have h : ¬ i ≥ 0 := h
  ((conv=>whnf)<;>repeat(with_reducible refine D1 ?_)<;>conv=>whnf)
  refine ⟨[], [some 0], ?_⟩
  iterate 3 constructor
  refine ⟨⟨?_, ?_, ?_⟩, rfl, rfl, rfl⟩
  all_goals (repeat' first|with_reducible exact Lz.rfl|exact Lw.rfl|exact Lz.wrap (by omega)|(unfold goInt;with_reducible exact Lz.rfl)|exact flx _|constructor)
  refine Lz.of (bool_eq (Eq.symm ?_))
  rcases hi with ⟨_, hall⟩ | ⟨e, _⟩
  ·exact List.any_eq_false.2 fun v hv => by rw [hall v hv]; simp
  ·omega
theorem proposed_ok (x : LeadS) (c : Cmd) (ho : OpnOk x) (hn : x.nxt ≤ 100000) : VC E0 98 3 [.ptr 0 0, cT4 c] (stL x) (RR (.s (.bool (hasCmd c (openV x)))) 3 (stL x)) := by
 have hlen : (openV x).length < 1000000 := by have := ho.len hn; simp [openV, sortZ_len]; omega
 refine VC.enterR L0 (show E0.func 98 = some Try.f98 by kernel_rfl) (fun _ _ => rfl) rfl rfl [] ?_
 ((conv=>whnf)<;>repeat(with_reducible refine D1 ?_)<;>conv=>whnf)
 refine ⟨[], [some 0, some 1, some 2], _, _, _, _, openL_ok x (ho.ks hn) (by have := ho.len hn; omega), t3, ?_⟩
 rintro r o' c' ⟨rfl, rfl, rfl⟩
 ((conv=>whnf)<;>repeat(with_reducible refine D1 ?_)<;>conv=>whnf)
 refine ⟨[], [some 3], _, _, _, _, containsP_ok c (openV x) hlen, t3, ?_⟩
 rintro r o' c' ⟨rfl, rfl, rfl⟩
 ((conv=>whnf)<;>repeat(with_reducible refine D1 ?_)<;>conv=>whnf)
 exact ⟨[], [some 0, some 1, some 2], _, _, _, t3, rfl, rfl, rfl⟩
def proposeS (x : LeadS) (c : Cmd) : LeadS × Vote × Int :=
 if x.st ≠ 2 then (x, noVote, 12) else if c.check ≠ 0 then (x, noVote, c.check) else if c.kind ≠ 0 ∧ hasCmd c (openV x) = true then (x, noVote, 8)
 else if x.opn.length ≥ 8 ∨ x.nxt ≥ 512 then (x, noVote, 9) else (layS x c, voteS (layS x c) x.nxt, 0)
theorem propose_ok (x : LeadS) (c : Cmd) (ho : OpnOk x) (hn : 0 ≤ x.nxt ∧ x.nxt ≤ 100000) : VC E0 54 3 [.ptr 0 0, cT4 c] (stL x) (RR (.tup [.agg (encV (proposeS x c).2.1), .s (.int .i64 (proposeS x c).2.2)]) 3 (stL (proposeS x c).1)) := by
 refine VC.enterR L0 (show E0.func 54 = some Try.f54 by kernel_rfl) (fun _ _ => rfl) rfl rfl [] ?_
 ((conv=>whnf)<;>repeat(with_reducible refine D1 ?_)<;>conv=>whnf)
 (first|refine ⟨?_,?_⟩|refine nsplit ?_ ?_|refine bsplit ?_ ?_)<;>intro h1<;>have hz_:=True.intro<;>clear hz_
 ·have h1 : x.st ≠ 2 := h1
  have e : proposeS x c = (x, noVote, 12) := by unfold proposeS; rw [if_pos h1]
  rw [e]
  ((conv=>whnf)<;>repeat(with_reducible refine D1 ?_)<;>conv=>whnf)
  exact ⟨[], [some 0, some 1, some 2], _, _, _, t3, rfl, rfl, rfl⟩
 ·have h1 : x.st = 2 := Classical.not_not.1 h1
  ((conv=>whnf)<;>repeat(with_reducible refine D1 ?_)<;>conv=>whnf)
  refine ⟨[], [], _, _, _, _, check_ok c.kind c.chain c.epoch c.node, t3, ?_⟩
  rintro r o' c' ⟨rfl, rfl, rfl⟩
  ((conv=>whnf)<;>repeat(with_reducible refine D1 ?_)<;>conv=>whnf)
  (first|refine ⟨?_,?_⟩|refine nsplit ?_ ?_|refine bsplit ?_ ?_)<;>intro h2<;>have hz_:=True.intro<;>clear hz_
  ·have h2 : c.check ≠ 0 := h2
   have e : proposeS x c = (x, noVote, c.check) := by unfold proposeS; rw [if_neg (fun h => h h1), if_pos h2]
   rw [e]
   ((conv=>whnf)<;>repeat(with_reducible refine D1 ?_)<;>conv=>whnf)
   exact ⟨[], [some 0, some 1, some 2], _, _, _, t3, rfl, rfl, rfl⟩
  ·have h2 : c.check = 0 := Classical.not_not.1 h2
   ((conv=>whnf)<;>repeat(with_reducible refine D1 ?_)<;>conv=>whnf)
   (first|refine ⟨?_,?_⟩|refine nsplit ?_ ?_|refine bsplit ?_ ?_)<;>intro h6<;>have hz_:=True.intro<;>clear hz_
   ·have h6 : c.kind ≠ 0 := h6
    ((conv=>whnf)<;>repeat(with_reducible refine D1 ?_)<;>conv=>whnf)
    refine ⟨[], [some 0, some 1, some 2], _, _, _, _, proposed_ok x c ho hn.2, t3, ?_⟩
    rintro r o' c' ⟨rfl, rfl, rfl⟩
    have hz_ := True.intro
    clear hz_
    cases h7 : hasCmd c (openV x)
    ·have h3 : ¬ (c.kind ≠ 0 ∧ hasCmd c (openV x) = true) := fun h => by simp [h7] at h
     ((conv=>whnf)<;>repeat(with_reducible refine D1 ?_)<;>conv=>whnf)
     (first|refine ⟨?_,?_⟩|refine nsplit ?_ ?_|refine bsplit ?_ ?_)<;>intro h4<;>have hz_:=True.intro<;>clear hz_
     ·have h4 : ((x.opn.map (encA .i64 encP)).length : Int) ≥ 8 := h4
      rw [List.length_map] at h4
      have e : proposeS x c = (x, noVote, 9) := by unfold proposeS; rw [if_neg (fun h => h h1), if_neg (fun h => h h2), if_neg h3, if_pos (.inl (by omega))]
      rw [e]
      ((conv=>whnf)<;>repeat(with_reducible refine D1 ?_)<;>conv=>whnf)
      exact ⟨[], [some 0, some 1, some 2], _, _, _, t3, rfl, rfl, rfl⟩
     ·have h4 : ¬ ((x.opn.map (encA .i64 encP)).length : Int) ≥ 8 := h4
      rw [List.length_map] at h4
      ((conv=>whnf)<;>repeat(with_reducible refine D1 ?_)<;>conv=>whnf)
      (first|refine ⟨?_,?_⟩|refine nsplit ?_ ?_|refine bsplit ?_ ?_)<;>intro h5<;>have hz_:=True.intro<;>clear hz_
      ·have h5 : x.nxt ≥ 512 := h5
       have e : proposeS x c = (x, noVote, 9) := by unfold proposeS; rw [if_neg (fun h => h h1), if_neg (fun h => h h2), if_neg h3, if_pos (.inr h5)]
       rw [e]
       ((conv=>whnf)<;>repeat(with_reducible refine D1 ?_)<;>conv=>whnf)
       exact ⟨[], [some 0, some 1, some 2], _, _, _, t3, rfl, rfl, rfl⟩
      ·have h5 : ¬ x.nxt ≥ 512 := h5
       have e : proposeS x c = (layS x c, voteS (layS x c) x.nxt, 0) := by unfold proposeS; rw [if_neg (fun h => h h1), if_neg (fun h => h h2), if_neg h3, if_neg (by omega)]
       rw [e]
       ((conv=>whnf)<;>repeat(with_reducible refine D1 ?_)<;>conv=>whnf)
       refine ⟨[], [some 0, some 1, some 2], _, _, _, _, lay_ok x c (by omega), t3, ?_⟩
       rintro r o' c' ⟨rfl, rfl, rfl⟩
       ((conv=>whnf)<;>repeat(with_reducible refine D1 ?_)<;>conv=>whnf)
       refine ⟨[], [some 0, some 1, some 2], _, _, _, _, voteL_ok (layS x c) x.nxt, t3, ?_⟩
       rintro r o' c' ⟨rfl, rfl, rfl⟩
       ((conv=>whnf)<;>repeat(with_reducible refine D1 ?_)<;>conv=>whnf)
       exact ⟨[], [some 0, some 1, some 2], _, _, _, t3, rfl, rfl, rfl⟩
    ·have e : proposeS x c = (x, noVote, 8) := by unfold proposeS; rw [if_neg (fun h => h h1), if_neg (fun h => h h2), if_pos ⟨h6, h7⟩]
     rw [e]
     ((conv=>whnf)<;>repeat(with_reducible refine D1 ?_)<;>conv=>whnf)
     exact ⟨[], [some 0, some 1, some 2], _, _, _, t3, rfl, rfl, rfl⟩
   ·have h6 : ¬ c.kind ≠ 0 := h6
    have h3 : ¬ (c.kind ≠ 0 ∧ hasCmd c (openV x) = true) := fun h => h6 h.1
    ((conv=>whnf)<;>repeat(with_reducible refine D1 ?_)<;>conv=>whnf)
    (first|refine ⟨?_,?_⟩|refine nsplit ?_ ?_|refine bsplit ?_ ?_)<;>intro h4<;>have hz_:=True.intro<;>clear hz_
    ·have h4 : ((x.opn.map (encA .i64 encP)).length : Int) ≥ 8 := h4
     rw [List.length_map] at h4
     have e : proposeS x c = (x, noVote, 9) := by unfold proposeS; rw [if_neg (fun h => h h1), if_neg (fun h => h h2), if_neg h3, if_pos (.inl (by omega))]
     rw [e]
     ((conv=>whnf)<;>repeat(with_reducible refine D1 ?_)<;>conv=>whnf)
     exact ⟨[], [some 0, some 1, some 2], _, _, _, t3, rfl, rfl, rfl⟩
    ·have h4 : ¬ ((x.opn.map (encA .i64 encP)).length : Int) ≥ 8 := h4
     rw [List.length_map] at h4
     ((conv=>whnf)<;>repeat(with_reducible refine D1 ?_)<;>conv=>whnf)
     (first|refine ⟨?_,?_⟩|refine nsplit ?_ ?_|refine bsplit ?_ ?_)<;>intro h5<;>have hz_:=True.intro<;>clear hz_
     ·have h5 : x.nxt ≥ 512 := h5
      have e : proposeS x c = (x, noVote, 9) := by unfold proposeS; rw [if_neg (fun h => h h1), if_neg (fun h => h h2), if_neg h3, if_pos (.inr h5)]
      rw [e]
      ((conv=>whnf)<;>repeat(with_reducible refine D1 ?_)<;>conv=>whnf)
      exact ⟨[], [some 0, some 1, some 2], _, _, _, t3, rfl, rfl, rfl⟩
     ·have h5 : ¬ x.nxt ≥ 512 := h5
      have e : proposeS x c = (layS x c, voteS (layS x c) x.nxt, 0) := by unfold proposeS; rw [if_neg (fun h => h h1), if_neg (fun h => h h2), if_neg h3, if_neg (by omega)]
      rw [e]
      ((conv=>whnf)<;>repeat(with_reducible refine D1 ?_)<;>conv=>whnf)
      refine ⟨[], [some 0, some 1, some 2], _, _, _, _, lay_ok x c (by omega), t3, ?_⟩
      rintro r o' c' ⟨rfl, rfl, rfl⟩
      ((conv=>whnf)<;>repeat(with_reducible refine D1 ?_)<;>conv=>whnf)
      refine ⟨[], [some 0, some 1, some 2], _, _, _, _, voteL_ok (layS x c) x.nxt, t3, ?_⟩
      rintro r o' c' ⟨rfl, rfl, rfl⟩
      ((conv=>whnf)<;>repeat(with_reducible refine D1 ?_)<;>conv=>whnf)
      exact ⟨[], [some 0, some 1, some 2], _, _, _, t3, rfl, rfl, rfl⟩
def acceptedS (x : LeadS) (b slot who : Int) : LeadS × Vote × Bool :=
 if (x.st = 2 ∧ x.b = b) ∧ 1 ≤ who ∧ who ≤ x.masters then
  (match lookA x.opn slot with
  | none => (x, noVote, false)
  | some p => if enoughN (withN p.2 [who]) x.masters = true then ({ x with opn := delA (putA x.opn slot (p.1, withN p.2 [who])) slot }, .of slot x.b p.1, true) else ({ x with opn := putA x.opn slot (p.1, withN p.2 [who]) }, noVote, false))
 else (x, noVote, false)
theorem accepted_ok (x : LeadS) (b slot who : Int) (hm : m5 x.masters) (hev : ∀ e ∈ x.opn, ev64 e.2.2) (hnd : (keysA x.opn).Nodup) :
 VC E0 55 3 [.ptr 0 0, .s (.int .u64 b), .s (.int .i64 slot), .s (.int .i64 who)] (stL x) (RR (.tup [.agg (encV (acceptedS x b slot who).2.1), .s (.bool (acceptedS x b slot who).2.2)]) 3 (stL (acceptedS x b slot who).1)) := by
 refine VC.enterR L0 (show E0.func 55 = some Try.f55 by kernel_rfl) (fun _ _ => rfl) rfl rfl [] ?_
 ((conv=>whnf)<;>repeat(with_reducible refine D1 ?_)<;>conv=>whnf)
 refine ⟨[], [some 0, some 1, some 2], _, _, _, _, isL_ok x 2 b, t3, ?_⟩
 rintro r o' c' ⟨rfl, rfl, rfl⟩
 have hz_ := True.intro
 clear hz_
 cases h1 : decide (x.st = 2 ∧ x.b = b)
 ·have e : acceptedS x b slot who = (x, noVote, false) := by unfold acceptedS; rw [if_neg fun h => of_decide_eq_false h1 h.1]
  rw [e]
  ((conv=>whnf)<;>repeat(with_reducible refine D1 ?_)<;>conv=>whnf)
  exact ⟨[], [some 0, some 1, some 2], _, _, _, t3, rfl, rfl, rfl⟩
 ·((conv=>whnf)<;>repeat(with_reducible refine D1 ?_)<;>conv=>whnf)
  refine ⟨[], [some 0, some 1, some 2], _, _, _, _, isM_ok x who, t3, ?_⟩
  rintro r o' c' ⟨rfl, rfl, rfl⟩
  have hz_ := True.intro
  clear hz_
  cases h2 : decide (1 ≤ who ∧ who ≤ x.masters)
  ·have e : acceptedS x b slot who = (x, noVote, false) := by unfold acceptedS; rw [if_neg fun h => of_decide_eq_false h2 h.2]
   rw [e]
   ((conv=>whnf)<;>repeat(with_reducible refine D1 ?_)<;>conv=>whnf)
   exact ⟨[], [some 0, some 1, some 2], _, _, _, t3, rfl, rfl, rfl⟩
  ·have hw : m5 who := by have := of_decide_eq_true h2; unfold m5 at *; omega
   ((conv=>whnf)<;>repeat(with_reducible refine D1 ?_)<;>conv=>whnf)
   have hlk := lookM_A .i64 .i64 encP slot x.opn
   cases hx : lookA x.opn slot with
   | none =>
    have e : acceptedS x b slot who = (x, noVote, false) := by unfold acceptedS; rw [if_pos ⟨of_decide_eq_true h1, of_decide_eq_true h2⟩, hx]
    rw [hx] at hlk
    refine ⟨_, hlk, ?_⟩
    rw [e]
    ((conv=>whnf)<;>repeat(with_reducible refine D1 ?_)<;>conv=>whnf)
    exact ⟨[], [some 0, some 1, some 2], _, _, _, t3, rfl, rfl, rfl⟩
   | some p =>
    have hpe : ev64 p.2 := hev _ ((lookA_some hnd).1 hx)
    rw [hx] at hlk
    refine ⟨_, hlk, ?_⟩
    ((conv=>whnf)<;>repeat(with_reducible refine D1 ?_)<;>conv=>whnf)
    refine ⟨[11], [], _, _, _, _, with_ok p.2 [who] hpe (by simpa using hw) (by simp), t3, ?_⟩
    rintro r o' c' ⟨rfl, rfl, rfl⟩
    ((conv=>whnf)<;>repeat(with_reducible refine D1 ?_)<;>conv=>whnf)
    have hwe : ev64 (withN p.2 [who]) := withN_ev hpe (by simpa using hw)
    have hput := putM_A .i64 encP slot (p.1, withN p.2 [who]) x.opn
    refine ⟨[], [], _, _, _, _, enough_ok (withN p.2 [who]) x.masters hwe.1 hm, t3, ?_⟩
    rintro r o' c' ⟨rfl, rfl, rfl⟩
    have hz_ := True.intro
    clear hz_
    cases he : enoughN (withN p.2 [who]) x.masters
    ·have e : acceptedS x b slot who = ({ x with opn := putA x.opn slot (p.1, withN p.2 [who]) }, noVote, false) := by unfold acceptedS; rw [if_pos ⟨of_decide_eq_true h1, of_decide_eq_true h2⟩, hx]; simp only; rw [if_neg (by simp [he])]
     rw [e]
     ((conv=>whnf)<;>repeat(with_reducible refine D1 ?_)<;>conv=>whnf)
     refine ⟨[], [some 0, some 1, some 2], ?_⟩
     iterate 3 constructor
     refine ⟨⟨?_, ?_, ?_⟩, rfl, rfl, rfl⟩
     all_goals (repeat' first|with_reducible exact Lz.rfl|exact Lw.rfl|exact Lz.wrap (by omega)|(unfold goInt;with_reducible exact Lz.rfl)|exact flx _|constructor)
     exact Lz.of hput
    ·have e : acceptedS x b slot who = ({ x with opn := delA (putA x.opn slot (p.1, withN p.2 [who])) slot }, .of slot x.b p.1, true) := by unfold acceptedS; rw [if_pos ⟨of_decide_eq_true h1, of_decide_eq_true h2⟩, hx]; simp only; rw [if_pos he]
     have hvo : voteS { x with opn := putA x.opn slot (p.1, withN p.2 [who]) } slot = .of slot x.b p.1 := by simp [voteS, lookA_put]
     rw [e]
     ((conv=>whnf)<;>repeat(with_reducible refine D1 ?_)<;>conv=>whnf)
     refine ⟨[], [some 0, some 1, some 2], _, _, _, _, voteL_ok { x with opn := putA x.opn slot (p.1, withN p.2 [who]) } slot, ⟨by ((repeat' first|with_reducible exact Lz.rfl|exact Lw.rfl|exact Lz.wrap (by omega)|(unfold goInt;with_reducible exact Lz.rfl)|exact flx _|constructor); all_goals (first | exact Lz.of hput | exact hput)), by ((repeat' first|with_reducible exact Lz.rfl|exact Lw.rfl|exact Lz.wrap (by omega)|(unfold goInt;with_reducible exact Lz.rfl)|exact flx _|constructor); all_goals (first | exact Lz.of hput | exact hput)), by rfl⟩, ?_⟩
     rintro r o' c' ⟨rfl, rfl, rfl⟩
     ((conv=>whnf)<;>repeat(with_reducible refine D1 ?_)<;>conv=>whnf)
     rw [hvo]
     refine ⟨[], [some 0, some 1, some 2], ?_⟩
     iterate 3 constructor
     refine ⟨⟨?_, ?_, ?_⟩, rfl, rfl, rfl⟩
     all_goals (repeat' first|with_reducible exact Lz.rfl|exact Lw.rfl|exact Lz.wrap (by omega)|(unfold goInt;with_reducible exact Lz.rfl)|exact flx _|constructor)
     exact Lz.of (delM_A .i64 .i64 encP slot _)
def refuseS (x : LeadS) (b : Int) : LeadS × Bool := if x.st = 0 ∨ b ≤ x.b then (x, false) else ({ x with st := 0, opn := [], came := [] }, true)
theorem refuse_ok (x : LeadS) (b : Int) : VC E0 108 3 [.ptr 0 0, .s (.int .u64 b)] (stL x) (RR (.s (.bool (refuseS x b).2)) 3 (stL (refuseS x b).1)) := by
 refine VC.enterR L0 (show E0.func 108 = some Try.f108 by kernel_rfl) (fun _ _ => rfl) rfl rfl [] ?_
 ((conv=>whnf)<;>repeat(with_reducible refine D1 ?_)<;>conv=>whnf)
 (first|refine ⟨?_,?_⟩|refine nsplit ?_ ?_|refine bsplit ?_ ?_)<;>intro h1<;>have hz_:=True.intro<;>clear hz_
 ·have h1 : x.st = 0 := h1
  have e : refuseS x b = (x, false) := by unfold refuseS; rw [if_pos (.inl h1)]
  rw [e]
  ((conv=>whnf)<;>repeat(with_reducible refine D1 ?_)<;>conv=>whnf)
  exact ⟨[], [some 0, some 1, some 2], _, _, _, t3, rfl, rfl, rfl⟩
 ·have h1 : ¬ x.st = 0 := h1
  ((conv=>whnf)<;>repeat(with_reducible refine D1 ?_)<;>conv=>whnf)
  (first|refine ⟨?_,?_⟩|refine nsplit ?_ ?_|refine bsplit ?_ ?_)<;>intro h2<;>have hz_:=True.intro<;>clear hz_
  ·have h2 : b ≤ x.b := h2
   have e : refuseS x b = (x, false) := by unfold refuseS; rw [if_pos (.inr h2)]
   rw [e]
   ((conv=>whnf)<;>repeat(with_reducible refine D1 ?_)<;>conv=>whnf)
   exact ⟨[], [some 0, some 1, some 2], _, _, _, t3, rfl, rfl, rfl⟩
  ·have h2 : ¬ b ≤ x.b := h2
   have e : refuseS x b = ({ x with st := 0, opn := [], came := [] }, true) := by unfold refuseS; rw [if_neg (by rintro (h | h); exact h1 h; exact h2 h)]
   rw [e]
   ((conv=>whnf)<;>repeat(with_reducible refine D1 ?_)<;>conv=>whnf)
   exact ⟨[], [some 0, some 1, some 2], _, _, _, t3, rfl, rfl, rfl⟩
end Go.M
namespace Go.M
open Go
def maskB (P : Nat → Bool) : Nat := (if P 1 then 2 else 0) + (if P 2 then 4 else 0) + (if P 3 then 8 else 0) + (if P 4 then 16 else 0) + (if P 5 then 32 else 0)
theorem maskB_ext {P Q : Nat → Bool} (h : ∀ j, 1 ≤ j → j ≤ 5 → P j = Q j) : maskB P = maskB Q := by
 unfold maskB
 rw [h 1 (by omega) (by omega), h 2 (by omega) (by omega), h 3 (by omega) (by omega), h 4 (by omega) (by omega), h 5 (by omega) (by omega)]
theorem mask5 : ∀ a b c d e : Bool, ∀ i : Nat, i < 6 → 0 < i →
 ((if a then 2 else 0) + (if b then 4 else 0) + (if c then 8 else 0) + (if d then 16 else 0) + (if e then 32 else 0) ||| 2 ^ i : Nat) =
 (if (a || i == 1) then 2 else 0) + (if (b || i == 2) then 4 else 0) + (if (c || i == 3) then 8 else 0) + (if (d || i == 4) then 16 else 0) + (if (e || i == 5) then 32 else 0) := by decide +kernel
theorem maskB_or (P : Nat → Bool) {i : Nat} (h1 : 0 < i) (h2 : i < 6) : maskB P ||| 2 ^ i = maskB fun j => P j || i == j := mask5 (P 1) (P 2) (P 3) (P 4) (P 5) i h2 h1
theorem maskB_ev (P : Nat → Bool) : ev64 (maskB P) := by
 have : ∀ a b c d e : Bool, ev64 ((if a then 2 else 0) + (if b then 4 else 0) + (if c then 8 else 0) + (if d then 16 else 0) + (if e then 32 else 0)) := by decide
 exact this _ _ _ _ _
theorem withN_maskB : ∀ (l : List Int) (P : Nat → Bool), (∀ x ∈ l, m5 x) → withN (maskB P) l = maskB fun j => P j || decide ((j : Int) ∈ l)
 | [], P, _ => by simp [withN]
 | x :: l, P, h => by
  have hx := h x List.mem_cons_self
  have e : withN (maskB P) (x :: l) = withN (maskB P ||| 2 ^ x.toNat) l := rfl
  unfold m5 at hx
  rw [e, maskB_or P (by omega) (by omega), withN_maskB l _ fun y hy => h y (List.mem_cons_of_mem _ hy)]
  refine maskB_ext fun j hj1 hj2 => ?_
  have : (x.toNat == j) = decide ((j : Int) = x) := by rw [Bool.eq_iff_iff]; simp; omega
  rw [this]
  simp only [List.mem_cons, Bool.decide_or, Bool.or_assoc]
theorem withN0_maskB {l : List Int} (h : ∀ x ∈ l, m5 x) : withN 0 l = maskB fun j => decide ((j : Int) ∈ l) := by
 have := withN_maskB l (fun _ => false) h
 simpa [maskB] using this
def hasN (s i : Nat) : Bool := decide (s / 2 ^ i % 2 = 1)
theorem addBit : ∀ s : Nat, s < 64 → ∀ i : Nat, i < 6 → 0 < i → (hasN s i = true → s ||| 2 ^ i = s) ∧ (hasN s i = false → IntKind.u64.wrap ((s : Int) + IntKind.u64.wrap (1 * 2 ^ i)) = ((s ||| 2 ^ i : Nat) : Int)) := by decide +kernel
def cntN (s : Nat) : Nat → Nat
 | 0 => 0
 | i + 1 => cntN s i + (if hasN s (i + 1) then 1 else 0)
theorem cnt_enough : ∀ s : Nat, s < 64 → ∀ n : Nat, n < 6 → 0 < n → decide (n / 2 + 1 ≤ cntN s n) = enoughN s (n : Int) := by decide +kernel
theorem halve (s k : Nat) (h : s < 64) : IntKind.u64.wrap ((((s / 2 ^ k : Nat) : Int)).tdiv 2) = ((s / 2 ^ (k + 1) : Nat) : Int) := by
 have h1 : s / 2 ^ k ≤ s := Nat.div_le_self _ _
 rw [Nat.pow_succ, ← Nat.div_div_eq_div_mul]
 generalize s / 2 ^ k = q at *
 rw [Int.tdiv_eq_ediv_of_nonneg (by omega), IntWalk.u64_in _ (by omega)]
 omega
theorem odd (s k : Nat) (h : s < 64) : ((((s / 2 ^ k : Nat) : Int)).tmod 2 = 1) ↔ hasN s k = true := by
 have h1 : s / 2 ^ k ≤ s := Nat.div_le_self _ _
 unfold hasN
 rw [decide_eq_true_iff]
 generalize s / 2 ^ k = q at *
 rw [Int.tmod_eq_emod_of_nonneg (by omega)]
 omega
end Go.M
namespace Go.M
open Go Go.Proofs
set_option maxRecDepth 100000
set_option maxHeartbeats 4000000
theorem refHas_ok (s i : Nat) (hs : s < 64) (h1 : 1 ≤ i) (h2 : i ≤ 63) : VC E0 176 0 [.s (.int .u64 s), .s (.int .i64 i)] [] (RR (.s (.bool (hasN s i))) 0 []) := by
 refine VC.enterR L0 (show E0.func 176 = some Try.f176 by kernel_rfl) (fun _ _ => rfl) rfl rfl [] ?_
 ((conv=>whnf)<;>repeat(with_reducible refine D1 ?_)<;>conv=>whnf)
 (first|refine ⟨?_,?_⟩|refine nsplit ?_ ?_|refine bsplit ?_ ?_)<;>intro a1<;>have hz_:=True.intro<;>clear hz_
 ·have a1 : (i : Int) < 1 := a1
  omega
 ·((conv=>whnf)<;>repeat(with_reducible refine D1 ?_)<;>conv=>whnf)
  (first|refine ⟨?_,?_⟩|refine nsplit ?_ ?_|refine bsplit ?_ ?_)<;>intro a2<;>have hz_:=True.intro<;>clear hz_
  ·have a2 : (i : Int) > 63 := a2
   omega
  ·((conv=>whnf)<;>repeat(with_reducible refine D1 ?_)<;>conv=>whnf)
   refine ⟨fun k f o c => ∃ j : Nat, j ≤ i ∧ k = i - j ∧ c = 0 ∧ f = [(0, .s (.int .u64 ((s / 2 ^ j : Nat) : Int))), (1, .s (.int .i64 i)), (5, .s (.int .i64 j))] ∧ o = [], ⟨i, ?_⟩, ?_⟩
   ·refine ⟨[], [], ?_⟩
    iterate 3 constructor
    refine ⟨⟨?_, ?_, ?_⟩, ⟨0, Nat.zero_le _, rfl, rfl, rfl, rfl⟩⟩
    all_goals (repeat' first|with_reducible exact Lz.rfl|exact Lw.rfl|exact Lz.wrap (by omega)|(unfold goInt;with_reducible exact Lz.rfl)|exact flx _|constructor)
    refine Lz.int ?_; simp
   ·rintro k f1 o1 c1 ⟨j, hj, rfl, rfl, rfl, rfl⟩
    ((conv=>whnf)<;>repeat(with_reducible refine D1 ?_)<;>conv=>whnf)
    (first|refine ⟨?_,?_⟩|refine nsplit ?_ ?_|refine bsplit ?_ ?_)<;>intro h<;>have hz_:=True.intro<;>clear hz_
    ·have h : (j : Int) < i := h
     ((conv=>whnf)<;>repeat(with_reducible refine D1 ?_)<;>conv=>whnf)
     refine ⟨i - (j + 1), ?_, by omega⟩
     refine ⟨[], [], ?_⟩
     iterate 3 constructor
     refine ⟨⟨?_, ?_, ?_⟩, ⟨j + 1, by omega, rfl, rfl, rfl, rfl⟩⟩
     all_goals (repeat' first|with_reducible exact Lz.rfl|exact Lw.rfl|exact Lz.wrap (by omega)|(unfold goInt;with_reducible exact Lz.rfl)|exact flx _|constructor)
     refine Lz.int ?_; exact halve s j hs
    ·have h : ¬ (j : Int) < i := h
     have hji : j = i := by omega
     subst hji
     ((conv=>whnf)<;>repeat(with_reducible refine D1 ?_)<;>conv=>whnf)
     (first|refine ⟨?_,?_⟩|refine nsplit ?_ ?_|refine bsplit ?_ ?_)<;>intro ho<;>have hz_:=True.intro<;>clear hz_
     ·have ho : hasN s j = true := (odd s j hs).1 ho
      rw [ho]
      ((conv=>whnf)<;>repeat(with_reducible refine D1 ?_)<;>conv=>whnf)
      exact ⟨[], [], _, _, _, t3, rfl, rfl, rfl⟩
     ·have ho : hasN s j = false := by
       have : ¬ hasN s j = true := fun e => ho ((odd s j hs).2 e)
       simpa using this
      rw [ho]
      ((conv=>whnf)<;>repeat(with_reducible refine D1 ?_)<;>conv=>whnf)
      exact ⟨[], [], _, _, _, t3, rfl, rfl, rfl⟩
theorem refQuorum_ok (n : Int) (h : 1 ≤ n) (h2 : n ≤ 1000) : VC E0 177 0 [.s (.int .i64 n)] [] (RR (.s (.int .i64 (n.toNat / 2 + 1 : Nat))) 0 []) := by
 refine VC.enterR L0 (show E0.func 177 = some Try.f177 by kernel_rfl) (fun _ _ => rfl) rfl rfl [] ?_
 ((conv=>whnf)<;>repeat(with_reducible refine D1 ?_)<;>conv=>whnf)
 (first|refine ⟨?_,?_⟩|refine nsplit ?_ ?_|refine bsplit ?_ ?_)<;>intro h0<;>have hz_:=True.intro<;>clear hz_
 ·omega
 ·((conv=>whnf)<;>repeat(with_reducible refine D1 ?_)<;>conv=>whnf)
  refine ⟨[], [], ?_⟩
  iterate 3 constructor
  refine ⟨⟨?_, ?_, ?_⟩, rfl, rfl, rfl⟩
  all_goals (repeat' first|with_reducible exact Lz.rfl|exact Lw.rfl|exact Lz.wrap (by omega)|(unfold goInt;with_reducible exact Lz.rfl)|exact flx _|constructor)
  refine Lz.int ?_
  rw [Int.tdiv_eq_ediv_of_nonneg (by omega), IntWalk.i64_in (n / 2) (by omega), IntWalk.i64_in (n / 2 + 1) (by omega)]
  omega
theorem refEnough_ok (s : Nat) (n : Int) (hs : s < 64) (hn : m5 n) : VC E0 155 0 [.s (.int .u64 s), .s (.int .i64 n)] [] (RR (.s (.bool (enoughN s n))) 0 []) := by
 have hn' : 1 ≤ n ∧ n ≤ 5 := hn
 have hen := cnt_enough s hs n.toNat (by omega) (by omega)
 rw [show ((n.toNat : Nat) : Int) = n by omega] at hen
 refine VC.enterR L0 (show E0.func 155 = some Try.f155 by kernel_rfl) (fun _ _ => rfl) rfl rfl [] ?_
 ((conv=>whnf)<;>repeat(with_reducible refine D1 ?_)<;>conv=>whnf)
 refine ⟨fun k f o c => ∃ i : Nat, i ≤ n.toNat ∧ k = n.toNat - i ∧ c = 0 ∧ f = [(0, .s (.int .u64 s)), (1, .s (.int .i64 n)), (5, .s (.int .i64 (cntN s i))), (6, .s (.int .i64 ((i + 1 : Nat) : Int)))] ∧ o = [], ⟨n.toNat, ?_⟩, ?_⟩
 ·exact ⟨[], [], _, _, _, t3, ⟨0, Nat.zero_le _, rfl, rfl, rfl, rfl⟩⟩
 ·rintro k f1 o1 c1 ⟨i, hi, rfl, rfl, rfl, rfl⟩
  have hcn : cntN s i ≤ i := by
   clear hen hi
   induction i with
   | zero => simp [cntN]
   | succ i ih => simp only [cntN]; split <;> omega
  ((conv=>whnf)<;>repeat(with_reducible refine D1 ?_)<;>conv=>whnf)
  (first|refine ⟨?_,?_⟩|refine nsplit ?_ ?_|refine bsplit ?_ ?_)<;>intro a1<;>have hz_:=True.intro<;>clear hz_
  ·((conv=>whnf)<;>repeat(with_reducible refine D1 ?_)<;>conv=>whnf)
   (first|refine ⟨?_,?_⟩|refine nsplit ?_ ?_|refine bsplit ?_ ?_)<;>intro a2<;>have hz_:=True.intro<;>clear hz_
   ·have a2 : ((i + 1 : Nat) : Int) ≤ n := a2
    ((conv=>whnf)<;>repeat(with_reducible refine D1 ?_)<;>conv=>whnf)
    refine ⟨[], [], _, _, _, _, refHas_ok s (i + 1) hs (by omega) (by omega), t3, ?_⟩
    rintro r o' c' ⟨rfl, rfl, rfl⟩
    have hz_ := True.intro
    clear hz_
    cases hb : hasN s (i + 1)
    ·((conv=>whnf)<;>repeat(with_reducible refine D1 ?_)<;>conv=>whnf)
     refine ⟨n.toNat - (i + 1), ?_, by omega⟩
     refine ⟨[], [], ?_⟩
     iterate 3 constructor
     refine ⟨⟨?_, ?_, ?_⟩, ⟨i + 1, by omega, rfl, rfl, rfl, rfl⟩⟩
     all_goals (repeat' first|with_reducible exact Lz.rfl|exact Lw.rfl|exact Lz.wrap (by omega)|(unfold goInt;with_reducible exact Lz.rfl)|exact flx _|constructor)
     refine Lz.int ?_; simp [cntN, hb]
    ·((conv=>whnf)<;>repeat(with_reducible refine D1 ?_)<;>conv=>whnf)
     refine ⟨n.toNat - (i + 1), ?_, by omega⟩
     refine ⟨[], [], ?_⟩
     iterate 3 constructor
     refine ⟨⟨?_, ?_, ?_⟩, ⟨i + 1, by omega, rfl, rfl, rfl, rfl⟩⟩
     all_goals (repeat' first|with_reducible exact Lz.rfl|exact Lw.rfl|exact Lz.wrap (by omega)|(unfold goInt;with_reducible exact Lz.rfl)|exact flx _|constructor)
     refine Lz.int ?_; rw [IntWalk.i64_in _ (by omega)]; simp [cntN, hb]
   ·have a2 : ¬ ((i + 1 : Nat) : Int) ≤ n := a2
    have hin : i = n.toNat := by omega
    subst hin
    ((conv=>whnf)<;>repeat(with_reducible refine D1 ?_)<;>conv=>whnf)
    (first|refine ⟨?_,?_⟩|refine nsplit ?_ ?_|refine bsplit ?_ ?_)<;>intro a3<;>have hz_:=True.intro<;>clear hz_
    ·((conv=>whnf)<;>repeat(with_reducible refine D1 ?_)<;>conv=>whnf)
     refine ⟨[], [], _, _, _, _, refQuorum_ok n (by omega) (by omega), t3, ?_⟩
     rintro r o' c' ⟨rfl, rfl, rfl⟩
     ((conv=>whnf)<;>repeat(with_reducible refine D1 ?_)<;>conv=>whnf)
     (first|refine ⟨?_,?_⟩|refine nsplit ?_ ?_|refine bsplit ?_ ?_)<;>intro a4<;>have hz_:=True.intro<;>clear hz_
     ·have a4 : (cntN s n.toNat : Int) ≥ ((n.toNat / 2 + 1 : Nat) : Int) := a4
      ((conv=>whnf)<;>repeat(with_reducible refine D1 ?_)<;>conv=>whnf)
      refine ⟨[], [], ?_⟩
      iterate 3 constructor
      refine ⟨⟨?_, ?_, ?_⟩, rfl, rfl, rfl⟩
      all_goals (repeat' first|with_reducible exact Lz.rfl|exact Lw.rfl|exact Lz.wrap (by omega)|(unfold goInt;with_reducible exact Lz.rfl)|exact flx _|constructor)
      refine Lz.of (bool_eq ?_)
      rw [← hen, eq_comm, decide_eq_true_iff]; omega
     ·have a4 : ¬ (cntN s n.toNat : Int) ≥ ((n.toNat / 2 + 1 : Nat) : Int) := a4
      ((conv=>whnf)<;>repeat(with_reducible refine D1 ?_)<;>conv=>whnf)
      refine ⟨[], [], ?_⟩
      iterate 3 constructor
      refine ⟨⟨?_, ?_, ?_⟩, rfl, rfl, rfl⟩
      all_goals (repeat' first|with_reducible exact Lz.rfl|exact Lw.rfl|exact Lz.wrap (by omega)|(unfold goInt;with_reducible exact Lz.rfl)|exact flx _|constructor)
      refine Lz.of (bool_eq ?_)
      rw [← hen, eq_comm, decide_eq_false_iff_not]; omega
    ·have a3 : ¬ n ≥ 1 := a3
     omega
  ·have a1 : ¬ ((i + 1 : Nat) : Int) ≤ 63 := a1
   omega
theorem refSet_ok (l : List Int) (h5 : ∀ x ∈ l, m5 x) (hl : l.length < 1000) : VC E0 156 0 [.sl 1 (l.map encI1) false] [] (RR (.s (.int .u64 (withN 0 l))) 0 []) := by
 refine VC.enterR L0 (show E0.func 156 = some Try.f156 by kernel_rfl) (fun _ _ => rfl) rfl rfl [] ?_
 ((conv=>whnf)<;>repeat(with_reducible refine D1 ?_)<;>conv=>whnf)
 refine ⟨fun k f o c => ∃ i : Nat, 1 ≤ i ∧ i ≤ 64 ∧ k = 64 - i ∧ c = 0 ∧ f = [(0, .sl 1 (l.map encI1) false), (3, .s (.int .u64 (maskB fun j => decide (j < i ∧ (j : Int) ∈ l)))), (4, .s (.int .i64 i))] ∧ o = [], ⟨63, ?_⟩, ?_⟩
 ·refine ⟨[], [], ?_⟩
  iterate 3 constructor
  refine ⟨⟨?_, ?_, ?_⟩, ⟨1, Nat.le_refl _, by omega, rfl, rfl, rfl, rfl⟩⟩
  all_goals (repeat' first|with_reducible exact Lz.rfl|exact Lw.rfl|exact Lz.wrap (by omega)|(unfold goInt;with_reducible exact Lz.rfl)|exact flx _|constructor)
  all_goals first
   | (refine Lz.int ?_; rfl)
   | (refine Lz.int ?_; have : maskB (fun j => decide (j < 1 ∧ (j : Int) ∈ l)) = maskB fun _ => false := maskB_ext fun j h _ => decide_eq_false fun e => by omega
      rw [this]; rfl)
 ·rintro k f1 o1 c1 ⟨i, hi1, hi2, rfl, rfl, rfl, rfl⟩
  ((conv=>whnf)<;>repeat(with_reducible refine D1 ?_)<;>conv=>whnf)
  (first|refine ⟨?_,?_⟩|refine nsplit ?_ ?_|refine bsplit ?_ ?_)<;>intro a1<;>have hz_:=True.intro<;>clear hz_
  ·have a1 : (i : Int) ≤ 63 := a1
   ((conv=>whnf)<;>repeat(with_reducible refine D1 ?_)<;>conv=>whnf)
   refine ⟨fun kk f o c => ∃ k : Nat, k ≤ l.length ∧ kk = l.length - k ∧ c = 0 ∧ f = [(0, .sl 1 (l.map encI1) false), (3, .s (.int .u64 (maskB fun j => decide (j < i ∧ (j : Int) ∈ l) || decide (j = i ∧ (j : Int) ∈ l.take k)))), (4, .s (.int .i64 i)), (5, .s (.int .i64 k))] ∧ o = [], ⟨l.length, ?_⟩, ?_⟩
   ·refine ⟨[], [], ?_⟩
    iterate 3 constructor
    refine ⟨⟨?_, ?_, ?_⟩, ⟨0, Nat.zero_le _, rfl, rfl, rfl, rfl⟩⟩
    all_goals (repeat' first|with_reducible exact Lz.rfl|exact Lw.rfl|exact Lz.wrap (by omega)|(unfold goInt;with_reducible exact Lz.rfl)|exact flx _|constructor)
    refine Lz.int ?_
    exact congrArg (fun n : Nat => (n : Int)) (maskB_ext fun j _ _ => by simp)
   ·rintro kk f1 o1 c1 ⟨k, hk, rfl, rfl, rfl, rfl⟩
    ((conv=>whnf)<;>repeat(with_reducible refine D1 ?_)<;>conv=>whnf)
    (first|refine ⟨?_,?_⟩|refine nsplit ?_ ?_|refine bsplit ?_ ?_)<;>intro h<;>have hz_:=True.intro<;>clear hz_
    ·have h : k < l.length := lenlt.1 h
     have hx5 := h5 _ (List.getElem_mem h)
     ((conv=>whnf)<;>repeat(with_reducible refine D1 ?_)<;>conv=>whnf)
     refine idxI h ?_
     ((conv=>whnf)<;>repeat(with_reducible refine D1 ?_)<;>conv=>whnf)
     have hev := maskB_ev fun j => decide (j < i ∧ (j : Int) ∈ l) || decide (j = i ∧ (j : Int) ∈ l.take k)
     have same : l[k] ≠ (i : Int) → maskB (fun j => decide (j < i ∧ (j : Int) ∈ l) || decide (j = i ∧ (j : Int) ∈ l.take (k + 1))) = maskB fun j => decide (j < i ∧ (j : Int) ∈ l) || decide (j = i ∧ (j : Int) ∈ l.take k) := fun hne => maskB_ext fun j _ _ => by
      rw [List.take_succ_eq_append_getElem h]
      congr 1
      rw [decide_eq_decide]
      simp only [List.mem_append, List.mem_singleton]
      constructor
      ·rintro ⟨e, h1 | h1⟩
       ·exact ⟨e, h1⟩
       ·subst e; exact absurd h1.symm hne
      ·rintro ⟨e, h1⟩; exact ⟨e, .inl h1⟩
     have more : l[k] = (i : Int) → maskB (fun j => decide (j < i ∧ (j : Int) ∈ l) || decide (j = i ∧ (j : Int) ∈ l.take (k + 1))) = (maskB fun j => decide (j < i ∧ (j : Int) ∈ l) || decide (j = i ∧ (j : Int) ∈ l.take k)) ||| 2 ^ i := fun he => by
      have : 0 < i ∧ i < 6 := by unfold m5 at hx5; omega
      rw [maskB_or _ this.1 this.2]
      refine maskB_ext fun j _ _ => ?_
      rw [List.take_succ_eq_append_getElem h, Bool.or_assoc]
      congr 1
      rw [Bool.eq_iff_iff]
      simp only [List.mem_append, List.mem_singleton, decide_eq_true_iff, Bool.or_eq_true, beq_iff_eq]
      constructor
      ·rintro ⟨e, h1 | h1⟩
       ·exact .inl ⟨e, h1⟩
       ·exact .inr e.symm
      ·rintro (⟨e, h1⟩ | e)
       ·exact ⟨e, .inl h1⟩
       ·subst e; exact ⟨rfl, .inr he.symm⟩
     generalize maskB (fun j => decide (j < i ∧ (j : Int) ∈ l) || decide (j = i ∧ (j : Int) ∈ l.take k)) = s at *
     (first|refine ⟨?_,?_⟩|refine nsplit ?_ ?_|refine bsplit ?_ ?_)<;>intro he<;>have hz_:=True.intro<;>clear hz_
     ·have he : l[k] = (i : Int) := he
      have hi5 : 0 < i ∧ i < 6 := by unfold m5 at hx5; omega
      obtain ⟨b1, b2⟩ := addBit s hev.1 i hi5.2 hi5.1
      ((conv=>whnf)<;>repeat(with_reducible refine D1 ?_)<;>conv=>whnf)
      refine ⟨[], [], _, _, _, _, refHas_ok s i hev.1 hi1 (by omega), t3, ?_⟩
      rintro r o' c' ⟨rfl, rfl, rfl⟩
      have hz_ := True.intro
      clear hz_
      cases hb : hasN s i
      ·((conv=>whnf)<;>repeat(with_reducible refine D1 ?_)<;>conv=>whnf)
       refine ⟨l.length - (k + 1), ?_, by omega⟩
       refine ⟨[], [], ?_⟩
       iterate 3 constructor
       refine ⟨⟨?_, ?_, ?_⟩, ⟨k + 1, h, rfl, rfl, rfl, rfl⟩⟩
       all_goals (repeat' first|with_reducible exact Lz.rfl|exact Lw.rfl|exact Lz.wrap (by omega)|(unfold goInt;with_reducible exact Lz.rfl)|exact flx _|constructor)
       refine Lz.int ?_
       rw [more he, ← b2 hb]
       rw [show min (i : Int).toNat IntKind.u64.bits = i by have : IntKind.u64.bits = 64 := rfl; omega]
      ·((conv=>whnf)<;>repeat(with_reducible refine D1 ?_)<;>conv=>whnf)
       refine ⟨l.length - (k + 1), ?_, by omega⟩
       refine ⟨[], [], ?_⟩
       iterate 3 constructor
       refine ⟨⟨?_, ?_, ?_⟩, ⟨k + 1, h, rfl, rfl, rfl, rfl⟩⟩
       all_goals (repeat' first|with_reducible exact Lz.rfl|exact Lw.rfl|exact Lz.wrap (by omega)|(unfold goInt;with_reducible exact Lz.rfl)|exact flx _|constructor)
       refine Lz.int ?_
       rw [more he, b1 hb]
     ·have he : ¬ l[k] = (i : Int) := he
      ((conv=>whnf)<;>repeat(with_reducible refine D1 ?_)<;>conv=>whnf)
      refine ⟨l.length - (k + 1), ?_, by omega⟩
      refine ⟨[], [], ?_⟩
      iterate 3 constructor
      refine ⟨⟨?_, ?_, ?_⟩, ⟨k + 1, h, rfl, rfl, rfl, rfl⟩⟩
      all_goals (repeat' first|with_reducible exact Lz.rfl|exact Lw.rfl|exact Lz.wrap (by omega)|(unfold goInt;with_reducible exact Lz.rfl)|exact flx _|constructor)
      refine Lz.int ?_
      rw [same he]
    ·have hk' : k = l.length := by have := mt lenlt.2 h
                                   omega
     subst hk'
     ((conv=>whnf)<;>repeat(with_reducible refine D1 ?_)<;>conv=>whnf)
     refine ⟨64 - (i + 1), ?_, by omega⟩
     refine ⟨[], [], ?_⟩
     iterate 3 constructor
     refine ⟨⟨?_, ?_, ?_⟩, ⟨i + 1, by omega, by omega, rfl, rfl, rfl, rfl⟩⟩
     all_goals (repeat' first|with_reducible exact Lz.rfl|exact Lw.rfl|exact Lz.wrap (by omega)|(unfold goInt;with_reducible exact Lz.rfl)|exact flx _|constructor)
     refine Lz.int (congrArg (fun n : Nat => (n : Int)) (maskB_ext fun j _ _ => ?_))
     rw [List.take_length, Bool.eq_iff_iff]
     simp only [Bool.or_eq_true, decide_eq_true_iff]
     constructor
     ·rintro (⟨e1, e2⟩ | ⟨e1, e2⟩)
      ·exact ⟨by omega, e2⟩
      ·exact ⟨by omega, e2⟩
     ·rintro ⟨e1, e2⟩
      by_cases e : j = i
      ·exact .inr ⟨e, e2⟩
      ·exact .inl ⟨by omega, e2⟩
  ·have a1 : ¬ (i : Int) ≤ 63 := a1
   ((conv=>whnf)<;>repeat(with_reducible refine D1 ?_)<;>conv=>whnf)
   refine ⟨[], [], ?_⟩
   iterate 3 constructor
   refine ⟨⟨?_, ?_, ?_⟩, rfl, rfl, rfl⟩
   all_goals (repeat' first|with_reducible exact Lz.rfl|exact Lw.rfl|exact Lz.wrap (by omega)|(unfold goInt;with_reducible exact Lz.rfl)|exact flx _|constructor)
   refine Lz.int ?_
   rw [withN0_maskB h5]
   refine congrArg (fun n : Nat => (n : Int)) (maskB_ext fun j _ h2 => ?_)
   rw [decide_eq_decide]
   exact ⟨fun e => e.2, fun e => ⟨by omega, e⟩⟩
theorem enoughR_ok (l : List Int) (n : Int) (h5 : ∀ x ∈ l, m5 x) (hl : l.length < 1000) (hn : m5 n) : VC E0 136 0 [.sl 1 (l.map encI1) false, .s (.int .i64 n)] [] (RR (.s (.bool (enoughN (withN 0 l) n))) 0 []) := by
 refine VC.enterR L0 (show E0.func 136 = some Try.f136 by kernel_rfl) (fun _ _ => rfl) rfl rfl [] ?_
 ((conv=>whnf)<;>repeat(with_reducible refine D1 ?_)<;>conv=>whnf)
 refine ⟨[], [], _, _, _, _, refSet_ok l h5 hl, t3, ?_⟩
 rintro r o' c' ⟨rfl, rfl, rfl⟩
 ((conv=>whnf)<;>repeat(with_reducible refine D1 ?_)<;>conv=>whnf)
 refine ⟨[], [], _, _, _, _, refEnough_ok (withN 0 l) n (withN_ev (by decide) h5).1 hn, t3, ?_⟩
 rintro r o' c' ⟨rfl, rfl, rfl⟩
 ((conv=>whnf)<;>repeat(with_reducible refine D1 ?_)<;>conv=>whnf)
 exact ⟨[], [], _, _, _, t3, rfl, rfl, rfl⟩
theorem has04_ok (l : List Int) (x : Int) (hl : l.length < 1000000) : VC E0 115 0 [.sl 1 (l.map encI1) false, .s (.int .i64 x)] [] (RR (.s (.bool (decide (x ∈ l)))) 0 []) := by
 refine VC.enterR L0 (show E0.func 115 = some Try.f115 by kernel_rfl) (fun _ _ => rfl) rfl rfl [] ?_
 ((conv=>whnf)<;>repeat(with_reducible refine D1 ?_)<;>conv=>whnf)
 refine ⟨fun k f o c => ∃ j : Nat, j ≤ l.length ∧ k = l.length - j ∧ x ∉ l.take j ∧ c = 0 ∧ f = [(0, .sl 1 (l.map encI1) false), (1, .s (.int .i64 x)), (5, .s (.int .i64 j))] ∧ o = [], ⟨l.length, ?_⟩, ?_⟩
 ·exact ⟨[], [], _, _, _, t3, ⟨0, Nat.zero_le _, rfl, by simp, rfl, rfl, rfl⟩⟩
 ·rintro k f1 o1 c1 ⟨j, hj, rfl, hn, rfl, rfl, rfl⟩
  ((conv=>whnf)<;>repeat(with_reducible refine D1 ?_)<;>conv=>whnf)
  (first|refine ⟨?_,?_⟩|refine nsplit ?_ ?_|refine bsplit ?_ ?_)<;>intro h<;>have hz_:=True.intro<;>clear hz_
  ·have h : j < l.length := lenlt.1 h
   ((conv=>whnf)<;>repeat(with_reducible refine D1 ?_)<;>conv=>whnf)
   refine idxI h ?_
   ((conv=>whnf)<;>repeat(with_reducible refine D1 ?_)<;>conv=>whnf)
   (first|refine ⟨?_,?_⟩|refine nsplit ?_ ?_|refine bsplit ?_ ?_)<;>intro he<;>have hz_:=True.intro<;>clear hz_
   ·have he : l[j] = x := he
    ((conv=>whnf)<;>repeat(with_reducible refine D1 ?_)<;>conv=>whnf)
    refine ⟨[], [], ?_⟩
    iterate 3 constructor
    refine ⟨⟨?_, ?_, ?_⟩, rfl, rfl, rfl⟩
    all_goals (repeat' first|with_reducible exact Lz.rfl|exact Lw.rfl|exact Lz.wrap (by omega)|(unfold goInt;with_reducible exact Lz.rfl)|exact flx _|constructor)
    exact Lz.of (bool_eq (Eq.symm (decide_eq_true (he ▸ List.getElem_mem h))))
   ·have he : ¬ l[j] = x := he
    ((conv=>whnf)<;>repeat(with_reducible refine D1 ?_)<;>conv=>whnf)
    refine ⟨l.length - (j + 1), ?_, by omega⟩
    exact ⟨[], [], _, _, _, t3, ⟨j + 1, h, rfl, (by rw [List.take_succ_eq_append_getElem h]; simp only [List.mem_append, List.mem_singleton, not_or]; exact ⟨hn, fun e => he e.symm⟩), rfl, rfl, rfl⟩⟩
  ·have hj' : j = l.length := by have := mt lenlt.2 h
                                 omega
   subst hj'
   rw [List.take_length] at hn
   ((conv=>whnf)<;>repeat(with_reducible refine D1 ?_)<;>conv=>whnf)
   refine ⟨[], [], ?_⟩
   iterate 3 constructor
   refine ⟨⟨?_, ?_, ?_⟩, rfl, rfl, rfl⟩
   all_goals (repeat' first|with_reducible exact Lz.rfl|exact Lw.rfl|exact Lz.wrap (by omega)|(unfold goInt;with_reducible exact Lz.rfl)|exact flx _|constructor)
   exact Lz.of (bool_eq (Eq.symm (decide_eq_false hn)))
end Go.M
namespace Go.M
open Go Go.Proofs
set_option maxRecDepth 100000
set_option maxHeartbeats 4000000
abbrev Prp := Int × Cmd × List Int
def zw : List Int → Nat
 | [] => 0
 | _ => 1
def encR (p : Prp) : List TV := [.s (.int .i64 p.1), .s (.int .i64 p.2.1.kind), .s (.int .i64 p.2.1.chain), .s (.int .u64 p.2.1.epoch), .s (.int .i64 p.2.1.node), .sl (zw p.2.2) (p.2.2.map encI1) false]
@[reducible] def refC (x : LeadS) (who : List Int) (votes : List (List Vote)) (L : List Prp) (fl : Bool) : List TV := [.s (.int .i64 x.me), .s (.int .i64 x.masters), .s (.int .i64 x.st), .s (.int .u64 x.b), .s (.int .i64 x.frm), .s (.int .i64 x.nxt), .sl 1 (who.map encI1) false, .sl 1 (votes.map encL) false, .sl 6 (L.map encR) fl]
@[reducible] def refL (x : LeadS) (who : List Int) (votes : List (List Vote)) (L : List Prp) (fl : Bool) : TV := .agg (refC x who votes L fl)
theorem nextS_at {b who : Int} (hb : 0 ≤ b) (hw : m5 who) {i : Nat} (hi : i < 3) (hg : 1 ≤ b / 8 + i ∧ b / 8 + i < 1152921504606846976 ∧ 8 * (b / 8 + i) + who > b) (hn : ∀ j < i, ¬ (1 ≤ b / 8 + (j : Int) ∧ b / 8 + (j : Int) < 1152921504606846976 ∧ 8 * (b / 8 + (j : Int)) + who > b)) : nextS b who = (8 * (b / 8 + i) + who, 0) := by
 unfold m5 at hw
 have h0 := hn 0
 have h1 := hn 1
 unfold nextS
 simp only []
 rcases (show i = 0 ∨ i = 1 ∨ i = 2 by omega) with rfl | rfl | rfl
 ·grind
 ·have := h0 (by omega); grind
 ·have := h0 (by omega); have := h1 (by omega); grind
theorem nextS_no {b who : Int} (hb : 0 ≤ b) (hw : m5 who) (hn : ∀ j : Nat, j < 3 → ¬ (1 ≤ b / 8 + (j : Int) ∧ b / 8 + (j : Int) < 1152921504606846976 ∧ 8 * (b / 8 + (j : Int)) + who > b)) : nextS b who = (0, 9) := by
 unfold m5 at hw
 have h0 := hn 0 (by omega)
 have h1 := hn 1 (by omega)
 unfold nextS
 simp only []
 grind
theorem refNext_ok (b who : Int) (hb : 0 ≤ b ∧ b ≤ 18446744073709551615) (hw : m5 who) : VC E0 135 0 [.s (.int .u64 b), .s (.int .i64 who)] [] (RR (.tup [.s (.int .u64 (nextS b who).1), .s (.int .i64 (nextS b who).2)]) 0 []) := by
 have hw' := hw
 unfold m5 at hw'
 have hmw : isMaster who = true := decide_eq_true (by omega)
 refine VC.enterR L0 (show E0.func 135 = some Try.f135 by kernel_rfl) (fun _ _ => rfl) rfl rfl [] ?_
 ((conv=>whnf)<;>repeat(with_reducible refine D1 ?_)<;>conv=>whnf)
 refine ⟨[], [], _, _, _, _, refMaster_ok who, t3, ?_⟩
 rintro r o' c' ⟨rfl, rfl, rfl⟩
 have hz_ := True.intro
 clear hz_
 cases h0 : isMaster who
 ·rw [hmw] at h0; cases h0
 ·((conv=>whnf)<;>repeat(with_reducible refine D1 ?_)<;>conv=>whnf)
  refine ⟨fun k f o c => ∃ i : Nat, i ≤ 3 ∧ k = 3 - i ∧ (∀ j < i, ¬ (1 ≤ b / 8 + (j : Int) ∧ b / 8 + (j : Int) < 1152921504606846976 ∧ 8 * (b / 8 + (j : Int)) + who > b)) ∧ c = 0 ∧ f = [(0, .s (.int .u64 b)), (1, .s (.int .i64 who)), (6, .s (.int .u64 i))] ∧ o = [], ⟨3, ?_⟩, ?_⟩
  ·exact ⟨[], [], _, _, _, t3, ⟨0, by omega, rfl, by intro j hj; omega, rfl, rfl, rfl⟩⟩
  ·rintro k f1 o1 c1 ⟨i, hi, rfl, hn, rfl, rfl, rfl⟩
   ((conv=>whnf)<;>repeat(with_reducible refine D1 ?_)<;>conv=>whnf)
   (first|refine ⟨?_,?_⟩|refine nsplit ?_ ?_|refine bsplit ?_ ?_)<;>intro a1<;>have hz_:=True.intro<;>clear hz_
   ·have a1 : (i : Int) < 3 := a1
    have e1 : IntKind.u64.wrap (IntKind.u64.wrap (b.tdiv 8) + i) = b / 8 + i := by
     rw [Int.tdiv_eq_ediv_of_nonneg hb.1, IntWalk.u64_in (b / 8) (by omega), IntWalk.u64_in _ (by omega)]
    ((conv=>whnf)<;>repeat(with_reducible refine D1 ?_)<;>conv=>whnf)
    refine ⟨[], [], _, _, _, _, refOf_ok (b / 8 + i) who, ⟨by ((repeat' first|with_reducible exact Lz.rfl|exact Lw.rfl|exact Lz.wrap (by omega)|(unfold goInt;with_reducible exact Lz.rfl)|exact flx _|constructor); all_goals (exact Lz.int e1)), by ((repeat' first|with_reducible exact Lz.rfl|exact Lw.rfl|exact Lz.wrap (by omega)|(unfold goInt;with_reducible exact Lz.rfl)|exact flx _|constructor); all_goals (exact Lz.int e1)), by rfl⟩, ?_⟩
    rintro r o' c' ⟨rfl, rfl, rfl⟩
    ((conv=>whnf)<;>repeat(with_reducible refine D1 ?_)<;>conv=>whnf)
    have hof : refOfS (b / 8 + i) who = if 1 ≤ b / 8 + (i : Int) ∧ b / 8 + (i : Int) < 1152921504606846976 then (8 * (b / 8 + i) + who, 0) else (0, 1) := by
     unfold refOfS
     rw [hmw]
     by_cases hr : 1 ≤ b / 8 + (i : Int) ∧ b / 8 + (i : Int) < 1152921504606846976
     ·rw [if_neg (by simp; omega), if_pos hr, IntWalk.u64_in who (by omega), IntWalk.u64_in ((b / 8 + i) * 8) (by omega), IntWalk.u64_in _ (by omega)]
      congr 1; omega
     ·rw [if_pos (by simp; omega), if_neg hr]
    by_cases hr : 1 ≤ b / 8 + (i : Int) ∧ b / 8 + (i : Int) < 1152921504606846976
    ·rw [if_pos hr] at hof
     rw [hof]
     ((conv=>whnf)<;>repeat(with_reducible refine D1 ?_)<;>conv=>whnf)
     ((first | (refine ⟨fun h_ => ?_, fun h_ => ?_⟩) | (refine nsplit (fun h_ => ?_) (fun h_ => ?_)) | (refine bsplit (fun h_ => ?_) (fun h_ => ?_))) <;> first | (exfalso; revert h_; decide; done) | (exact absurd rfl h_) | (have hz_ := True.intro; clear hz_; ((conv=>whnf)<;>repeat(with_reducible refine D1 ?_)<;>conv=>whnf)))
     (first|refine ⟨?_,?_⟩|refine nsplit ?_ ?_|refine bsplit ?_ ?_)<;>intro hg<;>have hz_:=True.intro<;>clear hz_
     ·have hg : 8 * (b / 8 + i) + who > b := hg
      ((conv=>whnf)<;>repeat(with_reducible refine D1 ?_)<;>conv=>whnf)
      rw [nextS_at hb.1 hw (by omega) ⟨hr.1, hr.2, hg⟩ hn]
      exact ⟨[], [], _, _, _, t3, rfl, rfl, rfl⟩
     ·have hg : ¬ 8 * (b / 8 + i) + who > b := hg
      ((conv=>whnf)<;>repeat(with_reducible refine D1 ?_)<;>conv=>whnf)
      refine ⟨3 - (i + 1), ?_, by omega⟩
      refine ⟨[], [], ?_⟩
      iterate 3 constructor
      refine ⟨⟨?_, ?_, ?_⟩, ⟨i + 1, by omega, rfl, (by intro j hj; by_cases e : j = i; subst e; exact fun h => hg h.2.2; exact hn j (by omega)), rfl, rfl, rfl⟩⟩
      all_goals (repeat' first|with_reducible exact Lz.rfl|exact Lw.rfl|exact Lz.wrap (by omega)|(unfold goInt;with_reducible exact Lz.rfl)|exact flx _|constructor)
      refine Lz.int ?_; rw [IntWalk.u64_in _ (by omega)]; omega
    ·rw [if_neg hr] at hof
     rw [hof]
     ((conv=>whnf)<;>repeat(with_reducible refine D1 ?_)<;>conv=>whnf)
     ((first | (refine ⟨fun h_ => ?_, fun h_ => ?_⟩) | (refine nsplit (fun h_ => ?_) (fun h_ => ?_)) | (refine bsplit (fun h_ => ?_) (fun h_ => ?_))) <;> first | (exfalso; revert h_; decide; done) | (exact absurd rfl h_) | (have hz_ := True.intro; clear hz_; ((conv=>whnf)<;>repeat(with_reducible refine D1 ?_)<;>conv=>whnf)))
     refine ⟨3 - (i + 1), ?_, by omega⟩
     refine ⟨[], [], ?_⟩
     iterate 3 constructor
     refine ⟨⟨?_, ?_, ?_⟩, ⟨i + 1, by omega, rfl, (by intro j hj; by_cases e : j = i; subst e; exact fun h => hr ⟨h.1, h.2.1⟩; exact hn j (by omega)), rfl, rfl, rfl⟩⟩
     all_goals (repeat' first|with_reducible exact Lz.rfl|exact Lw.rfl|exact Lz.wrap (by omega)|(unfold goInt;with_reducible exact Lz.rfl)|exact flx _|constructor)
     refine Lz.int ?_; rw [IntWalk.u64_in _ (by omega)]; omega
   ·have a1 : ¬ (i : Int) < 3 := a1
    have hi3 : i = 3 := by omega
    subst hi3
    ((conv=>whnf)<;>repeat(with_reducible refine D1 ?_)<;>conv=>whnf)
    rw [nextS_no hb.1 hw hn]
    exact ⟨[], [], _, _, _, t3, rfl, rfl, rfl⟩
def mxI (a b : Int) : Int := if b > a then b else a
def startQ (x : LeadS) (above frm : Int) : Int × Int := if frm < 0 ∨ frm > 512 then (0, 1) else if (nextS (mxI above x.b) x.me).2 ≠ 0 then (0, (nextS (mxI above x.b) x.me).2) else nextS (mxI above x.b) x.me
theorem mxI_in {a b : Int} (ha : 0 ≤ a ∧ a ≤ 18446744073709551615) (hb : 0 ≤ b ∧ b ≤ 18446744073709551615) : 0 ≤ mxI a b ∧ mxI a b ≤ 18446744073709551615 := by unfold mxI; split <;> assumption
theorem refStart_ok (x : LeadS) (who : List Int) (votes : List (List Vote)) (L : List Prp) (fl : Bool) (above frm : Int) (ha : 0 ≤ above ∧ above ≤ 18446744073709551615) (hb : 0 ≤ x.b ∧ x.b ≤ 18446744073709551615) (hm : m5 x.me) :
 VC E0 103 0 [refL x who votes L fl, .s (.int .u64 above), .s (.int .i64 frm)] [] (RR (.tup [if (startQ x above frm).2 = 0 then refL (startS x.me x.masters (startQ x above frm).1 frm) [] [] [] true else refL x who votes L fl, .s (.int .u64 (startQ x above frm).1), .s (.int .i64 (startQ x above frm).2)]) 0 []) := by
 refine VC.enterR L0 (show E0.func 103 = some Try.f103 by kernel_rfl) (fun _ _ => rfl) rfl rfl [] ?_
 ((conv=>whnf)<;>repeat(with_reducible refine D1 ?_)<;>conv=>whnf)
 (first|refine ⟨?_,?_⟩|refine nsplit ?_ ?_|refine bsplit ?_ ?_)<;>intro a1<;>have hz_:=True.intro<;>clear hz_
 ·have a1 : frm < 0 := a1
  have e : startQ x above frm = (0, 1) := by unfold startQ; rw [if_pos (.inl a1)]
  rw [e]
  ((conv=>whnf)<;>repeat(with_reducible refine D1 ?_)<;>conv=>whnf)
  exact ⟨[], [], _, _, _, t3, rfl, rfl, rfl⟩
 ·have a1 : ¬ frm < 0 := a1
  ((conv=>whnf)<;>repeat(with_reducible refine D1 ?_)<;>conv=>whnf)
  (first|refine ⟨?_,?_⟩|refine nsplit ?_ ?_|refine bsplit ?_ ?_)<;>intro a2<;>have hz_:=True.intro<;>clear hz_
  ·have a2 : frm > 512 := a2
   have e : startQ x above frm = (0, 1) := by unfold startQ; rw [if_pos (.inr a2)]
   rw [e]
   ((conv=>whnf)<;>repeat(with_reducible refine D1 ?_)<;>conv=>whnf)
   exact ⟨[], [], _, _, _, t3, rfl, rfl, rfl⟩
  ·have a2 : ¬ frm > 512 := a2
   ((conv=>whnf)<;>repeat(with_reducible refine D1 ?_)<;>conv=>whnf)
   refine ⟨[], [], _, _, _, _, refNext_ok (mxI above x.b) x.me (mxI_in ha hb) hm, ⟨by ((repeat' first|with_reducible exact Lz.rfl|exact Lw.rfl|exact Lz.wrap (by omega)|(unfold goInt;with_reducible exact Lz.rfl)|exact flx _|constructor); all_goals (exact Lz.rfl)), by ((repeat' first|with_reducible exact Lz.rfl|exact Lw.rfl|exact Lz.wrap (by omega)|(unfold goInt;with_reducible exact Lz.rfl)|exact flx _|constructor); all_goals (exact Lz.rfl)), by rfl⟩, ?_⟩
   rintro r o' c' ⟨rfl, rfl, rfl⟩
   ((conv=>whnf)<;>repeat(with_reducible refine D1 ?_)<;>conv=>whnf)
   (first|refine ⟨?_,?_⟩|refine nsplit ?_ ?_|refine bsplit ?_ ?_)<;>intro a3<;>have hz_:=True.intro<;>clear hz_
   ·have a3 : (nextS (mxI above x.b) x.me).2 ≠ 0 := a3
    have e : startQ x above frm = (0, (nextS (mxI above x.b) x.me).2) := by unfold startQ; rw [if_neg (by omega), if_pos a3]
    rw [e]
    simp only [a3, if_false]
    ((conv=>whnf)<;>repeat(with_reducible refine D1 ?_)<;>conv=>whnf)
    exact ⟨[], [], _, _, _, t3, rfl, rfl, rfl⟩
   ·have a3 : (nextS (mxI above x.b) x.me).2 = 0 := Classical.not_not.1 a3
    have e : startQ x above frm = nextS (mxI above x.b) x.me := by unfold startQ; rw [if_neg (by omega), if_neg (fun h => h a3)]
    rw [e]
    simp only [a3, if_true]
    ((conv=>whnf)<;>repeat(with_reducible refine D1 ?_)<;>conv=>whnf)
    exact ⟨[], [], _, _, _, t3, rfl, rfl, rfl⟩
end Go.M
namespace Go.M
open Go Go.Proofs
set_option maxRecDepth 100000
set_option maxHeartbeats 4000000
def voteR (b : Int) (p : Prp) : Vote := .of p.1 b p.2.1
theorem refOpen_ok (x : LeadS) (who : List Int) (votes : List (List Vote)) (L : List Prp) (fl : Bool) (hl : L.length < 1000000) : VC E0 61 0 [refL x who votes L fl] [] (RR (encVs (L.map (voteR x.b))) 0 []) := by
 refine VC.enterR L0 (show E0.func 61 = some Try.f61 by kernel_rfl) (fun _ _ => rfl) rfl rfl [] ?_
 ((conv=>whnf)<;>repeat(with_reducible refine D1 ?_)<;>conv=>whnf)
 refine ⟨fun k f o c => ∃ i : Nat, i ≤ L.length ∧ k = L.length - i ∧ c = 2 ∧ f = [(1, .ptr 0 0), (3, .tk 1), (4, .s (.int .i64 i))] ∧ o = [(0, .cells (refC x who votes L fl)), (1, .arr 6 true (((L.take i).map (voteR x.b)).map encV))], ⟨L.length, ?_⟩, ?_⟩
 ·exact ⟨[], [some 0, none], _, _, _, t3, ⟨0, Nat.zero_le _, rfl, rfl, rfl, rfl⟩⟩
 ·rintro k f1 o1 c1 ⟨i, hi, rfl, rfl, rfl, rfl⟩
  ((conv=>whnf)<;>repeat(with_reducible refine D1 ?_)<;>conv=>whnf)
  (first|refine ⟨?_,?_⟩|refine nsplit ?_ ?_|refine bsplit ?_ ?_)<;>intro h<;>have hz_:=True.intro<;>clear hz_
  ·have h := lenlt.1 h
   ((conv=>whnf)<;>repeat(with_reducible refine D1 ?_)<;>conv=>whnf)
   refine idxI h ?_
   ((conv=>whnf)<;>repeat(with_reducible refine D1 ?_)<;>conv=>whnf)
   refine idxI h ?_
   ((conv=>whnf)<;>repeat(with_reducible refine D1 ?_)<;>conv=>whnf)
   refine ⟨by simp; omega, ?_⟩
   ((conv=>whnf)<;>repeat(with_reducible refine D1 ?_)<;>conv=>whnf)
   refine ⟨L.length - (i + 1), ?_, by omega⟩
   refine ⟨[], [some 0, some 3], ?_⟩
   iterate 3 constructor
   refine ⟨⟨?_, ?_, ?_⟩, ⟨i + 1, h, rfl, rfl, rfl, rfl⟩⟩
   all_goals (repeat' first|with_reducible exact Lz.rfl|exact Lw.rfl|exact Lz.wrap (by omega)|(unfold goInt;with_reducible exact Lz.rfl)|exact flx _|constructor)
   refine Lz.of ?_
   rw [List.take_succ_eq_append_getElem h, List.map_append, List.map_append]; rfl
  ·have h' : i = L.length := by have := mt lenlt.2 h
                                omega
   subst h'
   rw [List.take_length]
   ((conv=>whnf)<;>repeat(with_reducible refine D1 ?_)<;>conv=>whnf)
   exact ⟨[1], [], _, _, _, t3, rfl, rfl, rfl⟩
theorem refRefuse_ok (x : LeadS) (who : List Int) (votes : List (List Vote)) (L : List Prp) (fl : Bool) (b : Int) : VC E0 107 0 [refL x who votes L fl, .s (.int .u64 b)] [] (RR (.tup [if (refuseS x b).2 = true then refL (refuseS x b).1 [] [] [] true else refL x who votes L fl, .s (.bool (refuseS x b).2)]) 0 []) := by
 refine VC.enterR L0 (show E0.func 107 = some Try.f107 by kernel_rfl) (fun _ _ => rfl) rfl rfl [] ?_
 ((conv=>whnf)<;>repeat(with_reducible refine D1 ?_)<;>conv=>whnf)
 (first|refine ⟨?_,?_⟩|refine nsplit ?_ ?_|refine bsplit ?_ ?_)<;>intro h1<;>have hz_:=True.intro<;>clear hz_
 ·have h1 : x.st = 0 := h1
  have e : refuseS x b = (x, false) := by unfold refuseS; rw [if_pos (.inl h1)]
  rw [e]
  ((conv=>whnf)<;>repeat(with_reducible refine D1 ?_)<;>conv=>whnf)
  exact ⟨[], [], _, _, _, t3, rfl, rfl, rfl⟩
 ·have h1 : ¬ x.st = 0 := h1
  ((conv=>whnf)<;>repeat(with_reducible refine D1 ?_)<;>conv=>whnf)
  (first|refine ⟨?_,?_⟩|refine nsplit ?_ ?_|refine bsplit ?_ ?_)<;>intro h2<;>have hz_:=True.intro<;>clear hz_
  ·have h2 : b ≤ x.b := h2
   have e : refuseS x b = (x, false) := by unfold refuseS; rw [if_pos (.inr h2)]
   rw [e]
   ((conv=>whnf)<;>repeat(with_reducible refine D1 ?_)<;>conv=>whnf)
   exact ⟨[], [], _, _, _, t3, rfl, rfl, rfl⟩
  ·have h2 : ¬ b ≤ x.b := h2
   have e : refuseS x b = ({ x with st := 0, opn := [], came := [] }, true) := by unfold refuseS; rw [if_neg (by rintro (h | h); exact h1 h; exact h2 h)]
   rw [e]
   ((conv=>whnf)<;>repeat(with_reducible refine D1 ?_)<;>conv=>whnf)
   exact ⟨[], [], _, _, _, t3, rfl, rfl, rfl⟩
theorem with04_ok (l : List Int) (x : Int) (hl : l.length < 1000) : VC E0 138 0 [.sl 1 (l.map encI1) false, .s (.int .i64 x)] [] (fun r o c => ∃ l' : List Int, r = .sl 1 (l'.map encI1) false ∧ c = 0 ∧ o = [] ∧ l'.Perm (if x ∈ l then l else x :: l)) := by
 refine VC.enterR L0 (show E0.func 138 = some Try.f138 by kernel_rfl) (fun _ _ => rfl) rfl rfl [] ?_
 ((conv=>whnf)<;>repeat(with_reducible refine D1 ?_)<;>conv=>whnf)
 refine ⟨[], [], _, _, _, _, has04_ok l x (by omega), t3, ?_⟩
 rintro r o' c' ⟨rfl, rfl, rfl⟩
 have hz_ := True.intro
 clear hz_
 cases hm : decide (x ∈ l)
 ·have hm := of_decide_eq_false hm
  ((conv=>whnf)<;>repeat(with_reducible refine D1 ?_)<;>conv=>whnf)
  refine ⟨fun k f o c => ∃ i : Nat, i ≤ l.length ∧ c = 0 ∧ f = [(0, .sl 1 (l.map encI1) false), (1, .s (.int .i64 x)), (5, .s (.int .i64 i))] ∧ o = [] ∧ k = l.length - i, ⟨l.length, ?_⟩, ?_⟩
  ·exact ⟨[], [], _, _, _, t3, ⟨0, Nat.zero_le _, rfl, rfl, rfl, rfl⟩⟩
  ·rintro k f1 o1 c1 ⟨i, hi, rfl, rfl, rfl, rfl⟩
   have fin : ∀ l' : List Int, l' = l.take i ++ x :: l.drop i → l'.Perm (if x ∈ l then l else x :: l) := by
    rintro l' rfl
    rw [if_neg hm]
    have := List.perm_middle (a := x) (l₁ := l.take i) (l₂ := l.drop i)
    rwa [List.take_append_drop] at this
   ((conv=>whnf)<;>repeat(with_reducible refine D1 ?_)<;>conv=>whnf)
   (first|refine ⟨?_,?_⟩|refine nsplit ?_ ?_|refine bsplit ?_ ?_)<;>intro h<;>have hz_:=True.intro<;>clear hz_
   ·have h := lenlt.1 h
    ((conv=>whnf)<;>repeat(with_reducible refine D1 ?_)<;>conv=>whnf)
    refine idxI h ?_
    ((conv=>whnf)<;>repeat(with_reducible refine D1 ?_)<;>conv=>whnf)
    (first|refine ⟨?_,?_⟩|refine nsplit ?_ ?_|refine bsplit ?_ ?_)<;>intro hx<;>have hz_:=True.intro<;>clear hz_
    ·((conv=>whnf)<;>repeat(with_reducible refine D1 ?_)<;>conv=>whnf)
     refine ⟨l.length - (i + 1), ?_, by omega⟩
     exact ⟨[], [], _, _, _, t3, ⟨i + 1, h, rfl, rfl, rfl, rfl⟩⟩
    ·((conv=>whnf)<;>repeat(with_reducible refine D1 ?_)<;>conv=>whnf)
     refine ⟨⟨by omega, by omega, by simp; omega⟩, ?_⟩
     ((conv=>whnf)<;>repeat(with_reducible refine D1 ?_)<;>conv=>whnf)
     refine ⟨by simp; omega, ?_⟩
     ((conv=>whnf)<;>repeat(with_reducible refine D1 ?_)<;>conv=>whnf)
     refine ⟨by simp; omega, ?_⟩
     ((conv=>whnf)<;>repeat(with_reducible refine D1 ?_)<;>conv=>whnf)
     refine ⟨⟨by omega, by simp; omega, by simp⟩, ?_⟩
     ((conv=>whnf)<;>repeat(with_reducible refine D1 ?_)<;>conv=>whnf)
     refine ⟨by simp; omega, ?_⟩
     ((conv=>whnf)<;>repeat(with_reducible refine D1 ?_)<;>conv=>whnf)
     refine ⟨[3], [], ?_⟩
     iterate 3 constructor
     refine ⟨⟨?_, ?_, ?_⟩, l.take i ++ x :: l.drop i, rfl, rfl, rfl, fin _ rfl⟩
     all_goals (repeat' first|with_reducible exact Lz.rfl|exact Lw.rfl|exact Lz.wrap (by omega)|(unfold goInt;with_reducible exact Lz.rfl)|exact flx _|constructor)
     refine Lz.of ?_
     rw [List.map_append, List.map_cons, List.map_take, List.map_drop]
     simp
     rw [List.take_of_length_le (by simp)]
   ·have h' : i = l.length := by have := mt lenlt.2 h
                                 omega
    subst h'
    ((conv=>whnf)<;>repeat(with_reducible refine D1 ?_)<;>conv=>whnf)
    refine ⟨⟨by omega, by omega, by simp⟩, ?_⟩
    ((conv=>whnf)<;>repeat(with_reducible refine D1 ?_)<;>conv=>whnf)
    refine ⟨by simp; omega, ?_⟩
    ((conv=>whnf)<;>repeat(with_reducible refine D1 ?_)<;>conv=>whnf)
    refine ⟨by simp; omega, ?_⟩
    ((conv=>whnf)<;>repeat(with_reducible refine D1 ?_)<;>conv=>whnf)
    refine ⟨⟨by omega, by simp, by simp⟩, ?_⟩
    ((conv=>whnf)<;>repeat(with_reducible refine D1 ?_)<;>conv=>whnf)
    refine ⟨by simp; omega, ?_⟩
    ((conv=>whnf)<;>repeat(with_reducible refine D1 ?_)<;>conv=>whnf)
    refine ⟨[3], [], ?_⟩
    iterate 3 constructor
    refine ⟨⟨?_, ?_, ?_⟩, l.take l.length ++ x :: l.drop l.length, rfl, rfl, rfl, fin _ rfl⟩
    all_goals (repeat' first|with_reducible exact Lz.rfl|exact Lw.rfl|exact Lz.wrap (by omega)|(unfold goInt;with_reducible exact Lz.rfl)|exact flx _|constructor)
    refine Lz.of ?_
    rw [List.map_append, List.map_cons, List.map_take, List.map_drop]
    simp
 ·have hm := of_decide_eq_true hm
  ((conv=>whnf)<;>repeat(with_reducible refine D1 ?_)<;>conv=>whnf)
  exact ⟨[], [], _, _, _, t3, l, rfl, rfl, rfl, by rw [if_pos hm]⟩
def risU (who : List Int) (votes : List (List Vote)) (w : Nat) (k : Nat) : List (List Vote) := ((List.range w).flatMap fun (j : Nat) => (who.zip votes).filterMap fun p => if p.1 = (j : Int) + 1 then some p.2 else none) ++ ((who.zip votes).take k).filterMap fun p => if p.1 = (w : Int) + 1 then some p.2 else none
theorem risU_len (who : List Int) (votes : List (List Vote)) (w k : Nat) : (risU who votes w k).length ≤ (w + 1) * who.length := by
 unfold risU
 rw [List.length_append, Nat.add_mul]
 have h1 : ((List.range w).flatMap fun (j : Nat) => (who.zip votes).filterMap fun p => if p.1 = (j : Int) + 1 then some p.2 else none).length ≤ w * who.length := by
  induction w with
  | zero => simp
  | succ w ih =>
   rw [List.range_succ, List.flatMap_append, List.length_append, Nat.add_mul]
   refine Nat.add_le_add ih ?_
   simp only [List.flatMap_cons, List.flatMap_nil, List.append_nil]
   exact Nat.le_trans (List.length_filterMap_le _ _) (by rw [List.length_zip]; omega)
 have h2 := List.length_filterMap_le (fun p : Int × List Vote => if p.1 = (w : Int) + 1 then some p.2 else none) ((who.zip votes).take k)
 rw [List.length_take, List.length_zip] at h2
 omega
theorem rising13_ok (x : LeadS) (who : List Int) (votes : List (List Vote)) (L : List Prp) (fl : Bool) (hl : who.length = votes.length) (h5 : who.length ≤ 5) (hm : m5 x.masters) : VC E0 137 0 [refL x who votes L fl] [] (RR (.sl 1 ((risU who votes x.masters.toNat 0).map encL) false) 0 []) := by
 have hm' : 1 ≤ x.masters ∧ x.masters ≤ 5 := hm
 refine VC.enterR L0 (show E0.func 137 = some Try.f137 by kernel_rfl) (fun _ _ => rfl) rfl rfl [] ?_
 ((conv=>whnf)<;>repeat(with_reducible refine D1 ?_)<;>conv=>whnf)
 refine ⟨fun k f o c => ∃ w : Nat, w ≤ x.masters.toNat ∧ k = x.masters.toNat - w ∧ c = 2 ∧ f = [(1, .ptr 0 0), (3, .tk 1), (4, .s (.int .i64 ((w + 1 : Nat) : Int)))] ∧ o = [(0, .cells (refC x who votes L fl)), (1, .arr 1 true ((risU who votes w 0).map encL))], ⟨x.masters.toNat, ?_⟩, ?_⟩
 ·exact ⟨[], [some 0, none], _, _, _, t3, ⟨0, Nat.zero_le _, rfl, rfl, rfl, rfl⟩⟩
 ·rintro k f1 o1 c1 ⟨w, hw, rfl, rfl, rfl, rfl⟩
  ((conv=>whnf)<;>repeat(with_reducible refine D1 ?_)<;>conv=>whnf)
  (first|refine ⟨?_,?_⟩|refine nsplit ?_ ?_|refine bsplit ?_ ?_)<;>intro a1<;>have hz_:=True.intro<;>clear hz_
  ·have a1 : ((w + 1 : Nat) : Int) ≤ x.masters := a1
   ((conv=>whnf)<;>repeat(with_reducible refine D1 ?_)<;>conv=>whnf)
   refine ⟨fun kk f o c => ∃ i : Nat, i ≤ who.length ∧ kk = who.length - i ∧ c = 2 ∧ f = [(1, .ptr 0 0), (3, .tk 1), (4, .s (.int .i64 ((w + 1 : Nat) : Int))), (5, .s (.int .i64 i))] ∧ o = [(0, .cells (refC x who votes L fl)), (1, .arr 1 true ((risU who votes w i).map encL))], ⟨who.length, ?_⟩, ?_⟩
   ·exact ⟨[], [some 0, some 1], _, _, _, t3, ⟨0, Nat.zero_le _, rfl, rfl, rfl, rfl⟩⟩
   ·rintro kk f1 o1 c1 ⟨i, hi, rfl, rfl, rfl, rfl⟩
    ((conv=>whnf)<;>repeat(with_reducible refine D1 ?_)<;>conv=>whnf)
    (first|refine ⟨?_,?_⟩|refine nsplit ?_ ?_|refine bsplit ?_ ?_)<;>intro h<;>have hz_:=True.intro<;>clear hz_
    ·have h := lenlt.1 h
     have h2 : i < votes.length := by omega
     have hlen := risU_len who votes w i
     have hmul : (w + 1) * who.length ≤ 5 * 5 := Nat.mul_le_mul (by omega) h5
     have hz : (who.zip votes).take (i + 1) = (who.zip votes).take i ++ [(who[i], votes[i])] := by
      rw [List.take_succ_eq_append_getElem (by rw [List.length_zip]; omega), List.getElem_zip]
     ((conv=>whnf)<;>repeat(with_reducible refine D1 ?_)<;>conv=>whnf)
     refine idxI h ?_
     ((conv=>whnf)<;>repeat(with_reducible refine D1 ?_)<;>conv=>whnf)
     (first|refine ⟨?_,?_⟩|refine nsplit ?_ ?_|refine bsplit ?_ ?_)<;>intro he<;>have hz_:=True.intro<;>clear hz_
     ·have he : who[i] = ((w + 1 : Nat) : Int) := he
      have hsn : risU who votes w (i + 1) = risU who votes w i ++ [votes[i]] := by
       unfold risU
       rw [hz, List.filterMap_append, ← List.append_assoc]
       congr 1
       simp [he]
      ((conv=>whnf)<;>repeat(with_reducible refine D1 ?_)<;>conv=>whnf)
      refine idxI h2 ?_
      ((conv=>whnf)<;>repeat(with_reducible refine D1 ?_)<;>conv=>whnf)
      refine ⟨by simp; omega, ?_⟩
      ((conv=>whnf)<;>repeat(with_reducible refine D1 ?_)<;>conv=>whnf)
      refine ⟨who.length - (i + 1), ?_, by omega⟩
      refine ⟨[], [some 0, some 3], ?_⟩
      iterate 3 constructor
      refine ⟨⟨?_, ?_, ?_⟩, ⟨i + 1, h, rfl, rfl, rfl, rfl⟩⟩
      all_goals (repeat' first|with_reducible exact Lz.rfl|exact Lw.rfl|exact Lz.wrap (by omega)|(unfold goInt;with_reducible exact Lz.rfl)|exact flx _|constructor)
      refine Lz.of ?_
      rw [hsn, List.map_append]; rfl
     ·have he : ¬ who[i] = ((w + 1 : Nat) : Int) := he
      have hsn : risU who votes w (i + 1) = risU who votes w i := by
       unfold risU
       rw [hz, List.filterMap_append]
       have : ¬ who[i] = (w : Int) + 1 := by omega
       simp [this]
      ((conv=>whnf)<;>repeat(with_reducible refine D1 ?_)<;>conv=>whnf)
      refine ⟨who.length - (i + 1), ?_, by omega⟩
      refine ⟨[], [some 0, some 1], ?_⟩
      iterate 3 constructor
      refine ⟨⟨?_, ?_, ?_⟩, ⟨i + 1, h, rfl, rfl, rfl, rfl⟩⟩
      all_goals (repeat' first|with_reducible exact Lz.rfl|exact Lw.rfl|exact Lz.wrap (by omega)|(unfold goInt;with_reducible exact Lz.rfl)|exact flx _|constructor)
      rw [hsn]; exact Lz.rfl
    ·have h' : i = who.length := by have := mt lenlt.2 h
                                    omega
     subst h'
     have hsn : risU who votes (w + 1) 0 = risU who votes w who.length := by
      unfold risU
      rw [List.range_succ, List.flatMap_append, List.take_of_length_le (l := who.zip votes) (i := who.length) (by rw [List.length_zip]; omega)]
      simp
     ((conv=>whnf)<;>repeat(with_reducible refine D1 ?_)<;>conv=>whnf)
     refine ⟨x.masters.toNat - (w + 1), ?_, by omega⟩
     refine ⟨[], [some 0, some 1], ?_⟩
     iterate 3 constructor
     refine ⟨⟨?_, ?_, ?_⟩, ⟨w + 1, by omega, rfl, rfl, rfl, rfl⟩⟩
     all_goals (repeat' first|with_reducible exact Lz.rfl|exact Lw.rfl|exact Lz.wrap (by omega)|(unfold goInt;with_reducible exact Lz.rfl)|exact flx _|constructor)
     rw [hsn]; exact Lz.rfl
  ·have a1 : ¬ ((w + 1 : Nat) : Int) ≤ x.masters := a1
   have hwe : w = x.masters.toNat := by omega
   subst hwe
   ((conv=>whnf)<;>repeat(with_reducible refine D1 ?_)<;>conv=>whnf)
   exact ⟨[1], [], _, _, _, t3, rfl, rfl, rfl⟩
end Go.M
namespace Go.M
open Go Go.Proofs
set_option maxRecDepth 100000
set_option maxHeartbeats 4000000
@[reducible] def i0 : TV := .s (.int .i64 0)
@[reducible] def u0 : TV := .s (.int .u64 0)
@[reducible] def zLead : TO := .cells [i0, i0, i0, u0, i0, i0, .sl 0 [] true, .sl 0 [] true, .sl 0 [] true]
@[reducible] def zVote : TO := .cells [i0, u0, i0, i0, u0, i0]
def hasR (c : Cmd) (L : List Prp) : Bool := decide (c.kind ≠ 0) && L.any fun p => sameC p.2.1 c
def proposeR (x : LeadS) (L : List Prp) (c : Cmd) : LeadS × List Prp × Vote × Int :=
 if x.st ≠ 2 then (x, L, noVote, 12) else if c.check ≠ 0 then (x, L, noVote, c.check) else if hasR c L = true then (x, L, noVote, 8) else if L.length ≥ 8 ∨ x.nxt = 512 then (x, L, noVote, 9)
 else ({ x with nxt := x.nxt + 1 }, L ++ [(x.nxt, c, [])], .of x.nxt x.b c, 0)
theorem refPropose_ok (x : LeadS) (who : List Int) (votes : List (List Vote)) (L : List Prp) (fl : Bool) (c : Cmd) (hep : 0 ≤ c.epoch) (hl : L.length < 100000) (hn : 0 ≤ x.nxt ∧ x.nxt ≤ 100000) :
 VC E0 105 0 [refL x who votes L fl, cT4 c] [] (fun r o c' => ∃ fl', r = .tup [refL (proposeR x L c).1 who votes (proposeR x L c).2.1 fl', .agg (encV (proposeR x L c).2.2.1), .s (.int .i64 (proposeR x L c).2.2.2)] ∧ c' = 0 ∧ o = [] ∧ (x.st ≠ 2 → fl' = fl)) := by
 refine VC.enterR L0 (show E0.func 105 = some Try.f105 by kernel_rfl) (fun _ _ => rfl) rfl rfl [] ?_
 ((conv=>whnf)<;>repeat(with_reducible refine D1 ?_)<;>conv=>whnf)
 (first|refine ⟨?_,?_⟩|refine nsplit ?_ ?_|refine bsplit ?_ ?_)<;>intro h1<;>have hz_:=True.intro<;>clear hz_
 ·have h1 : x.st ≠ 2 := h1
  have e : proposeR x L c = (x, L, noVote, 12) := by unfold proposeR; rw [if_pos h1]
  rw [e]
  ((conv=>whnf)<;>repeat(with_reducible refine D1 ?_)<;>conv=>whnf)
  exact ⟨[], [], _, _, _, t3, fl, rfl, rfl, rfl, fun _ => rfl⟩
 ·have h1 : x.st = 2 := Classical.not_not.1 h1
  ((conv=>whnf)<;>repeat(with_reducible refine D1 ?_)<;>conv=>whnf)
  refine ⟨[], [], _, _, _, _, refCheck_ok c.kind c.chain c.epoch c.node hep, t3, ?_⟩
  rintro r o' c' ⟨rfl, rfl, rfl⟩
  ((conv=>whnf)<;>repeat(with_reducible refine D1 ?_)<;>conv=>whnf)
  (first|refine ⟨?_,?_⟩|refine nsplit ?_ ?_|refine bsplit ?_ ?_)<;>intro h2<;>have hz_:=True.intro<;>clear hz_
  ·have h2 : c.check ≠ 0 := h2
   have e : proposeR x L c = (x, L, noVote, c.check) := by unfold proposeR; rw [if_neg (fun h => h h1), if_pos h2]
   rw [e]
   ((conv=>whnf)<;>repeat(with_reducible refine D1 ?_)<;>conv=>whnf)
   exact ⟨[], [], _, _, _, t3, fl, rfl, rfl, rfl, fun _ => rfl⟩
  ·have h2 : c.check = 0 := Classical.not_not.1 h2
   ((conv=>whnf)<;>repeat(with_reducible refine D1 ?_)<;>conv=>whnf)
   refine ⟨fun k f o c' => ∃ i : Nat, i ≤ L.length ∧ k = L.length - i ∧ hasR c (L.take i) = false ∧ c' = 4 ∧ f = [(2, .ptr 0 0), (3, .ptr 1 0), (4, .ptr 2 0), (5, .ptr 3 0), (8, .s (.int .i64 i))] ∧ o = [(0, .cells (refC x who votes L fl)), (1, .cells [.s (.int .i64 c.kind), .s (.int .i64 c.chain), .s (.int .u64 c.epoch), .s (.int .i64 c.node)]), (2, zLead), (3, zVote)], ⟨L.length, ?_⟩, ?_⟩
   ·exact ⟨[], [some 0, some 1, some 2, some 3], _, _, _, t3, ⟨0, Nat.zero_le _, rfl, by simp [hasR], rfl, rfl, rfl⟩⟩
   ·rintro k f1 o1 c1 ⟨i, hi, rfl, hh, rfl, rfl, rfl⟩
    ((conv=>whnf)<;>repeat(with_reducible refine D1 ?_)<;>conv=>whnf)
    (first|refine ⟨?_,?_⟩|refine nsplit ?_ ?_|refine bsplit ?_ ?_)<;>intro h<;>have hz_:=True.intro<;>clear hz_
    ·have h := lenlt.1 h
     have hsn : hasR c (L.take (i + 1)) = (decide (c.kind ≠ 0) && sameC L[i].2.1 c) := by
      unfold hasR at hh ⊢
      rw [List.take_succ_eq_append_getElem h, List.any_append]
      cases hd : decide (c.kind ≠ 0) with
      | false => simp
      | true =>
       rw [hd, Bool.true_and] at hh
       rw [hh]; simp
     ((conv=>whnf)<;>repeat(with_reducible refine D1 ?_)<;>conv=>whnf)
     refine idxI h ?_
     ((conv=>whnf)<;>repeat(with_reducible refine D1 ?_)<;>conv=>whnf)
     (first|refine ⟨?_,?_⟩|refine nsplit ?_ ?_|refine bsplit ?_ ?_)<;>intro hv<;>have hz_:=True.intro<;>clear hz_
     ·have hv : sameC L[i].2.1 c = true := (veq_cmd L[i].2.1 c).symm.trans hv
      ((conv=>whnf)<;>repeat(with_reducible refine D1 ?_)<;>conv=>whnf)
      (first|refine ⟨?_,?_⟩|refine nsplit ?_ ?_|refine bsplit ?_ ?_)<;>intro hk<;>have hz_:=True.intro<;>clear hz_
      ·have hk : c.kind ≠ 0 := hk
       have hall : hasR c L = true := by
        unfold hasR
        rw [Bool.and_eq_true, decide_eq_true_iff, List.any_eq_true]
        exact ⟨hk, _, List.getElem_mem h, hv⟩
       have e : proposeR x L c = (x, L, noVote, 8) := by unfold proposeR; rw [if_neg (fun h => h h1), if_neg (fun h => h h2), if_pos hall]
       rw [e]
       ((conv=>whnf)<;>repeat(with_reducible refine D1 ?_)<;>conv=>whnf)
       exact ⟨[], [], _, _, _, t3, fl, rfl, rfl, rfl, fun _ => rfl⟩
      ·have hk : ¬ c.kind ≠ 0 := hk
       ((conv=>whnf)<;>repeat(with_reducible refine D1 ?_)<;>conv=>whnf)
       refine ⟨L.length - (i + 1), ?_, by omega⟩
       exact ⟨[], [some 0, some 1, some 2, some 3], _, _, _, t3, ⟨i + 1, h, rfl, (by rw [hsn]; simp [hk]), rfl, rfl, rfl⟩⟩
     ·have hv : sameC L[i].2.1 c = false := by
       have : ¬ sameC L[i].2.1 c = true := fun e => hv ((veq_cmd L[i].2.1 c).trans e)
       simpa using this
      ((conv=>whnf)<;>repeat(with_reducible refine D1 ?_)<;>conv=>whnf)
      refine ⟨L.length - (i + 1), ?_, by omega⟩
      exact ⟨[], [some 0, some 1, some 2, some 3], _, _, _, t3, ⟨i + 1, h, rfl, (by rw [hsn]; simp [hv]), rfl, rfl, rfl⟩⟩
    ·have h' : i = L.length := by have := mt lenlt.2 h
                                  omega
     subst h'
     rw [List.take_length] at hh
     ((conv=>whnf)<;>repeat(with_reducible refine D1 ?_)<;>conv=>whnf)
     (first|refine ⟨?_,?_⟩|refine nsplit ?_ ?_|refine bsplit ?_ ?_)<;>intro h4<;>have hz_:=True.intro<;>clear hz_
     ·have h4 : ((L.map encR).length : Int) ≥ 8 := h4
      rw [List.length_map] at h4
      have e : proposeR x L c = (x, L, noVote, 9) := by unfold proposeR; rw [if_neg (fun h => h h1), if_neg (fun h => h h2), if_neg (by simp [hh]), if_pos (.inl (by omega))]
      rw [e]
      ((conv=>whnf)<;>repeat(with_reducible refine D1 ?_)<;>conv=>whnf)
      exact ⟨[], [], _, _, _, t3, fl, rfl, rfl, rfl, fun _ => rfl⟩
     ·have h4 : ¬ ((L.map encR).length : Int) ≥ 8 := h4
      rw [List.length_map] at h4
      ((conv=>whnf)<;>repeat(with_reducible refine D1 ?_)<;>conv=>whnf)
      (first|refine ⟨?_,?_⟩|refine nsplit ?_ ?_|refine bsplit ?_ ?_)<;>intro h5<;>have hz_:=True.intro<;>clear hz_
      ·have h5 : x.nxt = 512 := h5
       have e : proposeR x L c = (x, L, noVote, 9) := by unfold proposeR; rw [if_neg (fun h => h h1), if_neg (fun h => h h2), if_neg (by simp [hh]), if_pos (.inr h5)]
       rw [e]
       ((conv=>whnf)<;>repeat(with_reducible refine D1 ?_)<;>conv=>whnf)
       exact ⟨[], [], _, _, _, t3, fl, rfl, rfl, rfl, fun _ => rfl⟩
      ·have h5 : ¬ x.nxt = 512 := h5
       have e : proposeR x L c = ({ x with nxt := x.nxt + 1 }, L ++ [(x.nxt, c, [])], .of x.nxt x.b c, 0) := by unfold proposeR; rw [if_neg (fun h => h h1), if_neg (fun h => h h2), if_neg (by simp [hh]), if_neg (by omega)]
       rw [e]
       ((conv=>whnf)<;>repeat(with_reducible refine D1 ?_)<;>conv=>whnf)
       refine ⟨by simp; omega, ?_⟩
       ((conv=>whnf)<;>repeat(with_reducible refine D1 ?_)<;>conv=>whnf)
       refine ⟨by simp; omega, ?_⟩
       ((conv=>whnf)<;>repeat(with_reducible refine D1 ?_)<;>conv=>whnf)
       refine ⟨[7], [], ?_⟩
       iterate 3 constructor
       refine ⟨⟨?_, ?_, ?_⟩, false, rfl, rfl, rfl, fun h => absurd h1 h⟩
       all_goals (repeat' first|with_reducible exact Lz.rfl|exact Lw.rfl|exact Lz.wrap (by omega)|(unfold goInt;with_reducible exact Lz.rfl)|exact flx _|constructor)
       ·exact Lz.int (IntWalk.i64_in _ (by omega))
       ·exact Lz.of (by rw [List.map_append]; rfl)
def AccR (x : LeadS) (L : List Prp) (b slot who : Int) (L' : List Prp) (v : Vote) (ok : Bool) : Prop :=
 (¬ ((x.st = 2 ∧ x.b = b) ∧ 1 ≤ who ∧ who ≤ x.masters) ∧ L' = L ∧ v = noVote ∧ ok = false) ∨
 (((x.st = 2 ∧ x.b = b) ∧ 1 ≤ who ∧ who ≤ x.masters) ∧ (((∀ p ∈ L, p.1 ≠ slot) ∧ L' = L ∧ v = noVote ∧ ok = false) ∨
  ∃ (i : Nat) (h : i < L.length) (w : List Int), L[i].1 = slot ∧ (∀ p ∈ L.take i, p.1 ≠ slot) ∧ w.Perm (if who ∈ L[i].2.2 then L[i].2.2 else who :: L[i].2.2) ∧
   ((enoughN (withN 0 w) x.masters = false ∧ L' = L.set i (L[i].1, L[i].2.1, w) ∧ v = noVote ∧ ok = false) ∨ (enoughN (withN 0 w) x.masters = true ∧ L' = L.take i ++ L.drop (i + 1) ∧ v = .of slot b L[i].2.1 ∧ ok = true))))
theorem er_eq {l : List Prp} {i : Nat} (h : i < l.length) (e' : List TV) : ((((l.map encR).set (i : Int).toNat e').take (i : Int).toNat).drop (0 : Int).toNat ++ (((l.map encR).set (i : Int).toNat e').take ((((l.map encR).set (i : Int).toNat e').length : Nat) : Int).toNat).drop (((i + 1 : Nat) : Int)).toNat) = (l.take i ++ l.drop (i + 1)).map encR := by
 rw [List.map_append, List.map_take, List.map_drop]
 simp only [Int.toNat_natCast, Int.toNat_zero, List.drop_zero]
 rw [List.take_set_of_le (Nat.le_refl _), List.take_of_length_le (Nat.le_refl _), List.drop_set_of_lt (by omega)]
theorem refAccepted_ok (x : LeadS) (who : List Int) (votes : List (List Vote)) (L : List Prp) (fl : Bool) (b slot w : Int) (hm : m5 x.masters) (hl : L.length < 100000) (hL : ∀ p ∈ L, (∀ y ∈ p.2.2, m5 y) ∧ p.2.2.length ≤ 5) :
 VC E0 106 0 [refL x who votes L fl, .s (.int .u64 b), .s (.int .i64 slot), .s (.int .i64 w)] [] (fun r o c' => ∃ L' fl' v ok, r = .tup [refL x who votes L' fl', .agg (encV v), .s (.bool ok)] ∧ c' = 0 ∧ o = [] ∧ AccR x L b slot w L' v ok ∧ (x.st ≠ 2 → fl' = fl ∧ L' = L)) := by
 refine VC.enterR L0 (show E0.func 106 = some Try.f106 by kernel_rfl) (fun _ _ => rfl) rfl rfl [] ?_
 ((conv=>whnf)<;>repeat(with_reducible refine D1 ?_)<;>conv=>whnf)
 (first|refine ⟨?_,?_⟩|refine nsplit ?_ ?_|refine bsplit ?_ ?_)<;>intro h1<;>have hz_:=True.intro<;>clear hz_
 ·have h1 : x.st ≠ 2 := h1
  ((conv=>whnf)<;>repeat(with_reducible refine D1 ?_)<;>conv=>whnf)
  exact ⟨[], [], _, _, _, t3, L, fl, noVote, false, rfl, rfl, rfl, .inl ⟨by omega, rfl, rfl, rfl⟩, fun _ => ⟨rfl, rfl⟩⟩
 ·have h1 : x.st = 2 := Classical.not_not.1 h1
  ((conv=>whnf)<;>repeat(with_reducible refine D1 ?_)<;>conv=>whnf)
  (first|refine ⟨?_,?_⟩|refine nsplit ?_ ?_|refine bsplit ?_ ?_)<;>intro h2<;>have hz_:=True.intro<;>clear hz_
  ·have h2 : x.b ≠ b := h2
   ((conv=>whnf)<;>repeat(with_reducible refine D1 ?_)<;>conv=>whnf)
   exact ⟨[], [], _, _, _, t3, L, fl, noVote, false, rfl, rfl, rfl, .inl ⟨by omega, rfl, rfl, rfl⟩, fun _ => ⟨rfl, rfl⟩⟩
  ·have h2 : x.b = b := Classical.not_not.1 h2
   ((conv=>whnf)<;>repeat(with_reducible refine D1 ?_)<;>conv=>whnf)
   (first|refine ⟨?_,?_⟩|refine nsplit ?_ ?_|refine bsplit ?_ ?_)<;>intro h3<;>have hz_:=True.intro<;>clear hz_
   ·have h3 : w < 1 := h3
    ((conv=>whnf)<;>repeat(with_reducible refine D1 ?_)<;>conv=>whnf)
    exact ⟨[], [], _, _, _, t3, L, fl, noVote, false, rfl, rfl, rfl, .inl ⟨by omega, rfl, rfl, rfl⟩, fun _ => ⟨rfl, rfl⟩⟩
   ·have h3 : ¬ w < 1 := h3
    ((conv=>whnf)<;>repeat(with_reducible refine D1 ?_)<;>conv=>whnf)
    (first|refine ⟨?_,?_⟩|refine nsplit ?_ ?_|refine bsplit ?_ ?_)<;>intro h4<;>have hz_:=True.intro<;>clear hz_
    ·have h4 : w > x.masters := h4
     ((conv=>whnf)<;>repeat(with_reducible refine D1 ?_)<;>conv=>whnf)
     exact ⟨[], [], _, _, _, t3, L, fl, noVote, false, rfl, rfl, rfl, .inl ⟨by omega, rfl, rfl, rfl⟩, fun _ => ⟨rfl, rfl⟩⟩
    ·have h4 : ¬ w > x.masters := h4
     have hg : (x.st = 2 ∧ x.b = b) ∧ 1 ≤ w ∧ w ≤ x.masters := ⟨⟨h1, h2⟩, by omega, by omega⟩
     have hw5 : m5 w := by unfold m5 at *; omega
     ((conv=>whnf)<;>repeat(with_reducible refine D1 ?_)<;>conv=>whnf)
     refine ⟨fun k f o c' => ∃ i : Nat, i ≤ L.length ∧ k = L.length - i ∧ (∀ p ∈ L.take i, p.1 ≠ slot) ∧ c' = 3 ∧ f = [(1, .s (.int .u64 b)), (2, .s (.int .i64 slot)), (3, .s (.int .i64 w)), (4, .ptr 0 0), (8, .ptr 1 0), (9, .ptr 2 0), (11, .s (.int .i64 i))] ∧ o = [(0, .cells (refC x who votes L fl)), (1, zLead), (2, zVote)], ⟨L.length, ?_⟩, ?_⟩
     ·exact ⟨[], [some 0, some 1, some 2], _, _, _, t3, ⟨0, Nat.zero_le _, rfl, by simp, rfl, rfl, rfl⟩⟩
     ·rintro k f1 o1 c1 ⟨i, hi, rfl, hn, rfl, rfl, rfl⟩
      ((conv=>whnf)<;>repeat(with_reducible refine D1 ?_)<;>conv=>whnf)
      (first|refine ⟨?_,?_⟩|refine nsplit ?_ ?_|refine bsplit ?_ ?_)<;>intro h<;>have hz_:=True.intro<;>clear hz_
      ·have h := lenlt.1 h
       obtain ⟨hL1, hL2⟩ := hL _ (List.getElem_mem h)
       ((conv=>whnf)<;>repeat(with_reducible refine D1 ?_)<;>conv=>whnf)
       refine idxI h ?_
       ((conv=>whnf)<;>repeat(with_reducible refine D1 ?_)<;>conv=>whnf)
       (first|refine ⟨?_,?_⟩|refine nsplit ?_ ?_|refine bsplit ?_ ?_)<;>intro hs<;>have hz_:=True.intro<;>clear hz_
       ·have hs : L[i].1 ≠ slot := hs
        ((conv=>whnf)<;>repeat(with_reducible refine D1 ?_)<;>conv=>whnf)
        refine ⟨L.length - (i + 1), ?_, by omega⟩
        exact ⟨[], [some 0, some 1, some 2], _, _, _, t3, ⟨i + 1, h, rfl, (by intro p hp; rw [List.take_succ_eq_append_getElem h] at hp; rcases List.mem_append.1 hp with h6 | h6; exact hn p h6; simp at h6; subst h6; exact hs), rfl, rfl, rfl⟩⟩
       ·have hs : L[i].1 = slot := Classical.not_not.1 hs
        ((conv=>whnf)<;>repeat(with_reducible refine D1 ?_)<;>conv=>whnf)
        refine ⟨by simp; omega, ?_⟩
        ((conv=>whnf)<;>repeat(with_reducible refine D1 ?_)<;>conv=>whnf)
        rcases hp : L[i] with ⟨s0, cm, pw⟩
        rw [hp] at hL1 hL2 hs
        refine ⟨⟨by omega, by simp; omega⟩, encR (s0, cm, pw), by simp [h, hp], ?_⟩
        cases pw with
        | nil =>
         have hL1 : ∀ y ∈ ([]), m5 y := hL1
         have hL2 : (([])).length ≤ 5 := hL2
         ((conv=>whnf)<;>repeat(with_reducible refine D1 ?_)<;>conv=>whnf)
         refine ⟨[], [], _, _, _, _, with04_ok ([]) w (by simp only [List.length_nil, List.length_cons] at hL2 ⊢; omega), t3, ?_⟩
         rintro r o' c' ⟨w', rfl, rfl, rfl, hwp⟩
         have hwm : ∀ y ∈ w', m5 y := fun y hy => by
          have := hwp.mem_iff.1 hy
          split at this
          ·exact hL1 y this
          ·rcases List.mem_cons.1 this with rfl | h6
           ·exact hw5
           ·exact hL1 y h6
         have hwl := hwp.length_eq
         have hne : 0 < w'.length ∧ w'.length ≤ 6 := by
          rw [hwl]
          split
          ·rename_i h6
           exact ⟨List.length_pos_of_mem h6, by omega⟩
          ·simp only [List.length_cons, List.length_nil] at hL2 ⊢; omega
         obtain ⟨wa, wq, rfl⟩ := List.exists_cons_of_length_pos hne.1
         ((conv=>whnf)<;>repeat(with_reducible refine D1 ?_)<;>conv=>whnf)
         refine ⟨⟨by omega, by simp; omega⟩, encR (s0, cm, ([])), by simp [h, hp], ?_⟩
         ((conv=>whnf)<;>repeat(with_reducible refine D1 ?_)<;>conv=>whnf)
         refine ⟨⟨by omega, by simp; omega⟩, encR (s0, cm, wa :: wq), by simp [h]; rfl, ?_⟩
         ((conv=>whnf)<;>repeat(with_reducible refine D1 ?_)<;>conv=>whnf)
         refine ⟨[], [], _, _, _, _, enoughR_ok (wa :: wq) x.masters hwm (by omega) hm, t3, ?_⟩
         rintro r o' c' ⟨rfl, rfl, rfl⟩
         have hz_ := True.intro
         clear hz_
         cases he : enoughN (withN 0 (wa :: wq)) x.masters
         ·((conv=>whnf)<;>repeat(with_reducible refine D1 ?_)<;>conv=>whnf)
          refine ⟨[3], [], ?_⟩
          iterate 3 constructor
          refine ⟨⟨?_, ?_, ?_⟩, L.set i (s0, cm, wa :: wq), false, noVote, false, rfl, rfl, rfl, .inr ⟨hg, .inr ⟨i, h, wa :: wq, by rw [hp]; exact hs, hn, by rw [hp]; exact hwp, .inl ⟨he, by rw [hp], rfl, rfl⟩⟩⟩, fun hh => absurd h1 hh⟩
          all_goals (repeat' first|with_reducible exact Lz.rfl|exact Lw.rfl|exact Lz.wrap (by omega)|(unfold goInt;with_reducible exact Lz.rfl)|exact flx _|constructor)
          exact Lz.of (by rw [List.map_set]; rfl)
         ·((conv=>whnf)<;>repeat(with_reducible refine D1 ?_)<;>conv=>whnf)
          refine ⟨⟨by omega, by simp; omega⟩, encR (s0, cm, wa :: wq), by simp [h]; rfl, ?_⟩
          ((conv=>whnf)<;>repeat(with_reducible refine D1 ?_)<;>conv=>whnf)
          refine ⟨⟨by omega, by omega, by simp; omega⟩, ?_⟩
          ((conv=>whnf)<;>repeat(with_reducible refine D1 ?_)<;>conv=>whnf)
          refine ⟨by simp; omega, ?_⟩
          ((conv=>whnf)<;>repeat(with_reducible refine D1 ?_)<;>conv=>whnf)
          rw [wrap_small i (by omega)]
          refine ⟨⟨by omega, by simp; omega, by simp⟩, .inl ?_⟩
          ((conv=>whnf)<;>repeat(with_reducible refine D1 ?_)<;>conv=>whnf)
          refine ⟨by simp; omega, ?_⟩
          ((conv=>whnf)<;>repeat(with_reducible refine D1 ?_)<;>conv=>whnf)
          refine ⟨[6], [], ?_⟩
          iterate 3 constructor
          refine ⟨⟨?_, ?_, ?_⟩, L.take i ++ L.drop (i + 1), false, .of slot b cm, true, rfl, rfl, rfl, .inr ⟨hg, .inr ⟨i, h, wa :: wq, by rw [hp]; exact hs, hn, by rw [hp]; exact hwp, .inr ⟨he, rfl, by rw [hp], rfl⟩⟩⟩, fun hh => absurd h1 hh⟩
          all_goals (repeat' first|with_reducible exact Lz.rfl|exact Lw.rfl|exact Lz.wrap (by omega)|(unfold goInt;with_reducible exact Lz.rfl)|exact flx _|constructor)
          exact Lz.of (er_eq h _)
        | cons pa pq =>
         have hL1 : ∀ y ∈ (pa :: pq), m5 y := hL1
         have hL2 : ((pa :: pq)).length ≤ 5 := hL2
         ((conv=>whnf)<;>repeat(with_reducible refine D1 ?_)<;>conv=>whnf)
         refine ⟨[], [], _, _, _, _, with04_ok (pa :: pq) w (by simp only [List.length_nil, List.length_cons] at hL2 ⊢; omega), t3, ?_⟩
         rintro r o' c' ⟨w', rfl, rfl, rfl, hwp⟩
         have hwm : ∀ y ∈ w', m5 y := fun y hy => by
          have := hwp.mem_iff.1 hy
          split at this
          ·exact hL1 y this
          ·rcases List.mem_cons.1 this with rfl | h6
           ·exact hw5
           ·exact hL1 y h6
         have hwl := hwp.length_eq
         have hne : 0 < w'.length ∧ w'.length ≤ 6 := by
          rw [hwl]
          split
          ·rename_i h6
           exact ⟨List.length_pos_of_mem h6, by omega⟩
          ·simp only [List.length_cons, List.length_nil] at hL2 ⊢; omega
         obtain ⟨wa, wq, rfl⟩ := List.exists_cons_of_length_pos hne.1
         ((conv=>whnf)<;>repeat(with_reducible refine D1 ?_)<;>conv=>whnf)
         refine ⟨⟨by omega, by simp; omega⟩, encR (s0, cm, (pa :: pq)), by simp [h, hp], ?_⟩
         ((conv=>whnf)<;>repeat(with_reducible refine D1 ?_)<;>conv=>whnf)
         refine ⟨⟨by omega, by simp; omega⟩, encR (s0, cm, wa :: wq), by simp [h]; rfl, ?_⟩
         ((conv=>whnf)<;>repeat(with_reducible refine D1 ?_)<;>conv=>whnf)
         refine ⟨[], [], _, _, _, _, enoughR_ok (wa :: wq) x.masters hwm (by omega) hm, t3, ?_⟩
         rintro r o' c' ⟨rfl, rfl, rfl⟩
         have hz_ := True.intro
         clear hz_
         cases he : enoughN (withN 0 (wa :: wq)) x.masters
         ·((conv=>whnf)<;>repeat(with_reducible refine D1 ?_)<;>conv=>whnf)
          refine ⟨[3], [], ?_⟩
          iterate 3 constructor
          refine ⟨⟨?_, ?_, ?_⟩, L.set i (s0, cm, wa :: wq), false, noVote, false, rfl, rfl, rfl, .inr ⟨hg, .inr ⟨i, h, wa :: wq, by rw [hp]; exact hs, hn, by rw [hp]; exact hwp, .inl ⟨he, by rw [hp], rfl, rfl⟩⟩⟩, fun hh => absurd h1 hh⟩
          all_goals (repeat' first|with_reducible exact Lz.rfl|exact Lw.rfl|exact Lz.wrap (by omega)|(unfold goInt;with_reducible exact Lz.rfl)|exact flx _|constructor)
          exact Lz.of (by rw [List.map_set]; rfl)
         ·((conv=>whnf)<;>repeat(with_reducible refine D1 ?_)<;>conv=>whnf)
          refine ⟨⟨by omega, by simp; omega⟩, encR (s0, cm, wa :: wq), by simp [h]; rfl, ?_⟩
          ((conv=>whnf)<;>repeat(with_reducible refine D1 ?_)<;>conv=>whnf)
          refine ⟨⟨by omega, by omega, by simp; omega⟩, ?_⟩
          ((conv=>whnf)<;>repeat(with_reducible refine D1 ?_)<;>conv=>whnf)
          refine ⟨by simp; omega, ?_⟩
          ((conv=>whnf)<;>repeat(with_reducible refine D1 ?_)<;>conv=>whnf)
          rw [wrap_small i (by omega)]
          refine ⟨⟨by omega, by simp; omega, by simp⟩, .inl ?_⟩
          ((conv=>whnf)<;>repeat(with_reducible refine D1 ?_)<;>conv=>whnf)
          refine ⟨by simp; omega, ?_⟩
          ((conv=>whnf)<;>repeat(with_reducible refine D1 ?_)<;>conv=>whnf)
          refine ⟨[6], [], ?_⟩
          iterate 3 constructor
          refine ⟨⟨?_, ?_, ?_⟩, L.take i ++ L.drop (i + 1), false, .of slot b cm, true, rfl, rfl, rfl, .inr ⟨hg, .inr ⟨i, h, wa :: wq, by rw [hp]; exact hs, hn, by rw [hp]; exact hwp, .inr ⟨he, rfl, by rw [hp], rfl⟩⟩⟩, fun hh => absurd h1 hh⟩
          all_goals (repeat' first|with_reducible exact Lz.rfl|exact Lw.rfl|exact Lz.wrap (by omega)|(unfold goInt;with_reducible exact Lz.rfl)|exact flx _|constructor)
          exact Lz.of (er_eq h _)
      ·have h' : i = L.length := by have := mt lenlt.2 h
                                    omega
       subst h'
       rw [List.take_length] at hn
       ((conv=>whnf)<;>repeat(with_reducible refine D1 ?_)<;>conv=>whnf)
       exact ⟨[], [], _, _, _, t3, L, fl, noVote, false, rfl, rfl, rfl, .inr ⟨hg, .inl ⟨hn, rfl, rfl, rfl⟩⟩, fun _ => ⟨rfl, rfl⟩⟩
end Go.M
namespace Go.M
open Go Go.Proofs
set_option maxRecDepth 100000
set_option maxHeartbeats 8000000
theorem refPromiseNo_ok (x : LeadS) (who : List Int) (votes : List (List Vote)) (L : List Prp) (fl : Bool) (b w : Int) (vs : List Vote) (hg : ¬ ((x.st = 1 ∧ x.b = b) ∧ 1 ≤ w ∧ w ≤ x.masters)) :
 VC E0 104 0 [refL x who votes L fl, .s (.int .u64 b), .s (.int .i64 w), encVs vs] [] (RR (.tup [refL x who votes L fl, encVs [], .s (.bool false)]) 0 []) := by
 refine VC.enterR L0 (show E0.func 104 = some Try.f104 by kernel_rfl) (fun _ _ => rfl) rfl rfl [] ?_
 ((conv=>whnf)<;>repeat(with_reducible refine D1 ?_)<;>conv=>whnf)
 (first|refine ⟨?_,?_⟩|refine nsplit ?_ ?_|refine bsplit ?_ ?_)<;>intro h1<;>have hz_:=True.intro<;>clear hz_
 ·((conv=>whnf)<;>repeat(with_reducible refine D1 ?_)<;>conv=>whnf)
  exact ⟨[], [], _, _, _, t3, rfl, rfl, rfl⟩
 ·have h1 : x.st = 1 := Classical.not_not.1 h1
  ((conv=>whnf)<;>repeat(with_reducible refine D1 ?_)<;>conv=>whnf)
  (first|refine ⟨?_,?_⟩|refine nsplit ?_ ?_|refine bsplit ?_ ?_)<;>intro h2<;>have hz_:=True.intro<;>clear hz_
  ·((conv=>whnf)<;>repeat(with_reducible refine D1 ?_)<;>conv=>whnf)
   exact ⟨[], [], _, _, _, t3, rfl, rfl, rfl⟩
  ·have h2 : x.b = b := Classical.not_not.1 h2
   ((conv=>whnf)<;>repeat(with_reducible refine D1 ?_)<;>conv=>whnf)
   (first|refine ⟨?_,?_⟩|refine nsplit ?_ ?_|refine bsplit ?_ ?_)<;>intro h3<;>have hz_:=True.intro<;>clear hz_
   ·((conv=>whnf)<;>repeat(with_reducible refine D1 ?_)<;>conv=>whnf)
    exact ⟨[], [], _, _, _, t3, rfl, rfl, rfl⟩
   ·have h3 : ¬ w < 1 := h3
    ((conv=>whnf)<;>repeat(with_reducible refine D1 ?_)<;>conv=>whnf)
    (first|refine ⟨?_,?_⟩|refine nsplit ?_ ?_|refine bsplit ?_ ?_)<;>intro h4<;>have hz_:=True.intro<;>clear hz_
    ·((conv=>whnf)<;>repeat(with_reducible refine D1 ?_)<;>conv=>whnf)
     exact ⟨[], [], _, _, _, t3, rfl, rfl, rfl⟩
    ·have h4 : ¬ w > x.masters := h4
     exact absurd ⟨⟨h1, h2⟩, by omega, by omega⟩ hg
@[reducible] def who1 (who : List Int) (w : Int) : List Int := if w ∈ who then who else who ++ [w]
@[reducible] def votes1 (who : List Int) (votes : List (List Vote)) (w : Int) (vs : List Vote) : List (List Vote) := if w ∈ who then votes else votes ++ [vs]
def inS (s : Int) (v : Vote) : Bool := decide (s ≤ v.slot) && decide (v.slot < 512)
def moreV (best : List Vote) (s : Int) : Bool := best.any (inS s)
def layP (best : List Vote) (s : Int) : Prp := (s, cmdOf ((atS best s).getD noVote), [])
def layR (best : List Vote) (frm : Int) (j : Nat) : List Prp := (List.range j).map fun (k : Nat) => layP best (frm + k)
theorem layR_succ (best : List Vote) (frm : Int) (j : Nat) : layR best frm (j + 1) = layR best frm j ++ [layP best (frm + j)] := by simp [layR, List.range_succ]
@[reducible] def obA (x : LeadS) (wh : List Int) (vt : List (List Vote)) : Ob := [(0, .cells (refC { x with st := 2 } wh vt [] true)), (1, zLead)]
@[reducible] def obB (x : LeadS) (wh : List Int) (vt : List (List Vote)) (best : List Vote) (j : Nat) : Ob := [(0, .cells [.s (.int .i64 x.me), .s (.int .i64 x.masters), .s (.int .i64 2), .s (.int .u64 x.b), .s (.int .i64 x.frm), .s (.int .i64 (x.frm + j)), .sl 1 (wh.map encI1) false, .sl 1 (vt.map encL) false, .tk 2]), (1, zLead), (2, .arr 6 true ((layR best x.frm j).map encR))]
def PromR (x : LeadS) (wh : List Int) (vt : List (List Vote)) (best : List Vote) (r : TV) (o : Ob) (c : Nat) : Prop := ∃ (j : Nat) (fl : Bool), x.frm + j ≤ 512 ∧ (∀ k < j, moreV best (x.frm + (k : Int)) = true) ∧ (moreV best (x.frm + j) = false ∨ x.frm + j = 512) ∧
 r = .tup [refL { x with st := 2, nxt := x.frm + j } wh vt (layR best x.frm j) fl, encVs ((layR best x.frm j).map (voteR x.b)), .s (.bool true)] ∧ c = 0 ∧ o = []
theorem refPromise_ok (x : LeadS) (who : List Int) (votes : List (List Vote)) (b w : Int) (vs : List Vote) (wh : List Int) (vt : List (List Vote)) (hwh : wh = who1 who w) (hvt : vt = votes1 who votes w vs) (hg : (x.st = 1 ∧ x.b = b) ∧ 1 ≤ w ∧ w ≤ x.masters) (hm : m5 x.masters)
 (hnf : x.nxt = x.frm) (hf : 0 ≤ x.frm ∧ x.frm ≤ 512) (hw5 : ∀ y ∈ wh, m5 y) (hwl : wh.length ≤ 5) (hlen : wh.length = vt.length) (hwl0 : who.length ≤ 5) (hvl0 : votes.length ≤ 5) (hR8 : (risU wh vt x.masters.toNat 0).length ≤ 8) (hR : ∀ l ∈ risU wh vt x.masters.toNat 0, l.length ≤ 40 ∧ ∀ v ∈ l, inI v.slot) :
 VC E0 104 0 [refL x who votes [] true, .s (.int .u64 b), .s (.int .i64 w), encVs vs] [] (fun r o c => (enoughN (withN 0 wh) x.masters = false ∧ r = .tup [refL x wh vt [] true, encVs [], .s (.bool false)] ∧ c = 0 ∧ o = []) ∨ (enoughN (withN 0 wh) x.masters = true ∧ PromR x wh vt (bestV (risU wh vt x.masters.toNat 0)) r o c)) := by
 obtain ⟨⟨g1, g2⟩, g3, g4⟩ := hg
 refine VC.enterR L0 (show E0.func 104 = some Try.f104 by kernel_rfl) (fun _ _ => rfl) rfl rfl [] ?_
 ((conv=>whnf)<;>repeat(with_reducible refine D1 ?_)<;>conv=>whnf)
 (first|refine ⟨?_,?_⟩|refine nsplit ?_ ?_|refine bsplit ?_ ?_)<;>intro h1<;>have hz_:=True.intro<;>clear hz_
 ·exact absurd g1 h1
 ((conv=>whnf)<;>repeat(with_reducible refine D1 ?_)<;>conv=>whnf)
 (first|refine ⟨?_,?_⟩|refine nsplit ?_ ?_|refine bsplit ?_ ?_)<;>intro h2<;>have hz_:=True.intro<;>clear hz_
 ·exact absurd g2 h2
 ((conv=>whnf)<;>repeat(with_reducible refine D1 ?_)<;>conv=>whnf)
 (first|refine ⟨?_,?_⟩|refine nsplit ?_ ?_|refine bsplit ?_ ?_)<;>intro h3<;>have hz_:=True.intro<;>clear hz_
 ·have h3 : w < 1 := h3
  omega
 ((conv=>whnf)<;>repeat(with_reducible refine D1 ?_)<;>conv=>whnf)
 (first|refine ⟨?_,?_⟩|refine nsplit ?_ ?_|refine bsplit ?_ ?_)<;>intro h4<;>have hz_:=True.intro<;>clear hz_
 ·have h4 : w > x.masters := h4
  omega
 ((conv=>whnf)<;>repeat(with_reducible refine D1 ?_)<;>conv=>whnf)
 refine ⟨[], [], _, _, _, _, has04_ok who w (by omega), t3, ?_⟩
 rintro r o' c' ⟨rfl, rfl, rfl⟩
 have hz_ := True.intro
 clear hz_
 cases hmem : decide (w ∈ who)
 ·have hmem := of_decide_eq_false hmem
  have e1 : wh = who ++ [w] := by rw [hwh, who1, if_neg hmem]
  have e2 : vt = votes ++ [vs] := by rw [hvt, votes1, if_neg hmem]
  ((conv=>whnf)<;>repeat(with_reducible refine D1 ?_)<;>conv=>whnf)
  refine ⟨by simp; omega, ?_⟩
  ((conv=>whnf)<;>repeat(with_reducible refine D1 ?_)<;>conv=>whnf)
  refine ⟨by simp; omega, ?_⟩
  ((conv=>whnf)<;>repeat(with_reducible refine D1 ?_)<;>conv=>whnf)
  refine ⟨by simp; omega, ?_⟩
  ((conv=>whnf)<;>repeat(with_reducible refine D1 ?_)<;>conv=>whnf)
  refine ⟨by simp; omega, ?_⟩
  ((conv=>whnf)<;>repeat(with_reducible refine D1 ?_)<;>conv=>whnf)
  refine ⟨[4], [], _, _, _, _, enoughR_ok wh x.masters hw5 (by omega) hm, ⟨by ((repeat' first|with_reducible exact Lz.rfl|exact Lw.rfl|exact Lz.wrap (by omega)|(unfold goInt;with_reducible exact Lz.rfl)|exact flx _|constructor); all_goals (first | exact Lz.rfl | exact Lz.of (by rw [e1, List.map_append]; rfl) | exact Lz.of (by rw [e2, List.map_append]; rfl))), by ((repeat' first|with_reducible exact Lz.rfl|exact Lw.rfl|exact Lz.wrap (by omega)|(unfold goInt;with_reducible exact Lz.rfl)|exact flx _|constructor); all_goals (first | exact Lz.rfl | exact Lz.of (by rw [e1, List.map_append]; rfl) | exact Lz.of (by rw [e2, List.map_append]; rfl))), by rfl⟩, ?_⟩
  rintro r o' c' ⟨rfl, rfl, rfl⟩
  ((conv=>whnf)<;>repeat(with_reducible refine D1 ?_)<;>conv=>whnf)
  cases he : enoughN (withN 0 wh) x.masters with
  | false =>
   ((conv=>whnf)<;>repeat(with_reducible refine D1 ?_)<;>conv=>whnf)
   refine ⟨[4,7], [], ?_⟩
   iterate 3 constructor
   refine ⟨⟨?_, ?_, ?_⟩, .inl ⟨rfl, rfl, rfl, rfl⟩⟩
   all_goals (repeat' first|with_reducible exact Lz.rfl|exact Lw.rfl|exact Lz.wrap (by omega)|(unfold goInt;with_reducible exact Lz.rfl)|exact flx _|constructor)
   all_goals first | exact Lz.rfl | exact Lz.of (by rw [e1, List.map_append]; rfl) | exact Lz.of (by rw [e2, List.map_append]; rfl)
  | true =>
   ((conv=>whnf)<;>repeat(with_reducible refine D1 ?_)<;>conv=>whnf)
   refine ⟨[4,7], [], _, _, _, _, rising13_ok { x with st := 2 } wh vt [] true hlen (by omega) hm, ⟨by ((repeat' first|with_reducible exact Lz.rfl|exact Lw.rfl|exact Lz.wrap (by omega)|(unfold goInt;with_reducible exact Lz.rfl)|exact flx _|constructor); all_goals (first | exact Lz.rfl | exact Lz.of (by rw [e1, List.map_append]; rfl) | exact Lz.of (by rw [e2, List.map_append]; rfl))), by ((repeat' first|with_reducible exact Lz.rfl|exact Lw.rfl|exact Lz.wrap (by omega)|(unfold goInt;with_reducible exact Lz.rfl)|exact flx _|constructor); all_goals (first | exact Lz.rfl | exact Lz.of (by rw [e1, List.map_append]; rfl) | exact Lz.of (by rw [e2, List.map_append]; rfl))), by rfl⟩, ?_⟩
   rintro r o' c' ⟨rfl, rfl, rfl⟩
   ((conv=>whnf)<;>repeat(with_reducible refine D1 ?_)<;>conv=>whnf)
   refine ⟨[], [], _, _, _, _, refBest_ok (risU wh vt x.masters.toNat 0) hR8 (fun l hl => (hR l hl).1) (fun l hl => (hR l hl).2), t3, ?_⟩
   rintro r o' c' ⟨rfl, rfl, rfl⟩
   ((conv=>whnf)<;>repeat(with_reducible refine D1 ?_)<;>conv=>whnf)
   have hbl := bestV_len hR8 (fun l hl => (hR l hl).1) (fun l hl => (hR l hl).2)
   generalize hbe : bestV (risU wh vt x.masters.toNat 0) = best at *
   refine ⟨fun k f o c => (k = (512 - x.frm).toNat ∧ c = 2 ∧ f = [(4, .ptr 0 0), (8, .ptr 1 0), (11, encVs best), (12, .s (.int .i64 x.frm))] ∧ o = obA x wh vt) ∨ ∃ j : Nat, 1 ≤ j ∧ x.frm + j ≤ 512 ∧ k = (512 - (x.frm + (j : Nat))).toNat ∧ (∀ q < j, moreV best (x.frm + (q : Int)) = true) ∧ c = 3 ∧ f = [(4, .ptr 0 0), (8, .ptr 1 0), (11, encVs best), (12, .s (.int .i64 (x.frm + (j : Nat))))] ∧ o = obB x wh vt best j, ⟨(512 - x.frm).toNat, ?_⟩, ?_⟩
   ·refine ⟨[4,7], [some 0, some 1], ?_⟩
    iterate 3 constructor
    refine ⟨⟨?_, ?_, ?_⟩, .inl ⟨rfl, rfl, rfl, rfl⟩⟩
    all_goals (repeat' first|with_reducible exact Lz.rfl|exact Lw.rfl|exact Lz.wrap (by omega)|(unfold goInt;with_reducible exact Lz.rfl)|exact flx _|constructor)
    all_goals first | exact Lz.rfl | exact Lz.of (by rw [e1, List.map_append]; rfl) | exact Lz.of (by rw [e2, List.map_append]; rfl)
   ·rintro k f1 o1 c1 (⟨rfl, rfl, rfl, rfl⟩ | ⟨j, hj1, hj2, rfl, hmore, rfl, rfl, rfl⟩)
    ·have hmore : ∀ q : Nat, q < 0 → moreV best (x.frm + (q : Int)) = true := fun q hq => by omega
     ((conv=>whnf)<;>repeat(with_reducible refine D1 ?_)<;>conv=>whnf)
     (first|refine ⟨?_,?_⟩|refine nsplit ?_ ?_|refine bsplit ?_ ?_)<;>intro hs<;>have hz_:=True.intro<;>clear hz_
     ·have hs : x.frm < 512 := hs
      ((conv=>whnf)<;>repeat(with_reducible refine D1 ?_)<;>conv=>whnf)
      refine ⟨fun kk f o c => ∃ k : Nat, k ≤ best.length ∧ kk = best.length - k ∧ c = 2 ∧ f = [(4, .ptr 0 0), (8, .ptr 1 0), (11, encVs best), (12, .s (.int .i64 (x.frm + (0 : Nat)))), (13, .s (.bool (moreV (best.take k) (x.frm + (0 : Nat))))), (14, .s (.int .i64 k))] ∧ o = (obA x wh vt), ⟨best.length, ?_⟩, ?_⟩
      ·refine ⟨[], [some 0,some 1], ?_⟩
       iterate 3 constructor
       refine ⟨⟨?_, ?_, ?_⟩, ⟨0, Nat.zero_le _, rfl, rfl, rfl, rfl⟩⟩
       all_goals (repeat' first|with_reducible exact Lz.rfl|exact Lw.rfl|exact Lz.wrap (by omega)|(unfold goInt;with_reducible exact Lz.rfl)|exact flx _|constructor)
       all_goals first | exact Lz.rfl | exact Lz.int (by first | omega | (dsimp only; omega))
      ·rintro kk f1 o1 c1 ⟨k, hk, rfl, rfl, rfl, rfl⟩
       cases hmb : moreV (best.take k) (x.frm + (0 : Nat)) with
       | true =>
        ((conv=>whnf)<;>repeat(with_reducible refine D1 ?_)<;>conv=>whnf)
        (first|refine ⟨?_,?_⟩|refine nsplit ?_ ?_|refine bsplit ?_ ?_)<;>intro hkl<;>have hz_:=True.intro<;>clear hz_
        ·have hkl := lenlt.1 hkl
         ((conv=>whnf)<;>repeat(with_reducible refine D1 ?_)<;>conv=>whnf)
         refine ⟨best.length - (k + 1), ?_, by omega⟩
         refine ⟨[], [some 0,some 1], ?_⟩
         iterate 3 constructor
         refine ⟨⟨?_, ?_, ?_⟩, ⟨k + 1, hkl, rfl, rfl, rfl, rfl⟩⟩
         all_goals (repeat' first|with_reducible exact Lz.rfl|exact Lw.rfl|exact Lz.wrap (by omega)|(unfold goInt;with_reducible exact Lz.rfl)|exact flx _|constructor)
         all_goals first | exact Lz.rfl | (refine Lz.of (bool_eq ?_); unfold moreV at hmb ⊢; rw [List.take_succ_eq_append_getElem hkl, List.any_append, hmb]; rfl)
        ·have hke : k = best.length := by have := mt lenlt.2 hkl
                                          omega
         subst hke
         rw [List.take_length] at hmb
         ((conv=>whnf)<;>repeat(with_reducible refine D1 ?_)<;>conv=>whnf)
         refine ⟨[], [], _, _, _, _, refAt_ok best (x.frm + (0 : Nat)) (by omega), t3, ?_⟩
         rintro r o' c' ⟨rfl, rfl, rfl⟩
         ((conv=>whnf)<;>repeat(with_reducible refine D1 ?_)<;>conv=>whnf)
         refine ⟨by first | (simp [layR]; omega) | simp, ?_⟩
         ((conv=>whnf)<;>repeat(with_reducible refine D1 ?_)<;>conv=>whnf)
         refine ⟨(512 - (x.frm + ((0 + 1 : Nat) : Int))).toNat, ?_, by omega⟩
         refine ⟨[], [some 0, some 1, some 4], ?_⟩
         iterate 3 constructor
         refine ⟨⟨?_, ?_, ?_⟩, .inr ⟨0 + 1, by omega, by omega, rfl, (by intro q hq; by_cases e : q = 0; subst e; exact hmb; exact hmore q (by omega)), rfl, rfl, rfl⟩⟩
         all_goals (repeat' first|with_reducible exact Lz.rfl|exact Lw.rfl|exact Lz.wrap (by omega)|(unfold goInt;with_reducible exact Lz.rfl)|exact flx _|constructor)
         all_goals first
          | exact Lz.rfl
          | (refine Lz.int ?_; rw [IntWalk.i64_in _ (by omega)]; omega)
          | (refine Lz.of ?_; rw [layR_succ, List.map_append]; rfl)
       | false =>
        ((conv=>whnf)<;>repeat(with_reducible refine D1 ?_)<;>conv=>whnf)
        (first|refine ⟨?_,?_⟩|refine nsplit ?_ ?_|refine bsplit ?_ ?_)<;>intro hkl<;>have hz_:=True.intro<;>clear hz_
        ·have hkl := lenlt.1 hkl
         have hsn : moreV (best.take (k + 1)) (x.frm + (0 : Nat)) = inS (x.frm + (0 : Nat)) best[k] := by
          unfold moreV at hmb ⊢; rw [List.take_succ_eq_append_getElem hkl, List.any_append, hmb]; simp
         ((conv=>whnf)<;>repeat(with_reducible refine D1 ?_)<;>conv=>whnf)
         refine idxI hkl ?_
         ((conv=>whnf)<;>repeat(with_reducible refine D1 ?_)<;>conv=>whnf)
         (first|refine ⟨?_,?_⟩|refine nsplit ?_ ?_|refine bsplit ?_ ?_)<;>intro hge<;>have hz_:=True.intro<;>clear hz_
         ·have hge : best[k].slot ≥ x.frm + (0 : Nat) := hge
          ((conv=>whnf)<;>repeat(with_reducible refine D1 ?_)<;>conv=>whnf)
          refine idxI hkl ?_
          ((conv=>whnf)<;>repeat(with_reducible refine D1 ?_)<;>conv=>whnf)
          (first|refine ⟨?_,?_⟩|refine nsplit ?_ ?_|refine bsplit ?_ ?_)<;>intro hlt<;>have hz_:=True.intro<;>clear hz_
          ·have hlt : best[k].slot < 512 := hlt
           ((conv=>whnf)<;>repeat(with_reducible refine D1 ?_)<;>conv=>whnf)
           refine ⟨best.length - (k + 1), ?_, by omega⟩
           refine ⟨[], [some 0,some 1], ?_⟩
           iterate 3 constructor
           refine ⟨⟨?_, ?_, ?_⟩, ⟨k + 1, hkl, rfl, rfl, rfl, rfl⟩⟩
           all_goals (repeat' first|with_reducible exact Lz.rfl|exact Lw.rfl|exact Lz.wrap (by omega)|(unfold goInt;with_reducible exact Lz.rfl)|exact flx _|constructor)
           all_goals first | exact Lz.rfl | (refine Lz.of (bool_eq ?_); rw [hsn]; unfold inS; rw [decide_eq_true hge, decide_eq_true hlt]; rfl)
          ·have hlt : ¬ best[k].slot < 512 := hlt
           ((conv=>whnf)<;>repeat(with_reducible refine D1 ?_)<;>conv=>whnf)
           refine ⟨best.length - (k + 1), ?_, by omega⟩
           refine ⟨[], [some 0,some 1], ?_⟩
           iterate 3 constructor
           refine ⟨⟨?_, ?_, ?_⟩, ⟨k + 1, hkl, rfl, rfl, rfl, rfl⟩⟩
           all_goals (repeat' first|with_reducible exact Lz.rfl|exact Lw.rfl|exact Lz.wrap (by omega)|(unfold goInt;with_reducible exact Lz.rfl)|exact flx _|constructor)
           all_goals first | exact Lz.rfl | (refine Lz.of (bool_eq ?_); rw [hsn]; unfold inS; rw [decide_eq_false hlt]; simp)
         ·have hge : ¬ best[k].slot ≥ x.frm + (0 : Nat) := hge
          ((conv=>whnf)<;>repeat(with_reducible refine D1 ?_)<;>conv=>whnf)
          refine ⟨best.length - (k + 1), ?_, by omega⟩
          refine ⟨[], [some 0,some 1], ?_⟩
          iterate 3 constructor
          refine ⟨⟨?_, ?_, ?_⟩, ⟨k + 1, hkl, rfl, rfl, rfl, rfl⟩⟩
          all_goals (repeat' first|with_reducible exact Lz.rfl|exact Lw.rfl|exact Lz.wrap (by omega)|(unfold goInt;with_reducible exact Lz.rfl)|exact flx _|constructor)
          all_goals first | exact Lz.rfl | (refine Lz.of (bool_eq ?_); rw [hsn]; unfold inS; rw [decide_eq_false hge]; rfl)
        ·have hke : k = best.length := by have := mt lenlt.2 hkl
                                          omega
         subst hke
         rw [List.take_length] at hmb
         ((conv=>whnf)<;>repeat(with_reducible refine D1 ?_)<;>conv=>whnf)
         refine ⟨[], [], _, _, _, _, refOpen_ok { x with st := 2, nxt := x.frm + (0 : Nat) } wh vt (layR best x.frm (0 : Nat)) true (by simp [layR]; try omega), ⟨by ((repeat' first|with_reducible exact Lz.rfl|exact Lw.rfl|exact Lz.wrap (by omega)|(unfold goInt;with_reducible exact Lz.rfl)|exact flx _|constructor); all_goals (first | exact Lz.rfl | exact Lz.int (by first | omega | (dsimp only; omega)) | exact Lz.of (by simp [layR]))), by ((repeat' first|with_reducible exact Lz.rfl|exact Lw.rfl|exact Lz.wrap (by omega)|(unfold goInt;with_reducible exact Lz.rfl)|exact flx _|constructor); all_goals (first | exact Lz.rfl | exact Lz.int (by first | omega | (dsimp only; omega)) | exact Lz.of (by simp [layR]))), by rfl⟩, ?_⟩
         rintro r o' c' ⟨rfl, rfl, rfl⟩
         ((conv=>whnf)<;>repeat(with_reducible refine D1 ?_)<;>conv=>whnf)
         refine ⟨[], [], ?_⟩
         iterate 3 constructor
         refine ⟨⟨?_, ?_, ?_⟩, .inr ⟨rfl, 0, true, by omega, hmore, .inl hmb, rfl, rfl, rfl⟩⟩
         all_goals (repeat' first|with_reducible exact Lz.rfl|exact Lw.rfl|exact Lz.wrap (by omega)|(unfold goInt;with_reducible exact Lz.rfl)|exact flx _|constructor)
         all_goals first | exact Lz.rfl | exact Lz.int (by first | omega | (dsimp only; omega)) | exact Lz.of (by simp [layR])
     ·have hs : ¬ x.frm < 512 := hs
      ((conv=>whnf)<;>repeat(with_reducible refine D1 ?_)<;>conv=>whnf)
      refine ⟨[], [], _, _, _, _, refOpen_ok { x with st := 2, nxt := x.frm + (0 : Nat) } wh vt (layR best x.frm 0) true (by simp [layR]), ⟨by ((repeat' first|with_reducible exact Lz.rfl|exact Lw.rfl|exact Lz.wrap (by omega)|(unfold goInt;with_reducible exact Lz.rfl)|exact flx _|constructor); all_goals (first | exact Lz.rfl | exact Lz.int (by first | omega | (dsimp only; omega)) | exact Lz.of (by simp [layR]))), by ((repeat' first|with_reducible exact Lz.rfl|exact Lw.rfl|exact Lz.wrap (by omega)|(unfold goInt;with_reducible exact Lz.rfl)|exact flx _|constructor); all_goals (first | exact Lz.rfl | exact Lz.int (by first | omega | (dsimp only; omega)) | exact Lz.of (by simp [layR]))), by rfl⟩, ?_⟩
      rintro r o' c' ⟨rfl, rfl, rfl⟩
      ((conv=>whnf)<;>repeat(with_reducible refine D1 ?_)<;>conv=>whnf)
      refine ⟨[], [], ?_⟩
      iterate 3 constructor
      refine ⟨⟨?_, ?_, ?_⟩, .inr ⟨rfl, 0, true, by omega, fun q hq => by omega, .inr (by omega), rfl, rfl, rfl⟩⟩
      all_goals (repeat' first|with_reducible exact Lz.rfl|exact Lw.rfl|exact Lz.wrap (by omega)|(unfold goInt;with_reducible exact Lz.rfl)|exact flx _|constructor)
      all_goals first | exact Lz.rfl | exact Lz.int (by first | omega | (dsimp only; omega)) | exact Lz.of (by simp [layR])
    ·((conv=>whnf)<;>repeat(with_reducible refine D1 ?_)<;>conv=>whnf)
     (first|refine ⟨?_,?_⟩|refine nsplit ?_ ?_|refine bsplit ?_ ?_)<;>intro hs<;>have hz_:=True.intro<;>clear hz_
     ·have hs : x.frm + (j : Nat) < 512 := hs
      ((conv=>whnf)<;>repeat(with_reducible refine D1 ?_)<;>conv=>whnf)
      refine ⟨fun kk f o c => ∃ k : Nat, k ≤ best.length ∧ kk = best.length - k ∧ c = 3 ∧ f = [(4, .ptr 0 0), (8, .ptr 1 0), (11, encVs best), (12, .s (.int .i64 (x.frm + (j : Nat)))), (13, .s (.bool (moreV (best.take k) (x.frm + (j : Nat))))), (14, .s (.int .i64 k))] ∧ o = (obB x wh vt best j), ⟨best.length, ?_⟩, ?_⟩
      ·refine ⟨[], [some 0,some 1,some 2], ?_⟩
       iterate 3 constructor
       refine ⟨⟨?_, ?_, ?_⟩, ⟨0, Nat.zero_le _, rfl, rfl, rfl, rfl⟩⟩
       all_goals (repeat' first|with_reducible exact Lz.rfl|exact Lw.rfl|exact Lz.wrap (by omega)|(unfold goInt;with_reducible exact Lz.rfl)|exact flx _|constructor)
       all_goals first | exact Lz.rfl | exact Lz.int (by first | omega | (dsimp only; omega))
      ·rintro kk f1 o1 c1 ⟨k, hk, rfl, rfl, rfl, rfl⟩
       cases hmb : moreV (best.take k) (x.frm + (j : Nat)) with
       | true =>
        ((conv=>whnf)<;>repeat(with_reducible refine D1 ?_)<;>conv=>whnf)
        (first|refine ⟨?_,?_⟩|refine nsplit ?_ ?_|refine bsplit ?_ ?_)<;>intro hkl<;>have hz_:=True.intro<;>clear hz_
        ·have hkl := lenlt.1 hkl
         ((conv=>whnf)<;>repeat(with_reducible refine D1 ?_)<;>conv=>whnf)
         refine ⟨best.length - (k + 1), ?_, by omega⟩
         refine ⟨[], [some 0,some 1,some 2], ?_⟩
         iterate 3 constructor
         refine ⟨⟨?_, ?_, ?_⟩, ⟨k + 1, hkl, rfl, rfl, rfl, rfl⟩⟩
         all_goals (repeat' first|with_reducible exact Lz.rfl|exact Lw.rfl|exact Lz.wrap (by omega)|(unfold goInt;with_reducible exact Lz.rfl)|exact flx _|constructor)
         all_goals first | exact Lz.rfl | (refine Lz.of (bool_eq ?_); unfold moreV at hmb ⊢; rw [List.take_succ_eq_append_getElem hkl, List.any_append, hmb]; rfl)
        ·have hke : k = best.length := by have := mt lenlt.2 hkl
                                          omega
         subst hke
         rw [List.take_length] at hmb
         ((conv=>whnf)<;>repeat(with_reducible refine D1 ?_)<;>conv=>whnf)
         refine ⟨[], [], _, _, _, _, refAt_ok best (x.frm + (j : Nat)) (by omega), t3, ?_⟩
         rintro r o' c' ⟨rfl, rfl, rfl⟩
         ((conv=>whnf)<;>repeat(with_reducible refine D1 ?_)<;>conv=>whnf)
         refine ⟨by first | (simp [layR]; omega) | simp, ?_⟩
         ((conv=>whnf)<;>repeat(with_reducible refine D1 ?_)<;>conv=>whnf)
         refine ⟨(512 - (x.frm + ((j + 1 : Nat) : Int))).toNat, ?_, by omega⟩
         refine ⟨[], [some 0, some 1, some 5], ?_⟩
         iterate 3 constructor
         refine ⟨⟨?_, ?_, ?_⟩, .inr ⟨j + 1, by omega, by omega, rfl, (by intro q hq; by_cases e : q = j; subst e; exact hmb; exact hmore q (by omega)), rfl, rfl, rfl⟩⟩
         all_goals (repeat' first|with_reducible exact Lz.rfl|exact Lw.rfl|exact Lz.wrap (by omega)|(unfold goInt;with_reducible exact Lz.rfl)|exact flx _|constructor)
         all_goals first
          | exact Lz.rfl
          | (refine Lz.int ?_; rw [IntWalk.i64_in _ (by omega)]; omega)
          | (refine Lz.of ?_; rw [layR_succ, List.map_append]; rfl)
       | false =>
        ((conv=>whnf)<;>repeat(with_reducible refine D1 ?_)<;>conv=>whnf)
        (first|refine ⟨?_,?_⟩|refine nsplit ?_ ?_|refine bsplit ?_ ?_)<;>intro hkl<;>have hz_:=True.intro<;>clear hz_
        ·have hkl := lenlt.1 hkl
         have hsn : moreV (best.take (k + 1)) (x.frm + (j : Nat)) = inS (x.frm + (j : Nat)) best[k] := by
          unfold moreV at hmb ⊢; rw [List.take_succ_eq_append_getElem hkl, List.any_append, hmb]; simp
         ((conv=>whnf)<;>repeat(with_reducible refine D1 ?_)<;>conv=>whnf)
         refine idxI hkl ?_
         ((conv=>whnf)<;>repeat(with_reducible refine D1 ?_)<;>conv=>whnf)
         (first|refine ⟨?_,?_⟩|refine nsplit ?_ ?_|refine bsplit ?_ ?_)<;>intro hge<;>have hz_:=True.intro<;>clear hz_
         ·have hge : best[k].slot ≥ x.frm + (j : Nat) := hge
          ((conv=>whnf)<;>repeat(with_reducible refine D1 ?_)<;>conv=>whnf)
          refine idxI hkl ?_
          ((conv=>whnf)<;>repeat(with_reducible refine D1 ?_)<;>conv=>whnf)
          (first|refine ⟨?_,?_⟩|refine nsplit ?_ ?_|refine bsplit ?_ ?_)<;>intro hlt<;>have hz_:=True.intro<;>clear hz_
          ·have hlt : best[k].slot < 512 := hlt
           ((conv=>whnf)<;>repeat(with_reducible refine D1 ?_)<;>conv=>whnf)
           refine ⟨best.length - (k + 1), ?_, by omega⟩
           refine ⟨[], [some 0,some 1,some 2], ?_⟩
           iterate 3 constructor
           refine ⟨⟨?_, ?_, ?_⟩, ⟨k + 1, hkl, rfl, rfl, rfl, rfl⟩⟩
           all_goals (repeat' first|with_reducible exact Lz.rfl|exact Lw.rfl|exact Lz.wrap (by omega)|(unfold goInt;with_reducible exact Lz.rfl)|exact flx _|constructor)
           all_goals first | exact Lz.rfl | (refine Lz.of (bool_eq ?_); rw [hsn]; unfold inS; rw [decide_eq_true hge, decide_eq_true hlt]; rfl)
          ·have hlt : ¬ best[k].slot < 512 := hlt
           ((conv=>whnf)<;>repeat(with_reducible refine D1 ?_)<;>conv=>whnf)
           refine ⟨best.length - (k + 1), ?_, by omega⟩
           refine ⟨[], [some 0,some 1,some 2], ?_⟩
           iterate 3 constructor
           refine ⟨⟨?_, ?_, ?_⟩, ⟨k + 1, hkl, rfl, rfl, rfl, rfl⟩⟩
           all_goals (repeat' first|with_reducible exact Lz.rfl|exact Lw.rfl|exact Lz.wrap (by omega)|(unfold goInt;with_reducible exact Lz.rfl)|exact flx _|constructor)
           all_goals first | exact Lz.rfl | (refine Lz.of (bool_eq ?_); rw [hsn]; unfold inS; rw [decide_eq_false hlt]; simp)
         ·have hge : ¬ best[k].slot ≥ x.frm + (j : Nat) := hge
          ((conv=>whnf)<;>repeat(with_reducible refine D1 ?_)<;>conv=>whnf)
          refine ⟨best.length - (k + 1), ?_, by omega⟩
          refine ⟨[], [some 0,some 1,some 2], ?_⟩
          iterate 3 constructor
          refine ⟨⟨?_, ?_, ?_⟩, ⟨k + 1, hkl, rfl, rfl, rfl, rfl⟩⟩
          all_goals (repeat' first|with_reducible exact Lz.rfl|exact Lw.rfl|exact Lz.wrap (by omega)|(unfold goInt;with_reducible exact Lz.rfl)|exact flx _|constructor)
          all_goals first | exact Lz.rfl | (refine Lz.of (bool_eq ?_); rw [hsn]; unfold inS; rw [decide_eq_false hge]; rfl)
        ·have hke : k = best.length := by have := mt lenlt.2 hkl
                                          omega
         subst hke
         rw [List.take_length] at hmb
         ((conv=>whnf)<;>repeat(with_reducible refine D1 ?_)<;>conv=>whnf)
         refine ⟨[2], [], _, _, _, _, refOpen_ok { x with st := 2, nxt := x.frm + (j : Nat) } wh vt (layR best x.frm (j : Nat)) false (by simp [layR]; try omega), ⟨by ((repeat' first|with_reducible exact Lz.rfl|exact Lw.rfl|exact Lz.wrap (by omega)|(unfold goInt;with_reducible exact Lz.rfl)|exact flx _|constructor); all_goals (first | exact Lz.rfl | exact Lz.int (by first | omega | (dsimp only; omega)) | exact Lz.of (by simp [layR]))), by ((repeat' first|with_reducible exact Lz.rfl|exact Lw.rfl|exact Lz.wrap (by omega)|(unfold goInt;with_reducible exact Lz.rfl)|exact flx _|constructor); all_goals (first | exact Lz.rfl | exact Lz.int (by first | omega | (dsimp only; omega)) | exact Lz.of (by simp [layR]))), by rfl⟩, ?_⟩
         rintro r o' c' ⟨rfl, rfl, rfl⟩
         ((conv=>whnf)<;>repeat(with_reducible refine D1 ?_)<;>conv=>whnf)
         refine ⟨[2], [], ?_⟩
         iterate 3 constructor
         refine ⟨⟨?_, ?_, ?_⟩, .inr ⟨rfl, j, false, by omega, hmore, .inl hmb, rfl, rfl, rfl⟩⟩
         all_goals (repeat' first|with_reducible exact Lz.rfl|exact Lw.rfl|exact Lz.wrap (by omega)|(unfold goInt;with_reducible exact Lz.rfl)|exact flx _|constructor)
         all_goals first | exact Lz.rfl | exact Lz.int (by first | omega | (dsimp only; omega)) | exact Lz.of (by simp [layR])
     ·have hs : ¬ x.frm + (j : Nat) < 512 := hs
      ((conv=>whnf)<;>repeat(with_reducible refine D1 ?_)<;>conv=>whnf)
      refine ⟨[2], [], _, _, _, _, refOpen_ok { x with st := 2, nxt := x.frm + (j : Nat) } wh vt (layR best x.frm j) false (by simp [layR]; try omega), ⟨by ((repeat' first|with_reducible exact Lz.rfl|exact Lw.rfl|exact Lz.wrap (by omega)|(unfold goInt;with_reducible exact Lz.rfl)|exact flx _|constructor); all_goals (first | exact Lz.rfl | exact Lz.int (by first | omega | (dsimp only; omega)))), by ((repeat' first|with_reducible exact Lz.rfl|exact Lw.rfl|exact Lz.wrap (by omega)|(unfold goInt;with_reducible exact Lz.rfl)|exact flx _|constructor); all_goals (first | exact Lz.rfl | exact Lz.int (by first | omega | (dsimp only; omega)))), by rfl⟩, ?_⟩
      rintro r o' c' ⟨rfl, rfl, rfl⟩
      ((conv=>whnf)<;>repeat(with_reducible refine D1 ?_)<;>conv=>whnf)
      refine ⟨[2], [], ?_⟩
      iterate 3 constructor
      refine ⟨⟨?_, ?_, ?_⟩, .inr ⟨rfl, j, false, by omega, hmore, .inr (by omega), rfl, rfl, rfl⟩⟩
      all_goals (repeat' first|with_reducible exact Lz.rfl|exact Lw.rfl|exact Lz.wrap (by omega)|(unfold goInt;with_reducible exact Lz.rfl)|exact flx _|constructor)
      all_goals first | exact Lz.rfl | exact Lz.int (by first | omega | (dsimp only; omega))
 ·have hmem := of_decide_eq_true hmem
  have e1 : wh = who := by rw [hwh, who1, if_pos hmem]
  have e2 : vt = votes := by rw [hvt, votes1, if_pos hmem]
  subst e1; subst e2
  ((conv=>whnf)<;>repeat(with_reducible refine D1 ?_)<;>conv=>whnf)
  refine ⟨[], [], _, _, _, _, enoughR_ok wh x.masters hw5 (by omega) hm, ⟨by ((repeat' first|with_reducible exact Lz.rfl|exact Lw.rfl|exact Lz.wrap (by omega)|(unfold goInt;with_reducible exact Lz.rfl)|exact flx _|constructor); all_goals (first | exact Lz.rfl | exact Lz.of (by rw [e1, List.map_append]; rfl) | exact Lz.of (by rw [e2, List.map_append]; rfl))), by ((repeat' first|with_reducible exact Lz.rfl|exact Lw.rfl|exact Lz.wrap (by omega)|(unfold goInt;with_reducible exact Lz.rfl)|exact flx _|constructor); all_goals (first | exact Lz.rfl | exact Lz.of (by rw [e1, List.map_append]; rfl) | exact Lz.of (by rw [e2, List.map_append]; rfl))), by rfl⟩, ?_⟩
  rintro r o' c' ⟨rfl, rfl, rfl⟩
  ((conv=>whnf)<;>repeat(with_reducible refine D1 ?_)<;>conv=>whnf)
  cases he : enoughN (withN 0 wh) x.masters with
  | false =>
   ((conv=>whnf)<;>repeat(with_reducible refine D1 ?_)<;>conv=>whnf)
   refine ⟨[], [], ?_⟩
   iterate 3 constructor
   refine ⟨⟨?_, ?_, ?_⟩, .inl ⟨rfl, rfl, rfl, rfl⟩⟩
   all_goals (repeat' first|with_reducible exact Lz.rfl|exact Lw.rfl|exact Lz.wrap (by omega)|(unfold goInt;with_reducible exact Lz.rfl)|exact flx _|constructor)
   all_goals first | exact Lz.rfl | exact Lz.of (by rw [e1, List.map_append]; rfl) | exact Lz.of (by rw [e2, List.map_append]; rfl)
  | true =>
   ((conv=>whnf)<;>repeat(with_reducible refine D1 ?_)<;>conv=>whnf)
   refine ⟨[], [], _, _, _, _, rising13_ok { x with st := 2 } wh vt [] true hlen (by omega) hm, ⟨by ((repeat' first|with_reducible exact Lz.rfl|exact Lw.rfl|exact Lz.wrap (by omega)|(unfold goInt;with_reducible exact Lz.rfl)|exact flx _|constructor); all_goals (first | exact Lz.rfl | exact Lz.of (by rw [e1, List.map_append]; rfl) | exact Lz.of (by rw [e2, List.map_append]; rfl))), by ((repeat' first|with_reducible exact Lz.rfl|exact Lw.rfl|exact Lz.wrap (by omega)|(unfold goInt;with_reducible exact Lz.rfl)|exact flx _|constructor); all_goals (first | exact Lz.rfl | exact Lz.of (by rw [e1, List.map_append]; rfl) | exact Lz.of (by rw [e2, List.map_append]; rfl))), by rfl⟩, ?_⟩
   rintro r o' c' ⟨rfl, rfl, rfl⟩
   ((conv=>whnf)<;>repeat(with_reducible refine D1 ?_)<;>conv=>whnf)
   refine ⟨[], [], _, _, _, _, refBest_ok (risU wh vt x.masters.toNat 0) hR8 (fun l hl => (hR l hl).1) (fun l hl => (hR l hl).2), t3, ?_⟩
   rintro r o' c' ⟨rfl, rfl, rfl⟩
   ((conv=>whnf)<;>repeat(with_reducible refine D1 ?_)<;>conv=>whnf)
   have hbl := bestV_len hR8 (fun l hl => (hR l hl).1) (fun l hl => (hR l hl).2)
   generalize hbe : bestV (risU wh vt x.masters.toNat 0) = best at *
   refine ⟨fun k f o c => (k = (512 - x.frm).toNat ∧ c = 2 ∧ f = [(4, .ptr 0 0), (8, .ptr 1 0), (11, encVs best), (12, .s (.int .i64 x.frm))] ∧ o = obA x wh vt) ∨ ∃ j : Nat, 1 ≤ j ∧ x.frm + j ≤ 512 ∧ k = (512 - (x.frm + (j : Nat))).toNat ∧ (∀ q < j, moreV best (x.frm + (q : Int)) = true) ∧ c = 3 ∧ f = [(4, .ptr 0 0), (8, .ptr 1 0), (11, encVs best), (12, .s (.int .i64 (x.frm + (j : Nat))))] ∧ o = obB x wh vt best j, ⟨(512 - x.frm).toNat, ?_⟩, ?_⟩
   ·refine ⟨[], [some 0, some 1], ?_⟩
    iterate 3 constructor
    refine ⟨⟨?_, ?_, ?_⟩, .inl ⟨rfl, rfl, rfl, rfl⟩⟩
    all_goals (repeat' first|with_reducible exact Lz.rfl|exact Lw.rfl|exact Lz.wrap (by omega)|(unfold goInt;with_reducible exact Lz.rfl)|exact flx _|constructor)
    all_goals first | exact Lz.rfl | exact Lz.of (by rw [e1, List.map_append]; rfl) | exact Lz.of (by rw [e2, List.map_append]; rfl)
   ·rintro k f1 o1 c1 (⟨rfl, rfl, rfl, rfl⟩ | ⟨j, hj1, hj2, rfl, hmore, rfl, rfl, rfl⟩)
    ·have hmore : ∀ q : Nat, q < 0 → moreV best (x.frm + (q : Int)) = true := fun q hq => by omega
     ((conv=>whnf)<;>repeat(with_reducible refine D1 ?_)<;>conv=>whnf)
     (first|refine ⟨?_,?_⟩|refine nsplit ?_ ?_|refine bsplit ?_ ?_)<;>intro hs<;>have hz_:=True.intro<;>clear hz_
     ·have hs : x.frm < 512 := hs
      ((conv=>whnf)<;>repeat(with_reducible refine D1 ?_)<;>conv=>whnf)
      refine ⟨fun kk f o c => ∃ k : Nat, k ≤ best.length ∧ kk = best.length - k ∧ c = 2 ∧ f = [(4, .ptr 0 0), (8, .ptr 1 0), (11, encVs best), (12, .s (.int .i64 (x.frm + (0 : Nat)))), (13, .s (.bool (moreV (best.take k) (x.frm + (0 : Nat))))), (14, .s (.int .i64 k))] ∧ o = (obA x wh vt), ⟨best.length, ?_⟩, ?_⟩
      ·refine ⟨[], [some 0,some 1], ?_⟩
       iterate 3 constructor
       refine ⟨⟨?_, ?_, ?_⟩, ⟨0, Nat.zero_le _, rfl, rfl, rfl, rfl⟩⟩
       all_goals (repeat' first|with_reducible exact Lz.rfl|exact Lw.rfl|exact Lz.wrap (by omega)|(unfold goInt;with_reducible exact Lz.rfl)|exact flx _|constructor)
       all_goals first | exact Lz.rfl | exact Lz.int (by first | omega | (dsimp only; omega))
      ·rintro kk f1 o1 c1 ⟨k, hk, rfl, rfl, rfl, rfl⟩
       cases hmb : moreV (best.take k) (x.frm + (0 : Nat)) with
       | true =>
        ((conv=>whnf)<;>repeat(with_reducible refine D1 ?_)<;>conv=>whnf)
        (first|refine ⟨?_,?_⟩|refine nsplit ?_ ?_|refine bsplit ?_ ?_)<;>intro hkl<;>have hz_:=True.intro<;>clear hz_
        ·have hkl := lenlt.1 hkl
         ((conv=>whnf)<;>repeat(with_reducible refine D1 ?_)<;>conv=>whnf)
         refine ⟨best.length - (k + 1), ?_, by omega⟩
         refine ⟨[], [some 0,some 1], ?_⟩
         iterate 3 constructor
         refine ⟨⟨?_, ?_, ?_⟩, ⟨k + 1, hkl, rfl, rfl, rfl, rfl⟩⟩
         all_goals (repeat' first|with_reducible exact Lz.rfl|exact Lw.rfl|exact Lz.wrap (by omega)|(unfold goInt;with_reducible exact Lz.rfl)|exact flx _|constructor)
         all_goals first | exact Lz.rfl | (refine Lz.of (bool_eq ?_); unfold moreV at hmb ⊢; rw [List.take_succ_eq_append_getElem hkl, List.any_append, hmb]; rfl)
        ·have hke : k = best.length := by have := mt lenlt.2 hkl
                                          omega
         subst hke
         rw [List.take_length] at hmb
         ((conv=>whnf)<;>repeat(with_reducible refine D1 ?_)<;>conv=>whnf)
         refine ⟨[], [], _, _, _, _, refAt_ok best (x.frm + (0 : Nat)) (by omega), t3, ?_⟩
         rintro r o' c' ⟨rfl, rfl, rfl⟩
         ((conv=>whnf)<;>repeat(with_reducible refine D1 ?_)<;>conv=>whnf)
         refine ⟨by first | (simp [layR]; omega) | simp, ?_⟩
         ((conv=>whnf)<;>repeat(with_reducible refine D1 ?_)<;>conv=>whnf)
         refine ⟨(512 - (x.frm + ((0 + 1 : Nat) : Int))).toNat, ?_, by omega⟩
         refine ⟨[], [some 0, some 1, some 4], ?_⟩
         iterate 3 constructor
         refine ⟨⟨?_, ?_, ?_⟩, .inr ⟨0 + 1, by omega, by omega, rfl, (by intro q hq; by_cases e : q = 0; subst e; exact hmb; exact hmore q (by omega)), rfl, rfl, rfl⟩⟩
         all_goals (repeat' first|with_reducible exact Lz.rfl|exact Lw.rfl|exact Lz.wrap (by omega)|(unfold goInt;with_reducible exact Lz.rfl)|exact flx _|constructor)
         all_goals first
          | exact Lz.rfl
          | (refine Lz.int ?_; rw [IntWalk.i64_in _ (by omega)]; omega)
          | (refine Lz.of ?_; rw [layR_succ, List.map_append]; rfl)
       | false =>
        ((conv=>whnf)<;>repeat(with_reducible refine D1 ?_)<;>conv=>whnf)
        (first|refine ⟨?_,?_⟩|refine nsplit ?_ ?_|refine bsplit ?_ ?_)<;>intro hkl<;>have hz_:=True.intro<;>clear hz_
        ·have hkl := lenlt.1 hkl
         have hsn : moreV (best.take (k + 1)) (x.frm + (0 : Nat)) = inS (x.frm + (0 : Nat)) best[k] := by
          unfold moreV at hmb ⊢; rw [List.take_succ_eq_append_getElem hkl, List.any_append, hmb]; simp
         ((conv=>whnf)<;>repeat(with_reducible refine D1 ?_)<;>conv=>whnf)
         refine idxI hkl ?_
         ((conv=>whnf)<;>repeat(with_reducible refine D1 ?_)<;>conv=>whnf)
         (first|refine ⟨?_,?_⟩|refine nsplit ?_ ?_|refine bsplit ?_ ?_)<;>intro hge<;>have hz_:=True.intro<;>clear hz_
         ·have hge : best[k].slot ≥ x.frm + (0 : Nat) := hge
          ((conv=>whnf)<;>repeat(with_reducible refine D1 ?_)<;>conv=>whnf)
          refine idxI hkl ?_
          ((conv=>whnf)<;>repeat(with_reducible refine D1 ?_)<;>conv=>whnf)
          (first|refine ⟨?_,?_⟩|refine nsplit ?_ ?_|refine bsplit ?_ ?_)<;>intro hlt<;>have hz_:=True.intro<;>clear hz_
          ·have hlt : best[k].slot < 512 := hlt
           ((conv=>whnf)<;>repeat(with_reducible refine D1 ?_)<;>conv=>whnf)
           refine ⟨best.length - (k + 1), ?_, by omega⟩
           refine ⟨[], [some 0,some 1], ?_⟩
           iterate 3 constructor
           refine ⟨⟨?_, ?_, ?_⟩, ⟨k + 1, hkl, rfl, rfl, rfl, rfl⟩⟩
           all_goals (repeat' first|with_reducible exact Lz.rfl|exact Lw.rfl|exact Lz.wrap (by omega)|(unfold goInt;with_reducible exact Lz.rfl)|exact flx _|constructor)
           all_goals first | exact Lz.rfl | (refine Lz.of (bool_eq ?_); rw [hsn]; unfold inS; rw [decide_eq_true hge, decide_eq_true hlt]; rfl)
          ·have hlt : ¬ best[k].slot < 512 := hlt
           ((conv=>whnf)<;>repeat(with_reducible refine D1 ?_)<;>conv=>whnf)
           refine ⟨best.length - (k + 1), ?_, by omega⟩
           refine ⟨[], [some 0,some 1], ?_⟩
           iterate 3 constructor
           refine ⟨⟨?_, ?_, ?_⟩, ⟨k + 1, hkl, rfl, rfl, rfl, rfl⟩⟩
           all_goals (repeat' first|with_reducible exact Lz.rfl|exact Lw.rfl|exact Lz.wrap (by omega)|(unfold goInt;with_reducible exact Lz.rfl)|exact flx _|constructor)
           all_goals first | exact Lz.rfl | (refine Lz.of (bool_eq ?_); rw [hsn]; unfold inS; rw [decide_eq_false hlt]; simp)
         ·have hge : ¬ best[k].slot ≥ x.frm + (0 : Nat) := hge
          ((conv=>whnf)<;>repeat(with_reducible refine D1 ?_)<;>conv=>whnf)
          refine ⟨best.length - (k + 1), ?_, by omega⟩
          refine ⟨[], [some 0,some 1], ?_⟩
          iterate 3 constructor
          refine ⟨⟨?_, ?_, ?_⟩, ⟨k + 1, hkl, rfl, rfl, rfl, rfl⟩⟩
          all_goals (repeat' first|with_reducible exact Lz.rfl|exact Lw.rfl|exact Lz.wrap (by omega)|(unfold goInt;with_reducible exact Lz.rfl)|exact flx _|constructor)
          all_goals first | exact Lz.rfl | (refine Lz.of (bool_eq ?_); rw [hsn]; unfold inS; rw [decide_eq_false hge]; rfl)
        ·have hke : k = best.length := by have := mt lenlt.2 hkl
                                          omega
         subst hke
         rw [List.take_length] at hmb
         ((conv=>whnf)<;>repeat(with_reducible refine D1 ?_)<;>conv=>whnf)
         refine ⟨[], [], _, _, _, _, refOpen_ok { x with st := 2, nxt := x.frm + (0 : Nat) } wh vt (layR best x.frm (0 : Nat)) true (by simp [layR]; try omega), ⟨by ((repeat' first|with_reducible exact Lz.rfl|exact Lw.rfl|exact Lz.wrap (by omega)|(unfold goInt;with_reducible exact Lz.rfl)|exact flx _|constructor); all_goals (first | exact Lz.rfl | exact Lz.int (by first | omega | (dsimp only; omega)) | exact Lz.of (by simp [layR]))), by ((repeat' first|with_reducible exact Lz.rfl|exact Lw.rfl|exact Lz.wrap (by omega)|(unfold goInt;with_reducible exact Lz.rfl)|exact flx _|constructor); all_goals (first | exact Lz.rfl | exact Lz.int (by first | omega | (dsimp only; omega)) | exact Lz.of (by simp [layR]))), by rfl⟩, ?_⟩
         rintro r o' c' ⟨rfl, rfl, rfl⟩
         ((conv=>whnf)<;>repeat(with_reducible refine D1 ?_)<;>conv=>whnf)
         refine ⟨[], [], ?_⟩
         iterate 3 constructor
         refine ⟨⟨?_, ?_, ?_⟩, .inr ⟨rfl, 0, true, by omega, hmore, .inl hmb, rfl, rfl, rfl⟩⟩
         all_goals (repeat' first|with_reducible exact Lz.rfl|exact Lw.rfl|exact Lz.wrap (by omega)|(unfold goInt;with_reducible exact Lz.rfl)|exact flx _|constructor)
         all_goals first | exact Lz.rfl | exact Lz.int (by first | omega | (dsimp only; omega)) | exact Lz.of (by simp [layR])
     ·have hs : ¬ x.frm < 512 := hs
      ((conv=>whnf)<;>repeat(with_reducible refine D1 ?_)<;>conv=>whnf)
      refine ⟨[], [], _, _, _, _, refOpen_ok { x with st := 2, nxt := x.frm + (0 : Nat) } wh vt (layR best x.frm 0) true (by simp [layR]), ⟨by ((repeat' first|with_reducible exact Lz.rfl|exact Lw.rfl|exact Lz.wrap (by omega)|(unfold goInt;with_reducible exact Lz.rfl)|exact flx _|constructor); all_goals (first | exact Lz.rfl | exact Lz.int (by first | omega | (dsimp only; omega)) | exact Lz.of (by simp [layR]))), by ((repeat' first|with_reducible exact Lz.rfl|exact Lw.rfl|exact Lz.wrap (by omega)|(unfold goInt;with_reducible exact Lz.rfl)|exact flx _|constructor); all_goals (first | exact Lz.rfl | exact Lz.int (by first | omega | (dsimp only; omega)) | exact Lz.of (by simp [layR]))), by rfl⟩, ?_⟩
      rintro r o' c' ⟨rfl, rfl, rfl⟩
      ((conv=>whnf)<;>repeat(with_reducible refine D1 ?_)<;>conv=>whnf)
      refine ⟨[], [], ?_⟩
      iterate 3 constructor
      refine ⟨⟨?_, ?_, ?_⟩, .inr ⟨rfl, 0, true, by omega, fun q hq => by omega, .inr (by omega), rfl, rfl, rfl⟩⟩
      all_goals (repeat' first|with_reducible exact Lz.rfl|exact Lw.rfl|exact Lz.wrap (by omega)|(unfold goInt;with_reducible exact Lz.rfl)|exact flx _|constructor)
      all_goals first | exact Lz.rfl | exact Lz.int (by first | omega | (dsimp only; omega)) | exact Lz.of (by simp [layR])
    ·((conv=>whnf)<;>repeat(with_reducible refine D1 ?_)<;>conv=>whnf)
     (first|refine ⟨?_,?_⟩|refine nsplit ?_ ?_|refine bsplit ?_ ?_)<;>intro hs<;>have hz_:=True.intro<;>clear hz_
     ·have hs : x.frm + (j : Nat) < 512 := hs
      ((conv=>whnf)<;>repeat(with_reducible refine D1 ?_)<;>conv=>whnf)
      refine ⟨fun kk f o c => ∃ k : Nat, k ≤ best.length ∧ kk = best.length - k ∧ c = 3 ∧ f = [(4, .ptr 0 0), (8, .ptr 1 0), (11, encVs best), (12, .s (.int .i64 (x.frm + (j : Nat)))), (13, .s (.bool (moreV (best.take k) (x.frm + (j : Nat))))), (14, .s (.int .i64 k))] ∧ o = (obB x wh vt best j), ⟨best.length, ?_⟩, ?_⟩
      ·refine ⟨[], [some 0,some 1,some 2], ?_⟩
       iterate 3 constructor
       refine ⟨⟨?_, ?_, ?_⟩, ⟨0, Nat.zero_le _, rfl, rfl, rfl, rfl⟩⟩
       all_goals (repeat' first|with_reducible exact Lz.rfl|exact Lw.rfl|exact Lz.wrap (by omega)|(unfold goInt;with_reducible exact Lz.rfl)|exact flx _|constructor)
       all_goals first | exact Lz.rfl | exact Lz.int (by first | omega | (dsimp only; omega))
      ·rintro kk f1 o1 c1 ⟨k, hk, rfl, rfl, rfl, rfl⟩
       cases hmb : moreV (best.take k) (x.frm + (j : Nat)) with
       | true =>
        ((conv=>whnf)<;>repeat(with_reducible refine D1 ?_)<;>conv=>whnf)
        (first|refine ⟨?_,?_⟩|refine nsplit ?_ ?_|refine bsplit ?_ ?_)<;>intro hkl<;>have hz_:=True.intro<;>clear hz_
        ·have hkl := lenlt.1 hkl
         ((conv=>whnf)<;>repeat(with_reducible refine D1 ?_)<;>conv=>whnf)
         refine ⟨best.length - (k + 1), ?_, by omega⟩
         refine ⟨[], [some 0,some 1,some 2], ?_⟩
         iterate 3 constructor
         refine ⟨⟨?_, ?_, ?_⟩, ⟨k + 1, hkl, rfl, rfl, rfl, rfl⟩⟩
         all_goals (repeat' first|with_reducible exact Lz.rfl|exact Lw.rfl|exact Lz.wrap (by omega)|(unfold goInt;with_reducible exact Lz.rfl)|exact flx _|constructor)
         all_goals first | exact Lz.rfl | (refine Lz.of (bool_eq ?_); unfold moreV at hmb ⊢; rw [List.take_succ_eq_append_getElem hkl, List.any_append, hmb]; rfl)
        ·have hke : k = best.length := by have := mt lenlt.2 hkl
                                          omega
         subst hke
         rw [List.take_length] at hmb
         ((conv=>whnf)<;>repeat(with_reducible refine D1 ?_)<;>conv=>whnf)
         refine ⟨[], [], _, _, _, _, refAt_ok best (x.frm + (j : Nat)) (by omega), t3, ?_⟩
         rintro r o' c' ⟨rfl, rfl, rfl⟩
         ((conv=>whnf)<;>repeat(with_reducible refine D1 ?_)<;>conv=>whnf)
         refine ⟨by first | (simp [layR]; omega) | simp, ?_⟩
         ((conv=>whnf)<;>repeat(with_reducible refine D1 ?_)<;>conv=>whnf)
         refine ⟨(512 - (x.frm + ((j + 1 : Nat) : Int))).toNat, ?_, by omega⟩
         refine ⟨[], [some 0, some 1, some 5], ?_⟩
         iterate 3 constructor
         refine ⟨⟨?_, ?_, ?_⟩, .inr ⟨j + 1, by omega, by omega, rfl, (by intro q hq; by_cases e : q = j; subst e; exact hmb; exact hmore q (by omega)), rfl, rfl, rfl⟩⟩
         all_goals (repeat' first|with_reducible exact Lz.rfl|exact Lw.rfl|exact Lz.wrap (by omega)|(unfold goInt;with_reducible exact Lz.rfl)|exact flx _|constructor)
         all_goals first
          | exact Lz.rfl
          | (refine Lz.int ?_; rw [IntWalk.i64_in _ (by omega)]; omega)
          | (refine Lz.of ?_; rw [layR_succ, List.map_append]; rfl)
       | false =>
        ((conv=>whnf)<;>repeat(with_reducible refine D1 ?_)<;>conv=>whnf)
        (first|refine ⟨?_,?_⟩|refine nsplit ?_ ?_|refine bsplit ?_ ?_)<;>intro hkl<;>have hz_:=True.intro<;>clear hz_
        ·have hkl := lenlt.1 hkl
         have hsn : moreV (best.take (k + 1)) (x.frm + (j : Nat)) = inS (x.frm + (j : Nat)) best[k] := by
          unfold moreV at hmb ⊢; rw [List.take_succ_eq_append_getElem hkl, List.any_append, hmb]; simp
         ((conv=>whnf)<;>repeat(with_reducible refine D1 ?_)<;>conv=>whnf)
         refine idxI hkl ?_
         ((conv=>whnf)<;>repeat(with_reducible refine D1 ?_)<;>conv=>whnf)
         (first|refine ⟨?_,?_⟩|refine nsplit ?_ ?_|refine bsplit ?_ ?_)<;>intro hge<;>have hz_:=True.intro<;>clear hz_
         ·have hge : best[k].slot ≥ x.frm + (j : Nat) := hge
          ((conv=>whnf)<;>repeat(with_reducible refine D1 ?_)<;>conv=>whnf)
          refine idxI hkl ?_
          ((conv=>whnf)<;>repeat(with_reducible refine D1 ?_)<;>conv=>whnf)
          (first|refine ⟨?_,?_⟩|refine nsplit ?_ ?_|refine bsplit ?_ ?_)<;>intro hlt<;>have hz_:=True.intro<;>clear hz_
          ·have hlt : best[k].slot < 512 := hlt
           ((conv=>whnf)<;>repeat(with_reducible refine D1 ?_)<;>conv=>whnf)
           refine ⟨best.length - (k + 1), ?_, by omega⟩
           refine ⟨[], [some 0,some 1,some 2], ?_⟩
           iterate 3 constructor
           refine ⟨⟨?_, ?_, ?_⟩, ⟨k + 1, hkl, rfl, rfl, rfl, rfl⟩⟩
           all_goals (repeat' first|with_reducible exact Lz.rfl|exact Lw.rfl|exact Lz.wrap (by omega)|(unfold goInt;with_reducible exact Lz.rfl)|exact flx _|constructor)
           all_goals first | exact Lz.rfl | (refine Lz.of (bool_eq ?_); rw [hsn]; unfold inS; rw [decide_eq_true hge, decide_eq_true hlt]; rfl)
          ·have hlt : ¬ best[k].slot < 512 := hlt
           ((conv=>whnf)<;>repeat(with_reducible refine D1 ?_)<;>conv=>whnf)
           refine ⟨best.length - (k + 1), ?_, by omega⟩
           refine ⟨[], [some 0,some 1,some 2], ?_⟩
           iterate 3 constructor
           refine ⟨⟨?_, ?_, ?_⟩, ⟨k + 1, hkl, rfl, rfl, rfl, rfl⟩⟩
           all_goals (repeat' first|with_reducible exact Lz.rfl|exact Lw.rfl|exact Lz.wrap (by omega)|(unfold goInt;with_reducible exact Lz.rfl)|exact flx _|constructor)
           all_goals first | exact Lz.rfl | (refine Lz.of (bool_eq ?_); rw [hsn]; unfold inS; rw [decide_eq_false hlt]; simp)
         ·have hge : ¬ best[k].slot ≥ x.frm + (j : Nat) := hge
          ((conv=>whnf)<;>repeat(with_reducible refine D1 ?_)<;>conv=>whnf)
          refine ⟨best.length - (k + 1), ?_, by omega⟩
          refine ⟨[], [some 0,some 1,some 2], ?_⟩
          iterate 3 constructor
          refine ⟨⟨?_, ?_, ?_⟩, ⟨k + 1, hkl, rfl, rfl, rfl, rfl⟩⟩
          all_goals (repeat' first|with_reducible exact Lz.rfl|exact Lw.rfl|exact Lz.wrap (by omega)|(unfold goInt;with_reducible exact Lz.rfl)|exact flx _|constructor)
          all_goals first | exact Lz.rfl | (refine Lz.of (bool_eq ?_); rw [hsn]; unfold inS; rw [decide_eq_false hge]; rfl)
        ·have hke : k = best.length := by have := mt lenlt.2 hkl
                                          omega
         subst hke
         rw [List.take_length] at hmb
         ((conv=>whnf)<;>repeat(with_reducible refine D1 ?_)<;>conv=>whnf)
         refine ⟨[2], [], _, _, _, _, refOpen_ok { x with st := 2, nxt := x.frm + (j : Nat) } wh vt (layR best x.frm (j : Nat)) false (by simp [layR]; try omega), ⟨by ((repeat' first|with_reducible exact Lz.rfl|exact Lw.rfl|exact Lz.wrap (by omega)|(unfold goInt;with_reducible exact Lz.rfl)|exact flx _|constructor); all_goals (first | exact Lz.rfl | exact Lz.int (by first | omega | (dsimp only; omega)) | exact Lz.of (by simp [layR]))), by ((repeat' first|with_reducible exact Lz.rfl|exact Lw.rfl|exact Lz.wrap (by omega)|(unfold goInt;with_reducible exact Lz.rfl)|exact flx _|constructor); all_goals (first | exact Lz.rfl | exact Lz.int (by first | omega | (dsimp only; omega)) | exact Lz.of (by simp [layR]))), by rfl⟩, ?_⟩
         rintro r o' c' ⟨rfl, rfl, rfl⟩
         ((conv=>whnf)<;>repeat(with_reducible refine D1 ?_)<;>conv=>whnf)
         refine ⟨[2], [], ?_⟩
         iterate 3 constructor
         refine ⟨⟨?_, ?_, ?_⟩, .inr ⟨rfl, j, false, by omega, hmore, .inl hmb, rfl, rfl, rfl⟩⟩
         all_goals (repeat' first|with_reducible exact Lz.rfl|exact Lw.rfl|exact Lz.wrap (by omega)|(unfold goInt;with_reducible exact Lz.rfl)|exact flx _|constructor)
         all_goals first | exact Lz.rfl | exact Lz.int (by first | omega | (dsimp only; omega)) | exact Lz.of (by simp [layR])
     ·have hs : ¬ x.frm + (j : Nat) < 512 := hs
      ((conv=>whnf)<;>repeat(with_reducible refine D1 ?_)<;>conv=>whnf)
      refine ⟨[2], [], _, _, _, _, refOpen_ok { x with st := 2, nxt := x.frm + (j : Nat) } wh vt (layR best x.frm j) false (by simp [layR]; try omega), ⟨by ((repeat' first|with_reducible exact Lz.rfl|exact Lw.rfl|exact Lz.wrap (by omega)|(unfold goInt;with_reducible exact Lz.rfl)|exact flx _|constructor); all_goals (first | exact Lz.rfl | exact Lz.int (by first | omega | (dsimp only; omega)))), by ((repeat' first|with_reducible exact Lz.rfl|exact Lw.rfl|exact Lz.wrap (by omega)|(unfold goInt;with_reducible exact Lz.rfl)|exact flx _|constructor); all_goals (first | exact Lz.rfl | exact Lz.int (by first | omega | (dsimp only; omega)))), by rfl⟩, ?_⟩
      rintro r o' c' ⟨rfl, rfl, rfl⟩
      ((conv=>whnf)<;>repeat(with_reducible refine D1 ?_)<;>conv=>whnf)
      refine ⟨[2], [], ?_⟩
      iterate 3 constructor
      refine ⟨⟨?_, ?_, ?_⟩, .inr ⟨rfl, j, false, by omega, hmore, .inr (by omega), rfl, rfl, rfl⟩⟩
      all_goals (repeat' first|with_reducible exact Lz.rfl|exact Lw.rfl|exact Lz.wrap (by omega)|(unfold goInt;with_reducible exact Lz.rfl)|exact flx _|constructor)
      all_goals first | exact Lz.rfl | exact Lz.int (by first | omega | (dsimp only; omega))
end Go.M
namespace Go.M
open Go Go.Proofs
set_option maxRecDepth 100000
set_option maxHeartbeats 4000000
@[reducible] def L0S (me masters : Int) : LeadS := ⟨me, masters, 0, 0, 0, 0, [], []⟩
theorem startG_ok (x : LeadS) (above frm : Int) (ha : 0 ≤ above ∧ above ≤ 18446744073709551615) (hb : 0 ≤ x.b ∧ x.b ≤ 18446744073709551615) (hm : m5 x.me) :
 VC E0 51 3 [.ptr 0 0, .s (.int .u64 above), .s (.int .i64 frm)] (stL x) (fun r o c => r = .tup [.s (.int .u64 (startQ x above frm).1), .s (.int .i64 (startQ x above frm).2)] ∧
  (((startQ x above frm).2 ≠ 0 ∧ c = 3 ∧ o = stL x) ∨ ((startQ x above frm).2 = 0 ∧ c = 5 ∧ o = [(0, leadO (startS x.me x.masters (startQ x above frm).1 frm) 3 4), (3, cameO (startS x.me x.masters (startQ x above frm).1 frm)), (4, openO (startS x.me x.masters (startQ x above frm).1 frm))]))) := by
 refine VC.enterR L0 (show E0.func 51 = some Try.f51 by kernel_rfl) (fun _ _ => rfl) rfl rfl [] ?_
 ((conv=>whnf)<;>repeat(with_reducible refine D1 ?_)<;>conv=>whnf)
 (first|refine ⟨?_,?_⟩|refine nsplit ?_ ?_|refine bsplit ?_ ?_)<;>intro a1<;>have hz_:=True.intro<;>clear hz_
 ·have a1 : frm < 0 := a1
  have e : startQ x above frm = (0, 1) := by unfold startQ; rw [if_pos (.inl a1)]
  rw [e]
  ((conv=>whnf)<;>repeat(with_reducible refine D1 ?_)<;>conv=>whnf)
  exact ⟨[], [some 0,some 1,some 2], _, _, _, t3, rfl, .inl ⟨by decide, rfl, rfl⟩⟩
 ·have a1 : ¬ frm < 0 := a1
  ((conv=>whnf)<;>repeat(with_reducible refine D1 ?_)<;>conv=>whnf)
  (first|refine ⟨?_,?_⟩|refine nsplit ?_ ?_|refine bsplit ?_ ?_)<;>intro a2<;>have hz_:=True.intro<;>clear hz_
  ·have a2 : frm > 512 := a2
   have e : startQ x above frm = (0, 1) := by unfold startQ; rw [if_pos (.inr a2)]
   rw [e]
   ((conv=>whnf)<;>repeat(with_reducible refine D1 ?_)<;>conv=>whnf)
   exact ⟨[], [some 0,some 1,some 2], _, _, _, t3, rfl, .inl ⟨by decide, rfl, rfl⟩⟩
  ·have a2 : ¬ frm > 512 := a2
   ((conv=>whnf)<;>repeat(with_reducible refine D1 ?_)<;>conv=>whnf)
   refine ⟨[], [], _, _, _, _, next_ok (mxI above (x).b) (x).me (mxI_in ha hb) hm, ⟨by ((repeat' first|with_reducible exact Lz.rfl|exact Lw.rfl|exact Lz.wrap (by omega)|(unfold goInt;with_reducible exact Lz.rfl)|exact flx _|constructor); all_goals (exact Lz.rfl)), by ((repeat' first|with_reducible exact Lz.rfl|exact Lw.rfl|exact Lz.wrap (by omega)|(unfold goInt;with_reducible exact Lz.rfl)|exact flx _|constructor); all_goals (exact Lz.rfl)), by rfl⟩, ?_⟩
   rintro r o' c' ⟨rfl, rfl, rfl⟩
   ((conv=>whnf)<;>repeat(with_reducible refine D1 ?_)<;>conv=>whnf)
   (first|refine ⟨?_,?_⟩|refine nsplit ?_ ?_|refine bsplit ?_ ?_)<;>intro a3<;>have hz_:=True.intro<;>clear hz_
   ·have a3 : (nextS (mxI above (x).b) (x).me).2 ≠ 0 := a3
    have e : startQ x above frm = (0, (nextS (mxI above (x).b) (x).me).2) := by unfold startQ; rw [if_neg (by omega), if_pos a3]
    rw [e]
    ((conv=>whnf)<;>repeat(with_reducible refine D1 ?_)<;>conv=>whnf)
    exact ⟨[], [some 0,some 1,some 2], _, _, _, t3, rfl, .inl ⟨a3, rfl, rfl⟩⟩
   ·have a3 : (nextS (mxI above (x).b) (x).me).2 = 0 := Classical.not_not.1 a3
    have e : startQ x above frm = nextS (mxI above (x).b) (x).me := by unfold startQ; rw [if_neg (by omega), if_neg (fun h => h a3)]
    rw [e]
    ((conv=>whnf)<;>repeat(with_reducible refine D1 ?_)<;>conv=>whnf)
    refine ⟨[], [some 0,some 1,some 2,some 3,some 4], ?_⟩
    iterate 3 constructor
    refine ⟨⟨?_, ?_, ?_⟩, rfl, .inr ⟨a3, rfl, rfl⟩⟩
    all_goals (repeat' first|with_reducible exact Lz.rfl|exact Lw.rfl|exact Lz.wrap (by omega)|(unfold goInt;with_reducible exact Lz.rfl)|exact flx _|constructor)
    all_goals first | exact Lz.rfl | exact Lz.int a3.symm
theorem start0G_ok (me masters : Int) (above frm : Int) (ha : 0 ≤ above ∧ above ≤ 18446744073709551615) (hm : m5 me) :
 VC E0 51 1 [.ptr 0 0, .s (.int .u64 above), .s (.int .i64 frm)] [(0, lead0 me masters)] (fun r o c => r = .tup [.s (.int .u64 (startQ (L0S me masters) above frm).1), .s (.int .i64 (startQ (L0S me masters) above frm).2)] ∧
  (((startQ (L0S me masters) above frm).2 ≠ 0 ∧ c = 1 ∧ o = [(0, lead0 me masters)]) ∨ ((startQ (L0S me masters) above frm).2 = 0 ∧ c = 3 ∧ o = stL (startS me masters (startQ (L0S me masters) above frm).1 frm)))) := by
 have hb : 0 ≤ (L0S me masters).b ∧ (L0S me masters).b ≤ 18446744073709551615 := by simp
 refine VC.enterR L0 (show E0.func 51 = some Try.f51 by kernel_rfl) (fun _ _ => rfl) rfl rfl [] ?_
 ((conv=>whnf)<;>repeat(with_reducible refine D1 ?_)<;>conv=>whnf)
 (first|refine ⟨?_,?_⟩|refine nsplit ?_ ?_|refine bsplit ?_ ?_)<;>intro a1<;>have hz_:=True.intro<;>clear hz_
 ·have a1 : frm < 0 := a1
  have e : startQ (L0S me masters) above frm = (0, 1) := by unfold startQ; rw [if_pos (.inl a1)]
  rw [e]
  ((conv=>whnf)<;>repeat(with_reducible refine D1 ?_)<;>conv=>whnf)
  exact ⟨[], [some 0], _, _, _, t3, rfl, .inl ⟨by decide, rfl, rfl⟩⟩
 ·have a1 : ¬ frm < 0 := a1
  ((conv=>whnf)<;>repeat(with_reducible refine D1 ?_)<;>conv=>whnf)
  (first|refine ⟨?_,?_⟩|refine nsplit ?_ ?_|refine bsplit ?_ ?_)<;>intro a2<;>have hz_:=True.intro<;>clear hz_
  ·have a2 : frm > 512 := a2
   have e : startQ (L0S me masters) above frm = (0, 1) := by unfold startQ; rw [if_pos (.inr a2)]
   rw [e]
   ((conv=>whnf)<;>repeat(with_reducible refine D1 ?_)<;>conv=>whnf)
   exact ⟨[], [some 0], _, _, _, t3, rfl, .inl ⟨by decide, rfl, rfl⟩⟩
  ·have a2 : ¬ frm > 512 := a2
   ((conv=>whnf)<;>repeat(with_reducible refine D1 ?_)<;>conv=>whnf)
   refine ⟨[], [], _, _, _, _, next_ok (mxI above ((L0S me masters)).b) ((L0S me masters)).me (mxI_in ha hb) hm, ⟨by ((repeat' first|with_reducible exact Lz.rfl|exact Lw.rfl|exact Lz.wrap (by omega)|(unfold goInt;with_reducible exact Lz.rfl)|exact flx _|constructor); all_goals (exact Lz.rfl)), by ((repeat' first|with_reducible exact Lz.rfl|exact Lw.rfl|exact Lz.wrap (by omega)|(unfold goInt;with_reducible exact Lz.rfl)|exact flx _|constructor); all_goals (exact Lz.rfl)), by rfl⟩, ?_⟩
   rintro r o' c' ⟨rfl, rfl, rfl⟩
   ((conv=>whnf)<;>repeat(with_reducible refine D1 ?_)<;>conv=>whnf)
   (first|refine ⟨?_,?_⟩|refine nsplit ?_ ?_|refine bsplit ?_ ?_)<;>intro a3<;>have hz_:=True.intro<;>clear hz_
   ·have a3 : (nextS (mxI above ((L0S me masters)).b) ((L0S me masters)).me).2 ≠ 0 := a3
    have e : startQ (L0S me masters) above frm = (0, (nextS (mxI above ((L0S me masters)).b) ((L0S me masters)).me).2) := by unfold startQ; rw [if_neg (by omega), if_pos a3]
    rw [e]
    ((conv=>whnf)<;>repeat(with_reducible refine D1 ?_)<;>conv=>whnf)
    exact ⟨[], [some 0], _, _, _, t3, rfl, .inl ⟨a3, rfl, rfl⟩⟩
   ·have a3 : (nextS (mxI above ((L0S me masters)).b) ((L0S me masters)).me).2 = 0 := Classical.not_not.1 a3
    have e : startQ (L0S me masters) above frm = nextS (mxI above ((L0S me masters)).b) ((L0S me masters)).me := by unfold startQ; rw [if_neg (by omega), if_neg (fun h => h a3)]
    rw [e]
    ((conv=>whnf)<;>repeat(with_reducible refine D1 ?_)<;>conv=>whnf)
    refine ⟨[], [some 0,some 1,some 2], ?_⟩
    iterate 3 constructor
    refine ⟨⟨?_, ?_, ?_⟩, rfl, .inr ⟨a3, rfl, rfl⟩⟩
    all_goals (repeat' first|with_reducible exact Lz.rfl|exact Lw.rfl|exact Lz.wrap (by omega)|(unfold goInt;with_reducible exact Lz.rfl)|exact flx _|constructor)
    all_goals first | exact Lz.rfl | exact Lz.int a3.symm
theorem is0_ok (me masters s b : Int) (hs : s ≠ 0) : VC E0 89 1 [.ptr 0 0, .s (.int .i64 s), .s (.int .u64 b)] [(0, lead0 me masters)] (RR (.s (.bool false)) 1 [(0, lead0 me masters)]) := by
 refine VC.enterR L0 (show E0.func 89 = some Try.f89 by kernel_rfl) (fun _ _ => rfl) rfl rfl [] ?_
 ((conv=>whnf)<;>repeat(with_reducible refine D1 ?_)<;>conv=>whnf)
 (first|refine ⟨?_,?_⟩|refine nsplit ?_ ?_|refine bsplit ?_ ?_)<;>intro h<;>have hz_:=True.intro<;>clear hz_
 ·have h : 0 = s := h
  exact absurd h.symm hs
 ·((conv=>whnf)<;>repeat(with_reducible refine D1 ?_)<;>conv=>whnf)
  exact ⟨[], [some 0], _, _, _, t3, rfl, rfl, rfl⟩
theorem promise0_ok (me masters b w : Int) (vs : List Vote) : VC E0 52 1 [.ptr 0 0, .s (.int .u64 b), .s (.int .i64 w), encVs vs] [(0, lead0 me masters)] (RR (.tup [encVs [], .s (.bool false)]) 1 [(0, lead0 me masters)]) := by
 refine VC.enterR L0 (show E0.func 52 = some Try.f52 by kernel_rfl) (fun _ _ => rfl) rfl rfl [] ?_
 ((conv=>whnf)<;>repeat(with_reducible refine D1 ?_)<;>conv=>whnf)
 refine ⟨[], [some 0], _, _, _, _, is0_ok me masters 1 b (by decide), t3, ?_⟩
 rintro r o' c' ⟨rfl, rfl, rfl⟩
 ((conv=>whnf)<;>repeat(with_reducible refine D1 ?_)<;>conv=>whnf)
 exact ⟨[], [some 0], _, _, _, t3, rfl, rfl, rfl⟩
theorem accepted0_ok (me masters b s w : Int) : VC E0 55 1 [.ptr 0 0, .s (.int .u64 b), .s (.int .i64 s), .s (.int .i64 w)] [(0, lead0 me masters)] (RR (.tup [.agg (encV noVote), .s (.bool false)]) 1 [(0, lead0 me masters)]) := by
 refine VC.enterR L0 (show E0.func 55 = some Try.f55 by kernel_rfl) (fun _ _ => rfl) rfl rfl [] ?_
 ((conv=>whnf)<;>repeat(with_reducible refine D1 ?_)<;>conv=>whnf)
 refine ⟨[], [some 0], _, _, _, _, is0_ok me masters 2 b (by decide), t3, ?_⟩
 rintro r o' c' ⟨rfl, rfl, rfl⟩
 ((conv=>whnf)<;>repeat(with_reducible refine D1 ?_)<;>conv=>whnf)
 exact ⟨[], [some 0], _, _, _, t3, rfl, rfl, rfl⟩
theorem propose0_ok (me masters : Int) (c : Cmd) : VC E0 54 1 [.ptr 0 0, cT4 c] [(0, lead0 me masters)] (RR (.tup [.agg (encV noVote), .s (.int .i64 12)]) 1 [(0, lead0 me masters)]) := by
 refine VC.enterR L0 (show E0.func 54 = some Try.f54 by kernel_rfl) (fun _ _ => rfl) rfl rfl [] ?_
 ((conv=>whnf)<;>repeat(with_reducible refine D1 ?_)<;>conv=>whnf)
 ((first | (refine ⟨fun h_ => ?_, fun h_ => ?_⟩) | (refine nsplit (fun h_ => ?_) (fun h_ => ?_)) | (refine bsplit (fun h_ => ?_) (fun h_ => ?_))) <;> first | (exfalso; revert h_; decide; done) | (exact absurd rfl h_) | (have hz_ := True.intro; clear hz_; ((conv=>whnf)<;>repeat(with_reducible refine D1 ?_)<;>conv=>whnf)))
 exact ⟨[], [some 0], _, _, _, t3, rfl, rfl, rfl⟩
theorem refuse0_ok (me masters b : Int) : VC E0 108 1 [.ptr 0 0, .s (.int .u64 b)] [(0, lead0 me masters)] (RR (.s (.bool false)) 1 [(0, lead0 me masters)]) := by
 refine VC.enterR L0 (show E0.func 108 = some Try.f108 by kernel_rfl) (fun _ _ => rfl) rfl rfl [] ?_
 ((conv=>whnf)<;>repeat(with_reducible refine D1 ?_)<;>conv=>whnf)
 ((first | (refine ⟨fun h_ => ?_, fun h_ => ?_⟩) | (refine nsplit (fun h_ => ?_) (fun h_ => ?_)) | (refine bsplit (fun h_ => ?_) (fun h_ => ?_))) <;> first | (exfalso; revert h_; decide; done) | (exact absurd rfl h_) | (have hz_ := True.intro; clear hz_; ((conv=>whnf)<;>repeat(with_reducible refine D1 ?_)<;>conv=>whnf)))
 exact ⟨[], [some 0], _, _, _, t3, rfl, rfl, rfl⟩
theorem state0_ok (me masters : Int) : VC E0 58 1 [.ptr 0 0] [(0, lead0 me masters)] (RR (.s (.int .i64 0)) 1 [(0, lead0 me masters)]) := by
 refine VC.enterR L0 (show E0.func 58 = some Try.f58 by kernel_rfl) (fun _ _ => rfl) rfl rfl [] ?_
 ((conv=>whnf)<;>repeat(with_reducible refine D1 ?_)<;>conv=>whnf)
 exact ⟨[], [some 0], _, _, _, t3, rfl, rfl, rfl⟩
theorem ballot0_ok (me masters : Int) : VC E0 59 1 [.ptr 0 0] [(0, lead0 me masters)] (RR (.s (.int .u64 0)) 1 [(0, lead0 me masters)]) := by
 refine VC.enterR L0 (show E0.func 59 = some Try.f59 by kernel_rfl) (fun _ _ => rfl) rfl rfl [] ?_
 ((conv=>whnf)<;>repeat(with_reducible refine D1 ?_)<;>conv=>whnf)
 exact ⟨[], [some 0], _, _, _, t3, rfl, rfl, rfl⟩
theorem from0_ok (me masters : Int) : VC E0 60 1 [.ptr 0 0] [(0, lead0 me masters)] (RR (.s (.int .i64 0)) 1 [(0, lead0 me masters)]) := by
 refine VC.enterR L0 (show E0.func 60 = some Try.f60 by kernel_rfl) (fun _ _ => rfl) rfl rfl [] ?_
 ((conv=>whnf)<;>repeat(with_reducible refine D1 ?_)<;>conv=>whnf)
 exact ⟨[], [some 0], _, _, _, t3, rfl, rfl, rfl⟩
theorem next0_ok (me masters : Int) : VC E0 53 1 [.ptr 0 0] [(0, lead0 me masters)] (RR (.s (.int .i64 0)) 1 [(0, lead0 me masters)]) := by
 refine VC.enterR L0 (show E0.func 53 = some Try.f53 by kernel_rfl) (fun _ _ => rfl) rfl rfl [] ?_
 ((conv=>whnf)<;>repeat(with_reducible refine D1 ?_)<;>conv=>whnf)
 exact ⟨[], [some 0], _, _, _, t3, rfl, rfl, rfl⟩
theorem keysP0_ok : VC E0 102 0 [.s (.map none)] [] (fun r o c => r = .clo 134 [] [.ptr 0 0] ∧ c = 1 ∧ o = [(0, .cells [.s (.map none)])]) := by
 refine VC.enterR L0 (show E0.func 102 = some Try.f102 by kernel_rfl) (fun _ _ => rfl) rfl rfl [] ?_
 ((conv=>whnf)<;>repeat(with_reducible refine D1 ?_)<;>conv=>whnf)
 exact ⟨[], [some 0], _, _, _, t3, rfl, rfl, rfl⟩
theorem sorted0_ok : VC E0 101 1 [.clo 134 [] [.ptr 0 0]] [(0, .cells [.s (.map none)])] (fun r o c => r = .sl 0 [] true ∧ c = 1 ∧ o = [(0, .cells [.s (.map none)])]) :=
 VC.sortedNil (E := E0) (g := 101) (its := [123, 134, 127]) hasSorted (fun _ _ => rfl) rfl
theorem open0_ok (me masters : Int) : VC E0 56 1 [.ptr 0 0] [(0, lead0 me masters)] (RR (encVs []) 1 [(0, lead0 me masters)]) := by
 refine VC.enterR L0 (show E0.func 56 = some Try.f56 by kernel_rfl) (fun _ _ => rfl) rfl rfl [] ?_
 ((conv=>whnf)<;>repeat(with_reducible refine D1 ?_)<;>conv=>whnf)
 refine ⟨[], [], _, _, _, _, keysP0_ok, t3, ?_⟩
 rintro r o' c' ⟨rfl, rfl, rfl⟩
 ((conv=>whnf)<;>repeat(with_reducible refine D1 ?_)<;>conv=>whnf)
 refine ⟨[], [some 1], _, _, _, _, sorted0_ok, t3, ?_⟩
 rintro r o' c' ⟨rfl, rfl, rfl⟩
 ((conv=>whnf)<;>repeat(with_reducible refine D1 ?_)<;>conv=>whnf)
 refine ⟨fun k f o c => k = 0 ∧ c = 1 ∧ f = [(0, .ptr 0 0), (3, .sl 0 [] true), (14, .s (.int .i64 0)), (15, .s (.int .i64 0))] ∧ o = [(0, lead0 me masters)], ⟨0, ?_⟩, ?_⟩
 ·exact ⟨[], [some 0], _, _, _, t3, ⟨rfl, rfl, rfl, rfl⟩⟩
 ·rintro k f1 o1 c1 ⟨rfl, rfl, rfl, rfl⟩
  ((conv=>whnf)<;>repeat(with_reducible refine D1 ?_)<;>conv=>whnf)
  ((first | (refine ⟨fun h_ => ?_, fun h_ => ?_⟩) | (refine nsplit (fun h_ => ?_) (fun h_ => ?_)) | (refine bsplit (fun h_ => ?_) (fun h_ => ?_))) <;> first | (exfalso; revert h_; decide; done) | (exact absurd rfl h_) | (have hz_ := True.intro; clear hz_; ((conv=>whnf)<;>repeat(with_reducible refine D1 ?_)<;>conv=>whnf)))
  exact ⟨[], [some 0], _, _, _, t3, rfl, rfl, rfl⟩
end Go.M
namespace Go.M
open Go Go.Proofs
theorem lookE_put {n m : Int} {v : Vote} : ∀ {es : List (Int × Vote)}, lookE (putE es n v) m = if m = n then some v else lookE es m
 | [] => by simp [putE, lookE]
 | e :: es => by
  have ih := lookE_put (n := n) (m := m) (v := v) (es := es)
  unfold putE
  by_cases he : n = e.1
  ·simp only [he, if_true, lookE]
   by_cases hm : m = e.1 <;> simp [hm]
  ·simp only [he, if_false, lookE, ih]
   by_cases hm : m = e.1
   ·rw [if_pos hm, if_pos hm, if_neg]; rintro rfl; exact he hm
   ·rw [if_neg hm, if_neg hm]
def better (o : Option Vote) (v : Vote) : Option Vote := match o with
 | none => some v
 | some w => if v.ballot > w.ballot then some v else some w
theorem lookE_best1 {es : List (Int × Vote)} {v : Vote} {n : Int} : lookE (bestE1 es v) n = if n = v.slot then better (lookE es n) v else lookE es n := by
 unfold bestE1
 by_cases hn : n = v.slot
 ·subst hn
  rw [if_pos rfl]
  cases h : lookE es v.slot with
  | none => simp [lookE_put, better]
  | some w =>
   simp only [better]
   split
   ·simp [lookE_put]
   ·exact h
 ·rw [if_neg hn]
  split
  ·rw [lookE_put, if_neg hn]
  ·split
   ·rw [lookE_put, if_neg hn]
   ·rfl
def okS (frm n : Int) : Prop := frm ≤ n ∧ n < 512
instance (a b : Int) : Decidable (okS a b) := inferInstanceAs (Decidable (_ ∧ _))
theorem good_iff {frm : Int} {v : Vote} : (!(badV frm v)) = true ↔ okS frm v.slot := by
 unfold badV okS; simp
theorem snoc_ind {α : Type} {P : List α → Prop} (h0 : P []) (h1 : ∀ l a, P l → P (l ++ [a])) (l : List α) : P l := by
 have : ∀ l : List α, P l.reverse := by
  intro l
  induction l with
  | nil => exact h0
  | cons a l ih => rw [List.reverse_cons]; exact h1 _ _ ih
 have := this l.reverse
 rwa [List.reverse_reverse] at this
theorem bestE_filter (frm : Int) (l : List Vote) (n : Int) : lookE (bestE (delV frm l)) n = if okS frm n then lookE (bestE l) n else none := by
 induction l using snoc_ind with
 | h0 => simp [delV, bestE, lookE]
 | h1 l v ih =>
  have e : delV frm (l ++ [v]) = delV frm l ++ (if (!(badV frm v)) = true then [v] else []) := by
   unfold delV
   rw [List.filter_append]
   congr 1
   by_cases hb : (!(badV frm v)) = true <;> simp [hb]
  rw [e, bestE_snoc, lookE_best1]
  by_cases hb : (!(badV frm v)) = true
  ·rw [if_pos hb, bestE_snoc, lookE_best1, ih]
   have := good_iff.1 hb
   by_cases hn : n = v.slot
   ·subst hn; simp [this]
   ·simp [hn]
  ·rw [if_neg hb, List.append_nil, ih]
   have := mt good_iff.2 hb
   by_cases hn : n = v.slot
   ·subst hn; simp [this]
   ·simp [hn]
theorem mem_bestV {l : List (List Vote)} (hl : ∀ x ∈ l, ∀ v ∈ x, inI v.slot) {v : Vote} : v ∈ bestV l ↔ lookE (bestE l.flatten) v.slot = some v := by
 have hk := (bestE_kb (l := l.flatten) (fun v hv => by obtain ⟨x, hx, hv⟩ := List.mem_flatten.1 hv; exact hl x hx v hv)).1
 unfold bestV
 rw [mem_allV hk.mv, lookE_some hk.mv.nd]
theorem bestV_SS {l : List (List Vote)} (hl : ∀ x ∈ l, ∀ v ∈ x, inI v.slot) : SS (bestV l) :=
 allV_SS (bestE_kb (l := l.flatten) (fun v hv => by obtain ⟨x, hx, hv⟩ := List.mem_flatten.1 hv; exact hl x hx v hv)).1.mv
theorem bestV_del {frm : Int} {l : List (List Vote)} (hl : ∀ x ∈ l, ∀ v ∈ x, inI v.slot) : bestV (l.map (delV frm)) = delV frm (bestV l) := by
 have hl' : ∀ x ∈ l.map (delV frm), ∀ v ∈ x, inI v.slot := by
  intro x hx v hv
  obtain ⟨y, hy, rfl⟩ := List.mem_map.1 hx
  exact hl y hy v (List.mem_filter.1 hv).1
 refine SS.ext (bestV_SS hl') ((bestV_SS hl).filter _) fun v => ?_
 have ef : (l.map (delV frm)).flatten = delV frm l.flatten := by unfold delV; rw [List.filter_flatten]
 rw [mem_bestV hl', ef, bestE_filter]
 show _ ↔ v ∈ (bestV l).filter _
 rw [List.mem_filter, mem_bestV hl, good_iff]
 by_cases h : okS frm v.slot <;> simp [h]
theorem moreV_del {frm s : Int} (hs : frm ≤ s) (B : List Vote) : moreV (delV frm B) s = moreV B s := by
 unfold moreV delV
 rw [List.any_filter, Bool.eq_iff_iff, List.any_eq_true, List.any_eq_true]
 constructor
 ·rintro ⟨v, hv, h⟩
  rw [Bool.and_eq_true] at h
  exact ⟨v, hv, h.2⟩
 ·rintro ⟨v, hv, h⟩
  refine ⟨v, hv, ?_⟩
  rw [Bool.and_eq_true]
  refine ⟨good_iff.2 ?_, h⟩
  unfold inS at h
  rw [Bool.and_eq_true, decide_eq_true_iff, decide_eq_true_iff] at h
  exact ⟨Int.le_trans hs h.1, h.2⟩
theorem atS_del {frm s : Int} (hs : okS frm s) {B : List Vote} (hB : SS B) : atS (delV frm B) s = atS B s := by
 refine opt_eq fun v => ?_
 unfold delV
 rw [atS_some (hB.filter _), atS_some hB]
 rw [List.mem_filter, good_iff]
 constructor
 ·rintro ⟨⟨h1, _⟩, h2⟩; exact ⟨h1, h2⟩
 ·rintro ⟨h1, h2⟩; exact ⟨⟨h1, by rw [h2]; exact hs⟩, h2⟩
def layO (p : Prp) : Int × Cmd × Nat := (p.1, p.2.1, withN 0 p.2.2)
theorem layN_opn {x : LeadS} (h : OpnOk x) (hn : 0 ≤ x.nxt) : ∀ m : Nat, (layN x m).opn = x.opn ++ (List.range m).map fun (k : Nat) => (x.nxt + k, noCmd, 0)
 | 0 => by simp [layN]
 | m + 1 => by
  have ih := layN_opn h hn m
  have ho := h.layN hn m
  have hx := layN_nxt x m
  have : (layN x m).nxt ∉ keysA (layN x m).opn := fun hm => by have := ho.rng _ hm; omega
  show putA (layN x m).opn (layN x m).nxt (noCmd, 0) = _
  rw [putA_new this, ih, hx, List.range_succ, List.map_append, List.append_assoc]
  rfl
theorem layN_rest (x : LeadS) : ∀ m, layN x m = { x with opn := (layN x m).opn, nxt := (layN x m).nxt }
 | 0 => rfl
 | m + 1 => by
  have := layN_rest x m
  show layS (layN x m) noCmd = _
  rw [this]; rfl
theorem fill_lays : ∀ (B : List Vote) (y : LeadS), SS B → (∀ v ∈ B, y.nxt ≤ v.slot ∧ v.slot < 512) → OpnOk y → 0 ≤ y.nxt → y.nxt ≤ 512 →
 ∃ j : Nat, fillL y B = { y with opn := y.opn ++ (layR B y.nxt j).map layO, nxt := y.nxt + j } ∧ y.nxt + j ≤ 512 ∧ (∀ k : Nat, k < j → moreV B (y.nxt + k) = true) ∧ moreV B (y.nxt + j) = false
 | [], y, _, _, _, _, h512 => ⟨0, by simp [fillL, layR], by simpa using h512, by simp, by simp [moreV]⟩
 | v :: B, y, hS, hv, ho, h0, h512 => by
  obtain ⟨hv1, hv2⟩ := hv v List.mem_cons_self
  obtain ⟨hS1, hS2⟩ := List.pairwise_cons.1 hS
  obtain ⟨d, hd⟩ : ∃ d : Nat, d = (v.slot - y.nxt).toNat := ⟨_, rfl⟩
  have hup : layUp y v.slot = layN y d := by rw [hd]; rfl
  have hdn := layN_nxt y d
  have hdo := ho.layN h0 d
  have hvs : v.slot = y.nxt + d := by omega
  have hy2o := hdo.lay (by omega) (cmdOf v)
  have hy2n : (layS (layN y d) (cmdOf v)).nxt = v.slot + 1 := by show (layN y d).nxt + 1 = _; omega
  have hopn2 : (layS (layN y d) (cmdOf v)).opn = y.opn ++ ((List.range d).map fun (k : Nat) => (y.nxt + k, noCmd, 0)) ++ [(v.slot, cmdOf v, 0)] := by
   have hni : (layN y d).nxt ∉ keysA (layN y d).opn := fun hm => by have := hdo.rng _ hm; omega
   show putA (layN y d).opn (layN y d).nxt (cmdOf v, 0) = _
   rw [putA_new hni, layN_opn ho h0, hdn, ← hvs]
  obtain ⟨j, e1, e2, e3, e4⟩ := fill_lays B (layS (layN y d) (cmdOf v)) hS2 (fun u hu => by
   have := hS1 u hu; have := hv u (List.mem_cons_of_mem _ hu); rw [hy2n]; omega) hy2o (by omega) (by omega)
  have hmo : ∀ s : Int, v.slot < s → moreV (v :: B) s = moreV B s := fun s hs => by
   unfold moreV
   rw [List.any_cons]
   have : inS s v = false := by unfold inS; rw [decide_eq_false (by omega)]; rfl
   rw [this, Bool.false_or]
  have hmt : ∀ s : Int, s ≤ v.slot → moreV (v :: B) s = true := fun s hs => by
   unfold moreV
   rw [List.any_cons]
   have : inS s v = true := by unfold inS; rw [decide_eq_true hs, decide_eq_true hv2]; rfl
   rw [this, Bool.true_or]
  have hat : ∀ s : Int, s ≠ v.slot → atS (v :: B) s = atS B s := fun s hs => by
   unfold atS
   rw [List.find?_cons]
   have : (v.slot == s) = false := by simp; omega
   rw [this]
  have hat0 : ∀ s : Int, s < v.slot → atS (v :: B) s = none := fun s hs => by
   unfold atS
   rw [List.find?_eq_none]
   intro u hu
   rcases List.mem_cons.1 hu with rfl | hu
   ·simp; omega
   ·have := hS1 u hu; simp; omega
  have hatv : atS (v :: B) v.slot = some v := by unfold atS; rw [List.find?_cons]; simp
  rw [hy2n] at e1 e2 e3 e4
  refine ⟨d + 1 + j, ?_, by omega, fun k hk => ?_, ?_⟩
  ·have ef : fillL y (v :: B) = fillL (layS (layN y d) (cmdOf v)) B := by rw [← hup]; simp [fillL]
   rw [ef, e1, hopn2]
   have hr := layN_rest y d
   have hL : layR (v :: B) y.nxt (d + 1 + j) = ((List.range d).map fun (k : Nat) => (y.nxt + k, noCmd, [])) ++ [(v.slot, cmdOf v, [])] ++ layR B (v.slot + 1) j := by
    unfold layR
    rw [List.range_add, List.map_append, List.range_succ, List.map_append, List.map_map]
    refine congr (congrArg _ (congr (congrArg _ ?_) ?_)) ?_
    ·refine List.map_congr_left fun k hk => ?_
     have := List.mem_range.1 hk
     unfold layP
     rw [hat0 _ (by omega)]; rfl
    ·simp only [List.map_cons, List.map_nil, layP]
     rw [← hvs, hatv]; rfl
    ·refine List.map_congr_left fun k _ => ?_
     show layP (v :: B) (y.nxt + ((d + 1 + k : Nat) : Int)) = _
     unfold layP
     have : y.nxt + ((d + 1 + k : Nat) : Int) = v.slot + 1 + k := by omega
     rw [this, hat _ (by omega)]
   rw [hL]
   show ({ layS (layN y d) (cmdOf v) with opn := _, nxt := _ } : LeadS) = _
   rw [hr]
   have hnx : v.slot + 1 + (j : Int) = y.nxt + ((d + 1 + j : Nat) : Int) := by omega
   simp only [layS, List.map_append, List.map_map, List.append_assoc, hnx]
   rfl
  ·by_cases hkd : k ≤ d
   ·exact hmt _ (by omega)
   ·have := e3 (k - d - 1) (by omega)
    rw [hmo _ (by omega)]
    rw [show y.nxt + (k : Int) = v.slot + 1 + ((k - d - 1 : Nat) : Int) by omega]
    exact this
  ·rw [hmo _ (by omega), show y.nxt + ((d + 1 + j : Nat) : Int) = v.slot + 1 + (j : Int) by omega]
   exact e4
end Go.M
namespace Go.M
open Go Go.Proofs
set_option maxRecDepth 100000
structure RelL (x : LeadS) (who : List Int) (votes : List (List Vote)) (L : List Prp) (fl : Bool) : Prop where
 mm : m5 x.masters
 me : 1 ≤ x.me ∧ x.me ≤ x.masters
 b : 0 ≤ x.b ∧ x.b ≤ 18446744073709551615
 frm : 0 ≤ x.frm ∧ x.frm ≤ 512
 nxt : x.frm ≤ x.nxt ∧ x.nxt ≤ 512
 cm : CameOk x
 op : OpnOk x
 wk : who = keysA x.came
 vl : votes.length = who.length
 whoM : ∀ w ∈ who, 1 ≤ w ∧ w ≤ x.masters
 cz : x.came = (who.zip votes).map fun p => (p.1, delV x.frm p.2)
 v40 : ∀ l ∈ votes, l.length ≤ 40 ∧ ∀ v ∈ l, inI v.slot
 ol : x.opn = L.map layO
 ris : (keysA x.opn).Pairwise (· < ·)
 wl : ∀ p ∈ L, (∀ y ∈ p.2.2, m5 y) ∧ p.2.2.Nodup
 s1 : x.st = 1 → x.nxt = x.frm ∧ L = [] ∧ fl = true
theorem sortZ_id {l : List Int} (h : l.Pairwise (· < ·)) : sortZ l = l := by
 unfold sortZ
 refine List.mergeSort_of_pairwise (h.imp fun {a b} hab => ?_)
 exact decide_eq_true (Int.le_of_lt hab)
theorem layO_keys (L : List Prp) : keysA (L.map layO) = L.map (·.1) := by simp [keysA, layO, Function.comp_def]
theorem RelL.look {x : LeadS} {who : List Int} {votes : List (List Vote)} {L : List Prp} {fl : Bool} (h : RelL x who votes L fl) {p : Prp} (hp : p ∈ L) : lookA x.opn p.1 = some (p.2.1, withN 0 p.2.2) := by
 rw [lookA_some h.op.nd, h.ol]
 exact List.mem_map.2 ⟨p, hp, rfl⟩
theorem RelL.shows {x : LeadS} {who : List Int} {votes : List (List Vote)} {L : List Prp} {fl : Bool} (h : RelL x who votes L fl) : openV x = L.map (voteR x.b) := by
 unfold openV
 rw [sortZ_id h.ris]
 have : keysA x.opn = L.map (·.1) := by rw [h.ol, layO_keys]
 rw [this, List.map_map]
 refine List.map_congr_left fun p hp => ?_
 show voteS x p.1 = voteR x.b p
 unfold voteS voteR
 rw [h.look hp]; rfl
theorem RelL.has {x : LeadS} {who : List Int} {votes : List (List Vote)} {L : List Prp} {fl : Bool} (h : RelL x who votes L fl) (c : Cmd) : (c.kind ≠ 0 ∧ hasCmd c (openV x) = true) ↔ hasR c L = true := by
 unfold hasR hasCmd
 rw [h.shows, Bool.and_eq_true, decide_eq_true_iff, List.any_map]
 rfl
theorem RelL.len {x : LeadS} {who : List Int} {votes : List (List Vote)} {L : List Prp} {fl : Bool} (h : RelL x who votes L fl) : x.opn.length = L.length := by rw [h.ol, List.length_map]
theorem rel_propose {x : LeadS} {who : List Int} {votes : List (List Vote)} {L : List Prp} {fl fl' : Bool} (h : RelL x who votes L fl) (c : Cmd) (hfl : x.st ≠ 2 → fl' = fl) :
 (proposeS x c).2.1 = (proposeR x L c).2.2.1 ∧ (proposeS x c).2.2 = (proposeR x L c).2.2.2 ∧ (refL (proposeR x L c).1 who votes (proposeR x L c).2.1 fl' = refL (proposeS x c).1 who votes (proposeR x L c).2.1 fl') ∧ RelL (proposeS x c).1 who votes (proposeR x L c).2.1 fl' := by
 have keep : RelL x who votes L fl' := { h with s1 := fun e => by obtain ⟨a, b, d⟩ := h.s1 e; exact ⟨a, b, (hfl (by rw [e]; decide)).trans d⟩ }
 unfold proposeS proposeR
 by_cases h1 : x.st ≠ 2
 ·rw [if_pos h1, if_pos h1]; exact ⟨rfl, rfl, rfl, keep⟩
 rw [if_neg h1, if_neg h1]
 by_cases h2 : c.check ≠ 0
 ·rw [if_pos h2, if_pos h2]; exact ⟨rfl, rfl, rfl, keep⟩
 rw [if_neg h2, if_neg h2]
 by_cases h3 : hasR c L = true
 ·rw [if_pos ((h.has c).2 h3), if_pos h3]; exact ⟨rfl, rfl, rfl, keep⟩
 rw [if_neg (mt (h.has c).1 h3), if_neg h3]
 by_cases h4 : L.length ≥ 8 ∨ x.nxt = 512
 ·rw [if_pos (by rw [h.len]; have := h.nxt; omega), if_pos h4]; exact ⟨rfl, rfl, rfl, keep⟩
 rw [if_neg (by rw [h.len]; have := h.nxt; omega), if_neg h4]
 have hni : x.nxt ∉ keysA x.opn := fun hm => by have := h.op.rng _ hm; omega
 have hp : putA x.opn x.nxt (c, 0) = x.opn ++ [(x.nxt, (c, 0))] := putA_new hni
 refine ⟨?_, rfl, rfl, ?_⟩
 ·show voteS (layS x c) x.nxt = .of x.nxt x.b c
  unfold voteS layS
  rw [lookA_put, if_pos rfl]; rfl
 ·have hn0 : 0 ≤ x.nxt := Int.le_trans h.frm.1 h.nxt.1
  exact { mm := h.mm, me := h.me, b := h.b, frm := h.frm, nxt := by have := h.nxt; show x.frm ≤ x.nxt + 1 ∧ x.nxt + 1 ≤ 512; omega,
          cm := ⟨h.cm.nd, h.cm.k5, h.cm.l40⟩, op := h.op.lay hn0 c, wk := h.wk, vl := h.vl, whoM := h.whoM, cz := h.cz, v40 := h.v40,
          ol := by show putA x.opn x.nxt (c, 0) = _; rw [hp, h.ol, List.map_append]; rfl,
          ris := by
           show (keysA (putA x.opn x.nxt (c, 0))).Pairwise _
           rw [hp]
           unfold keysA
           rw [List.map_append, List.pairwise_append]
           refine ⟨h.ris, by simp, fun a ha b hb => ?_⟩
           simp at hb; subst hb
           exact (h.op.rng a ha).2
          wl := fun p hp' => by
           rcases List.mem_append.1 hp' with q | q
           ·exact h.wl p q
           ·simp at q; subst q; simp
          s1 := fun e => absurd (show x.st = 1 from e) (by have := Classical.not_not.1 h1; omega) }
theorem rel_refuse {x : LeadS} {who : List Int} {votes : List (List Vote)} {L : List Prp} {fl : Bool} (h : RelL x who votes L fl) (b : Int) :
 (if (refuseS x b).2 = true then RelL (refuseS x b).1 [] [] [] true else RelL (refuseS x b).1 who votes L fl ∧ (refuseS x b).1 = x) := by
 unfold refuseS
 by_cases h1 : x.st = 0 ∨ b ≤ x.b
 ·rw [if_pos h1]; exact ⟨h, rfl⟩
 ·rw [if_neg h1]
  show RelL _ _ _ _ _
  exact { mm := h.mm, me := h.me, b := h.b, frm := h.frm, nxt := h.nxt, cm := ⟨by simp, by simp, by simp⟩, op := ⟨by simp, by simp⟩, wk := rfl, vl := rfl, whoM := by simp, cz := rfl, v40 := by simp, ol := rfl, ris := by simp, wl := by simp, s1 := fun e => absurd (show (0 : Int) = 1 from e) (by decide) }
theorem nextS_rng {b w : Int} (hw : m5 w) : 0 ≤ (nextS b w).1 ∧ (nextS b w).1 ≤ 18446744073709551615 := by
 unfold m5 at hw
 unfold nextS
 have h0 : 1 ≤ (if 1 > b / 8 then 1 else b / 8) := by split <;> omega
 generalize (if 1 > b / 8 then 1 else b / 8) = r0 at h0
 have h1 : 1 ≤ (if 8 * r0 + w ≤ b then r0 + 1 else r0) := by split <;> omega
 dsimp only
 generalize (if 8 * r0 + w ≤ b then r0 + 1 else r0) = r1 at h1
 split <;> (dsimp only; omega)
theorem rel_start {x : LeadS} {above frm : Int} (hm : m5 x.masters) (hme : 1 ≤ x.me ∧ x.me ≤ x.masters) (h : (startQ x above frm).2 = 0) : RelL (startS x.me x.masters (startQ x above frm).1 frm) [] [] [] true := by
 have hw : m5 x.me := by unfold m5 at *; omega
 unfold startQ at h ⊢
 by_cases h1 : frm < 0 ∨ frm > 512
 ·rw [if_pos h1] at h; exact absurd h (by decide)
 rw [if_neg h1] at h ⊢
 by_cases h2 : (nextS (mxI above x.b) x.me).2 ≠ 0
 ·rw [if_pos h2] at h; exact absurd h h2
 rw [if_neg h2] at h ⊢
 exact { mm := hm, me := hme, b := nextS_rng hw, frm := by show 0 ≤ frm ∧ frm ≤ 512; omega, nxt := by show frm ≤ frm ∧ frm ≤ 512; omega, cm := ⟨by simp, by simp, by simp⟩, op := ⟨by simp, by simp⟩, wk := rfl, vl := rfl, whoM := by simp, cz := rfl, v40 := by simp, ol := rfl, ris := by simp, wl := by simp, s1 := fun _ => ⟨rfl, rfl, rfl⟩ }
end Go.M
namespace Go.M
open Go Go.Proofs
set_option maxRecDepth 100000
theorem putA_at {α : Type} {v : α} : ∀ {es : List (Int × α)} {i : Nat} (h : i < es.length), (keysA es).Nodup → putA es es[i].1 v = es.set i (es[i].1, v)
 | e :: es, 0, _, _ => by simp [putA]
 | e :: es, i + 1, h, hn => by
  have hn' : e.1 ∉ keysA es ∧ (keysA es).Nodup := List.nodup_cons.1 hn
  have hi : i < es.length := by simpa using h
  have : es[i].1 ≠ e.1 := fun q => hn'.1 (by rw [← q]; exact List.mem_map.2 ⟨_, List.getElem_mem _, rfl⟩)
  have ih := putA_at (v := v) (es := es) (i := i) (by simpa using h) hn'.2
  simp only [List.getElem_cons_succ, putA, this, if_false, List.set_cons_succ, ih]
theorem delA_at {α : Type} : ∀ {es : List (Int × α)} {i : Nat} (h : i < es.length), (keysA es).Nodup → delA es es[i].1 = es.take i ++ es.drop (i + 1)
 | e :: es, 0, _, _ => by simp [delA]
 | e :: es, i + 1, h, hn => by
  have hn' : e.1 ∉ keysA es ∧ (keysA es).Nodup := List.nodup_cons.1 hn
  have hi : i < es.length := by simpa using h
  have : es[i].1 ≠ e.1 := fun q => hn'.1 (by rw [← q]; exact List.mem_map.2 ⟨_, List.getElem_mem _, rfl⟩)
  have ih := delA_at (es := es) (i := i) (by simpa using h) hn'.2
  simp only [List.getElem_cons_succ, delA, this, if_false, List.take_succ_cons, List.drop_succ_cons, List.cons_append, ih]
theorem withN_in {l : List Int} {w : Int} (h : w ∈ l) : withN (withN 0 l) [w] = withN 0 l := by
 have p := List.perm_cons_erase h
 rw [withN_perm p 0]
 have e : withN (withN 0 (w :: l.erase w)) [w] = withN 0 (w :: w :: l.erase w) := by
  have : withN (withN 0 (w :: l.erase w)) [w] = withN 0 ((w :: l.erase w) ++ [w]) := by simp [withN]
  rw [this]
  exact withN_perm (by simp) 0
 rw [e]
 simp [withN]
theorem withN_w {l l' : List Int} {w : Int} (h : l'.Perm (if w ∈ l then l else w :: l)) : withN (withN 0 l) [w] = withN 0 l' := by
 rw [withN_perm h 0]
 by_cases hm : w ∈ l
 ·rw [if_pos hm, withN_in hm]
 ·rw [if_neg hm]
  have : withN (withN 0 l) [w] = withN 0 (l ++ [w]) := by simp [withN]
  rw [this]
  exact withN_perm (by simp) 0
theorem rel_accepted {x : LeadS} {who : List Int} {votes : List (List Vote)} {L L' : List Prp} {fl fl' : Bool} (h : RelL x who votes L fl) {b slot w : Int} {v : Vote} {ok : Bool} (hA : AccR x L b slot w L' v ok) (hfl : x.st ≠ 2 → fl' = fl ∧ L' = L) :
 (acceptedS x b slot w).2 = (v, ok) ∧ refL x who votes L' fl' = refL (acceptedS x b slot w).1 who votes L' fl' ∧ RelL (acceptedS x b slot w).1 who votes L' fl' := by
 have keep : L' = L → RelL x who votes L' fl' := fun e => by subst e; exact { h with s1 := fun e => by obtain ⟨a, b, d⟩ := h.s1 e; exact ⟨a, b, (hfl (by rw [e]; decide)).1.trans d⟩ }
 unfold acceptedS
 rcases hA with ⟨g, rfl, rfl, rfl⟩ | ⟨g, hc⟩
 ·rw [if_neg g]; exact ⟨rfl, rfl, keep rfl⟩
 rw [if_pos g]
 rcases hc with ⟨h1, rfl, rfl, rfl⟩ | ⟨i, hi, l', hs, hfst, hp, hc⟩
 ·have : lookA x.opn slot = none := lookA_none.2 (by rw [h.ol, layO_keys]; intro hm; obtain ⟨p, hp, e⟩ := List.mem_map.1 hm; exact h1 p hp e)
  rw [this]; exact ⟨rfl, rfl, keep rfl⟩
 subst hs
 have hlk := h.look (List.getElem_mem hi)
 rw [hlk]
 have hw := withN_w hp
 have hwl := h.wl _ (List.getElem_mem hi)
 have hm5 : m5 w := by have := h.mm; unfold m5 at *; omega
 have hl5 : ∀ y ∈ l', m5 y := fun y hy => by
  have hy := hp.mem_iff.1 hy
  split at hy
  ·exact hwl.1 y hy
  ·rcases List.mem_cons.1 hy with rfl | hy
   ·exact hm5
   ·exact hwl.1 y hy
 have hnd : l'.Nodup := hp.nodup_iff.2 (by
  split
  ·exact hwl.2
  ·next hm => exact List.nodup_cons.2 ⟨hm, hwl.2⟩)
 have hio : i < x.opn.length := by rw [h.len]; exact hi
 have hgi : x.opn[i].1 = L[i].1 := by simp only [h.ol, List.getElem_map]; rfl
 have hput : putA x.opn L[i].1 (L[i].2.1, withN 0 l') = (L.set i (L[i].1, L[i].2.1, l')).map layO := by
  rw [← hgi, putA_at hio h.op.nd, List.map_set, hgi, h.ol]; rfl
 have hks : keysA (putA x.opn L[i].1 (L[i].2.1, withN 0 l')) = keysA x.opn := by
  rw [putA_keys, if_pos]; rw [← hgi]; exact List.mem_map.2 ⟨_, List.getElem_mem _, rfl⟩
 have hst2 : x.st ≠ 1 := by rw [g.1.1]; decide
 rcases hc with ⟨he, rfl, rfl, rfl⟩ | ⟨he, rfl, rfl, rfl⟩
 ·dsimp only
  rw [hw, if_neg (by rw [he]; decide)]
  refine ⟨rfl, rfl, ?_⟩
  exact { mm := h.mm, me := h.me, b := h.b, frm := h.frm, nxt := h.nxt, cm := ⟨h.cm.nd, h.cm.k5, h.cm.l40⟩,
          op := ⟨putA_nodup h.op.nd, fun n hn => h.op.rng n (by rw [← hks]; exact hn)⟩, wk := h.wk, vl := h.vl, whoM := h.whoM, cz := h.cz, v40 := h.v40,
          ol := hput, ris := by show (keysA (putA _ _ _)).Pairwise _; rw [hks]; exact h.ris,
          wl := fun p hp' => by
           rcases List.mem_or_eq_of_mem_set hp' with q | rfl
           ·exact h.wl p q
           ·exact ⟨hl5, hnd⟩
          s1 := fun e => absurd e hst2 }
 ·dsimp only
  rw [hw, if_pos he]
  refine ⟨by rw [g.1.2], rfl, ?_⟩
  have hsub : (delA (putA x.opn L[i].1 (L[i].2.1, withN 0 l')) L[i].1).Sublist (putA x.opn L[i].1 (L[i].2.1, withN 0 l')) := delA_sub
  have hksub : (keysA (delA (putA x.opn L[i].1 (L[i].2.1, withN 0 l')) L[i].1)).Sublist (keysA x.opn) := by rw [← hks]; exact hsub.map _
  have hdel : delA (putA x.opn L[i].1 (L[i].2.1, withN 0 l')) L[i].1 = (L.take i ++ L.drop (i + 1)).map layO := by
   rw [← hgi, putA_at hio h.op.nd]
   have hi2 : i < (x.opn.set i (x.opn[i].1, (L[i].2.1, withN 0 l'))).length := by rw [List.length_set]; exact hio
   have hnd2 : (keysA (x.opn.set i (x.opn[i].1, (L[i].2.1, withN 0 l')))).Nodup := by
    rw [← putA_at hio h.op.nd]; exact putA_nodup h.op.nd
   have e := delA_at hi2 hnd2
   simp only [List.getElem_set_self] at e
   rw [e, List.take_set_of_le (Nat.le_refl _), List.drop_set_of_lt (by omega), h.ol, List.map_append, List.map_take, List.map_drop]
  exact { mm := h.mm, me := h.me, b := h.b, frm := h.frm, nxt := h.nxt, cm := ⟨h.cm.nd, h.cm.k5, h.cm.l40⟩,
          op := ⟨hksub.nodup h.op.nd, fun n hn => h.op.rng n (hksub.subset hn)⟩, wk := h.wk, vl := h.vl, whoM := h.whoM, cz := h.cz, v40 := h.v40,
          ol := hdel, ris := h.ris.sublist hksub,
          wl := fun p hp' => by
           rcases List.mem_append.1 hp' with q | q
           ·exact h.wl p (List.mem_of_mem_take q)
           ·exact h.wl p (List.mem_of_mem_drop q)
          s1 := fun e => absurd e hst2 }
theorem rel_promC {x : LeadS} {who : List Int} {votes : List (List Vote)} {L : List Prp} {fl : Bool} (h : RelL x who votes L fl) {w : Int} {vs : List Vote} (hw : 1 ≤ w ∧ w ≤ x.masters) (hl : vs.length ≤ 40) (hv : ∀ v ∈ vs, inI v.slot) :
 RelL (promC x w vs) (who1 who w) (votes1 who votes w vs) L fl := by
 have hm5 : m5 w := by have := h.mm; unfold m5 at *; omega
 have hc := (promC_ok h.cm hm5 hl hv).1
 unfold who1 votes1
 by_cases hm : w ∈ who
 ·have hm' : w ∈ keysA x.came := h.wk ▸ hm
  have e : promC x w vs = x := by unfold promC; rw [if_pos hm']
  rw [if_pos hm, if_pos hm, e]; exact h
 ·have hm' : w ∉ keysA x.came := fun q => hm (h.wk.symm ▸ q)
  rw [if_neg hm, if_neg hm]
  have ec : (promC x w vs).came = x.came ++ [(w, delV x.frm vs)] := by show (if _ then _ else _) = _; rw [if_neg hm']
  exact { mm := h.mm, me := h.me, b := h.b, frm := h.frm, nxt := h.nxt, cm := hc, op := ⟨h.op.nd, h.op.rng⟩,
          wk := by rw [ec]; unfold keysA; rw [List.map_append]; exact congrArg (· ++ [w]) h.wk,
          vl := by simp [h.vl],
          whoM := fun y hy => by
           rcases List.mem_append.1 hy with q | q
           ·exact h.whoM y q
           ·simp at q; subst q; exact hw
          cz := by rw [ec, List.zip_append h.vl.symm, List.map_append, h.cz]; rfl,
          v40 := fun l hl' => by
           rcases List.mem_append.1 hl' with q | q
           ·exact h.v40 l q
           ·simp at q; subst q; exact ⟨hl, hv⟩
          ol := h.ol, ris := h.ris, wl := h.wl, s1 := h.s1 }
theorem filterMap_one {α : Type} : ∀ {zs : List (Int × α)} {n : Int}, (keysA zs).Nodup → zs.filterMap (fun p => if p.1 = n then some p.2 else none) = (lookA zs n).toList
 | [], n, _ => by simp [lookA]
 | e :: zs, n, hn => by
  have hn' := List.nodup_cons.1 hn
  have ih := filterMap_one (zs := zs) (n := n) hn'.2
  rw [List.filterMap_cons]
  by_cases he : e.1 = n
  ·have : lookA zs n = none := lookA_none.2 (he ▸ hn'.1)
   rw [this] at ih
   simp only [he, if_true, ih, lookA]
   rfl
  ·have he' : ¬ n = e.1 := fun q => he q.symm
   simp only [he, if_false, ih, lookA, he']
theorem filterMap_look {α : Type} (zs : List (Int × List α)) : ∀ ks : List Int, ks.filterMap (lookA zs) = (ks.filter fun k => decide (k ∈ keysA zs)).map fun k => (lookA zs k).getD []
 | [] => rfl
 | k :: ks => by
  have ih := filterMap_look zs ks
  rw [List.filterMap_cons, List.filter_cons]
  by_cases hk : k ∈ keysA zs
  ·cases hl : lookA zs k with
   | none => exact absurd hk (lookA_none.1 hl)
   | some v => simp only [hk, decide_true, if_true, List.map_cons, hl, Option.getD_some, ih]
  ·have hl : lookA zs k = none := lookA_none.2 hk
   simp only [hk, decide_false, hl, ih]
   rfl
theorem lt_ext {l m : List Int} (hl : l.Pairwise (· < ·)) (hm : m.Pairwise (· < ·)) (h : ∀ x, x ∈ l ↔ x ∈ m) : l = m := by
 refine List.Perm.eq_of_pairwise (le := (· ≤ ·)) (fun a b _ _ h1 h2 => Int.le_antisymm h1 h2) (hl.imp fun {a b} q => Int.le_of_lt q) (hm.imp fun {a b} q => Int.le_of_lt q) ?_
 exact (List.perm_ext_iff_of_nodup (hl.imp fun {a b} q => Int.ne_of_lt q) (hm.imp fun {a b} q => Int.ne_of_lt q)).2 h
theorem zip_keys {α : Type} {who : List Int} {votes : List α} (h : votes.length = who.length) : keysA (who.zip votes) = who := by
 unfold keysA
 rw [← List.unzip_fst, List.unzip_zip_left (by omega)]
theorem risU_eq {who : List Int} {votes : List (List Vote)} {m : Nat} (hl : votes.length = who.length) (hn : who.Nodup) (hm : ∀ w ∈ who, 1 ≤ w ∧ w ≤ (m : Int)) :
 risU who votes m 0 = (sortZ who).map fun k => (lookA (who.zip votes) k).getD [] := by
 have hk : keysA (who.zip votes) = who := zip_keys hl
 have hkn : (keysA (who.zip votes)).Nodup := by rw [hk]; exact hn
 unfold risU
 rw [List.take_zero, List.filterMap_nil, List.append_nil]
 have e1 : ((List.range m).flatMap fun (j : Nat) => (who.zip votes).filterMap fun p => if p.1 = (j : Int) + 1 then some p.2 else none) = ((List.range m).map fun (j : Nat) => (j : Int) + 1).filterMap (lookA (who.zip votes)) := by
  rw [List.filterMap_map]
  generalize List.range m = r
  induction r with
  | nil => rfl
  | cons a r ih =>
   rw [List.flatMap_cons, ih, filterMap_one hkn, List.filterMap_cons]
   simp only [Function.comp]
   cases lookA (who.zip votes) ((a : Int) + 1) <;> rfl
 rw [e1, filterMap_look, hk]
 congr 1
 refine lt_ext (List.Pairwise.filter _ ?_) (sortZ_lt hn) fun y => ?_
 ·rw [List.pairwise_map]
  exact List.pairwise_lt_range.imp fun {a b} q => by omega
 ·rw [List.mem_filter, mem_sortZ, decide_eq_true_iff]
  constructor
  ·exact fun q => q.2
  ·intro q
   have := hm y q
   exact ⟨List.mem_map.2 ⟨(y - 1).toNat, List.mem_range.2 (by omega), by omega⟩, q⟩
theorem lookA_map {α β : Type} (f : α → β) (k : Int) : ∀ zs : List (Int × α), lookA (zs.map fun p => (p.1, f p.2)) k = (lookA zs k).map f
 | [] => rfl
 | e :: zs => by
  have ih := lookA_map f k zs
  simp only [List.map_cons, lookA, ih]
  split <;> rfl
theorem RelL.all {x : LeadS} {who : List Int} {votes : List (List Vote)} {L : List Prp} {fl : Bool} (h : RelL x who votes L fl) : allL x = (risU who votes x.masters.toNat 0).map (delV x.frm) := by
 have hn : who.Nodup := by rw [h.wk]; exact h.cm.nd
 have hmm := h.mm
 unfold m5 at hmm
 rw [risU_eq h.vl hn (fun w hw => by have := h.whoM w hw; omega), List.map_map]
 unfold allL
 rw [← h.wk]
 refine List.map_congr_left fun k _ => ?_
 show (lookA x.came k).getD [] = delV x.frm ((lookA (who.zip votes) k).getD [])
 rw [h.cz, lookA_map]
 cases lookA (who.zip votes) k <;> rfl
theorem RelL.risM {x : LeadS} {who : List Int} {votes : List (List Vote)} {L : List Prp} {fl : Bool} (h : RelL x who votes L fl) : (risU who votes x.masters.toNat 0).length ≤ 5 ∧ ∀ l ∈ risU who votes x.masters.toNat 0, l.length ≤ 40 ∧ ∀ v ∈ l, inI v.slot := by
 have hn : who.Nodup := by rw [h.wk]; exact h.cm.nd
 have hmm := h.mm
 unfold m5 at hmm
 have h5 : who.length ≤ 5 := nodup5 hn (by rw [h.wk]; exact h.cm.k5)
 rw [risU_eq h.vl hn (fun w hw => by have := h.whoM w hw; omega)]
 refine ⟨by rw [List.length_map, sortZ_len]; exact h5, fun l hl => ?_⟩
 obtain ⟨k, hk, rfl⟩ := List.mem_map.1 hl
 have hkn : (keysA (who.zip votes)).Nodup := by rw [zip_keys h.vl]; exact hn
 cases hc : lookA (who.zip votes) k with
 | none => simp
 | some l => exact h.v40 _ (List.of_mem_zip ((lookA_some hkn).1 hc)).2
end Go.M
namespace Go.M
open Go Go.Proofs
set_option maxRecDepth 100000
theorem moreV_512 {B : List Vote} {s : Int} (h : moreV B s = true) : s < 512 := by
 unfold moreV at h
 obtain ⟨v, _, h⟩ := List.any_eq_true.1 h
 unfold inS at h
 rw [Bool.and_eq_true, decide_eq_true_iff, decide_eq_true_iff] at h
 omega
theorem rel_prom1 {x : LeadS} {who : List Int} {votes : List (List Vote)} {L : List Prp} {fl : Bool} (h : RelL x who votes L fl) {b w : Int} {vs : List Vote} (g : (x.st = 1 ∧ x.b = b) ∧ 1 ≤ w ∧ w ≤ x.masters) (hl : vs.length ≤ 40) (hv : ∀ v ∈ vs, inI v.slot)
 (he : enoughN (withN 0 (who1 who w)) x.masters = false) : promS x b w vs = (promC x w vs, [], false) := by
 unfold promS
 rw [if_pos g, if_neg]
 rw [← (rel_promC h g.2 hl hv).wk, he]; decide
theorem rel_prom2 {x : LeadS} {who : List Int} {votes : List (List Vote)} {L : List Prp} {fl fl' : Bool} (h : RelL x who votes L fl) {b w : Int} {vs : List Vote} (g : (x.st = 1 ∧ x.b = b) ∧ 1 ≤ w ∧ w ≤ x.masters) (hl : vs.length ≤ 40) (hv : ∀ v ∈ vs, inI v.slot)
 (he : enoughN (withN 0 (who1 who w)) x.masters = true) {B : List Vote} (hB : B = bestV (risU (who1 who w) (votes1 who votes w vs) x.masters.toNat 0)) {j : Nat} (h1 : x.frm + j ≤ 512) (h2 : ∀ k < j, moreV B (x.frm + (k : Int)) = true) (h3 : moreV B (x.frm + j) = false ∨ x.frm + j = 512) :
 ∃ y : LeadS, promS x b w vs = (y, (layR B x.frm j).map (voteR x.b), true) ∧ RelL y (who1 who w) (votes1 who votes w vs) (layR B x.frm j) fl' ∧
  refL { x with st := 2, nxt := x.frm + j } (who1 who w) (votes1 who votes w vs) (layR B x.frm j) fl' = refL y (who1 who w) (votes1 who votes w vs) (layR B x.frm j) fl' := by
 have hr := rel_promC h g.2 hl hv
 obtain ⟨s1, s2, s3⟩ := h.s1 g.1.1
 subst s2
 obtain ⟨r1, r2⟩ := hr.risM
 have hr2 : RelL { promC x w vs with st := 2 } (who1 who w) (votes1 who votes w vs) [] fl := { hr with s1 := fun e => absurd (show (2 : Int) = 1 from e) (by decide), cm := ⟨hr.cm.nd, hr.cm.k5, hr.cm.l40⟩, op := ⟨hr.op.nd, hr.op.rng⟩ }
 have hall := hr2.all
 have hbd : bestV (allL { promC x w vs with st := 2 }) = delV x.frm B := by
  rw [hall, hB]
  exact bestV_del fun l hl v hv' => (r2 l hl).2 v hv'
 have hBS : SS B := by rw [hB]; exact bestV_SS fun l hl v hv' => (r2 l hl).2 v hv'
 obtain ⟨i, e1, e2, e3, e4⟩ := fill_lays (delV x.frm B) { promC x w vs with st := 2 } (hBS.filter _) (fun v hv' => by
  have := good_iff.1 (List.mem_filter.1 hv').2
  show x.nxt ≤ v.slot ∧ v.slot < 512
  rw [s1]; exact this) hr2.op (by show 0 ≤ x.nxt; rw [s1]; exact h.frm.1) h.nxt.2
 have en : ({ promC x w vs with st := 2 } : LeadS).nxt = x.frm := s1
 rw [en] at e1 e2 e3 e4
 have hij : i = j := by
  rcases Nat.lt_trichotomy i j with q | q | q
  ·have a := h2 i q
   rw [moreV_del (by omega)] at e4
   rw [a] at e4; cases e4
  ·exact q
  ·have a := e3 j q
   rw [moreV_del (by omega)] at a
   have := moreV_512 a
   rcases h3 with c | c
   ·rw [c] at a; cases a
   ·omega
 subst hij
 have hlay : layR (delV x.frm B) x.frm i = layR B x.frm i := by
  unfold layR
  refine List.map_congr_left fun k hk => ?_
  have := List.mem_range.1 hk
  have := h.frm
  unfold layP
  rw [atS_del (by unfold okS; omega) hBS]
 rw [hlay] at e1
 have hopn : ({ promC x w vs with st := 2 } : LeadS).opn = [] := h.ol
 rw [hopn, List.nil_append] at e1
 have hy : RelL (fillL { promC x w vs with st := 2 } (delV x.frm B)) (who1 who w) (votes1 who votes w vs) (layR B x.frm i) fl' := by
  have hf := hr2.op.fill (by show 0 ≤ x.nxt; rw [s1]; exact h.frm.1) (delV x.frm B)
  rw [e1] at hf ⊢
  exact { mm := hr.mm, me := hr.me, b := hr.b, frm := hr.frm, nxt := by have := h.frm; show x.frm ≤ x.frm + (i : Int) ∧ x.frm + (i : Int) ≤ 512; omega,
          cm := ⟨hr.cm.nd, hr.cm.k5, hr.cm.l40⟩, op := hf.1, wk := hr.wk, vl := hr.vl, whoM := hr.whoM, cz := hr.cz, v40 := hr.v40, ol := rfl,
          ris := by
           show (keysA ((layR B x.frm i).map layO)).Pairwise _
           rw [layO_keys]
           unfold layR
           rw [List.map_map, List.pairwise_map]
           exact List.pairwise_lt_range.imp fun {a b} q => by show x.frm + (a : Int) < x.frm + (b : Int); omega
          wl := fun p hp => by
           unfold layR at hp
           obtain ⟨k, _, rfl⟩ := List.mem_map.1 hp
           exact ⟨by simp [layP], by simp [layP]⟩
          s1 := fun e => absurd (show (2 : Int) = 1 from e) (by decide) }
 refine ⟨fillL { promC x w vs with st := 2 } (delV x.frm B), ?_, hy, ?_⟩
 ·unfold promS
  rw [if_pos g, if_pos (by rw [← hr.wk]; exact he)]
  dsimp only
  rw [hbd, hy.shows]
  have : (fillL { promC x w vs with st := 2 } (delV x.frm B)).b = x.b := by rw [e1]
  rw [this]
 ·rw [e1]
end Go.M
namespace Go.M
open Go Go.Proofs
set_option maxRecDepth 100000
set_option maxHeartbeats 4000000
structure Op13 where
 kind : Int
 own : Bool
 ballot : Int
 n : Int
 who : Int
 votes : List Vote
 cmd : Cmd
def encOp13 (o : Op13) : List TV := [.s (.int .i64 o.kind), .s (.bool o.own), .s (.int .u64 o.ballot), .s (.int .i64 o.n), .s (.int .i64 o.who), encVs o.votes, .s (.int .i64 o.cmd.kind), .s (.int .i64 o.cmd.chain), .s (.int .u64 o.cmd.epoch), .s (.int .i64 o.cmd.node)]
structure OpOk (o : Op13) : Prop where
 ep : 0 ≤ o.cmd.epoch
 b : 0 ≤ o.ballot ∧ o.ballot ≤ 18446744073709551615
 v40 : o.votes.length ≤ 40
 vin : ∀ v ∈ o.votes, inI v.slot
theorem nodup_lt {l : List Int} {n : Nat} (hn : l.Nodup) (h : ∀ w ∈ l, 0 ≤ w ∧ w < n) : l.length ≤ n := by
 have := nodup_le n (l.map (· + 1)) (hn.map (f := (· + 1)) fun a b q => by show a + 1 ≠ b + 1; omega) fun w hw => by
  obtain ⟨y, hy, rfl⟩ := List.mem_map.1 hw
  have := h y hy
  omega
 rwa [List.length_map] at this
def StepR (r : TV) (ob : Ob) (c : Nat) : Prop := ∃ y who votes L fl, r = .tup [refL y who votes L fl, .s (.bool true)] ∧ RelL y who votes L fl ∧ ((c = 3 ∧ ob = stL y) ∨ (c = 5 ∧ ob = [(0, leadO y 3 4), (3, cameO y), (4, openO y)]))
theorem step13_ok (x : LeadS) (who : List Int) (votes : List (List Vote)) (L : List Prp) (fl : Bool) (h : RelL x who votes L fl) (o : Op13) (ho : OpOk o) :
 VC E0 57 3 [.ptr 0 0, refL x who votes L fl, .agg (encOp13 o)] (stL x) StepR := by
 have hme : m5 x.me := by have := h.me; have := h.mm; unfold m5 at *; omega
 have hn : 0 ≤ x.nxt ∧ x.nxt ≤ 512 := ⟨Int.le_trans h.frm.1 h.nxt.1, h.nxt.2⟩
 have hn' : 0 ≤ x.nxt ∧ x.nxt ≤ 100000 := by omega
 have hL : L.length < 100000 := by
  have := nodup_lt (l := keysA x.opn) (n := 512) h.op.nd (fun w hw => by have := h.op.rng w hw; omega)
  have : (keysA x.opn).length = L.length := by rw [h.ol, layO_keys, List.length_map]
  omega
 have hw5 : ∀ p ∈ L, (∀ y ∈ p.2.2, m5 y) ∧ p.2.2.length ≤ 5 := fun p hp => ⟨(h.wl p hp).1, nodup5 (h.wl p hp).2 (h.wl p hp).1⟩
 have hev : ∀ e ∈ x.opn, ev64 e.2.2 := fun e he => by
  rw [h.ol] at he
  obtain ⟨p, hp, rfl⟩ := List.mem_map.1 he
  exact withN_ev (by decide) (h.wl p hp).1
 refine VC.enterR L0 (show E0.func 57 = some Try.f57 by kernel_rfl) (fun _ _ => rfl) rfl rfl [] ?_
 ((conv=>whnf)<;>repeat(with_reducible refine D1 ?_)<;>conv=>whnf)
 cases hown : o.own
 ·((conv=>whnf)<;>repeat(with_reducible refine D1 ?_)<;>conv=>whnf)
  (first|refine ⟨?_,?_⟩|refine nsplit ?_ ?_|refine bsplit ?_ ?_)<;>intro k0<;>have hz_:=True.intro<;>clear hz_
  ·((conv=>whnf)<;>repeat(with_reducible refine D1 ?_)<;>conv=>whnf)
   by_cases he : (startQ x o.ballot o.n).2 = 0
   ·refine ⟨[], [], _, _, _, _, refStart_ok x who votes L fl o.ballot o.n ho.b h.b hme, t3, ?_⟩
    rintro r o' c' ⟨rfl, rfl, rfl⟩
    rw [if_pos he]
    ((conv=>whnf)<;>repeat(with_reducible refine D1 ?_)<;>conv=>whnf)
    refine ⟨[], [some 0, some 1, some 2], _, _, _, _, startG_ok x o.ballot o.n ho.b h.b hme, t3, ?_⟩
    rintro r ob c ⟨rfl, ⟨he', rfl, rfl⟩ | ⟨-, rfl, rfl⟩⟩
    ·exact absurd he he'
    ·((conv=>whnf)<;>repeat(with_reducible refine D1 ?_)<;>conv=>whnf)
     repeat ((first | (refine ⟨fun h_ => ?_, fun h_ => ?_⟩) | (refine nsplit (fun h_ => ?_) (fun h_ => ?_)) | (refine bsplit (fun h_ => ?_) (fun h_ => ?_))); rotate_left; first | (exact absurd rfl h_) | (exact absurd (by decide) h_) | (cases h_; done) | (simp at h_; done); ((conv=>whnf)<;>repeat(with_reducible refine D1 ?_)<;>conv=>whnf))
     refine ⟨[], [some 0, some 1, some 2, some 10, some 11], ?_⟩
     iterate 3 constructor
     refine ⟨⟨?_, ?_, ?_⟩, ⟨startS x.me x.masters (startQ x o.ballot o.n).1 o.n, [], [], [], true, rfl, rel_start h.mm h.me he, .inr ⟨rfl, rfl⟩⟩⟩
     all_goals (repeat' first|with_reducible exact Lz.rfl|exact Lw.rfl|exact Lz.wrap (by omega)|(unfold goInt;with_reducible exact Lz.rfl)|exact flx _|constructor)
     all_goals first | exact Lz.rfl | skip
   ·refine ⟨[], [], _, _, _, _, refStart_ok x who votes L fl o.ballot o.n ho.b h.b hme, t3, ?_⟩
    rintro r o' c' ⟨rfl, rfl, rfl⟩
    rw [if_neg he]
    ((conv=>whnf)<;>repeat(with_reducible refine D1 ?_)<;>conv=>whnf)
    refine ⟨[], [some 0, some 1, some 2], _, _, _, _, startG_ok x o.ballot o.n ho.b h.b hme, t3, ?_⟩
    rintro r ob c ⟨rfl, ⟨-, rfl, rfl⟩ | ⟨he', rfl, rfl⟩⟩
    ·((conv=>whnf)<;>repeat(with_reducible refine D1 ?_)<;>conv=>whnf)
     repeat ((first | (refine ⟨fun h_ => ?_, fun h_ => ?_⟩) | (refine nsplit (fun h_ => ?_) (fun h_ => ?_)) | (refine bsplit (fun h_ => ?_) (fun h_ => ?_))); rotate_left; first | (exact absurd rfl h_) | (exact absurd (by decide) h_) | (cases h_; done) | (simp at h_; done); ((conv=>whnf)<;>repeat(with_reducible refine D1 ?_)<;>conv=>whnf))
     exact ⟨[], [some 0, some 1, some 2], _, _, _, t3, ⟨x, who, votes, L, fl, rfl, h, .inl ⟨rfl, rfl⟩⟩⟩
    ·exact absurd he' he
  ·((conv=>whnf)<;>repeat(with_reducible refine D1 ?_)<;>conv=>whnf)
   (first|refine ⟨?_,?_⟩|refine nsplit ?_ ?_|refine bsplit ?_ ?_)<;>intro k1<;>have hz_:=True.intro<;>clear hz_
   ·((conv=>whnf)<;>repeat(with_reducible refine D1 ?_)<;>conv=>whnf)
    by_cases hg : (x.st = 1 ∧ x.b = o.ballot) ∧ 1 ≤ o.who ∧ o.who ≤ x.masters
    ·have hp := rel_promC h hg.2 ho.v40 ho.vin
     have hs := h.s1 hg.1.1
     have hw0 : who.length ≤ 5 := nodup5 (by rw [h.wk]; exact h.cm.nd) (by rw [h.wk]; exact h.cm.k5)
     have hw1 : ∀ y ∈ who1 who o.who, m5 y := by rw [hp.wk]; exact hp.cm.k5
     have hw2 : (who1 who o.who).length ≤ 5 := nodup5 (by rw [hp.wk]; exact hp.cm.nd) hw1
     have hp' : RelL (promC x o.who o.votes) (who1 who o.who) (votes1 who votes o.who o.votes) [] true := by
      have q := hp
      rw [hs.2.1, hs.2.2] at q
      exact q
     rw [hs.2.1, hs.2.2]
     refine ⟨[], [], _, _, _, _, refPromise_ok x who votes o.ballot o.who o.votes _ _ rfl rfl hg h.mm hs.1 h.frm hw1 hw2 hp.vl.symm hw0 (by rw [h.vl]; exact hw0) (Nat.le_trans hp.risM.1 (by decide)) hp.risM.2, t3, ?_⟩
     rintro r o' c' (⟨he, rfl, rfl, rfl⟩ | ⟨he, j, fl', h1, h2, h3, rfl, rfl, rfl⟩)
     ·((conv=>whnf)<;>repeat(with_reducible refine D1 ?_)<;>conv=>whnf)
      refine ⟨[], [some 0, some 1, some 2], _, _, _, _, promise_ok x o.ballot o.who o.votes h.cm h.op h.mm ho.v40 ho.vin hn, t3, ?_⟩
      rintro r o' c' ⟨rfl, rfl, rfl⟩
      rw [rel_prom1 h hg ho.v40 ho.vin he]
      ((conv=>whnf)<;>repeat(with_reducible refine D1 ?_)<;>conv=>whnf)
      refine ⟨[], [], _, _, _, _, same_ok [] [] (by simp), t3, ?_⟩
      rintro r o' c' ⟨rfl, rfl, rfl⟩
      rw [show eqB ([] : List Vote) [] = true from eqB_iff.2 rfl]
      ((conv=>whnf)<;>repeat(with_reducible refine D1 ?_)<;>conv=>whnf)
      exact ⟨[], [some 0, some 1, some 2], _, _, _, t3, ⟨promC x o.who o.votes, who1 who o.who, votes1 who votes o.who o.votes, [], true, rfl, hp', .inl ⟨rfl, rfl⟩⟩⟩
     ·obtain ⟨y, e1, e2, e3⟩ := rel_prom2 (fl' := fl') h hg ho.v40 ho.vin he rfl h1 h2 h3
      rw [e3]
      ((conv=>whnf)<;>repeat(with_reducible refine D1 ?_)<;>conv=>whnf)
      refine ⟨[], [some 0, some 1, some 2], _, _, _, _, promise_ok x o.ballot o.who o.votes h.cm h.op h.mm ho.v40 ho.vin hn, t3, ?_⟩
      rintro r o' c' ⟨rfl, rfl, rfl⟩
      rw [e1]
      ((conv=>whnf)<;>repeat(with_reducible refine D1 ?_)<;>conv=>whnf)
      refine ⟨[], [], _, _, _, _, same_ok ((layR (bestV (risU (who1 who o.who) (votes1 who votes o.who o.votes) x.masters.toNat 0)) x.frm j).map (voteR x.b)) ((layR (bestV (risU (who1 who o.who) (votes1 who votes o.who o.votes) x.masters.toNat 0)) x.frm j).map (voteR x.b)) (by rw [List.length_map]; unfold layR; rw [List.length_map, List.length_range]; have := h.frm; omega), t3, ?_⟩
      rintro r o' c' ⟨rfl, rfl, rfl⟩
      rw [eqB_iff.2 rfl]
      ((conv=>whnf)<;>repeat(with_reducible refine D1 ?_)<;>conv=>whnf)
      exact ⟨[], [some 0, some 1, some 2], _, _, _, t3, ⟨y, _, _, _, fl', rfl, e2, .inl ⟨rfl, rfl⟩⟩⟩
    ·refine ⟨[], [], _, _, _, _, refPromiseNo_ok x who votes L fl o.ballot o.who o.votes hg, t3, ?_⟩
     rintro r o' c' ⟨rfl, rfl, rfl⟩
     ((conv=>whnf)<;>repeat(with_reducible refine D1 ?_)<;>conv=>whnf)
     refine ⟨[], [some 0, some 1, some 2], _, _, _, _, promise_ok x o.ballot o.who o.votes h.cm h.op h.mm ho.v40 ho.vin hn, t3, ?_⟩
     rintro r o' c' ⟨rfl, rfl, rfl⟩
     rw [show promS x o.ballot o.who o.votes = (x, [], false) by unfold promS; rw [if_neg hg]]
     ((conv=>whnf)<;>repeat(with_reducible refine D1 ?_)<;>conv=>whnf)
     refine ⟨[], [], _, _, _, _, same_ok [] [] (by simp), t3, ?_⟩
     rintro r o' c' ⟨rfl, rfl, rfl⟩
     rw [show eqB ([] : List Vote) [] = true from eqB_iff.2 rfl]
     ((conv=>whnf)<;>repeat(with_reducible refine D1 ?_)<;>conv=>whnf)
     exact ⟨[], [some 0, some 1, some 2], _, _, _, t3, ⟨x, who, votes, L, fl, rfl, h, .inl ⟨rfl, rfl⟩⟩⟩
   ·((conv=>whnf)<;>repeat(with_reducible refine D1 ?_)<;>conv=>whnf)
    (first|refine ⟨?_,?_⟩|refine nsplit ?_ ?_|refine bsplit ?_ ?_)<;>intro k2<;>have hz_:=True.intro<;>clear hz_
    ·((conv=>whnf)<;>repeat(with_reducible refine D1 ?_)<;>conv=>whnf)
     refine ⟨[], [], _, _, _, _, refPropose_ok x who votes L fl o.cmd ho.ep hL hn', t3, ?_⟩
     rintro r o' c' ⟨fl', rfl, rfl, rfl, hfl⟩
     obtain ⟨e1, e2, e3, e4⟩ := rel_propose h o.cmd hfl
     rw [e3]
     ((conv=>whnf)<;>repeat(with_reducible refine D1 ?_)<;>conv=>whnf)
     refine ⟨[], [some 0, some 1, some 2], _, _, _, _, propose_ok x o.cmd h.op hn', t3, ?_⟩
     rintro r o' c' ⟨rfl, rfl, rfl⟩
     rw [e1, e2]
     ((conv=>whnf)<;>repeat(with_reducible refine D1 ?_)<;>conv=>whnf)
     (first|refine ⟨?_,?_⟩|refine nsplit ?_ ?_|refine bsplit ?_ ?_)<;>intro hv<;>have hz_:=True.intro<;>clear hz_
     ·((conv=>whnf)<;>repeat(with_reducible refine D1 ?_)<;>conv=>whnf)
      (first|refine ⟨?_,?_⟩|refine nsplit ?_ ?_|refine bsplit ?_ ?_)<;>intro h_<;>have hz_:=True.intro<;>clear hz_
      ·((conv=>whnf)<;>repeat(with_reducible refine D1 ?_)<;>conv=>whnf)
       exact ⟨[], [some 0, some 1, some 2], _, _, _, t3, ⟨(proposeS x o.cmd).1, who, votes, (proposeR x L o.cmd).2.1, fl', rfl, e4, .inl ⟨rfl, rfl⟩⟩⟩
      ·exact absurd rfl h_
     ·exact absurd ((veq_vote _ _).trans (eqB_iff.2 rfl)) hv
    ·((conv=>whnf)<;>repeat(with_reducible refine D1 ?_)<;>conv=>whnf)
     (first|refine ⟨?_,?_⟩|refine nsplit ?_ ?_|refine bsplit ?_ ?_)<;>intro k3<;>have hz_:=True.intro<;>clear hz_
     ·((conv=>whnf)<;>repeat(with_reducible refine D1 ?_)<;>conv=>whnf)
      refine ⟨[], [], _, _, _, _, refAccepted_ok x who votes L fl o.ballot o.n o.who h.mm hL hw5, t3, ?_⟩
      rintro r o' c' ⟨L', fl', v, ok, rfl, rfl, rfl, hA, hfl⟩
      obtain ⟨e1, e2, e3⟩ := rel_accepted h hA hfl
      rw [e2]
      ((conv=>whnf)<;>repeat(with_reducible refine D1 ?_)<;>conv=>whnf)
      refine ⟨[], [some 0, some 1, some 2], _, _, _, _, accepted_ok x o.ballot o.n o.who h.mm hev h.op.nd, t3, ?_⟩
      rintro r o' c' ⟨rfl, rfl, rfl⟩
      rw [e1]
      ((conv=>whnf)<;>repeat(with_reducible refine D1 ?_)<;>conv=>whnf)
      (first|refine ⟨?_,?_⟩|refine nsplit ?_ ?_|refine bsplit ?_ ?_)<;>intro hv<;>have hz_:=True.intro<;>clear hz_
      ·((conv=>whnf)<;>repeat(with_reducible refine D1 ?_)<;>conv=>whnf)
       repeat ((first | (refine ⟨fun h_ => ?_, fun h_ => ?_⟩) | (refine nsplit (fun h_ => ?_) (fun h_ => ?_)) | (refine bsplit (fun h_ => ?_) (fun h_ => ?_))); rotate_left; first | (exact absurd rfl h_) | (exact absurd (by decide) h_) | (cases h_; done) | (simp at h_; done); ((conv=>whnf)<;>repeat(with_reducible refine D1 ?_)<;>conv=>whnf))
       refine ⟨[], [some 0, some 1, some 2], ?_⟩
       iterate 3 constructor
       refine ⟨⟨?_, ?_, ?_⟩, ⟨(acceptedS x o.ballot o.n o.who).1, who, votes, L', fl', rfl, e3, .inl ⟨rfl, rfl⟩⟩⟩
       all_goals (repeat' first|with_reducible exact Lz.rfl|exact Lw.rfl|exact Lz.wrap (by omega)|(unfold goInt;with_reducible exact Lz.rfl)|exact flx _|constructor)
       all_goals first | exact Lz.rfl | exact Lz.of (congrArg Value.bool (by simp))
      ·exact absurd ((veq_vote _ _).trans (eqB_iff.2 rfl)) hv
     ·((conv=>whnf)<;>repeat(with_reducible refine D1 ?_)<;>conv=>whnf)
      have hr := rel_refuse h o.ballot
      by_cases he : (refuseS x o.ballot).2 = true
      ·rw [if_pos he] at hr
       refine ⟨[], [], _, _, _, _, refRefuse_ok x who votes L fl o.ballot, t3, ?_⟩
       rintro r o' c' ⟨rfl, rfl, rfl⟩
       rw [if_pos he]
       ((conv=>whnf)<;>repeat(with_reducible refine D1 ?_)<;>conv=>whnf)
       refine ⟨[], [some 0, some 1, some 2], _, _, _, _, refuse_ok x o.ballot, t3, ?_⟩
       rintro r o' c' ⟨rfl, rfl, rfl⟩
       rw [he]
       ((conv=>whnf)<;>repeat(with_reducible refine D1 ?_)<;>conv=>whnf)
       exact ⟨[], [some 0, some 1, some 2], _, _, _, t3, ⟨(refuseS x o.ballot).1, [], [], [], true, rfl, hr, .inl ⟨rfl, rfl⟩⟩⟩
      ·rw [if_neg he] at hr
       refine ⟨[], [], _, _, _, _, refRefuse_ok x who votes L fl o.ballot, t3, ?_⟩
       rintro r o' c' ⟨rfl, rfl, rfl⟩
       rw [if_neg he]
       ((conv=>whnf)<;>repeat(with_reducible refine D1 ?_)<;>conv=>whnf)
       refine ⟨[], [some 0, some 1, some 2], _, _, _, _, refuse_ok x o.ballot, t3, ?_⟩
       rintro r o' c' ⟨rfl, rfl, rfl⟩
       rw [hr.2, Bool.eq_false_iff.2 he]
       ((conv=>whnf)<;>repeat(with_reducible refine D1 ?_)<;>conv=>whnf)
       exact ⟨[], [some 0, some 1, some 2], _, _, _, t3, ⟨x, who, votes, L, fl, rfl, h, .inl ⟨rfl, rfl⟩⟩⟩
 ·((conv=>whnf)<;>repeat(with_reducible refine D1 ?_)<;>conv=>whnf)
  (first|refine ⟨?_,?_⟩|refine nsplit ?_ ?_|refine bsplit ?_ ?_)<;>intro k0<;>have hz_:=True.intro<;>clear hz_
  ·((conv=>whnf)<;>repeat(with_reducible refine D1 ?_)<;>conv=>whnf)
   by_cases he : (startQ x x.b o.n).2 = 0
   ·refine ⟨[], [], _, _, _, _, refStart_ok x who votes L fl x.b o.n h.b h.b hme, t3, ?_⟩
    rintro r o' c' ⟨rfl, rfl, rfl⟩
    rw [if_pos he]
    ((conv=>whnf)<;>repeat(with_reducible refine D1 ?_)<;>conv=>whnf)
    refine ⟨[], [some 0, some 1, some 2], _, _, _, _, startG_ok x x.b o.n h.b h.b hme, t3, ?_⟩
    rintro r ob c ⟨rfl, ⟨he', rfl, rfl⟩ | ⟨-, rfl, rfl⟩⟩
    ·exact absurd he he'
    ·((conv=>whnf)<;>repeat(with_reducible refine D1 ?_)<;>conv=>whnf)
     repeat ((first | (refine ⟨fun h_ => ?_, fun h_ => ?_⟩) | (refine nsplit (fun h_ => ?_) (fun h_ => ?_)) | (refine bsplit (fun h_ => ?_) (fun h_ => ?_))); rotate_left; first | (exact absurd rfl h_) | (exact absurd (by decide) h_) | (cases h_; done) | (simp at h_; done); ((conv=>whnf)<;>repeat(with_reducible refine D1 ?_)<;>conv=>whnf))
     refine ⟨[], [some 0, some 1, some 2, some 10, some 11], ?_⟩
     iterate 3 constructor
     refine ⟨⟨?_, ?_, ?_⟩, ⟨startS x.me x.masters (startQ x x.b o.n).1 o.n, [], [], [], true, rfl, rel_start h.mm h.me he, .inr ⟨rfl, rfl⟩⟩⟩
     all_goals (repeat' first|with_reducible exact Lz.rfl|exact Lw.rfl|exact Lz.wrap (by omega)|(unfold goInt;with_reducible exact Lz.rfl)|exact flx _|constructor)
     all_goals first | exact Lz.rfl | skip
   ·refine ⟨[], [], _, _, _, _, refStart_ok x who votes L fl x.b o.n h.b h.b hme, t3, ?_⟩
    rintro r o' c' ⟨rfl, rfl, rfl⟩
    rw [if_neg he]
    ((conv=>whnf)<;>repeat(with_reducible refine D1 ?_)<;>conv=>whnf)
    refine ⟨[], [some 0, some 1, some 2], _, _, _, _, startG_ok x x.b o.n h.b h.b hme, t3, ?_⟩
    rintro r ob c ⟨rfl, ⟨-, rfl, rfl⟩ | ⟨he', rfl, rfl⟩⟩
    ·((conv=>whnf)<;>repeat(with_reducible refine D1 ?_)<;>conv=>whnf)
     repeat ((first | (refine ⟨fun h_ => ?_, fun h_ => ?_⟩) | (refine nsplit (fun h_ => ?_) (fun h_ => ?_)) | (refine bsplit (fun h_ => ?_) (fun h_ => ?_))); rotate_left; first | (exact absurd rfl h_) | (exact absurd (by decide) h_) | (cases h_; done) | (simp at h_; done); ((conv=>whnf)<;>repeat(with_reducible refine D1 ?_)<;>conv=>whnf))
     exact ⟨[], [some 0, some 1, some 2], _, _, _, t3, ⟨x, who, votes, L, fl, rfl, h, .inl ⟨rfl, rfl⟩⟩⟩
    ·exact absurd he' he
  ·((conv=>whnf)<;>repeat(with_reducible refine D1 ?_)<;>conv=>whnf)
   (first|refine ⟨?_,?_⟩|refine nsplit ?_ ?_|refine bsplit ?_ ?_)<;>intro k1<;>have hz_:=True.intro<;>clear hz_
   ·((conv=>whnf)<;>repeat(with_reducible refine D1 ?_)<;>conv=>whnf)
    by_cases hg : (x.st = 1 ∧ x.b = x.b) ∧ 1 ≤ o.who ∧ o.who ≤ x.masters
    ·have hp := rel_promC h hg.2 ho.v40 ho.vin
     have hs := h.s1 hg.1.1
     have hw0 : who.length ≤ 5 := nodup5 (by rw [h.wk]; exact h.cm.nd) (by rw [h.wk]; exact h.cm.k5)
     have hw1 : ∀ y ∈ who1 who o.who, m5 y := by rw [hp.wk]; exact hp.cm.k5
     have hw2 : (who1 who o.who).length ≤ 5 := nodup5 (by rw [hp.wk]; exact hp.cm.nd) hw1
     have hp' : RelL (promC x o.who o.votes) (who1 who o.who) (votes1 who votes o.who o.votes) [] true := by
      have q := hp
      rw [hs.2.1, hs.2.2] at q
      exact q
     rw [hs.2.1, hs.2.2]
     refine ⟨[], [], _, _, _, _, refPromise_ok x who votes x.b o.who o.votes _ _ rfl rfl hg h.mm hs.1 h.frm hw1 hw2 hp.vl.symm hw0 (by rw [h.vl]; exact hw0) (Nat.le_trans hp.risM.1 (by decide)) hp.risM.2, t3, ?_⟩
     rintro r o' c' (⟨he, rfl, rfl, rfl⟩ | ⟨he, j, fl', h1, h2, h3, rfl, rfl, rfl⟩)
     ·((conv=>whnf)<;>repeat(with_reducible refine D1 ?_)<;>conv=>whnf)
      refine ⟨[], [some 0, some 1, some 2], _, _, _, _, promise_ok x x.b o.who o.votes h.cm h.op h.mm ho.v40 ho.vin hn, t3, ?_⟩
      rintro r o' c' ⟨rfl, rfl, rfl⟩
      rw [rel_prom1 h hg ho.v40 ho.vin he]
      ((conv=>whnf)<;>repeat(with_reducible refine D1 ?_)<;>conv=>whnf)
      refine ⟨[], [], _, _, _, _, same_ok [] [] (by simp), t3, ?_⟩
      rintro r o' c' ⟨rfl, rfl, rfl⟩
      rw [show eqB ([] : List Vote) [] = true from eqB_iff.2 rfl]
      ((conv=>whnf)<;>repeat(with_reducible refine D1 ?_)<;>conv=>whnf)
      exact ⟨[], [some 0, some 1, some 2], _, _, _, t3, ⟨promC x o.who o.votes, who1 who o.who, votes1 who votes o.who o.votes, [], true, rfl, hp', .inl ⟨rfl, rfl⟩⟩⟩
     ·obtain ⟨y, e1, e2, e3⟩ := rel_prom2 (fl' := fl') h hg ho.v40 ho.vin he rfl h1 h2 h3
      rw [e3]
      ((conv=>whnf)<;>repeat(with_reducible refine D1 ?_)<;>conv=>whnf)
      refine ⟨[], [some 0, some 1, some 2], _, _, _, _, promise_ok x x.b o.who o.votes h.cm h.op h.mm ho.v40 ho.vin hn, t3, ?_⟩
      rintro r o' c' ⟨rfl, rfl, rfl⟩
      rw [e1]
      ((conv=>whnf)<;>repeat(with_reducible refine D1 ?_)<;>conv=>whnf)
      refine ⟨[], [], _, _, _, _, same_ok ((layR (bestV (risU (who1 who o.who) (votes1 who votes o.who o.votes) x.masters.toNat 0)) x.frm j).map (voteR x.b)) ((layR (bestV (risU (who1 who o.who) (votes1 who votes o.who o.votes) x.masters.toNat 0)) x.frm j).map (voteR x.b)) (by rw [List.length_map]; unfold layR; rw [List.length_map, List.length_range]; have := h.frm; omega), t3, ?_⟩
      rintro r o' c' ⟨rfl, rfl, rfl⟩
      rw [eqB_iff.2 rfl]
      ((conv=>whnf)<;>repeat(with_reducible refine D1 ?_)<;>conv=>whnf)
      exact ⟨[], [some 0, some 1, some 2], _, _, _, t3, ⟨y, _, _, _, fl', rfl, e2, .inl ⟨rfl, rfl⟩⟩⟩
    ·refine ⟨[], [], _, _, _, _, refPromiseNo_ok x who votes L fl x.b o.who o.votes hg, t3, ?_⟩
     rintro r o' c' ⟨rfl, rfl, rfl⟩
     ((conv=>whnf)<;>repeat(with_reducible refine D1 ?_)<;>conv=>whnf)
     refine ⟨[], [some 0, some 1, some 2], _, _, _, _, promise_ok x x.b o.who o.votes h.cm h.op h.mm ho.v40 ho.vin hn, t3, ?_⟩
     rintro r o' c' ⟨rfl, rfl, rfl⟩
     rw [show promS x x.b o.who o.votes = (x, [], false) by unfold promS; rw [if_neg hg]]
     ((conv=>whnf)<;>repeat(with_reducible refine D1 ?_)<;>conv=>whnf)
     refine ⟨[], [], _, _, _, _, same_ok [] [] (by simp), t3, ?_⟩
     rintro r o' c' ⟨rfl, rfl, rfl⟩
     rw [show eqB ([] : List Vote) [] = true from eqB_iff.2 rfl]
     ((conv=>whnf)<;>repeat(with_reducible refine D1 ?_)<;>conv=>whnf)
     exact ⟨[], [some 0, some 1, some 2], _, _, _, t3, ⟨x, who, votes, L, fl, rfl, h, .inl ⟨rfl, rfl⟩⟩⟩
   ·((conv=>whnf)<;>repeat(with_reducible refine D1 ?_)<;>conv=>whnf)
    (first|refine ⟨?_,?_⟩|refine nsplit ?_ ?_|refine bsplit ?_ ?_)<;>intro k2<;>have hz_:=True.intro<;>clear hz_
    ·((conv=>whnf)<;>repeat(with_reducible refine D1 ?_)<;>conv=>whnf)
     refine ⟨[], [], _, _, _, _, refPropose_ok x who votes L fl o.cmd ho.ep hL hn', t3, ?_⟩
     rintro r o' c' ⟨fl', rfl, rfl, rfl, hfl⟩
     obtain ⟨e1, e2, e3, e4⟩ := rel_propose h o.cmd hfl
     rw [e3]
     ((conv=>whnf)<;>repeat(with_reducible refine D1 ?_)<;>conv=>whnf)
     refine ⟨[], [some 0, some 1, some 2], _, _, _, _, propose_ok x o.cmd h.op hn', t3, ?_⟩
     rintro r o' c' ⟨rfl, rfl, rfl⟩
     rw [e1, e2]
     ((conv=>whnf)<;>repeat(with_reducible refine D1 ?_)<;>conv=>whnf)
     (first|refine ⟨?_,?_⟩|refine nsplit ?_ ?_|refine bsplit ?_ ?_)<;>intro hv<;>have hz_:=True.intro<;>clear hz_
     ·((conv=>whnf)<;>repeat(with_reducible refine D1 ?_)<;>conv=>whnf)
      (first|refine ⟨?_,?_⟩|refine nsplit ?_ ?_|refine bsplit ?_ ?_)<;>intro h_<;>have hz_:=True.intro<;>clear hz_
      ·((conv=>whnf)<;>repeat(with_reducible refine D1 ?_)<;>conv=>whnf)
       exact ⟨[], [some 0, some 1, some 2], _, _, _, t3, ⟨(proposeS x o.cmd).1, who, votes, (proposeR x L o.cmd).2.1, fl', rfl, e4, .inl ⟨rfl, rfl⟩⟩⟩
      ·exact absurd rfl h_
     ·exact absurd ((veq_vote _ _).trans (eqB_iff.2 rfl)) hv
    ·((conv=>whnf)<;>repeat(with_reducible refine D1 ?_)<;>conv=>whnf)
     (first|refine ⟨?_,?_⟩|refine nsplit ?_ ?_|refine bsplit ?_ ?_)<;>intro k3<;>have hz_:=True.intro<;>clear hz_
     ·((conv=>whnf)<;>repeat(with_reducible refine D1 ?_)<;>conv=>whnf)
      refine ⟨[], [], _, _, _, _, refAccepted_ok x who votes L fl x.b o.n o.who h.mm hL hw5, t3, ?_⟩
      rintro r o' c' ⟨L', fl', v, ok, rfl, rfl, rfl, hA, hfl⟩
      obtain ⟨e1, e2, e3⟩ := rel_accepted h hA hfl
      rw [e2]
      ((conv=>whnf)<;>repeat(with_reducible refine D1 ?_)<;>conv=>whnf)
      refine ⟨[], [some 0, some 1, some 2], _, _, _, _, accepted_ok x x.b o.n o.who h.mm hev h.op.nd, t3, ?_⟩
      rintro r o' c' ⟨rfl, rfl, rfl⟩
      rw [e1]
      ((conv=>whnf)<;>repeat(with_reducible refine D1 ?_)<;>conv=>whnf)
      (first|refine ⟨?_,?_⟩|refine nsplit ?_ ?_|refine bsplit ?_ ?_)<;>intro hv<;>have hz_:=True.intro<;>clear hz_
      ·((conv=>whnf)<;>repeat(with_reducible refine D1 ?_)<;>conv=>whnf)
       repeat ((first | (refine ⟨fun h_ => ?_, fun h_ => ?_⟩) | (refine nsplit (fun h_ => ?_) (fun h_ => ?_)) | (refine bsplit (fun h_ => ?_) (fun h_ => ?_))); rotate_left; first | (exact absurd rfl h_) | (exact absurd (by decide) h_) | (cases h_; done) | (simp at h_; done); ((conv=>whnf)<;>repeat(with_reducible refine D1 ?_)<;>conv=>whnf))
       refine ⟨[], [some 0, some 1, some 2], ?_⟩
       iterate 3 constructor
       refine ⟨⟨?_, ?_, ?_⟩, ⟨(acceptedS x x.b o.n o.who).1, who, votes, L', fl', rfl, e3, .inl ⟨rfl, rfl⟩⟩⟩
       all_goals (repeat' first|with_reducible exact Lz.rfl|exact Lw.rfl|exact Lz.wrap (by omega)|(unfold goInt;with_reducible exact Lz.rfl)|exact flx _|constructor)
       all_goals first | exact Lz.rfl | exact Lz.of (congrArg Value.bool (by simp))
      ·exact absurd ((veq_vote _ _).trans (eqB_iff.2 rfl)) hv
     ·((conv=>whnf)<;>repeat(with_reducible refine D1 ?_)<;>conv=>whnf)
      have hr := rel_refuse h x.b
      by_cases he : (refuseS x x.b).2 = true
      ·rw [if_pos he] at hr
       refine ⟨[], [], _, _, _, _, refRefuse_ok x who votes L fl x.b, t3, ?_⟩
       rintro r o' c' ⟨rfl, rfl, rfl⟩
       rw [if_pos he]
       ((conv=>whnf)<;>repeat(with_reducible refine D1 ?_)<;>conv=>whnf)
       refine ⟨[], [some 0, some 1, some 2], _, _, _, _, refuse_ok x x.b, t3, ?_⟩
       rintro r o' c' ⟨rfl, rfl, rfl⟩
       rw [he]
       ((conv=>whnf)<;>repeat(with_reducible refine D1 ?_)<;>conv=>whnf)
       exact ⟨[], [some 0, some 1, some 2], _, _, _, t3, ⟨(refuseS x x.b).1, [], [], [], true, rfl, hr, .inl ⟨rfl, rfl⟩⟩⟩
      ·rw [if_neg he] at hr
       refine ⟨[], [], _, _, _, _, refRefuse_ok x who votes L fl x.b, t3, ?_⟩
       rintro r o' c' ⟨rfl, rfl, rfl⟩
       rw [if_neg he]
       ((conv=>whnf)<;>repeat(with_reducible refine D1 ?_)<;>conv=>whnf)
       refine ⟨[], [some 0, some 1, some 2], _, _, _, _, refuse_ok x x.b, t3, ?_⟩
       rintro r o' c' ⟨rfl, rfl, rfl⟩
       rw [hr.2, Bool.eq_false_iff.2 he]
       ((conv=>whnf)<;>repeat(with_reducible refine D1 ?_)<;>conv=>whnf)
       exact ⟨[], [some 0, some 1, some 2], _, _, _, t3, ⟨x, who, votes, L, fl, rfl, h, .inl ⟨rfl, rfl⟩⟩⟩
end Go.M
