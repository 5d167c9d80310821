/-
  Regions that draw their order: what holds between two operations.
-/
import Derived.Test.YtmookciakjmjiaaMDraw
namespace Go.M
open Go

/-- A canonical run whose operations may change places. -/
structure TOk (ops : List Oper) (hs : Nat → AHeap) (lg : Nat → LogE) : Prop where
  kind : ∀ j, j < ops.length → (lg j = .pure ∧ hs (j + 1) = hs j) ∨ (∃ q, lg j = .rd q (hs j) ∧ hs (j + 1) = hs j ∧ q.blk < (hs j).size) ∨
    (∃ md : Made, lg j = .alloc (hs j) (hs (j + 1)) ∧ hs (j + 1) = (hs j).push (md.obj (hs j).size)) ∨ (lg j = .eff (hs j) (hs (j + 1)) ∧ (hs j).size ≤ (hs (j + 1)).size)
  pass : ∀ i j, i < j → j < ops.length → mayPass (befores ops []) i (lg i) j (lg j) = true

/-- An operation that makes a block. -/
def Al (ops : List Oper) (hs : Nat → AHeap) (lg : Nat → LogE) (j : Nat) (md : Made) : Prop :=
  j < ops.length ∧ lg j = .alloc (hs j) (hs (j + 1)) ∧ hs (j + 1) = (hs j).push (md.obj (hs j).size)

section
variable {E : Env} {base B : Nat} {ops : List Oper} {hs : Nat → AHeap} {lg : Nat → LogE}

theorem TOk.step (X : TOk ops hs lg) {j : Nat} (hj : j < ops.length) : (hs j).size ≤ (hs (j + 1)).size := by
  rcases X.kind j hj with ⟨_, h⟩ | ⟨q, _, h, _⟩ | ⟨md, _, h⟩ | ⟨_, h⟩
  · rw [h]; exact Nat.le_refl _
  · rw [h]; exact Nat.le_refl _
  · rw [h, AHeap.size_push]; omega
  · exact h
theorem TOk.mono (X : TOk ops hs lg) {i : Nat} : ∀ {j : Nat}, i ≤ j → j ≤ ops.length → (hs i).size ≤ (hs j).size := by
  intro j
  induction j with
  | zero => intro h _; rw [Nat.le_zero.1 h]; exact Nat.le_refl _
  | succ j ih =>
    intro h hj
    by_cases e : i = j + 1
    · subst e; exact Nat.le_refl _
    · exact Nat.le_trans (ih (by omega) (by omega)) (X.step (by omega))
theorem Al.size {j : Nat} {md : Made} (h : Al ops hs lg j md) : (hs (j + 1)).size = (hs j).size + 1 := by rw [h.2.2]; rfl
theorem Al.inj (X : TOk ops hs lg) {i j : Nat} {md md' : Made} (h : Al ops hs lg i md) (k : Al ops hs lg j md') (e : (hs i).size = (hs j).size) : i = j := by
  rcases Nat.lt_trichotomy i j with hl | hl | hl
  · have := X.mono (i := i + 1) (j := j) hl (by have := k.1; omega)
    rw [h.size] at this; omega
  · exact hl
  · have := X.mono (i := j + 1) (j := i) hl (by have := h.1; omega)
    rw [k.size] at this; omega
theorem made_self (md : Made) (b : Nat) : ∀ cs f tip thr, md.obj b = .cells cs f tip thr → f = b ∧ tip = b := by
  intro cs f tip thr h
  cases md <;> simp [Made.obj] at h
  exact ⟨h.2.1.symm, h.2.2.1.symm⟩

/-- A read tells the same along the run. -/
theorem TOk.chain (X : TOk ops hs lg) {q : RQ} {lo : Nat} (hb : q.blk < (hs lo).size) : ∀ {hi : Nat}, lo ≤ hi → hi ≤ ops.length →
    (∀ i, lo ≤ i → i < hi → ((lg i = .eff (hs i) (hs (i + 1))) ∨ (lg i = .alloc (hs i) (hs (i + 1)))) → sameRQ (hs i) (hs (i + 1)) q = true) → q.run (hs hi) = q.run (hs lo) := by
  intro hi
  induction hi with
  | zero => intro h _ _; rw [Nat.le_zero.1 h]
  | succ k ih =>
    intro h hk hsame
    by_cases e : lo = k + 1
    · subst e; rfl
    · have h1 := ih (by omega) (by omega) fun i hi1 hi2 => hsame i hi1 (by omega)
      rw [← h1]
      have hbk : q.blk < (hs k).size := Nat.lt_of_lt_of_le hb (X.mono (by omega) (by omega))
      rcases X.kind k (by omega) with ⟨_, h⟩ | ⟨q', _, h, _⟩ | ⟨md, h, _⟩ | ⟨h, _⟩
      · rw [h]
      · rw [h]
      · exact sameRQ_run (hsame k (by omega) (by omega) (.inr h)) hbk
      · exact sameRQ_run (hsame k (by omega) (by omega) (.inl h)) hbk

/-- What holds of both memories between two operations. -/
structure Core (E : Env) (base B : Nat) (ops : List Oper) (hs : Nat → AHeap) (lg : Nat → LogE) (μ0 : Emb) (w0 : World) (c : Nat) (L : Nat → Bool) (μ : Emb) (w : World) : Prop where
  cN : c ≤ ops.length
  effs : ∀ j h h', j < ops.length → lg j = .eff h h' → (L j = true ↔ j < c)
  rel : HRel E base B (cut μ (hs c).size) (hs c) w
  le0 : μ0.le μ
  grow : Grow base μ0 w0 w
  new : ∀ b m, μ0 b = none → μ b = some m → (hs 0).size ≤ b ∧ base ≤ b ∧ (w0.heap.size ≤ m.r ∨ ∃ b0 m0, base ≤ b0 ∧ μ0 b0 = some m0 ∧ m0.r = m.r)
  unt : ∀ b, b < (hs 0).size → μ0 b = none → (hs c).get b = (hs 0).get b
  late : ∀ j md, j < c → Al ops hs lg j md → L j = false → μ (hs j).size = none ∧ (hs c).get (hs j).size = some (md.obj (hs j).size)
  got : ∀ j md, c ≤ j → Al ops hs lg j md → L j = true → ∃ m, μ (hs j).size = some m
  pend : ∀ b m, (hs c).size ≤ b → μ b = some m → ∃ j md o', c ≤ j ∧ L j = true ∧ Al ops hs lg j md ∧ b = (hs j).size ∧ w.heap[m.r]? = some o' ∧ w0.heap.size ≤ m.r ∧
    ∀ μ' h b', (cut μ (hs j).size).le μ' → ORel μ' h base b' m (md.obj b') o'
  apart : ∀ b1 b2 m1 m2, (hs c).size ≤ b1 → μ b1 = some m1 → μ b2 = some m2 → m1.r = m2.r → b1 = b2

def setL (L : Nat → Bool) (k : Nat) : Nat → Bool := fun j => if j = k then true else L j
theorem setL_self (L : Nat → Bool) (k : Nat) : setL L k k = true := by simp [setL]
theorem setL_ne {L : Nat → Bool} {k j : Nat} (h : j ≠ k) : setL L k j = L j := by simp [setL, h]
theorem setL_of {L : Nat → Bool} {k j : Nat} (h : L j = true) : setL L k j = true := by unfold setL; split <;> simp [h]

variable {μ0 : Emb} {w0 : World} {c : Nat} {L : Nat → Bool} {μ : Emb} {w : World}

/-- The place in the canonical run goes on, past whatever turns no memory. -/
theorem Core.go (X : TOk ops hs lg) (C : Core E base B ops hs lg μ0 w0 c L μ w) (hc : c < ops.length) (hne : ∀ h h', lg c ≠ .eff h h') (hB : B ≤ w0.heap.size) (hb0 : base ≤ (hs 0).size) : Core E base B ops hs lg μ0 w0 (c + 1) L μ w := by
  have heff : ∀ j h h', j < ops.length → lg j = .eff h h' → (L j = true ↔ j < c + 1) := fun j h h' hj hl => by
    rw [C.effs j h h' hj hl]
    constructor
    · intro h; omega
    · intro h1
      have : j ≠ c := fun e => by subst e; exact hne _ _ hl
      omega
  have same : hs (c + 1) = hs c → (∀ md, ¬ Al ops hs lg c md) → Core E base B ops hs lg μ0 w0 (c + 1) L μ w := by
    intro e hna
    refine ⟨hc, heff, by rw [e]; exact C.rel, C.le0, C.grow, C.new, by rw [e]; exact C.unt, ?_, ?_, ?_, by rw [e]; exact C.apart⟩
    · intro j md hj hal hl
      rw [e]
      have : j ≠ c := fun h => by subst h; exact hna _ hal
      exact C.late j md (by omega) hal hl
    · intro j md hj; exact C.got j md (by omega)
    · rw [e]; intro b m hb hm
      obtain ⟨j, md, o', k1, k2, k3, k4⟩ := C.pend b m hb hm
      have : j ≠ c := fun h => by subst h; exact hna _ k3
      exact ⟨j, md, o', by omega, k2, k3, k4⟩
  rcases X.kind c hc with ⟨h1, h2⟩ | ⟨q, h1, h2, _⟩ | ⟨md, h1, h2⟩ | ⟨h1, _⟩
  · exact same h2 fun md ha => by have := ha.2.1; rw [h1] at this; cases this
  · exact same h2 fun md ha => by have := ha.2.1; rw [h1] at this; cases this
  · have hal : Al ops hs lg c md := ⟨hc, h1, h2⟩
    have hsz := hal.size
    have h00 := X.mono (i := 0) (j := c) (Nat.zero_le _) C.cN
    have hself := made_self md (hs c).size
    have Hp : HRel E base B (cut μ (hs c).size) (hs (c + 1)) w := by rw [h2]; exact C.rel.pushA hself
    have hget : (hs (c + 1)).get (hs c).size = some (md.obj (hs c).size) := by rw [h2, AHeap.get_push, if_pos rfl]
    have hold : ∀ b, b < (hs c).size → (hs (c + 1)).get b = (hs c).get b := fun b hb => by rw [h2, AHeap.get_push, if_neg (by omega)]
    have hrel : HRel E base B (cut μ (hs (c + 1)).size) (hs (c + 1)) w := by
      cases hm : μ (hs c).size with
      | none =>
        have e : cut μ (hs (c + 1)).size = cut μ (hs c).size := by
          funext b
          unfold cut
          by_cases e1 : b < (hs c).size
          · rw [if_pos e1, if_pos (by omega)]
          · rw [if_neg e1]
            split
            · have : b = (hs c).size := by omega
              rw [this]; exact hm
            · rfl
        rw [e]; exact Hp
      | some m =>
        have e : cut μ (hs (c + 1)).size = upd (cut μ (hs c).size) (hs c).size m := by
          funext b
          unfold cut upd
          by_cases e1 : b = (hs c).size
          · subst e1; rw [if_pos (by omega), if_pos rfl, hm]
          · rw [if_neg e1]
            show _ = if b < (hs c).size then μ b else none
            by_cases e2 : b < (hs c).size
            · rw [if_pos e2, if_pos (by omega)]
            · rw [if_neg e2, if_neg (by omega)]
        obtain ⟨j, md', o', k1, k2, k3, k4, k5, k6, k7⟩ := C.pend _ m (Nat.le_refl _) hm
        have hjc : j = c := (Al.inj X hal k3 k4).symm
        subst hjc
        have hmd : md'.obj (hs j).size = md.obj (hs j).size := by
          have h3 := k3.2.2
          have : (hs (j + 1)).get (hs j).size = some (md'.obj (hs j).size) := by rw [h3, AHeap.get_push, if_pos rfl]
          rw [hget] at this; exact (Option.some.inj this).symm
        rw [e]
        refine Hp.track (by omega) hget (by unfold cut; rw [if_neg (by omega)]) (by omega) (by omega) k5 ?_ hself ?_
        · intro d md2 hd he
          have hd2 := cut_some.1 hd
          have := C.apart _ _ _ _ (Nat.le_refl _) hm hd2.2 he.symm
          omega
        · rw [← hmd]
          exact k7 _ _ _ (by
            rw [← e]; exact cut_mono μ.le_refl (by omega))
    refine ⟨hc, heff, hrel, C.le0, C.grow, C.new, ?_, ?_, ?_, ?_, ?_⟩
    · intro b hb h0
      rw [hold b (by omega)]; exact C.unt b hb h0
    · intro j md' hj ha hl
      by_cases e : j = c
      · subst e
        have hmd : md'.obj (hs j).size = md.obj (hs j).size := by
          have h3 := ha.2.2
          have : (hs (j + 1)).get (hs j).size = some (md'.obj (hs j).size) := by rw [h3, AHeap.get_push, if_pos rfl]
          rw [hget] at this; exact (Option.some.inj this).symm
        refine ⟨?_, by rw [hmd]; exact hget⟩
        cases hm : μ (hs j).size with
        | none => rfl
        | some m =>
          obtain ⟨j', md2, o', k1, k2, k3, k4, _⟩ := C.pend _ m (Nat.le_refl _) hm
          have : j' = j := (Al.inj X hal k3 k4).symm
          subst this
          rw [hl] at k2; cases k2
      · obtain ⟨q1, q2⟩ := C.late j md' (by omega) ha hl
        have hjs : (hs j).size < (hs c).size := by
          have := X.mono (i := j + 1) (j := c) (by omega) C.cN
          rw [ha.size] at this; omega
        exact ⟨q1, by rw [hold _ hjs]; exact q2⟩
    · intro j md' hj; exact C.got j md' (by omega)
    · intro b m hb hm
      obtain ⟨j, md', o', k1, k2, k3, k4, k5⟩ := C.pend b m (by omega) hm
      have : j ≠ c := fun h => by subst h; omega
      exact ⟨j, md', o', by omega, k2, k3, k4, k5⟩
    · intro b1 b2 m1 m2 hb1; exact C.apart b1 b2 m1 m2 (by omega)
  · exact absurd h1 (hne _ _)

/-- … up to a place. -/
theorem Core.goTo (X : TOk ops hs lg) (hB : B ≤ w0.heap.size) (hb0 : base ≤ (hs 0).size) : ∀ (n : Nat) {c : Nat}, Core E base B ops hs lg μ0 w0 c L μ w → c + n ≤ ops.length → (∀ i, c ≤ i → i < c + n → ∀ h h', lg i ≠ .eff h h') → Core E base B ops hs lg μ0 w0 (c + n) L μ w
  | 0, c, C, _, _ => C
  | n + 1, c, C, hn, hne => by
    have := Core.goTo X hB hb0 n (c := c + 1) (C.go X (by omega) (hne c (Nat.le_refl _) (by omega)) hB hb0) (by omega) (fun i h1 h2 => hne i (by omega) (by omega))
    rw [show c + (n + 1) = c + 1 + n by omega]; exact this

/-- An operation that neither makes a block nor turns memory. -/
theorem Core.setQuiet (C : Core E base B ops hs lg μ0 w0 c L μ w) {k : Nat} (h1 : ∀ h h', lg k ≠ .eff h h') (h2 : ∀ h h', lg k ≠ .alloc h h') : Core E base B ops hs lg μ0 w0 c (setL L k) μ w := by
  have hal : ∀ {j md}, Al ops hs lg j md → j ≠ k := fun ha e => by subst e; exact h2 _ _ ha.2.1
  refine ⟨C.cN, ?_, C.rel, C.le0, C.grow, C.new, C.unt, ?_, ?_, ?_, C.apart⟩
  · intro j h h' hj hl
    rw [setL_ne (fun e => by subst e; exact h1 _ _ hl)]; exact C.effs j h h' hj hl
  · intro j md hj ha hl
    rw [setL_ne (hal ha)] at hl; exact C.late j md hj ha hl
  · intro j md hj ha hl
    rw [setL_ne (hal ha)] at hl; exact C.got j md hj ha hl
  · intro b m hb hm
    obtain ⟨j, md, o', k1, k2, k3⟩ := C.pend b m hb hm
    exact ⟨j, md, o', k1, setL_of k2, k3⟩

end
end Go.M
