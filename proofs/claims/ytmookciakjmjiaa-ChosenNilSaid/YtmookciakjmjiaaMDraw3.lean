/-
  Regions that draw their order: an operation that makes a block, and one that turns memory.
-/
import Derived.Test.YtmookciakjmjiaaMDraw2
namespace Go.M
open Go
section
variable {E : Env} {base B : Nat} {ops : List Oper} {hs : Nat → AHeap} {lg : Nat → LogE}
variable {μ0 : Emb} {w0 : World} {c : Nat} {L : Nat → Bool} {μ : Emb} {w w' : World}

theorem Core.lt (C : Core E base B ops hs lg μ0 w0 c L μ w) {b : Nat} {m : MT} (hm : μ b = some m) : m.r < w.heap.size := by
  by_cases hb : b < (hs c).size
  · exact C.rel.lt (cut_some.2 ⟨hb, hm⟩)
  · obtain ⟨j, md, o', _, _, _, _, k5, _⟩ := C.pend b m (by omega) hm
    exact (Array.getElem?_eq_some_iff.1 k5).1

theorem Core.alloc (X : TOk ops hs lg) (C : Core E base B ops hs lg μ0 w0 c L μ w) (hB : B ≤ w0.heap.size) (hb0 : base ≤ (hs 0).size) {k : Nat} {md : Made} (ha : Al ops hs lg k md) (hk : L k = false) {o' : Obj} (hw : Alc w o' w') {n : Nat}
    (hobj : ∀ μ' h b', (cut μ (max (hs k).size (hs c).size)).le μ' → ORel μ' h base b' ⟨w.heap.size, 0, n⟩ (md.obj b') o') :
    μ.le (upd μ (hs k).size ⟨w.heap.size, 0, n⟩) ∧ Core E base B ops hs lg μ0 w0 c (setL L k) (upd μ (hs k).size ⟨w.heap.size, 0, n⟩) w' := by
  have hsz := ha.size
  have h00 := X.mono (i := 0) (j := k) (Nat.zero_le _) (by have := ha.1; omega)
  have hge : ∀ {j : Nat} {md' : Made}, Al ops hs lg j md' → (hs c).size ≤ (hs j).size → c ≤ j := by
    intro j md' hj hle
    by_cases h : c ≤ j
    · exact h
    · have := X.mono (i := j + 1) (j := c) (by omega) C.cN
      rw [hj.size] at this; omega
  have hnone : μ (hs k).size = none := by
    by_cases hkc : k < c
    · exact (C.late k md hkc ha hk).1
    · cases hm : μ (hs k).size with
      | none => rfl
      | some m =>
        obtain ⟨j, md', o2, k1, k2, k3, k4, _⟩ := C.pend _ m (X.mono (by omega) (by have := ha.1; omega)) hm
        have : k = j := Al.inj X ha k3 k4
        subst this
        rw [hk] at k2; cases k2
  have hle : μ.le (upd μ (hs k).size ⟨w.heap.size, 0, n⟩) := upd_le hnone
  have cas : ∀ {d : Nat} {md : MT}, upd μ (hs k).size ⟨w.heap.size, 0, n⟩ d = some md → (d = (hs k).size ∧ md = ⟨w.heap.size, 0, n⟩) ∨ (d ≠ (hs k).size ∧ μ d = some md) := by
    intro d md hd
    by_cases e : d = (hs k).size
    · subst e; rw [upd_self] at hd; cases hd; exact .inl ⟨rfl, rfl⟩
    · rw [upd_ne _ _ e] at hd; exact .inr ⟨e, hd⟩
  have hgw := C.grow.size
  have hkeep : ∀ r, r < w.heap.size → w'.heap[r]? = w.heap[r]? := fun r hr => by rw [hw.get, if_neg (by omega)]
  have hself : w'.heap[w.heap.size]? = some o' := by rw [hw.get, if_pos rfl]
  refine ⟨hle, C.cN, ?_, ?_, Emb.le_trans C.le0 hle, ?_, ?_, C.unt, ?_, ?_, ?_, ?_⟩
  · intro j h h' hj hl
    rw [setL_ne (fun e => by subst e; have := ha.2.1; rw [hl] at this; cases this)]; exact C.effs j h h' hj hl
  · by_cases hkc : k < c
    · have hks : (hs k).size < (hs c).size := by
        have := X.mono (i := k + 1) (j := c) (by omega) C.cN
        omega
      have e : cut (upd μ (hs k).size ⟨w.heap.size, 0, n⟩) (hs c).size = upd (cut μ (hs c).size) (hs k).size ⟨w.heap.size, 0, n⟩ := by
        funext b
        unfold cut upd
        by_cases e1 : b = (hs k).size
        · subst e1; rw [if_pos hks]; simp
        · rw [if_neg e1]
          rw [if_neg e1]
      obtain ⟨q1, q2⟩ := C.late k md hkc ha hk
      have hmx : max (hs k).size (hs c).size = (hs c).size := Nat.max_eq_right (by omega)
      rw [e]
      refine (C.rel.alc hw).track hks q2 (by unfold cut; rw [if_pos hks]; exact q1) (by omega) (by show B ≤ w.heap.size; omega) hself ?_ (made_self md _) ?_
      · intro d md2 hd he
        have := C.lt (cut_some.1 hd).2
        simp only at he; omega
      · refine hobj _ _ _ ?_
        rw [hmx]
        exact upd_le (by unfold cut; rw [if_pos hks]; exact q1)
    · have hks : (hs c).size ≤ (hs k).size := X.mono (by omega) (by have := ha.1; omega)
      have e : cut (upd μ (hs k).size ⟨w.heap.size, 0, n⟩) (hs c).size = cut μ (hs c).size := by
        funext b
        unfold cut upd
        by_cases e1 : b < (hs c).size
        · rw [if_pos e1, if_pos e1, if_neg (by omega)]
        · rw [if_neg e1, if_neg e1]
      rw [e]; exact C.rel.alc hw
  · refine ⟨hw.tape.trans C.grow.tape, hw.os.trans C.grow.os, hw.output.trans C.grow.output, by rw [hw.size]; omega, fun r hr hk => ?_⟩
    rw [hkeep r (by omega)]; exact C.grow.keep r hr hk
  · intro b m h0 hm
    rcases cas hm with ⟨rfl, rfl⟩ | ⟨_, h2⟩
    · exact ⟨h00, by omega, .inl hgw⟩
    · exact C.new b m h0 h2
  · intro j md' hj hj2 hl
    have hne : j ≠ k := fun e => by subst e; rw [setL_self] at hl; cases hl
    rw [setL_ne hne] at hl
    obtain ⟨q1, q2⟩ := C.late j md' hj hj2 hl
    exact ⟨by rw [upd_ne _ _ (fun e => hne (Al.inj X hj2 ha e))]; exact q1, q2⟩
  · intro j md' hj hj2 hl
    by_cases e : j = k
    · subst e; exact ⟨_, upd_self _ _ _⟩
    · rw [setL_ne e] at hl
      obtain ⟨m, hm⟩ := C.got j md' hj hj2 hl
      exact ⟨m, hle _ _ hm⟩
  · intro b m hb hm
    rcases cas hm with ⟨rfl, rfl⟩ | ⟨_, h2⟩
    · have hck := hge ha hb
      have hmx : max (hs k).size (hs c).size = (hs k).size := Nat.max_eq_left hb
      exact ⟨k, md, o', hck, setL_self _ _, ha, rfl, hself, hgw, fun μ' h b' hμ => hobj μ' h b' (by rw [hmx]; exact Emb.le_trans (cut_mono hle (Nat.le_refl _)) hμ)⟩
    · obtain ⟨j, md', o2, k1, k2, k3, k4, k5, k6, k7⟩ := C.pend b m hb h2
      exact ⟨j, md', o2, k1, setL_of k2, k3, k4, by rw [hkeep _ (C.lt h2)]; exact k5, k6, fun μ' h b' hμ => k7 μ' h b' (Emb.le_trans (cut_mono hle (Nat.le_refl _)) hμ)⟩
  · intro b1 b2 m1 m2 hb1 h1 h2 he
    rcases cas h1 with ⟨rfl, rfl⟩ | ⟨_, h1⟩ <;> rcases cas h2 with ⟨rfl, rfl⟩ | ⟨_, h2⟩
    · rfl
    · have := C.lt h2; simp only at he; omega
    · have := C.lt h1; simp only at he; omega
    · exact C.apart b1 b2 m1 m2 hb1 h1 h2 he

theorem Core.eff (X : TOk ops hs lg) (C : Core E base B ops hs lg μ0 w0 c L μ w) (hc : c < ops.length) (he : lg c = .eff (hs c) (hs (c + 1))) {μ1 : Emb} {w1 : World} (S : Step E base B (cut μ (hs c).size) (hs c) w μ1 (hs (c + 1)) w1) :
    ∃ μ', μ.le μ' ∧ cut μ' (hs (c + 1)).size = μ1 ∧ Core E base B ops hs lg μ0 w0 (c + 1) (setL L c) μ' w1 := by
  have hst := X.step hc
  have hnal : ∀ {j md}, Al ops hs lg j md → j ≠ c := fun ha e => by subst e; have := ha.2.1; rw [he] at this; cases this
  -- whoever is made early stands behind
  have hpend : ∀ b m, (hs c).size ≤ b → μ b = some m → (hs (c + 1)).size ≤ b := by
    intro b m hb hm
    obtain ⟨j, md, o', k1, k2, k3, k4, _⟩ := C.pend b m hb hm
    have := hnal k3
    rw [k4]; exact X.mono (by omega) (by have := k3.1; omega)
  let μ' : Emb := fun b => if b < (hs (c + 1)).size then μ1 b else μ b
  have hlt : ∀ b, b < (hs (c + 1)).size → μ' b = μ1 b := fun b hb => if_pos hb
  have hge : ∀ b, (hs (c + 1)).size ≤ b → μ' b = μ b := fun b hb => if_neg (by omega)
  have hle : μ.le μ' := by
    intro b m hm
    by_cases hb : b < (hs (c + 1)).size
    · rw [hlt b hb]
      refine S.le b m (cut_some.2 ⟨?_, hm⟩)
      by_cases h2 : b < (hs c).size
      · exact h2
      · have := hpend b m (by omega) hm; omega
    · rw [hge b (by omega)]; exact hm
  have hcut : cut μ' (hs (c + 1)).size = μ1 := by
    funext b
    unfold cut
    by_cases hb : b < (hs (c + 1)).size
    · rw [if_pos hb, hlt b hb]
    · rw [if_neg hb]
      cases hm : μ1 b with
      | none => rfl
      | some m => have := S.rel.dom b m hm; omega
  have hkeep : ∀ b m, (hs c).size ≤ b → μ b = some m → w1.heap[m.r]? = w.heap[m.r]? := by
    intro b m hb hm
    refine S.grow.keep m.r (C.lt hm) fun b2 m2 hb2 he2 => ?_
    have h2 := cut_some.1 hb2
    have := C.apart b b2 m m2 hb hm h2.2 he2.symm
    omega
  have cas : ∀ {b : Nat} {m : MT}, μ' b = some m → (μ b = some m) ∨ (μ b = none ∧ b < (hs (c + 1)).size ∧ (hs c).size ≤ b ∧ base ≤ b ∧ (w.heap.size ≤ m.r ∨ ∃ b0 m0, base ≤ b0 ∧ b0 < (hs c).size ∧ μ b0 = some m0 ∧ m0.r = m.r)) := by
    intro b m hm
    cases h0 : μ b with
    | some m0 => have := hle b m0 h0; rw [hm] at this; cases this; exact .inl rfl
    | none =>
      by_cases hb : b < (hs (c + 1)).size
      · rw [hlt b hb] at hm
        have hn : cut μ (hs c).size b = none := by unfold cut; split <;> first | exact h0 | rfl
        obtain ⟨q1, q2, q3⟩ := S.new b m hn hm
        refine .inr ⟨rfl, hb, q1, q2, ?_⟩
        rcases q3 with q3 | ⟨b0, m0, q3, q4, q5⟩
        · exact .inl q3
        · have := cut_some.1 q4
          exact .inr ⟨b0, m0, q3, this.1, this.2, q5⟩
      · rw [hge b (by omega), h0] at hm; cases hm
  refine ⟨μ', hle, hcut, hc, ?_, by rw [hcut]; exact S.rel, Emb.le_trans C.le0 hle, ?_, ?_, ?_, ?_, ?_, ?_, ?_⟩
  · intro j h h' hj hl
    by_cases e : j = c
    · subst e; rw [setL_self]; simp
    · rw [setL_ne e, C.effs j h h' hj hl]; omega
  · refine ⟨S.grow.tape.trans C.grow.tape, S.grow.os.trans C.grow.os, S.grow.output.trans C.grow.output, Nat.le_trans C.grow.size S.grow.size, fun r hr hk => ?_⟩
    rw [S.grow.keep r (Nat.lt_of_lt_of_le hr C.grow.size) ?_, C.grow.keep r hr hk]
    intro b m hb hmr
    have hm := (cut_some.1 hb).2
    cases h0 : μ0 b with
    | some m0 =>
      have := C.le0 b m0 h0
      rw [hm] at this; cases this
      exact hk b m h0 hmr
    | none =>
      obtain ⟨_, _, h3⟩ := C.new b m h0 hm
      rcases h3 with h3 | ⟨b0, m0, hb0, hm0, hr0⟩
      · omega
      · have := hk b0 m0 hm0 (hr0.trans hmr); omega
  · intro b m h0 hm
    rcases cas hm with hm | ⟨hn, hb1, hb2, hb3, hb4⟩
    · exact C.new b m h0 hm
    · have h00 := X.mono (i := 0) (j := c) (Nat.zero_le _) C.cN
      refine ⟨by omega, hb3, ?_⟩
      rcases hb4 with hb4 | ⟨b0, m0, q1, q2, q3, q4⟩
      · exact .inl (Nat.le_trans C.grow.size hb4)
      · cases h00 : μ0 b0 with
        | some m00 =>
          have := C.le0 b0 m00 h00
          rw [q3] at this; cases this
          exact .inr ⟨b0, m0, q1, h00, q4⟩
        | none =>
          obtain ⟨_, _, hx⟩ := C.new b0 m0 h00 q3
          rcases hx with hx | ⟨b1, m1, r1, r2, r3⟩
          · exact .inl (by omega)
          · exact .inr ⟨b1, m1, r1, r2, r3.trans q4⟩
  · intro b hb h0
    have h00 := X.mono (i := 0) (j := c) (Nat.zero_le _) C.cN
    rw [S.unt b (by omega) ?_, C.unt b hb h0]
    cases hm : cut μ (hs c).size b with
    | none => rfl
    | some m => have := (C.new b m h0 (cut_some.1 hm).2).1; omega
  · intro j md hj ha hl
    have hne := hnal ha
    rw [setL_ne hne] at hl
    obtain ⟨q1, q2⟩ := C.late j md (by omega) ha hl
    have hjs : (hs j).size < (hs c).size := by
      have := X.mono (i := j + 1) (j := c) (by omega) C.cN
      rw [ha.size] at this; omega
    have hn : cut μ (hs c).size (hs j).size = none := by unfold cut; split <;> first | exact q1 | rfl
    refine ⟨?_, by rw [S.unt _ hjs hn]; exact q2⟩
    rw [hlt _ (by omega)]
    cases hm : μ1 (hs j).size with
    | none => rfl
    | some m => have := (S.new _ m hn hm).1; omega
  · intro j md hj ha hl
    rw [setL_ne (hnal ha)] at hl
    obtain ⟨m, hm⟩ := C.got j md (by omega) ha hl
    exact ⟨m, hle _ _ hm⟩
  · intro b m hb hm
    rw [hge b hb] at hm
    obtain ⟨j, md, o', k1, k2, k3, k4, k5, k6, k7⟩ := C.pend b m (by omega) hm
    have := hnal k3
    exact ⟨j, md, o', by omega, setL_of k2, k3, k4, by rw [hkeep b m (by omega) hm]; exact k5, k6, fun μ2 h b' hμ => k7 μ2 h b' (Emb.le_trans (cut_mono hle (Nat.le_refl _)) hμ)⟩
  · intro b1 b2 m1 m2 hb1 h1 h2 hr
    rw [hge b1 hb1] at h1
    rcases cas h2 with h2 | ⟨hn, _, hb2, _, hb4⟩
    · exact C.apart b1 b2 m1 m2 (by omega) h1 h2 hr
    · have hlt1 := C.lt h1
      rcases hb4 with hb4 | ⟨b0, m0, q1, q2, q3, q4⟩
      · omega
      · have := C.apart b1 b0 m1 m0 (by omega) h1 q3 (hr.trans q4.symm)
        omega

end
end Go.M
