import Derived.Test.YtmookciakjmjiaaMPure2
namespace Go.M
open Go

theorem addr_add (r o n : Nat) : (⟨r, o, none⟩ : Addr).add n = ⟨r, o + n, none⟩ := by
  unfold Addr.add
  by_cases h : n = 0
  · simp [h]
  · simp [h]

/-- An optional operand, of both. -/
def ORelV (μ : Emb) (x x' : Option Value) : Prop := match x, x' with
  | none, none => True
  | some v, some v' => VRel μ v v'
  | _, _ => False

theorem boundV_some {dflt y : Nat} {x : Option Value} {n : Nat} (h : boundV dflt y x = some n) : (x = none ∧ n = dflt) ∨ (∃ k i, x = some (.int k i) ∧ 0 ≤ i ∧ i ≤ y ∧ n = i.toNat) := by
  unfold boundV at h
  split at h
  · simp at h; exact .inl ⟨rfl, h.symm⟩
  · simp only [grd_some, Bool.and_eq_true, decide_eq_true_eq, Option.some.injEq] at h
    exact .inr ⟨_, _, rfl, h.1.1, h.1.2, h.2.symm⟩
  · cases h

theorem g_sliceBound {P : Program} {k : IntKind} {i : Int} {y : Nat} (h0 : 0 ≤ i) (h1 : i ≤ y) (code : BoundsCode) : Gives P (Instr.sliceBound (.int k i) y code) i.toNat := by
  intro w
  simp [Instr.sliceBound, asIntOf, h0, h1]

/-- The bounds of a cut. -/
theorem g_sliceBounds {P : Program} {μ : Emb} (isSlice : Bool) {len cap cap' : Nat} (hlc : len ≤ cap') {lo hi mx lo' hi' mx' : Option Value} {m h l : Nat}
    (hm : boundV cap len mx = some m) (hh : boundV len (bif mx.isSome then m else len) hi = some h) (hg : (hi.isSome || mx.isNone) = true) (hl : boundV 0 h lo = some l)
    (rl : ORelV μ lo lo') (rh : ORelV μ hi hi') (rm : ORelV μ mx mx') :
    Gives P (Instr.sliceBounds isSlice len cap' lo' hi' mx') (l, h, if mx.isSome then m else cap') ∧ l ≤ h ∧ h ≤ len ∧ (mx.isSome = true → m ≤ len ∧ h ≤ m) ∧ (mx = none → m = cap) := by
  have key : ∀ {x x' : Option Value} {k : IntKind} {i : Int}, x = some (.int k i) → ORelV μ x x' → x' = some (.int k i) := by
    intro x x' k i hx hr
    subst hx
    cases x' with
    | none => exact hr.elim
    | some v' => rw [VRel.inv_scalar hr rfl]
  have nokey : ∀ {x x' : Option Value}, x = none → ORelV μ x x' → x' = none := by
    intro x x' hx hr
    subst hx
    cases x' with
    | none => rfl
    | some v' => exact hr.elim
  have hlo : l ≤ h := by
    rcases boundV_some hl with ⟨_, rfl⟩ | ⟨k, i, _, h0, h1, rfl⟩ <;> omega
  rcases boundV_some hm with ⟨em, rfl⟩ | ⟨k, i, em, m0, m1, rfl⟩
  · have em' := nokey em rm
    subst em; subst em'
    simp only [Option.isSome_none, cond_false] at hh
    rcases boundV_some hh with ⟨eh, rfl⟩ | ⟨k2, i2, eh, p0, p1, rfl⟩
    · have eh' := nokey eh rh
      subst eh; subst eh'
      refine ⟨fun w => ?_, hlo, Nat.le_refl _, fun h => by simp at h, fun _ => rfl⟩
      rcases boundV_some hl with ⟨el, rfl⟩ | ⟨k3, i3, el, q0, q1, rfl⟩
      · have el' := nokey el rl; subst el; subst el'
        simp [Instr.sliceBounds]
      · have el' := key el rl; subst el; subst el'
        simp [Instr.sliceBounds, g_sliceBound q0 q1 _ w]
    · have eh' := key eh rh
      subst eh; subst eh'
      refine ⟨fun w => ?_, hlo, by omega, fun h => by simp at h, fun _ => rfl⟩
      rcases boundV_some hl with ⟨el, rfl⟩ | ⟨k3, i3, el, q0, q1, rfl⟩
      · have el' := nokey el rl; subst el; subst el'
        simp [Instr.sliceBounds, g_sliceBound p0 (show i2 ≤ (cap' : Int) by omega) _ w]
      · have el' := key el rl; subst el; subst el'
        simp [Instr.sliceBounds, g_sliceBound p0 (show i2 ≤ (cap' : Int) by omega) _ w, g_sliceBound q0 q1 _ w]
  · have em' := key em rm
    subst em; subst em'
    simp only [Option.isSome_some, cond_true] at hh
    rcases boundV_some hh with ⟨eh, rfl⟩ | ⟨k2, i2, eh, p0, p1, rfl⟩
    · subst eh; simp at hg
    · have eh' := key eh rh
      subst eh; subst eh'
      refine ⟨fun w => ?_, hlo, by omega, fun _ => ⟨by omega, by omega⟩, fun h => by simp at h⟩
      rcases boundV_some hl with ⟨el, rfl⟩ | ⟨k3, i3, el, q0, q1, rfl⟩
      · have el' := nokey el rl; subst el; subst el'
        simp [Instr.sliceBounds, g_sliceBound m0 (show i ≤ (cap' : Int) by omega) _ w, g_sliceBound p0 p1 _ w]
      · have el' := key el rl; subst el; subst el'
        simp [Instr.sliceBounds, g_sliceBound m0 (show i ≤ (cap' : Int) by omega) _ w, g_sliceBound p0 p1 _ w, g_sliceBound q0 q1 _ w]

section
variable {P : Program} {E : Env} {μ : Emb}

theorem g_sliceAt (hE : EnvOk P E) {t : TypeId} {x x' v : Value} {lo hi mx lo' hi' mx' : Option Value} (h : asliceV E t x lo hi mx = some v) (hx : VRel μ x x') (rl : ORelV μ lo lo') (rh : ORelV μ hi hi') (rm : ORelV μ mx mx') :
    ∃ v', VRel μ v v' ∧ Gives P (Instr.sliceAt t x' lo' hi' mx') v' := by
  unfold asliceV at h
  simp only [Option.bind_eq_some_iff] at h
  obtain ⟨d, hd, h⟩ := h
  split at h
  · rename_i s
    cases hx.inv_scalar rfl
    simp only [grd_some, Option.bind_eq_some_iff, Option.some.injEq] at h
    obtain ⟨hm, hh, h1, ll, h2, rfl⟩ := h
    have em : mx = none := by simpa using hm
    subst em
    have em' : mx' = none := by cases mx' with
      | none => rfl
      | some v' => exact rm.elim
    subst em'
    have gb := (g_sliceBounds (P := P) (μ := μ) false (cap' := s.size) (Nat.le_refl _) (cap := s.size) (mx := none) (mx' := none) rfl (by simpa using h1) (by simp) h2 rl rh trivial).1
    refine ⟨_, .string μ _, fun w => ?_⟩
    simp [Instr.sliceAt, g_under hE hd w, Instr.slice, gb w]
  · cases hx with
    | lit _ =>
    simp only [Option.bind_eq_some_iff, grd_some, Option.some.injEq] at h
    obtain ⟨size, hs, m, hm, hh, h1, hg, ll, h2, rfl⟩ := h
    obtain ⟨gb, q1, q2, q3, q4⟩ := g_sliceBounds (P := P) (μ := μ) true (cap' := 0) (Nat.le_refl _) hm h1 hg h2 rl rh rm
    refine ⟨_, .lit rfl, fun w => ?_⟩
    have e0 : hh = 0 := by omega
    have e1 : ll = 0 := by omega
    subst e0; subst e1
    have e2 : (if mx.isSome = true then m else 0) = 0 := by
      cases hms : mx.isSome with
      | true => have := (q3 hms).1; simp; omega
      | false => simp
    simp only [Instr.sliceAt, Sem.run_bind, g_under hE hd w, Result.andThen_ok, Instr.slice, gb w, g_size hE hs w, Sem.run_pure, e2]
    simp
  · rename_i elem b o z len cap
    simp only [Option.bind_eq_some_iff, grd_some, beq_iff, Option.some.injEq] at h
    obtain ⟨size, hs, e, m, hm, hh, h1, hg, ll, h2, rfl⟩ := h
    subst e
    have main : ∀ (a' : Addr) (cap' : Nat), x' = .slice (some a') len cap' → len ≤ cap' → ∃ m', Gives P (Instr.sliceAt t x' lo' hi' mx') (.slice (some (if m' = ll then a' else a'.add (ll * size))) (hh - ll) (m' - ll)) ∧
        (m' = if mx.isSome then m else cap') ∧ ll ≤ hh ∧ hh ≤ len ∧ (mx.isSome = true → m ≤ len ∧ hh ≤ m) ∧ (mx = none → m = cap) := by
      intro a' cap' ex hlc
      obtain ⟨gb, q1, q2, q3, q4⟩ := g_sliceBounds (P := P) (μ := μ) true hlc hm h1 hg h2 rl rh rm
      refine ⟨if mx.isSome then m else cap', fun w => ?_, rfl, q1, q2, q3, q4⟩
      subst ex
      simp only [Instr.sliceAt, Sem.run_bind, g_under hE hd w, Result.andThen_ok, Instr.slice, gb w, g_size hE hs w, Sem.run_pure]
      congr 2
      by_cases hz : (if mx.isSome = true then m else cap') = ll
      · rw [if_pos hz, if_pos hz]
      · rw [if_neg hz, if_neg hz]; rfl
    cases hx with
    | lit hh => simp [plain1] at hh
    | slice hb k1 k2 k3 k4 =>
      rename_i cap' mt
      obtain ⟨m', g1, e1, q1, q2, q3, q4⟩ := main _ _ rfl k2
      refine ⟨_, ?_, g1⟩
      by_cases hz : m' = ll
      · rw [if_pos hz]
        have e2 : hh - ll = 0 := by
          cases hms : mx.isSome with
          | true => have := q3 hms; rw [hms] at e1; simp at e1; omega
          | false => rw [hms] at e1; simp at e1; omega
        rw [e2, show m' - ll = 0 by omega]
        simp only [bif_eq]
        split <;> exact .slice0 hb
      · rw [if_neg hz, addr_add]
        have hmc : m ≠ ll := by
          intro e2
          cases hms : mx.isSome with
          | true => rw [hms] at e1; simp at e1; omega
          | false =>
            have := q4 (by simpa using hms)
            rw [hms] at e1; simp at e1
            have := k3 (by omega); omega
        simp only [bif_eq, beq_iff, if_neg hmc]
        have hm'c : m' ≤ cap' := by
          cases hms : mx.isSome with
          | true => have := q3 hms; rw [hms] at e1; simp at e1; omega
          | false => rw [hms] at e1; simp at e1; omega
        have hlm : ll ≤ m' := by
          cases hms : mx.isSome with
          | true => have := q3 hms; rw [hms] at e1; simp at e1; omega
          | false => rw [hms] at e1; simp at e1; omega
        have e3 : mt.s + o + ll * size = mt.s + (o + ll * size) := by omega
        rw [e3]
        refine .slice hb ?_ ?_ ?_ ?_
        · cases hms : mx.isSome with
          | true => have := q3 hms; omega
          | false => have := q4 (by simpa using hms); omega
        · cases hms : mx.isSome with
          | true => have := q3 hms; rw [hms] at e1; simp at e1; omega
          | false => rw [hms] at e1; simp at e1; omega
        · intro e4
          cases hms : mx.isSome with
          | true => have := q3 hms; rw [hms] at e1; simp at e1; omega
          | false =>
            have := q4 (by simpa using hms)
            rw [hms] at e1; simp at e1
            have := k3 (by omega); omega
        · have : ll * size + (m' - ll) * size = m' * size := by rw [← Nat.add_mul]; congr 1; omega
          have : m' * size ≤ cap' * size := Nat.mul_le_mul_right _ hm'c
          omega
    | slice0 hb =>
      rename_i a' m0
      obtain ⟨m', g1, e1, q1, q2, q3, q4⟩ := main a' 0 rfl (Nat.le_refl _)
      refine ⟨_, ?_, g1⟩
      have hm0 : m' = 0 := by
        cases hms : mx.isSome with
        | true => have := q3 hms; rw [hms] at e1; simp at e1; omega
        | false => rw [hms] at e1; simp at e1; omega
      have hl0 : ll = 0 := by omega
      have hh0 : hh = 0 := by omega
      subst hm0; subst hl0; subst hh0
      simp only [if_true, Nat.sub_zero]
      simp only [bif_eq]
      split <;> exact .slice0 hb
  · cases h


theorem g_indexAddr (hE : EnvOk P E) {t : TypeId} {x x' i i' v : Value} (h : aindexAddr E t x i = some v) (hx : VRel μ x x') (hi : VRel μ i i') : ∃ v', VRel μ v v' ∧ Gives P (Instr.indexAt t x' i') v' := by
  unfold aindexAddr at h
  simp only [Option.bind_eq_some_iff] at h
  obtain ⟨d, hd, n, hn, h⟩ := h
  have ei : ∃ k, i = .int k n := by
    unfold asI at hn; split at hn <;> simp at hn; subst hn; exact ⟨_, rfl⟩
  obtain ⟨k, rfl⟩ := ei
  cases hi.inv_scalar rfl
  split at h
  · rename_i len elem b o
    simp only [Option.bind_eq_some_iff, grd_some, Bool.and_eq_true, decide_eq_true_eq, Option.some.injEq] at h
    obtain ⟨size, hs, ⟨h0, h1⟩, rfl⟩ := h
    obtain ⟨m, hb, rfl⟩ := hx.inv_ptr
    refine ⟨.pointer (some ⟨m.r, m.s + (o + n.toNat * size), none⟩), .ptr hb, fun w => ?_⟩
    simp [Instr.indexAt, asIntOf, g_under hE hd w, Instr.sureAddr, h0, h1, g_size hE hs w, addr_add, Nat.add_assoc]
  · rename_i elem b o z len cap
    simp only [Option.bind_eq_some_iff, grd_some, Bool.and_eq_true, decide_eq_true_eq, Option.some.injEq] at h
    obtain ⟨size, hs, ⟨h0, h1⟩, rfl⟩ := h
    cases hx with
    | lit hh => simp [plain1] at hh
    | slice hb k1 k2 k3 k4 =>
      rename_i cap' m
      refine ⟨.pointer (some ⟨m.r, m.s + (o + n.toNat * size), none⟩), .ptr hb, fun w => ?_⟩
      simp [Instr.indexAt, asIntOf, g_under hE hd w, h0, h1, g_size hE hs w, addr_add, Nat.add_assoc]
    | slice0 => exact absurd h1 (by omega)
  · cases h

theorem g_index (hE : EnvOk P E) {t : TypeId} {x x' i i' v : Value} (h : aindex E t x i = some v) (hx : VRel μ x x') (hi : VRel μ i i') : ∃ v', VRel μ v v' ∧ Gives P (Instr.index t x' i') v' := by
  unfold aindex at h
  simp only [Option.bind_eq_some_iff] at h
  obtain ⟨d, hd, n, hn, h⟩ := h
  have ei : ∃ k, i = .int k n := by
    unfold asI at hn; split at hn <;> simp at hn; subst hn; exact ⟨_, rfl⟩
  obtain ⟨k, rfl⟩ := ei
  cases hi.inv_scalar rfl
  split at h
  · rename_i len elem cs
    simp only [Option.bind_eq_some_iff, grd_some, Bool.and_eq_true, decide_eq_true_eq] at h
    obtain ⟨size, hs, ⟨h0, h1⟩, h2⟩ := h
    obtain ⟨cs', rfl, hr⟩ := hx.inv_agg
    obtain ⟨v', q1, q2⟩ := g_part hE (μ := μ) h2 hr
    refine ⟨v', q1, fun w => ?_⟩
    have e : cs'.toList.toArray = cs' := by simp
    rw [e] at q2
    simp only [Instr.index, asIntOf, Sem.run_bind, Sem.run_pure, Result.andThen_ok, g_under hE hd w]
    rw [if_pos ⟨h0, h1⟩]
    simp only [Sem.run_bind, g_size hE hs w, Result.andThen_ok, q2 w]
  · rename_i s
    simp only [grd_some, decide_eq_true_eq, Option.bind_eq_some_iff, Option.some.injEq] at h
    obtain ⟨h0, b, hb, rfl⟩ := h
    cases hx.inv_scalar rfl
    refine ⟨_, .int μ _ _, fun w => ?_⟩
    have e : s[n.toNat]? = some b := by
      have := (List.getElem?_eq_some_iff.1 hb)
      obtain ⟨hlt, hv⟩ := this
      have hlt' : n.toNat < s.size := by simpa using hlt
      rw [getElem?_pos s n.toNat hlt']
      simp only [Option.some.injEq]
      rw [← hv]; rfl
    simp only [Instr.index, asIntOf, Sem.run_bind, Sem.run_pure, Result.andThen_ok, g_under hE hd w]
    rw [if_pos h0, e]
    rfl
  · cases h

theorem g_conv (hE : EnvOk P E) {s d : TypeId} {x x' v : Value} (h : aconv E s d x = some v) (hx : VRel μ x x') : ∃ v', VRel μ v v' ∧ Gives P (convert s d x') v' := by
  unfold aconv at h
  simp only [Option.bind_eq_some_iff] at h
  obtain ⟨ds, h1, dd, h2, h⟩ := h
  split at h
  · rename_i k k' n
    cases hx.inv_scalar rfl
    simp only [Option.some.injEq] at h; subst h
    refine ⟨_, .int μ _ _, fun w => ?_⟩
    unfold convert
    simp only [Sem.run_bind, g_under hE h1 w, g_under hE h2 w, Result.andThen_ok]
    rfl
  · rename_i str
    cases hx.inv_scalar rfl
    simp only [Option.some.injEq] at h; subst h
    refine ⟨_, .string μ _, fun w => ?_⟩
    unfold convert
    simp only [Sem.run_bind, g_under hE h1 w, g_under hE h2 w, Result.andThen_ok]
    cases ds <;> rfl
  · cases h

theorem g_builtP (hE : EnvOk P E) {b : Builtin} {ts : Array TypeId} {args : List Value} {args' : Array Value} {v : Value} (ty : TypeId) (cs : Array Bool) (h : abuiltP E b ts.toList args = some v) (ha : VRels μ args args'.toList) :
    ∃ v', VRel μ v v' ∧ Gives P (builtin b ts ty cs args') (.value v') := by
  obtain ⟨ts⟩ := ts
  obtain ⟨args'⟩ := args'
  simp only at h ha
  unfold abuiltP at h
  split at h
  · rename_i t ts x xs
    cases ha with
    | cons hx _ =>
    simp only [Option.bind_eq_some_iff] at h
    obtain ⟨d, hd, h⟩ := h
    split at h
    · cases hx.inv_scalar rfl
      simp only [Option.some.injEq] at h; subst h
      exact ⟨_, .int μ _ _, fun w => by simp [builtin, Builtin.len_, g_under hE hd w, goInt]⟩
    · simp only [Option.some.injEq] at h; subst h
      exact ⟨_, .int μ _ _, fun w => by simp [builtin, Builtin.len_, g_under hE hd w, goInt]⟩
    · simp only [Option.some.injEq] at h; subst h
      cases hx with
      | lit hh =>
        rename_i a n c
        have : ∃ q, a = none ∧ n = 0 ∧ c = 0 ∧ q = 0 := by
          unfold plain1 at hh; split at hh <;> simp_all
        obtain ⟨_, rfl, rfl, rfl, _⟩ := this
        exact ⟨_, .int μ _ _, fun w => by simp [builtin, Builtin.len_, g_under hE hd w, goInt]⟩
      | slice => exact ⟨_, .int μ _ _, fun w => by simp [builtin, Builtin.len_, g_under hE hd w, goInt]⟩
      | slice0 => exact ⟨_, .int μ _ _, fun w => by simp [builtin, Builtin.len_, g_under hE hd w, goInt]⟩
    · simp only [Option.some.injEq] at h; subst h
      cases hx
      exact ⟨_, .int μ _ _, fun w => by simp [builtin, Builtin.len_, g_under hE hd w, goInt]⟩
    · cases h
  · simp only [Option.some.injEq] at h; subst h
    cases ha with
    | cons hx ha => cases ha with
      | cons hy ha => cases ha with
        | nil =>
          cases hx.inv_scalar rfl; cases hy.inv_scalar rfl
          exact ⟨_, .int μ _ _, fun w => by simp [builtin, Builtin.max_, Builtin.max2]⟩
  · simp only [Option.some.injEq] at h; subst h
    cases ha with
    | cons hx ha => cases ha with
      | cons hy ha => cases ha with
        | nil =>
          cases hx.inv_scalar rfl; cases hy.inv_scalar rfl
          exact ⟨_, .int μ _ _, fun w => by simp [builtin, Builtin.min_, Builtin.min2]⟩
  · cases h

end
end Go.M
