/-
  Operations that look at no memory: what they give in the model.
-/
import Derived.Test.YtmookciakjmjiaaMStep3
namespace Go.M
open Go

/-- The tables are the program's. -/
structure EnvOk (P : Program) (E : Env) : Prop where
  desc : ∀ t d, E.desc t = some d → P.underlying t = some d
  size : ∀ t n, E.size t = some n → ∃ i, P.info? t = some i ∧ i.size = n
  bytes : ∀ t n, E.bytes t = some n → ∃ i, P.info? t = some i ∧ i.bytes = n
  zero : ∀ t z, E.zero t = some z → (∃ i, P.info? t = some i ∧ i.zero = some z) ∧ plainV z = true
  eqOk : ∀ t, E.eqOk t = true → P.eqGuardType P.depth t = false ∧ P.stoodInHeld t = false
  func : ∀ f fn, E.func f = some fn → P.funcs[f]? = some fn ∧ fn.body.isSome = true ∧ (fn.name == "runtime.NumGoroutine") = false

/-- It gives that value, and leaves the world alone. -/
def Gives {α : Type} (P : Program) (s : Sem α) (v : α) : Prop := ∀ w, s.run P w = .ok v w

section
variable {P : Program} {E : Env}
theorem g_under (hE : EnvOk P E) {t : TypeId} {d : TypeDesc} (h : E.desc t = some d) : Gives P (underlying t) d := fun w => run_underlying (hE.desc t d h) w
theorem g_size (hE : EnvOk P E) {t : TypeId} {n : Nat} (h : E.size t = some n) : Gives P (sizeOf t) n := fun w => by
  obtain ⟨i, h1, h2⟩ := hE.size t n h
  simp [sizeOf, typeInfo, h1, h2]
theorem g_bytes (hE : EnvOk P E) {t : TypeId} {n : Nat} (h : E.bytes t = some n) : ∃ i, i.bytes = n ∧ Gives P (typeInfo t) i := by
  obtain ⟨i, h1, h2⟩ := hE.bytes t n h
  exact ⟨i, h2, fun w => by simp [typeInfo, h1]⟩
theorem g_zero (hE : EnvOk P E) {t : TypeId} {z : Value} (h : E.zero t = some z) : Gives P (zeroValue t) z := fun w => by
  obtain ⟨⟨i, h1, h2⟩, _⟩ := hE.zero t z h
  simp [zeroValue, typeInfo, h1, h2]
theorem g_isAgg (hE : EnvOk P E) {t : TypeId} {d : TypeDesc} (h : E.desc t = some d) : Gives P (Go.isAgg t) (M.isAgg d) := fun w => by
  have := g_under hE h w
  unfold Go.isAgg
  simp only [Sem.run_bind, this, Result.andThen_ok]
  cases d <;> rfl
end

theorem shapeT_some {E : Env} {t : TypeId} {a : Bool} {n : Nat} (h : shapeT E t = some (a, n)) : ∃ d, E.desc t = some d ∧ isAgg d = a ∧ (a = true → E.size t = some n) ∧ (a = false → n = 1) := by
  unfold shapeT at h
  simp only [Option.bind_eq_some_iff, bif_eq] at h
  obtain ⟨d, h1, h2⟩ := h
  refine ⟨d, h1, ?_⟩
  split at h2
  · simp only [Option.bind_eq_some_iff, Option.some.injEq, Prod.mk.injEq] at h2
    obtain ⟨k, h3, rfl, rfl⟩ := h2
    exact ⟨by assumption, fun _ => h3, fun h => by simp at h⟩
  · simp only [Option.some.injEq, Prod.mk.injEq] at h2
    obtain ⟨rfl, rfl⟩ := h2
    exact ⟨by simpa using ‹¬ isAgg d = true›, fun h => by simp at h, fun _ => rfl⟩

theorem fromCells_rel {μ : Emb} {a : Bool} {l l' : List Value} {v : Value} (h : fromCells a l = some v) (hl : VRels μ l l') : ∃ v', fromCells a l' = some v' ∧ VRel μ v v' := by
  cases a with
  | true => simp only [fromCells, Option.some.injEq] at h; subst h; exact ⟨_, rfl, .agg_of (by simpa using hl)⟩
  | false =>
    cases hl with
    | nil => simp [fromCells] at h
    | cons h1 t => cases t with
      | nil => simp only [fromCells, Option.some.injEq] at h; subst h; exact ⟨_, rfl, h1⟩
      | cons _ _ => simp [fromCells] at h

section
variable {P : Program} {E : Env} {μ : Emb}

theorem g_part (hE : EnvOk P E) {t : TypeId} {cs cs' : List Value} {off : Nat} {v : Value} (h : partV E t cs off = some v) (hr : VRels μ cs cs') : ∃ v', VRel μ v v' ∧ Gives P (part t cs'.toArray off) v' := by
  unfold partV at h
  simp only [Option.bind_eq_some_iff, takeN_some] at h
  obtain ⟨⟨a, n⟩, h1, l, ⟨h2, rfl⟩, h3⟩ := h
  obtain ⟨d, k1, k2, k3, k4⟩ := shapeT_some h1
  obtain ⟨v', q1, q2⟩ := fromCells_rel h3 ((hr.drop off).take n)
  refine ⟨v', q2, fun w => ?_⟩
  unfold part
  simp only [Sem.run_bind, g_isAgg hE k1 w, Result.andThen_ok, k2]
  cases a with
  | true =>
    simp only [if_true, Sem.run_bind, g_size hE (k3 rfl) w, Result.andThen_ok, Sem.run_pure]
    simp only [fromCells, Option.some.injEq] at q1
    rw [← q1]
    congr 2
    simp [List.extract_eq_take_drop, List.extract_toArray]
  | false =>
    have hn := k4 rfl
    subst hn
    simp only [Bool.false_eq_true, if_false]
    have hl := hr.length
    simp at h2
    have hlt : off < cs'.length := by omega
    have e : (cs'.drop off).take 1 = [cs'[off]] := by
      rw [List.drop_eq_getElem_cons hlt, List.take_succ_cons, List.take_zero]
    simp only [e] at q1
    simp only [fromCells, Option.some.injEq] at q1
    subst q1
    simp [hlt]

set_option maxHeartbeats 1600000 in
theorem g_aeq (hE : EnvOk P E) : ∀ (d d' : Nat) (t : TypeId) (x y x' y' : Value) (r : Bool), d ≤ d' → aeq E d t x y = some r → VRel μ x x' → VRel μ y y' → Gives P (Op.equalIn d' t x' y') r := by
  intro d
  induction d with
  | zero => intro d' t x y x' y' r _ h; simp [aeq] at h
  | succ d ih =>
    intro d' t x y x' y' r hd h hx hy
    obtain ⟨e, rfl⟩ : ∃ e, d' = e + 1 := ⟨d' - 1, by omega⟩
    simp only [aeq, Option.bind_eq_some_iff] at h
    obtain ⟨ds, h1, h2⟩ := h
    have hu := hE.desc _ _ h1
    intro w
    split at h2
    · cases hx.inv_scalar rfl; cases hy.inv_scalar rfl
      cases h2; simp [Op.equalIn, run_underlying hu]
    · cases hx.inv_scalar rfl; cases hy.inv_scalar rfl
      split at h2
      · rename_i ek; subst ek; cases h2; simp [Op.equalIn, run_underlying hu]
      · cases h2
    · cases hx.inv_scalar rfl; cases hy.inv_scalar rfl
      cases h2; rw [run_equalIn_string w e t _ _ hu, ByteArray.toList_eq, ByteArray.toList_eq]
    · cases h2
      cases hx with
      | lit _ => cases hy <;> simp [Op.equalIn, run_underlying hu]
    · cases h2
      cases hy with
      | lit _ => cases hx with
        | lit hh => simp [plain1] at hh
        | ptr => simp [Op.equalIn, run_underlying hu]
    · cases h2; cases hx; cases hy; simp [Op.equalIn, run_underlying hu]
    · cases h2
      cases hx with
      | lit _ => cases hy with
        | lit hh => simp [plain1] at hh
        | iface _ => simp [Op.equalIn, run_underlying hu]
    · cases h2
      cases hy with
      | lit _ => cases hx with
        | lit hh => simp [plain1] at hh
        | iface _ => simp [Op.equalIn, run_underlying hu]
    · cases h2
      cases hx with
      | lit hh => cases hy <;> simp [Op.equalIn, run_underlying hu]
    · cases h2
      cases hy with
      | lit hh => cases hx with
        | lit hh => simp [plain1] at hh
        | slice => simp [Op.equalIn, run_underlying hu]
        | slice0 => simp [Op.equalIn, run_underlying hu]
    · cases h2; cases hx; cases hy <;> simp [Op.equalIn, run_underlying hu]
    · cases h2
      cases hy
      cases hx with
      | lit hh => simp [plain1] at hh
      | map => simp [Op.equalIn, run_underlying hu]
    · cases h2; cases hx; cases hy; simp [Op.equalIn, run_underlying hu]
    · cases h2; cases hx; cases hy with
      | lit hh => simp [plain1] at hh
      | func => simp [Op.equalIn, run_underlying hu]
      | yield => simp [Op.equalIn, run_underlying hu]
    · cases h2; cases hy; cases hx with
      | lit hh => simp [plain1] at hh
      | func => simp [Op.equalIn, run_underlying hu]
      | yield => simp [Op.equalIn, run_underlying hu]
    · rename_i fields xs ys
      simp only [grd_some] at h2
      obtain ⟨ok, h2⟩ := h2
      obtain ⟨_, hst⟩ := hE.eqOk _ ok
      obtain ⟨xs', rfl, hxs⟩ := hx.inv_agg
      obtain ⟨ys', rfl, hys⟩ := hy.inv_agg
      have hfs : P.fieldsOf t = fields := by unfold Program.fieldsOf; rw [hu]
      rw [run_equalIn_struct w e t xs' ys' (by rw [hfs]; exact hu) hst, hfs]
      generalize fields.toList = fs at h2 ⊢
      induction fs generalizing w with
      | nil => simp only [aeqF, Option.some.injEq] at h2; subst h2; rfl
      | cons f fs ihf =>
        simp only [aeqF, grd_some, Option.bind_eq_some_iff] at h2
        obtain ⟨hn, a, ha, b, hb, r1, hr1, h3⟩ := h2
        obtain ⟨a', ra, ga⟩ := g_part hE (μ := μ) ha hxs
        obtain ⟨b', rb, gb⟩ := g_part hE (μ := μ) hb hys
        have hq := ih e f.type a b a' b' r1 (by omega) hr1 ra rb
        simp only [Op.eqFields]
        rw [if_pos (by simpa using hn)]
        have ea : xs'.toList.toArray = xs' := by simp
        have eb : ys'.toList.toArray = ys' := by simp
        rw [ea] at ga; rw [eb] at gb
        simp only [Sem.run_bind, ga w, Result.andThen_ok, gb w, hq w]
        cases r1 with
        | true => simp only [Bool.not_true, Bool.false_eq_true, if_false]; exact ihf w h3
        | false => simp only [Option.some.injEq] at h3; subst h3; simp
    · cases h2

end

end Go.M
