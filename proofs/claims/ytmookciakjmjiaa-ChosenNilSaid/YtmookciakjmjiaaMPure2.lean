import Derived.Test.YtmookciakjmjiaaMPure
namespace Go.M
open Go

/-! ### Filling -/
theorem zipFold : ∀ (l : List Value) (k off : Nat) (c : Array Value), off + k + l.length ≤ c.size →
    ((l.zipIdx k).foldl (fun cs p => cs.setIfInBounds (off + p.2) p.1) c).size = c.size ∧
    ∀ i, ((l.zipIdx k).foldl (fun cs p => cs.setIfInBounds (off + p.2) p.1) c)[i]? = if off + k ≤ i ∧ i < off + k + l.length then l[i - (off + k)]? else c[i]?
  | [], k, off, c, h => ⟨rfl, fun i => by rw [if_neg (by simp)]; rfl⟩
  | v :: l, k, off, c, h => by
    simp only [List.length_cons] at h
    have ih := zipFold l (k + 1) off (c.setIfInBounds (off + k) v) (by simp; omega)
    simp only [List.zipIdx_cons, List.foldl_cons]
    refine ⟨by rw [ih.1]; simp, fun i => ?_⟩
    rw [ih.2 i]
    by_cases h1 : off + (k + 1) ≤ i ∧ i < off + (k + 1) + l.length
    · rw [if_pos h1, if_pos (by simp; omega)]
      have : i - (off + k) = (i - (off + (k + 1))) + 1 := by omega
      rw [this, List.getElem?_cons_succ]
    · rw [if_neg h1]
      by_cases h2 : i = off + k
      · subst h2
        rw [if_pos (by simp), Array.getElem?_setIfInBounds_self_of_lt (by omega)]
        simp
      · rw [if_neg (by simp; omega), Array.getElem?_setIfInBounds_ne (by omega)]

theorem fill_sim {μ : Emb} {place place' : Nat → Option (Nat × Nat)} (hp : ∀ i p, place i = some p → place' i = some p) : ∀ {ps ps' : List (Nat × Value)} {cells cs : List Value} {cells' : Array Value},
    fillA place cells ps = some cs → VRels μ cells cells'.toList → (ps.length = ps'.length) → (∀ (k : Nat) q, ps[k]? = some q → ∃ v', ps'[k]? = some (q.1, v') ∧ VRel μ q.2 v') →
    ∃ cs', Instr.fill place' cells' ps' = some cs' ∧ VRels μ cs cs'.toList
  | [], ps', cells, cs, cells', h, hr, hl, hq => by
    cases ps' with
    | nil => simp only [fillA, Option.some.injEq] at h; subst h; exact ⟨cells', rfl, hr⟩
    | cons _ _ => simp at hl
  | (i, v) :: ps, [], _, _, _, _, _, hl, _ => by simp at hl
  | (i, v) :: ps, q' :: ps', cells, cs, cells', h, hr, hl, hq => by
    obtain ⟨v', e1, hv⟩ := hq 0 (i, v) rfl
    simp only [List.getElem?_cons_zero, Option.some.injEq] at e1
    subst e1
    simp only at hv
    simp only [fillA, Option.bind_eq_some_iff, grd_some, beq_iff] at h
    obtain ⟨⟨off, size⟩, h1, h2, c1, h3, h4⟩ := h
    simp only at h2
    obtain ⟨s1, s2, s3⟩ := setN_some h3
    have hlen := hr.length
    have hvl := hv.cells_size
    have hin : off + v'.cells.toList.length ≤ cells'.size := by
      simp at s1 hlen ⊢; omega
    have zf := zipFold v'.cells.toList 0 off cells' (by omega)
    have hcells : VRels μ c1 (v'.cells.zipIdx.foldl (fun cs p => cs.setIfInBounds (off + p.2) p.1) cells').toList := by
      have e : v'.cells.zipIdx.foldl (fun cs (p : Value × Nat) => cs.setIfInBounds (off + p.2) p.1) cells' = (v'.cells.toList.zipIdx 0).foldl (fun cs p => cs.setIfInBounds (off + p.2) p.1) cells' := by
        rw [← Array.foldl_toList]; simp
      rw [e]
      refine .of_get ?_ fun j a a' ha ha' => ?_
      · simp only [Array.length_toList]; rw [zf.1, s2]; simpa using hlen
      · rw [s3 j] at ha
        rw [Array.getElem?_toList, zf.2 j] at ha'
        simp only [Nat.add_zero] at ha'
        have hvl' : v.cells.toList.length = v'.cells.toList.length := by simpa using hvl
        by_cases hj : off ≤ j ∧ j < off + v.cells.toList.length
        · simp only at ha
          rw [if_pos hj] at ha
          rw [if_pos (by rw [← hvl']; exact hj)] at ha'
          obtain ⟨u, k1, k2⟩ := hv.cells.get ha
          rw [ha'] at k1; cases k1; exact k2
        · simp only at ha
          rw [if_neg hj] at ha
          rw [if_neg (by rw [← hvl']; exact hj)] at ha'
          obtain ⟨u, k1, k2⟩ := hr.get ha
          simp [ha'] at k1; subst k1; exact k2
    have ih := fill_sim hp (ps' := ps') h4 hcells (by simpa using hl) (fun k q hk => hq (k + 1) q (by simpa using hk))
    obtain ⟨cs', r1, r2⟩ := ih
    refine ⟨cs', ?_, r2⟩
    simp only [Instr.fill, hp _ _ h1]
    have hs : v'.cells.size = size := by rw [← hvl]; exact h2
    rw [if_neg]
    · exact r1
    · simp at hin
      simp [hs]
      omega

/-- The lists of parts, of both. -/
def PRel (μ : Emb) (ps ps' : List (Nat × Value)) : Prop := ps.length = ps'.length ∧ ∀ (k : Nat) q, ps[k]? = some q → ∃ v', ps'[k]? = some (q.1, v') ∧ VRel μ q.2 v'

section
variable {P : Program} {E : Env} {μ : Emb}

theorem g_places (hE : EnvOk P E) (g : Field → Nat × Nat) : ∀ (fs : List Field) (w : World), (∀ f ∈ fs, ∃ n, E.size f.type = some n ∧ g f = (f.offset, n)) →
    (fs.mapM (m := Sem) fun f => do pure (f.offset, ← sizeOf f.type)).run P w = .ok (fs.map g) w
  | [], w, _ => by simp
  | f :: fs, w, h => by
    obtain ⟨n, h1, h2⟩ := h f (by simp)
    have ih := g_places hE g fs w (fun x hx => h x (by simp [hx]))
    simp only [List.mapM_cons, Sem.run_bind, g_size hE h1 w, Result.andThen_ok, Sem.run_pure, ih, List.map_cons, h2]

theorem g_build (hE : EnvOk P E) {t : TypeId} {ps ps' : List (Nat × Value)} {v : Value} (h : abuild E t ps = some v) (hp : PRel μ ps ps') : ∃ v', VRel μ v v' ∧ Gives P (Instr.build t ps'.toArray) v' := by
  unfold abuild at h
  simp only [Option.bind_eq_some_iff] at h
  obtain ⟨d, h1, z, h2, h3⟩ := h
  have hz := VRel.refl_plain μ (hE.zero t z h2).2
  have hzc : VRels μ z.cells.toList z.cells.toList := hz.cells
  split at h3
  · rename_i fields
    simp only [grd_some, Option.bind_eq_some_iff, Option.some.injEq] at h3
    obtain ⟨hall, cs, h4, rfl⟩ := h3
    have hfs : ∀ f ∈ fields.toList, ∃ n, E.size f.type = some n ∧ (fun f : Field => (f.offset, (E.size f.type).getD 0)) f = (f.offset, n) := by
      intro f hf
      rw [Array.all_eq_true] at hall
      obtain ⟨i, hi, rfl⟩ := List.mem_iff_getElem.1 hf
      have := hall i (by simpa using hi)
      obtain ⟨n, hn⟩ := Option.isSome_iff_exists.1 this
      have hn' : E.size (fields.toList[i]).type = some n := by simpa using hn
      exact ⟨n, hn', by simp only [hn', Option.getD_some]⟩
    have hplace : ∀ i p, placeF E fields i = some p → ((fields.toList.map (fun f : Field => (f.offset, (E.size f.type).getD 0))).toArray)[i]? = some p := by
      intro i p hi
      unfold placeF at hi
      simp only [Option.bind_eq_some_iff, Option.some.injEq] at hi
      obtain ⟨fd, k1, n, k2, rfl⟩ := hi
      simp [k1, k2]
    obtain ⟨cs', q1, q2⟩ := fill_sim (μ := μ) hplace (ps' := ps') h4 hzc hp.1 hp.2
    refine ⟨.agg cs', .agg_of (by simpa using q2), fun w => ?_⟩
    have hm := g_places hE (fun f : Field => (f.offset, (E.size f.type).getD 0)) fields.toList w hfs
    unfold Instr.build
    simp only [Sem.run_bind, g_zero hE h2 w, Result.andThen_ok, g_under hE h1 w]
    have hm2 : (fields.mapM (m := Sem) fun f => do pure (f.offset, ← sizeOf f.type)).run P w = .ok (fields.toList.map (fun f : Field => (f.offset, (E.size f.type).getD 0))).toArray w := by
      rw [Array.mapM_eq_mapM_toList]
      simp only [Sem.run_map, hm, Result.andThen_ok]
    simp only [hm2, Result.andThen_ok, q1, Sem.run_pure]
  · rename_i len elem
    simp only [Option.bind_eq_some_iff, Option.some.injEq] at h3
    obtain ⟨n, h3, cs, h4, rfl⟩ := h3
    obtain ⟨cs', q1, q2⟩ := fill_sim (μ := μ) (place' := fun i => some (i * n, n)) (fun _ _ h => h) (ps' := ps') h4 hzc hp.1 hp.2
    refine ⟨.agg cs', .agg_of (by simpa using q2), fun w => ?_⟩
    unfold Instr.build
    simp only [Sem.run_bind, g_zero hE h2 w, Result.andThen_ok, g_under hE h1 w, g_size hE h3 w, q1, Sem.run_pure]
  · cases h3

theorem gives_pureV {s : Sem Value} {v : Value} (h : pureV s = some v) : Gives P s v := by
  intro w
  cases s <;> simp [pureV] at h
  subst h; rfl

theorem eqGuard_ok (hE : EnvOk P E) {op : BinOp} {t : TypeId} {x y : Operand} {a b a' b' : Value} (ha : VRel μ a a') (hb : VRel μ b b')
    (hg : eqCond E t x y a b = true) : Gives P (eqGuard op t x y a' b') () := by
  intro w
  unfold eqGuard
  cases op <;> (try rfl)
  all_goals
    simp only [Bool.not_true, Bool.false_eq_true, if_false]
    split
    · cases ha with
      | lit _ => cases hb with
        | lit _ =>
          simp only [eqCond] at hg
          cases x <;> cases y <;> simp [isConstO] at hg <;> simp
    · rename_i u1 u2
      cases ha with
      | lit hh => simp [plain1] at hh
      | agg h1 h2 => cases hb with
        | lit hh => simp [plain1] at hh
        | agg k1 k2 =>
          simp only [eqCond] at hg
          simp [run_program, (hE.eqOk t hg).1]
    · rfl

theorem g_bin (hE : EnvOk P E) {op : BinOp} {t : TypeId} {x y : Operand} {a b a' b' v : Value} (h : abin E op t x y a b = some v) (ha : VRel μ a a') (hb : VRel μ b b') :
    ∃ v', VRel μ v v' ∧ Gives P (do eqGuard op t x y a' b'; binOp op t a' b') v' := by
  unfold abin at h
  split at h
  · cases ha.inv_scalar rfl; cases hb.inv_scalar rfl
    rename_i k n k' n'
    have hs : scalar v = true := by
      simp only [binOp] at h
      have : ∀ s : Sem Value, pureV s = some v → (∃ u, s = .pure u ∧ scalar u = true) → scalar v = true := by
        rintro s hs ⟨u, rfl, hu⟩; simp [pureV] at hs; subst hs; exact hu
      cases op <;> simp only at h <;> (try split at h) <;>
        first
        | (simp [pureV, stuck] at h; done)
        | (simp only [pureV, Op.intArith, Op.intBits, Op.intCmp, Pure.pure, Option.some.injEq] at h; subst h; rfl)
        | (unfold Op.intDiv at h; split at h
           · simp [runtimePanic, pureV, program, bind, Sem.bind] at h
           · simp only [pureV, Pure.pure, Option.some.injEq] at h; subst h; rfl)
        | (unfold Op.shift at h; split at h
           · simp [runtimePanic, pureV, program, bind, Sem.bind] at h
           · simp only [pureV, Pure.pure, Option.some.injEq] at h; subst h; rfl)
    refine ⟨v, .of_scalar μ hs, fun w => ?_⟩
    have hg := eqGuard_ok hE (μ := μ) (op := op) (t := t) (x := x) (y := y) (.int μ k n) (.int μ k' n') rfl w
    simp only [Sem.run_bind, hg, Result.andThen_ok]
    exact gives_pureV h w
  · cases ha.inv_scalar rfl; cases hb.inv_scalar rfl
    rename_i s r
    have hg : ∀ w, (eqGuard op t x y (.string s) (.string r)).run P w = .ok () w := eqGuard_ok hE (μ := μ) (.string μ s) (.string μ r) rfl
    have et : ∀ q : ByteArray, q.toList = q.data.toList := fun q => ByteArray.toList_eq q
    split at h <;> (first | (simp only [Option.some.injEq] at h; subst h; refine ⟨_, .lit rfl, fun w => ?_⟩; simp only [Sem.run_bind, hg w, Result.andThen_ok]; simp [binOp, Op.stringOp, et]) | skip)
    · simp only [grd_some, decide_eq_true_eq, Option.some.injEq] at h
      obtain ⟨h1, rfl⟩ := h
      refine ⟨_, .lit rfl, fun w => ?_⟩
      simp only [Sem.run_bind, hg w, Result.andThen_ok]
      have e : IntKind.i64.max = 9223372036854775807 := by decide
      simp only [binOp, Op.stringOp, e]
      rw [if_neg (by omega)]
      rfl
    · cases h
  · rename_i hni hns
    simp only [grd_some] at h
    obtain ⟨h1, h2⟩ := h
    have hg := eqGuard_ok hE (op := op) (t := t) (x := x) (y := y) ha hb h1
    have key : ∀ r, aeq E 100 t a b = some r → Gives P (Op.equal t a' b') r := fun r hr => by
      unfold Op.equal Op.maxDepth
      exact g_aeq hE 100 10000 t a b a' b' r (by omega) hr ha hb
    have nofit : ∀ (w : World) r, Gives P (Op.equal t a' b') r → (binOp .eql t a' b').run P w = .ok (.bool r) w ∧ (binOp .neq t a' b').run P w = .ok (.bool !r) w := by
      intro w r hr
      have hh : (∀ k n k' n', ¬ (a' = .int k n ∧ b' = .int k' n')) ∧ (∀ s r, ¬ (a' = .string s ∧ b' = .string r)) := by
        refine ⟨?_, ?_⟩
        · rintro k n k' n' ⟨rfl, rfl⟩
          cases ha; cases hb; exact hni _ _ _ _ rfl rfl
        · rintro s r ⟨rfl, rfl⟩
          cases ha; cases hb; exact hns _ _ rfl rfl
      have hfl : (∀ k n k' n', ¬ (a' = .float k n ∧ b' = .float k' n')) ∧ (∀ k x y k' x' y', ¬ (a' = .complex k x y ∧ b' = .complex k' x' y')) := by
        refine ⟨?_, ?_⟩
        · rintro k n k' n' ⟨rfl, rfl⟩; cases ha with | lit hx => simp [plain1] at hx
        · rintro k x y k' x' y' ⟨rfl, rfl⟩; cases ha with | lit hx => simp [plain1] at hx
      have hr' := hr w
      cases a' <;> cases b' <;>
        first
        | exact absurd ⟨rfl, rfl⟩ (hh.1 _ _ _ _)
        | exact absurd ⟨rfl, rfl⟩ (hh.2 _ _)
        | exact absurd ⟨rfl, rfl⟩ (hfl.1 _ _ _ _)
        | exact absurd ⟨rfl, rfl⟩ (hfl.2 _ _ _ _ _ _)
        | (simp only [binOp]; simp only [Sem.run_bind, hr', Result.andThen_ok, Sem.run_pure]; exact ⟨trivial, trivial⟩)
    split at h2
    · simp only [Option.bind_eq_some_iff, Option.some.injEq] at h2
      obtain ⟨r, h3, rfl⟩ := h2
      exact ⟨_, .bool μ r, fun w => by simp only [Sem.run_bind, hg w, Result.andThen_ok]; exact (nofit w r (key r h3)).1⟩
    · simp only [Option.bind_eq_some_iff, Option.some.injEq] at h2
      obtain ⟨r, h3, rfl⟩ := h2
      exact ⟨_, .bool μ _, fun w => by simp only [Sem.run_bind, hg w, Result.andThen_ok]; exact (nofit w r (key r h3)).2⟩
    · cases h2

end
end Go.M
