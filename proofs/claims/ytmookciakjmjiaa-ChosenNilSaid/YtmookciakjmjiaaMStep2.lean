/-
  Steps of both memories, kept by the relation.
-/
import Derived.Test.YtmookciakjmjiaaMStep
namespace Go.M
open Go
variable {E : Env} {base B : Nat} {μ : Emb} {h : AHeap} {w w' : World}

theorem HRel.lt (H : HRel E base B μ h w) {b : Nat} {m : MT} (hb : μ b = some m) : m.r < w.heap.size := by
  obtain ⟨o, o', _, h2, _⟩ := H.obj b m hb
  exact (Array.getElem?_eq_some_iff.1 h2).1
theorem HRel.fresh (H : HRel E base B μ h w) : μ h.size = none := by
  cases e : μ h.size with
  | none => rfl
  | some m => have := H.dom _ _ e; omega

/-- A new block of both. -/
theorem Step.alloc (H : HRel E base B μ h w) {o : AObj} {o' : Obj} (ha : Alc w o' w') (n : Nat) (hself : ∀ cs f tip thr, o = .cells cs f tip thr → f = h.size ∧ tip = h.size)
    (ho : ORel (upd μ h.size ⟨w.heap.size, 0, n⟩) (h.push o) base h.size ⟨w.heap.size, 0, n⟩ o o') : Step E base B μ h w (upd μ h.size ⟨w.heap.size, 0, n⟩) (h.push o) w' := by
  have hle : μ.le (upd μ h.size ⟨w.heap.size, 0, n⟩) := upd_le H.fresh
  have cas : ∀ {c : Nat} {m : MT}, upd μ h.size ⟨w.heap.size, 0, n⟩ c = some m → (c = h.size ∧ m = ⟨w.heap.size, 0, n⟩) ∨ (c < h.size ∧ μ c = some m) := by
    intro c m hc
    by_cases e : c = h.size
    · subst e; rw [upd_self] at hc; cases hc; exact .inl ⟨rfl, rfl⟩
    · rw [upd_ne _ _ e] at hc; exact .inr ⟨H.dom _ _ hc, hc⟩
  refine ⟨⟨?_, ?_, ?_, ?_, ?_, ?_, ?_, ?_, ?_, ?_⟩, ⟨ha.tape, ha.os, ha.output, by rw [ha.size]; omega, fun r hr _ => by rw [ha.get, if_neg (by omega)]⟩, hle, ?_, ?_, by simp [AHeap.size_push]⟩
  · intro c m hc
    rcases cas hc with ⟨rfl, _⟩ | ⟨h1, _⟩ <;> simp only [AHeap.size_push] <;> omega
  · intro c hc
    simp only [AHeap.size_push] at hc
    rw [AHeap.get_push, if_neg (by omega)]; exact H.high c (by omega)
  · intro c m hc
    rcases cas hc with ⟨rfl, rfl⟩ | ⟨h1, h2⟩
    · exact ⟨o, o', by rw [AHeap.get_push, if_pos rfl], by rw [ha.get, if_pos rfl], ho⟩
    · obtain ⟨p, p', k1, k2, k3⟩ := H.obj c m h2
      refine ⟨p, p', by rw [AHeap.get_push, if_neg (by omega)]; exact k1, ?_, k3.mono hle (by rw [rd_push H.wf o h1]; exact id)⟩
      have := H.lt h2
      rw [ha.get, if_neg (by omega)]; exact k2
  · intro c m hc hb
    rcases cas hc with ⟨rfl, rfl⟩ | ⟨h1, h2⟩
    · exact H.low
    · exact H.own c m h2 hb
  · intro b1 b2 m1 m2 hb1 hb2 hr hne
    rcases cas hb1 with ⟨rfl, rfl⟩ | ⟨h1, h2⟩ <;> rcases cas hb2 with ⟨rfl, rfl⟩ | ⟨k1, k2⟩
    · exact absurd rfl hne
    · have := H.lt k2; simp at hr; omega
    · have := H.lt h2; simp at hr; omega
    · obtain ⟨r, q1, q2, q3⟩ := H.alias b1 b2 m1 m2 h2 k2 hr hne
      exact ⟨r, by rw [fam_push H.wf o h1]; exact q1, by rw [fam_push H.wf o k1]; exact q2, by rw [lenOf_push o h1, lenOf_push o k1]; exact q3⟩
  · intro c m r hc hr
    rcases cas hc with ⟨rfl, rfl⟩ | ⟨h1, h2⟩
    · obtain ⟨cs, t, th, h1⟩ := fam_cells hr
      obtain ⟨c0, h2⟩ := fam_root hr
      rw [AHeap.get_push, if_pos rfl, Option.some.injEq] at h1
      obtain ⟨e1, e2⟩ := hself _ _ _ _ h1
      rw [e1, AHeap.get_push, if_pos rfl, h1, Option.some.injEq, AObj.cells.injEq] at h2
      refine ⟨by omega, by omega, ⟨w.heap.size, 0, n⟩, ?_⟩
      rw [e1, upd_self]
    · rw [fam_push H.wf o h1] at hr
      obtain ⟨q1, q2, m', q3⟩ := H.fam c m r h2 hr
      exact ⟨q1, q2, m', hle _ _ q3⟩
  · intro g hg
    obtain ⟨m, q1, q2⟩ := H.glob g hg
    exact ⟨m, hle _ _ q1, q2⟩
  · rw [ha.size]; have := H.low; omega
  · have := H.bsz; simp only [AHeap.size_push]; omega
  · intro b cs f tip thr hb
    rw [AHeap.get_push] at hb
    by_cases e : b = h.size
    · rw [if_pos e, Option.some.injEq] at hb; have := hself _ _ _ _ hb; omega
    · rw [if_neg e] at hb; exact H.wf _ _ _ _ _ hb
  · intro c m h0 hc
    rcases cas hc with ⟨rfl, rfl⟩ | ⟨_, h2⟩
    · exact ⟨Nat.le_refl _, H.bsz, .inl (Nat.le_refl _)⟩
    · rw [h0] at h2; cases h2
  · intro c hc _
    rw [AHeap.get_push, if_neg (by omega)]

/-- Not a row of cells. -/
def notCells : AObj → Bool
  | .cells .. => false
  | _ => true

theorem fam_put {b : Nat} {o1 o : AObj} (h1 : h.get b = some o1) (n1 : notCells o1 = true) (n2 : notCells o = true) (c : Nat) : (h.put b o).fam c = h.fam c := by
  apply opt_ext
  rintro ⟨f, tip, thr⟩
  have key : ∀ x f0 t0 th0 c0, (h.put b o).get x = some (.cells c0 f0 t0 th0) ↔ h.get x = some (.cells c0 f0 t0 th0) := by
    intro x f0 t0 th0 c0
    rw [AHeap.get_put]
    by_cases e : x = b
    · subst e
      rw [if_pos rfl, h1]
      constructor <;> (intro q; simp only [Option.some.injEq] at q; subst q; simp [notCells] at n1 n2)
    · rw [if_neg e]
  rw [fam_iff, fam_iff]
  simp only [key]
theorem cellsOf_put {b : Nat} {o1 o : AObj} (h1 : h.get b = some o1) (n1 : notCells o1 = true) (n2 : notCells o = true) (c : Nat) : (h.put b o).cellsOf c = h.cellsOf c := by
  unfold AHeap.cellsOf
  rw [AHeap.get_put]
  by_cases e : c = b
  · subst e; rw [if_pos rfl, h1]
    cases o1 <;> cases o <;> simp [notCells] at n1 n2 <;> rfl
  · rw [if_neg e]
theorem rd_put {b : Nat} {o1 o : AObj} (h1 : h.get b = some o1) (n1 : notCells o1 = true) (n2 : notCells o = true) (c : Nat) : (h.put b o).rd c = h.rd c := by
  unfold AHeap.rd; rw [fam_put h1 n1 n2, cellsOf_put h1 n1 n2]

/-- Another object in an object's place. -/
theorem Step.put (H : HRel E base B μ h w) {b : Nat} {m : MT} (hb : μ b = some m) (hbase : base ≤ b) {o1 o : AObj} {o' : Obj} (h1 : h.get b = some o1) (n1 : notCells o1 = true) (n2 : notCells o = true)
    (hu : Upd w m.r o' w') (ho : ORel μ (h.put b o) base b m o o') : Step E base B μ h w μ (h.put b o) w' := by
  have hlt : b < h.size := H.dom _ _ hb
  have uniq : ∀ c mc, μ c = some mc → mc.r = m.r → c = b := by
    intro c mc hc hr
    apply Classical.byContradiction
    intro hne
    obtain ⟨r, q1, q2, _⟩ := H.alias c b mc m hc hb hr hne
    obtain ⟨cs, t, th, k⟩ := fam_cells q2
    rw [h1] at k; cases k; simp [notCells] at n1
  refine ⟨⟨fun c mc hc => H.dom c mc hc, ?_, ?_, H.own, ?_, ?_, H.glob, by rw [hu.size]; exact H.low, H.bsz, ?_⟩, ⟨hu.tape, hu.os, hu.output, by rw [hu.size]; exact Nat.le_refl _, fun r hr hk => ?_⟩, μ.le_refl, (fun c mc h0 hc => by rw [h0] at hc; cases hc), ?_, Nat.le_refl _⟩
  · intro c hc
    rw [AHeap.size_put] at hc
    rw [AHeap.get_put, if_neg (by omega)]; exact H.high c hc
  · intro c mc hc
    by_cases e : c = b
    · subst e
      rw [hb] at hc; cases hc
      exact ⟨o, o', by rw [AHeap.get_put, if_pos rfl], by rw [hu.get, if_pos rfl], ho⟩
    · obtain ⟨p, p', k1, k2, k3⟩ := H.obj c mc hc
      refine ⟨p, p', by rw [AHeap.get_put, if_neg e]; exact k1, ?_, k3.mono μ.le_refl (by rw [rd_put h1 n1 n2]; exact id)⟩
      rw [hu.get, if_neg (fun hr => e (uniq c mc hc hr))]; exact k2
  · intro b1 b2 m1 m2 hb1 hb2 hr hne
    obtain ⟨r, q1, q2, q3⟩ := H.alias b1 b2 m1 m2 hb1 hb2 hr hne
    exact ⟨r, by rw [fam_put h1 n1 n2]; exact q1, by rw [fam_put h1 n1 n2]; exact q2, by unfold lenOf; rw [cellsOf_put h1 n1 n2, cellsOf_put h1 n1 n2]; exact q3⟩
  · intro c mc r hc hr
    rw [fam_put h1 n1 n2] at hr
    exact H.fam c mc r hc hr
  · intro c cs f tip thr hc
    rw [AHeap.get_put] at hc
    by_cases e : c = b
    · rw [if_pos e, Option.some.injEq] at hc; subst hc; simp [notCells] at n2
    · rw [if_neg e] at hc; exact H.wf _ _ _ _ _ hc
  · rw [hu.get, if_neg]
    intro e
    have := hk b m hb e.symm
    omega
  · intro c hc h0
    rw [AHeap.get_put, if_neg (by intro e; subst e; rw [h0] at hb; cases hb)]

theorem rd_none_of {h : AHeap} {c : Nat} {r : Nat × Nat × Nat} (hf : h.fam c = some r) (hlt : c < r.2.2) : h.rd c = none := by
  unfold AHeap.rd
  rw [hf]
  simp only [Option.bind_some]
  cases hb : Nat.ble r.2.2 c with
  | false => rfl
  | true => rw [ble_iff] at hb; omega

theorem wr_some {b : Nat} {cs' : List Value} {h' : AHeap} (hw : h.wr base b cs' = some h') : ∃ f thr, base ≤ b ∧ h.fam b = some (f, b, thr) ∧ base ≤ f ∧ h' = (h.setCells b cs').setFam f b b := by
  unfold AHeap.wr at hw
  simp only [grd_some, ble_iff, beq_iff, Option.bind_eq_some_iff, Option.some.injEq] at hw
  obtain ⟨h1, ⟨f, tip, thr⟩, h2, h3, h4, h5⟩ := hw
  simp at h3 h4
  subst h3
  exact ⟨f, thr, h1, h2, h4, h5.symm⟩

/-- Other cells in a block. -/
theorem Step.wr (H : HRel E base B μ h w) {b : Nat} {m : MT} (hb : μ b = some m) {cs cs' : List Value} {h' : AHeap} (hcs : h.cellsOf b = some cs) (hlen : cs'.length = cs.length)
    (hw : h.wr base b cs' = some h') {c c' : Array Value} {e : TypeId} {fr : Nat × Nat} (hrow : w.heap[m.r]? = some (.cells c e fr)) (hsz : c'.size = c.size)
    (hu : Upd w m.r (.cells c' e fr) w') (hc : ∀ (i : Nat) v, cs'[i]? = some v → ∃ v', c'[m.s + i]? = some v' ∧ VRel μ v v') : Step E base B μ h w μ h' w' := by
  obtain ⟨f, thr, hbase, hfam, hbf, rfl⟩ := wr_some hw
  obtain ⟨c0, hroot0⟩ := fam_root hfam
  simp only at hroot0
  obtain ⟨f0, t0, th0, hgb⟩ := cellsOf_some hcs
  have hroot : ∃ c1, (h.setCells b cs').get f = some (.cells c1 f b thr) := by
    rw [get_setCells]
    by_cases e1 : f = b
    · subst e1; rw [if_pos rfl, hroot0]; exact ⟨_, rfl⟩
    · rw [if_neg e1]; exact ⟨_, hroot0⟩
  obtain ⟨c1, hroot1⟩ := hroot
  have hfam' : ∀ x, ((h.setCells b cs').setFam f b b).fam x = (h.fam x).map fun r => if r.1 = f then (f, b, b) else r := by
    intro x; rw [fam_setFam hroot1, fam_setCells]
  have rec_eq : ∀ x r, h.fam x = some r → r.1 = f → r = (f, b, thr) := by
    rintro x ⟨rf, rt, rh⟩ hx rfl
    obtain ⟨c2, k⟩ := fam_root hx
    simp only at k
    rw [hroot0] at k; cases k; rfl
  have hlen' : ∀ x, lenOf ((h.setCells b cs').setFam f b b) x = lenOf h x := by
    intro x
    unfold lenOf
    rw [cellsOf_setFam]
    by_cases e1 : x = b
    · subst e1
      rw [hcs]
      have : (h.setCells x cs').cellsOf x = some cs' := by
        refine cellsOf_get (f := f0) (tip := t0) (thr := th0) ?_
        rw [get_setCells, if_pos rfl, hgb]
      rw [this]; exact hlen
    · rw [cellsOf_setCells_ne _ _ _ e1]
  have ftr := H.fam b m _ hb hfam
  have hrd : ∀ x, x ≠ b → (∃ mx, μ x = some mx) → (((h.setCells b cs').setFam f b b).rd x).isSome = true → (h.rd x).isSome = true ∧ ∀ mx, μ x = some mx → mx.r ≠ m.r := by
    intro x hx ⟨mx, hmx⟩ hs
    cases hfx : h.fam x with
    | none => simp [AHeap.rd, hfam', hfx] at hs
    | some r =>
      by_cases e1 : r.1 = f
      · exfalso
        have hr := rec_eq x r hfx e1
        have hle := (H.fam x mx r hmx hfx).1
        rw [hr] at hle
        simp at hle
        have : ((h.setCells b cs').setFam f b b).fam x = some (f, b, b) := by rw [hfam', hfx]; simp [e1]
        rw [rd_none_of this (by simp; omega)] at hs
        simp at hs
      · refine ⟨?_, ?_⟩
        · unfold AHeap.rd at hs ⊢
          rw [hfam', hfx, cellsOf_setFam, cellsOf_setCells_ne _ _ _ hx] at hs
          rw [hfx]
          simpa [e1] using hs
        · intro mx' hmx' hr
          obtain ⟨r', q1, q2, _⟩ := H.alias x b mx' m hmx' hb hr hx
          rw [hfam] at q2; cases q2
          rw [hfx] at q1; cases q1
          exact e1 rfl
  have hget : ∀ x, x ≠ b → x ≠ f → ((h.setCells b cs').setFam f b b).get x = h.get x := by
    intro x h1 h2; rw [get_setFam, if_neg h2, get_setCells, if_neg h1]
  refine ⟨⟨?_, ?_, ?_, H.own, ?_, ?_, H.glob, by rw [hu.size]; exact H.low, ?_, ?_⟩, ⟨hu.tape, hu.os, hu.output, by rw [hu.size]; exact Nat.le_refl _, fun r hr hk => ?_⟩, μ.le_refl, (fun c mc h0 hc => by rw [h0] at hc; cases hc), ?_, by rw [size_setFam, size_setCells]; exact Nat.le_refl _⟩
  · intro x mx hx; rw [size_setFam, size_setCells]; exact H.dom x mx hx
  · intro x hx
    rw [size_setFam, size_setCells] at hx
    have hbl := H.dom _ _ hb
    have := ftr.2.1
    rw [hget x (by omega) (by simp at this; omega)]; exact H.high x hx
  · intro x mx hx
    obtain ⟨p, p', k1, k2, k3⟩ := H.obj x mx hx
    by_cases exb : x = b
    · subst exb
      rw [hb] at hx; cases hx
      rw [hgb] at k1; cases k1
      rw [hrow] at k2; cases k2
      cases k3 with
      | cells hn hl hf hcc =>
        have : ∃ t1 th1, ((h.setCells x cs').setFam f x x).get x = some (.cells cs' f0 t1 th1) := by
          rw [get_setFam]
          by_cases e1 : x = f
          · subst e1; rw [if_pos rfl, get_setCells, if_pos rfl, hgb]; exact ⟨_, _, rfl⟩
          · rw [if_neg e1, get_setCells, if_pos rfl, hgb]; exact ⟨_, _, rfl⟩
        obtain ⟨t1, th1, hg1⟩ := this
        exact ⟨_, _, hg1, by rw [hu.get, if_pos rfl], .cells (by omega) (by omega) hf fun _ => hc⟩
    · have hs := hrd x exb ⟨mx, hx⟩
      have hp : ∃ q, ((h.setCells b cs').setFam f b b).get x = some q ∧ ∀ r' : Obj, (mx.r ≠ m.r → r' = p') → (mx.r = m.r → r' = .cells c' e fr) → ORel μ ((h.setCells b cs').setFam f b b) base x mx q r' := by
        by_cases exf : x = f
        · subst exf
          rw [hroot0] at k1; cases k1
          refine ⟨.cells c0 x b b, ?_, fun r' r1 r2 => ?_⟩
          · rw [get_setFam, if_pos rfl, get_setCells, if_neg exb, hroot0]
          · by_cases er : mx.r = m.r
            · rw [r2 er]
              rw [er, hrow] at k2; cases k2
              cases k3 with
              | cells hn hl hf hcc => exact .cells (by omega) hl hf fun hx' => absurd er ((hs hx').2 mx hx)
            · rw [r1 er]
              cases k3 with
              | cells hn hl hf hcc => exact .cells hn hl hf fun hx' => hcc (hs hx').1
              
        · refine ⟨p, by rw [hget x exb exf]; exact k1, fun r' r1 r2 => ?_⟩
          by_cases er : mx.r = m.r
          · rw [r2 er]
            rw [er, hrow] at k2; cases k2
            obtain ⟨r0, q1, _, _⟩ := H.alias x b mx m hx hb er exb
            obtain ⟨cs1, t1, th1, k⟩ := fam_cells q1
            rw [k] at k1; cases k1
            cases k3 with
            | cells hn hl hf hcc => exact .cells (by omega) hl hf fun hx' => absurd er ((hs hx').2 mx hx)
          · rw [r1 er]; exact k3.mono μ.le_refl fun hx' => (hs hx').1
      obtain ⟨q, hq, hrel⟩ := hp
      by_cases er : mx.r = m.r
      · exact ⟨q, _, hq, by rw [hu.get, if_pos er], hrel _ (fun h => absurd er h) fun _ => rfl⟩
      · exact ⟨q, p', hq, by rw [hu.get, if_neg er]; exact k2, hrel _ (fun _ => rfl) fun h => absurd h er⟩
  · intro b1 b2 m1 m2 hb1 hb2 hr hne
    obtain ⟨r, q1, q2, q3⟩ := H.alias b1 b2 m1 m2 hb1 hb2 hr hne
    refine ⟨if r.1 = f then (f, b, b) else r, by rw [hfam', q1]; rfl, by rw [hfam', q2]; rfl, ?_⟩
    rw [hlen', hlen']
    by_cases e1 : r.1 = f
    · rw [if_pos e1]
      have := rec_eq b1 r q1 e1
      rw [this] at q3
      exact q3
    · rw [if_neg e1]; exact q3
  · intro x mx r hx hr
    rw [hfam'] at hr
    obtain ⟨r0, k1, k2⟩ := Option.map_eq_some_iff.1 hr
    obtain ⟨q1, q2, q3⟩ := H.fam x mx r0 hx k1
    by_cases e1 : r0.1 = f
    · rw [if_pos e1] at k2; subst k2
      have := rec_eq x r0 k1 e1
      subst this
      exact ⟨q1, q2, q3⟩
    · rw [if_neg e1] at k2; subst k2; exact ⟨q1, q2, q3⟩
  · rw [size_setFam, size_setCells]; exact H.bsz
  · intro x cs1 f1 tip1 thr1 hx
    rw [get_setFam] at hx
    by_cases e1 : x = f
    · subst e1
      rw [if_pos rfl, hroot1] at hx; cases hx; exact Nat.le_refl _
    · rw [if_neg e1, get_setCells] at hx
      by_cases e2 : x = b
      · subst e2; rw [if_pos rfl, hgb] at hx; cases hx; exact H.wf _ _ _ _ _ hgb
      · rw [if_neg e2] at hx; exact H.wf _ _ _ _ _ hx
  · rw [hu.get, if_neg]
    intro er
    have := hk b m hb er.symm
    omega
  · intro x hx h0
    obtain ⟨mf, hmf⟩ := ftr.2.2
    exact hget x (by intro e1; subst e1; rw [h0] at hb; cases hb) (by intro e1; subst e1; simp at hmf; rw [h0] at hmf; cases hmf)

end Go.M
