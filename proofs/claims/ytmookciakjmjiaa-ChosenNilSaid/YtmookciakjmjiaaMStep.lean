/-
  Steps of both memories: a new block; other cells in a block; an append in place; another object.
-/
import Derived.Test.YtmookciakjmjiaaMHeap
namespace Go.M
open Go

/-- One object of the world is another one now. -/
structure Upd (w : World) (r : Nat) (o : Obj) (w' : World) : Prop where
  tape : w'.tape = w.tape
  os : w'.os = w.os
  output : w'.output = w.output
  size : w'.heap.size = w.heap.size
  get : ∀ k, w'.heap[k]? = if k = r then some o else w.heap[k]?
/-- One object more. -/
structure Alc (w : World) (o : Obj) (w' : World) : Prop where
  tape : w'.tape = w.tape
  os : w'.os = w.os
  output : w'.output = w.output
  size : w'.heap.size = w.heap.size + 1
  get : ∀ k, w'.heap[k]? = if k = w.heap.size then some o else w.heap[k]?

theorem Alc.mk' (w : World) (o : Obj) : Alc w o { w with heap := w.heap.push o } :=
  ⟨rfl, rfl, rfl, by simp, fun k => by
    rw [Array.getElem?_push]⟩

def upd (μ : Emb) (b : Nat) (m : MT) : Emb := fun c => if c = b then some m else μ c
theorem upd_self (μ : Emb) (b : Nat) (m : MT) : upd μ b m b = some m := by simp [upd]
theorem upd_ne (μ : Emb) {b c : Nat} (m : MT) (h : c ≠ b) : upd μ b m c = μ c := by simp [upd, h]
theorem upd_le {μ : Emb} {b : Nat} {m : MT} (h : μ b = none) : μ.le (upd μ b m) := fun c x hx => by
  by_cases e : c = b
  · subst e; rw [h] at hx; cases hx
  · rw [upd_ne _ _ e]; exact hx

theorem HRel.congr {E : Env} {base B : Nat} {μ : Emb} {h : AHeap} {w w' : World} (H : HRel E base B μ h w) (hw : w'.heap = w.heap) : HRel E base B μ h w' :=
  ⟨H.dom, H.high, fun b m hb => by rw [hw]; exact H.obj b m hb, H.own, H.alias, H.fam, H.glob, by rw [hw]; exact H.low, H.bsz, H.wf⟩

/-- A draw. -/
theorem Step.drawn {E : Env} {base B : Nat} {μ : Emb} {h : AHeap} {w : World} (H : HRel E base B μ h w) (n : Nat) : Step E base B μ h w μ h { w with drawn := n } :=
  ⟨H.congr rfl, ⟨rfl, rfl, rfl, Nat.le_refl _, fun _ _ _ => rfl⟩, μ.le_refl, fun b m h0 h1 => by simp [h0] at h1, fun _ _ _ => rfl, Nat.le_refl _⟩

/-! ### Families -/
theorem fam_cells {h : AHeap} {b : Nat} {r : Nat × Nat × Nat} (H : h.fam b = some r) : ∃ cs tip thr, h.get b = some (.cells cs r.1 tip thr) := by
  unfold AHeap.fam at H
  split at H
  · rename_i c f t th hg
    simp only [bif_eq, beq_iff] at H
    split at H
    · rename_i e; cases H; exact ⟨c, t, th, by rw [hg, e]⟩
    · split at H
      · simp only [grd_some, Option.some.injEq] at H; obtain ⟨_, rfl⟩ := H; exact ⟨c, t, th, hg⟩
      · cases H
  · cases H
theorem fam_root {h : AHeap} {b : Nat} {r : Nat × Nat × Nat} (H : h.fam b = some r) : ∃ cs, h.get r.1 = some (.cells cs r.1 r.2.1 r.2.2) := by
  unfold AHeap.fam at H
  split at H
  · rename_i c f t th hg
    simp only [bif_eq, beq_iff] at H
    split at H
    · rename_i e; cases H; subst e; exact ⟨c, hg⟩
    · split at H
      · rename_i c' f' t' th' hg'
        simp only [grd_some, beq_iff, Option.some.injEq] at H; obtain ⟨e, rfl⟩ := H; subst e; exact ⟨c', hg'⟩
      · cases H
  · cases H
theorem fam_of {h : AHeap} {b f tip0 thr0 tip thr : Nat} {cs c0 : List Value} (h1 : h.get b = some (.cells cs f tip0 thr0)) (h2 : h.get f = some (.cells c0 f tip thr)) : h.fam b = some (f, tip, thr) := by
  unfold AHeap.fam
  rw [h1]
  simp only [bif_eq, beq_iff]
  by_cases e : f = b
  · subst e; rw [h1] at h2; cases h2; simp
  · rw [if_neg e, h2]; simp [grd]
theorem fam_iff {h : AHeap} {b f tip thr : Nat} : h.fam b = some (f, tip, thr) ↔ ∃ cs t0 th0 c0, h.get b = some (.cells cs f t0 th0) ∧ h.get f = some (.cells c0 f tip thr) := by
  constructor
  · intro H
    obtain ⟨cs, t, th, h1⟩ := fam_cells H
    obtain ⟨c0, h2⟩ := fam_root H
    exact ⟨cs, t, th, c0, h1, h2⟩
  · rintro ⟨cs, t, th, c0, h1, h2⟩; exact fam_of h1 h2

theorem get_setCells (h : AHeap) (b : Nat) (cs : List Value) (c : Nat) : (h.setCells b cs).get c = if c = b then (match h.get b with | some (.cells _ f tip thr) => some (.cells cs f tip thr) | o => o) else h.get c := by
  unfold AHeap.setCells
  cases hg : h.get b with
  | none => by_cases e : c = b
            · subst e; simp [hg]
            · simp [e]
  | some o => cases o <;> (simp only [AHeap.get_put]; try (by_cases e : c = b <;> simp [e, hg]))
theorem get_setFam (h : AHeap) (f tip thr : Nat) (c : Nat) : (h.setFam f tip thr).get c = if c = f then (match h.get f with | some (.cells cs f' _ _) => some (.cells cs f' tip thr) | o => o) else h.get c := by
  unfold AHeap.setFam
  cases hg : h.get f with
  | none => by_cases e : c = f
            · subst e; simp [hg]
            · simp [e]
  | some o => cases o <;> (simp only [AHeap.get_put]; try (by_cases e : c = f <;> simp [e, hg]))
theorem size_setCells (h : AHeap) (b : Nat) (cs : List Value) : (h.setCells b cs).size = h.size := by unfold AHeap.setCells; split <;> rfl
theorem size_setFam (h : AHeap) (f tip thr : Nat) : (h.setFam f tip thr).size = h.size := by unfold AHeap.setFam; split <;> rfl

theorem opt_ext {α : Type} {a b : Option α} (h : ∀ x, a = some x ↔ b = some x) : a = b := by
  cases a with
  | none => cases b with
    | none => rfl
    | some y => exact absurd ((h y).2 rfl) (by simp)
  | some x => exact ((h x).1 rfl).symm

theorem fam_setCells (h : AHeap) (b : Nat) (cs : List Value) (c : Nat) : (h.setCells b cs).fam c = h.fam c := by
  apply opt_ext
  rintro ⟨f, tip, thr⟩
  have key : ∀ x f0 t0 th0, (∃ c0, (h.setCells b cs).get x = some (.cells c0 f0 t0 th0)) ↔ (∃ c0, h.get x = some (.cells c0 f0 t0 th0)) := by
    intro x f0 t0 th0
    rw [get_setCells]
    by_cases e : x = b
    · subst e
      rw [if_pos rfl]
      cases hg : h.get x with
      | none => simp
      | some o => cases o <;> simp
    · rw [if_neg e]
  rw [fam_iff, fam_iff]
  constructor
  · rintro ⟨a, t, th, c0, h1, h2⟩
    obtain ⟨a', h1'⟩ := (key _ _ _ _).1 ⟨_, h1⟩
    obtain ⟨c0', h2'⟩ := (key _ _ _ _).1 ⟨_, h2⟩
    exact ⟨_, _, _, _, h1', h2'⟩
  · rintro ⟨a, t, th, c0, h1, h2⟩
    obtain ⟨a', h1'⟩ := (key _ _ _ _).2 ⟨_, h1⟩
    obtain ⟨c0', h2'⟩ := (key _ _ _ _).2 ⟨_, h2⟩
    exact ⟨_, _, _, _, h1', h2'⟩

/-- With another record: whoever is of that family tells the new one. -/
theorem fam_setFam {h : AHeap} {f t0 th0 : Nat} {c0 : List Value} (hr : h.get f = some (.cells c0 f t0 th0)) (tip thr : Nat) (c : Nat) :
    (h.setFam f tip thr).fam c = (h.fam c).map fun r => if r.1 = f then (f, tip, thr) else r := by
  have gf : (h.setFam f tip thr).get f = some (.cells c0 f tip thr) := by rw [get_setFam, if_pos rfl, hr]
  have gn : ∀ x, x ≠ f → (h.setFam f tip thr).get x = h.get x := fun x hx => by rw [get_setFam, if_neg hx]
  apply opt_ext
  rintro ⟨g, tp, th⟩
  rw [fam_iff, Option.map_eq_some_iff]
  constructor
  · rintro ⟨cs, t1, th1, c1, h1, h2⟩
    by_cases e : g = f
    · subst e
      rw [gf] at h2; cases h2
      refine ⟨(g, t0, th0), fam_iff.2 ?_, by simp⟩
      by_cases ec : c = g
      · subst ec; exact ⟨_, _, _, _, hr, hr⟩
      · rw [gn c ec] at h1; exact ⟨_, _, _, _, h1, hr⟩
    · rw [gn g e] at h2
      refine ⟨(g, tp, th), fam_iff.2 ?_, by simp [e]⟩
      by_cases ec : c = f
      · subst ec; rw [gf] at h1; cases h1; exact absurd rfl e
      · rw [gn c ec] at h1; exact ⟨_, _, _, _, h1, h2⟩
  · rintro ⟨⟨f1, t1, th1⟩, h1, h2⟩
    obtain ⟨cs, t2, th2, c2, k1, k2⟩ := fam_iff.1 h1
    by_cases e : f1 = f
    · subst e
      simp at h2; obtain ⟨rfl, rfl, rfl⟩ := h2
      by_cases ec : c = f1
      · subst ec; exact ⟨_, _, _, _, gf, gf⟩
      · exact ⟨_, _, _, _, (gn c ec).trans k1, gf⟩
    · simp [e] at h2; obtain ⟨rfl, rfl, rfl⟩ := h2
      by_cases ec : c = f
      · subst ec; rw [hr] at k1; cases k1; exact absurd rfl e
      · exact ⟨_, _, _, _, (gn c ec).trans k1, (gn _ e).trans k2⟩

theorem fam_push {h : AHeap} (hwf : ∀ b cs f tip thr, h.get b = some (.cells cs f tip thr) → f ≤ b) (o : AObj) {c : Nat} (hc : c < h.size) : (h.push o).fam c = h.fam c := by
  apply opt_ext
  rintro ⟨f, tip, thr⟩
  have gn : ∀ x, x < h.size → (h.push o).get x = h.get x := fun x hx => by rw [AHeap.get_push, if_neg (by omega)]
  rw [fam_iff, fam_iff]
  constructor
  · rintro ⟨a, t, th, c0, h1, h2⟩
    rw [gn c hc] at h1
    have := hwf _ _ _ _ _ h1
    rw [gn f (by omega)] at h2
    exact ⟨_, _, _, _, h1, h2⟩
  · rintro ⟨a, t, th, c0, h1, h2⟩
    have := hwf _ _ _ _ _ h1
    exact ⟨_, _, _, _, (gn c hc).trans h1, (gn f (by omega)).trans h2⟩

theorem cellsOf_get {h : AHeap} {b : Nat} {cs : List Value} {f tip thr : Nat} (hg : h.get b = some (.cells cs f tip thr)) : h.cellsOf b = some cs := by unfold AHeap.cellsOf; rw [hg]
theorem cellsOf_push {h : AHeap} (o : AObj) {c : Nat} (hc : c < h.size) : (h.push o).cellsOf c = h.cellsOf c := by unfold AHeap.cellsOf; rw [AHeap.get_push, if_neg (by omega)]
theorem cellsOf_setFam (h : AHeap) (f tip thr : Nat) (c : Nat) : (h.setFam f tip thr).cellsOf c = h.cellsOf c := by
  unfold AHeap.cellsOf
  rw [get_setFam]
  by_cases e : c = f
  · subst e; rw [if_pos rfl]
    cases hg : h.get c with
    | none => rfl
    | some o => cases o <;> rfl
  · rw [if_neg e]
theorem cellsOf_setCells_ne (h : AHeap) (b : Nat) (cs : List Value) {c : Nat} (hc : c ≠ b) : (h.setCells b cs).cellsOf c = h.cellsOf c := by
  unfold AHeap.cellsOf; rw [get_setCells, if_neg hc]
theorem rd_push {h : AHeap} (hwf : ∀ b cs f tip thr, h.get b = some (.cells cs f tip thr) → f ≤ b) (o : AObj) {c : Nat} (hc : c < h.size) : (h.push o).rd c = h.rd c := by
  unfold AHeap.rd; rw [fam_push hwf o hc, cellsOf_push o hc]
theorem lenOf_push {h : AHeap} (o : AObj) {c : Nat} (hc : c < h.size) : lenOf (h.push o) c = lenOf h c := by unfold lenOf; rw [cellsOf_push o hc]

end Go.M
