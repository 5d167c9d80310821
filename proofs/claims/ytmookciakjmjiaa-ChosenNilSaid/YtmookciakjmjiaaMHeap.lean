/-
  Memory: how the canonical heap lies in the model's world, and what each kind of change keeps.
-/
import Derived.Test.YtmookciakjmjiaaMRel
namespace Go.M
open Go

/-- Entries of maps, one by one. -/
inductive ERels (μ : Emb) : List MapEntry → List MapEntry → Prop
  | nil : ERels μ [] []
  | cons {e e' : MapEntry} {l l' : List MapEntry} (hk : VRel μ e.key e'.key) (hv : VRel μ e.val e'.val) (hb : e.born = e'.born) (t : ERels μ l l') : ERels μ (e :: l) (e' :: l')
theorem ERels.mono {μ μ' : Emb} (hμ : μ.le μ') {l l' : List MapEntry} (h : ERels μ l l') : ERels μ' l l' := by
  induction h with
  | nil => exact .nil
  | cons hk hv hb _ ih => exact .cons (hk.mono hμ) (hv.mono hμ) hb ih
theorem ERels.length {μ : Emb} {l l' : List MapEntry} (h : ERels μ l l') : l.length = l'.length := by
  induction h with
  | nil => rfl
  | cons _ _ _ _ ih => simp [ih]

/-- How an object lies in the model's memory. -/
inductive ORel (μ : Emb) (h : AHeap) (base b : Nat) (m : MT) : AObj → Obj → Prop
  | cells {cs : List Value} {f tip thr : Nat} {c : Array Value} {e : TypeId} {fr : Nat × Nat} (hn : c.size = m.n) (hl : m.s + cs.length ≤ m.n) (hf : base ≤ b → fr = (0, 0))
      (hc : (h.rd b).isSome = true → ∀ (i : Nat) v, cs[i]? = some v → ∃ v', c[m.s + i]? = some v' ∧ VRel μ v v') : ORel μ h base b m (.cells cs f tip thr) (.cells c e fr)
  | map {es : List MapEntry} {es' : Array MapEntry} {clock : Nat} (hs : ERels μ es es'.toList) : ORel μ h base b m (.map es clock) (.map es' clock)
  | siter {s : ByteArray} {pos : Nat} (hs : m.s = 0) : ORel μ h base b m (.siter s pos) (.stringIter s pos)
  | miter0 {since last : Nat} {seen : List Nat} (hs : m.s = 0) : ORel μ h base b m (.miter none since seen last) (.mapIter none since seen.toArray last)
  | miter {k since last : Nat} {seen : List Nat} {mk : MT} (hk : μ k = some mk) (hs : m.s = 0) : ORel μ h base b m (.miter (some k) since seen last) (.mapIter (some mk.r) since seen.toArray last)
  | loop {st : LoopState} {p : Option Code} {f : AF} {ps : List Tmp} {asg body : Code} {fn : FuncId} {tmps : Array Value} {d : Nat} (hf : FRel μ f tmps) :
      ORel μ h base b m (.loop st p f ps asg body) (.loop { state := st, pending := p, fn := fn, tmps := tmps, params := ps.toArray, assign := asg, body := body, defers := d })
  | bag {cs : List Int} {c : Array Value} {e : TypeId} {fr : Nat × Nat} {l : List Int} (hp : l.Perm cs) (hs : m.s = 0) (hc : ∀ (i : Nat) x, l[i]? = some x → c[i]? = some (.int .i64 x)) (hn : c.size = m.n) : ORel μ h base b m (.bag cs) (.cells c e fr)

theorem ORel.mono {μ μ' : Emb} {h h' : AHeap} {base b : Nat} {m : MT} {o : AObj} {o' : Obj} (hμ : μ.le μ') (hr : (h'.rd b).isSome = true → (h.rd b).isSome = true) (H : ORel μ h base b m o o') : ORel μ' h' base b m o o' := by
  cases H with
  | cells hn hl hf hc => exact .cells hn hl hf fun hx i v hv => let ⟨v', h1, h2⟩ := hc (hr hx) i v hv; ⟨v', h1, h2.mono hμ⟩
  | map hs => exact .map (hs.mono hμ)
  | siter hs => exact .siter hs
  | miter0 hs => exact .miter0 hs
  | miter hk hs => exact .miter (hμ _ _ hk) hs
  | loop hf => exact .loop (hf.mono hμ)
  | bag hp hs hc hn => exact .bag hp hs hc hn

def lenOf (h : AHeap) (b : Nat) : Nat := match h.cellsOf b with | some cs => cs.length | none => 0

/-- The canonical heap lies in the world. -/
structure HRel (E : Env) (base B : Nat) (μ : Emb) (h : AHeap) (w : World) : Prop where
  dom : ∀ b m, μ b = some m → b < h.size
  high : ∀ b, h.size ≤ b → h.get b = none
  obj : ∀ b m, μ b = some m → ∃ o o', h.get b = some o ∧ w.heap[m.r]? = some o' ∧ ORel μ h base b m o o'
  own : ∀ b m, μ b = some m → base ≤ b → B ≤ m.r
  alias : ∀ b1 b2 m1 m2, μ b1 = some m1 → μ b2 = some m2 → m1.r = m2.r → b1 ≠ b2 →
    ∃ r, h.fam b1 = some r ∧ h.fam b2 = some r ∧ (r.2.1 = b2 → m1.s + lenOf h b1 ≤ m2.s + lenOf h b2)
  fam : ∀ b m r, μ b = some m → h.fam b = some r → b ≤ r.2.1 ∧ r.1 ≤ b ∧ ∃ m', μ r.1 = some m'
  glob : ∀ g, E.glob g = true → ∃ m, μ g = some m ∧ m.r = g ∧ m.s = 0
  low : B ≤ w.heap.size
  bsz : base ≤ h.size
  wf : ∀ b cs f tip thr, h.get b = some (.cells cs f tip thr) → f ≤ b

/-- What became of the world. -/
structure Grow (base : Nat) (μ : Emb) (w w' : World) : Prop where
  tape : w'.tape = w.tape
  os : w'.os = w.os
  output : w'.output = w.output
  size : w.heap.size ≤ w'.heap.size
  keep : ∀ r, r < w.heap.size → (∀ b m, μ b = some m → m.r = r → b < base) → w'.heap[r]? = w.heap[r]?

/-- A step of both. -/
structure Step (E : Env) (base B : Nat) (μ : Emb) (h : AHeap) (w : World) (μ' : Emb) (h' : AHeap) (w' : World) : Prop where
  rel : HRel E base B μ' h' w'
  grow : Grow base μ w w'
  le : μ.le μ'
  new : ∀ b m, μ b = none → μ' b = some m → h.size ≤ b ∧ base ≤ b ∧ (w.heap.size ≤ m.r ∨ ∃ b0 m0, base ≤ b0 ∧ μ b0 = some m0 ∧ m0.r = m.r)
  unt : ∀ b, b < h.size → μ b = none → h'.get b = h.get b
  hsz : h.size ≤ h'.size

theorem Grow.refl (base : Nat) (μ : Emb) (w : World) : Grow base μ w w := ⟨rfl, rfl, rfl, Nat.le_refl _, fun _ _ _ => rfl⟩
theorem Step.refl {E : Env} {base B : Nat} {μ : Emb} {h : AHeap} {w : World} (H : HRel E base B μ h w) : Step E base B μ h w μ h w :=
  ⟨H, .refl _ _ _, μ.le_refl, fun b m h0 h1 => by simp [h0] at h1, fun _ _ _ => rfl, Nat.le_refl _⟩

theorem Step.trans {E : Env} {base B : Nat} {μ μ1 μ2 : Emb} {h h1 h2 : AHeap} {w w1 w2 : World} (s : Step E base B μ h w μ1 h1 w1) (t : Step E base B μ1 h1 w1 μ2 h2 w2) :
    Step E base B μ h w μ2 h2 w2 := by
  refine ⟨t.rel, ⟨t.grow.tape.trans s.grow.tape, t.grow.os.trans s.grow.os, t.grow.output.trans s.grow.output, Nat.le_trans s.grow.size t.grow.size, fun r hr hk => ?_⟩, Emb.le_trans s.le t.le, fun b m h0 h2' => ?_, fun b hb h0 => ?_, Nat.le_trans s.hsz t.hsz⟩
  · rw [t.grow.keep r (Nat.lt_of_lt_of_le hr s.grow.size) ?_, s.grow.keep r hr hk]
    intro b m hm hmr
    cases h0 : μ b with
    | some m0 =>
      have := s.le b m0 h0
      rw [hm] at this; cases this
      exact hk b m h0 hmr
    | none =>
      obtain ⟨_, _, h3⟩ := s.new b m h0 hm
      rcases h3 with h3 | ⟨b0, m0, hb0, hm0, hr0⟩
      · omega
      · have := hk b0 m0 hm0 (hr0.trans hmr); omega
  · cases h1' : μ1 b with
    | some m1 =>
      have := t.le b m1 h1'
      rw [h2'] at this; cases this
      exact s.new b m h0 h1'
    | none =>
      obtain ⟨ha, hb', hc⟩ := t.new b m h1' h2'
      refine ⟨Nat.le_trans s.hsz ha, hb', ?_⟩
      rcases hc with hc | ⟨b0, m0, hb0, hm0, hr0⟩
      · exact .inl (Nat.le_trans s.grow.size hc)
      · cases h00 : μ b0 with
        | some m00 =>
          have := s.le b0 m00 h00
          rw [hm0] at this; cases this
          exact .inr ⟨b0, m0, hb0, h00, hr0⟩
        | none =>
          obtain ⟨_, _, hx⟩ := s.new b0 m0 h00 hm0
          rcases hx with hx | ⟨b1, m1, q1, q2, q3⟩
          · exact .inl (by omega)
          · exact .inr ⟨b1, m1, q1, q2, q3.trans hr0⟩
  · have h1' : μ1 b = none := by
      cases h1' : μ1 b with
      | none => rfl
      | some m1 => have := (s.new b m1 h0 h1').1; omega
    rw [t.unt b (Nat.lt_of_lt_of_le hb s.hsz) h1', s.unt b hb h0]

/-! ### Reading -/
theorem rd_some {h : AHeap} {b : Nat} {cs : List Value} (H : h.rd b = some cs) : ∃ r, h.fam b = some r ∧ r.2.2 ≤ b ∧ h.cellsOf b = some cs := by
  unfold AHeap.rd at H
  simp only [Option.bind_eq_some_iff, grd_some, ble_iff] at H
  obtain ⟨r, h1, h2, h3⟩ := H
  exact ⟨r, h1, h2, h3⟩
theorem cellsOf_some {h : AHeap} {b : Nat} {cs : List Value} (H : h.cellsOf b = some cs) : ∃ f tip thr, h.get b = some (.cells cs f tip thr) := by
  unfold AHeap.cellsOf at H
  split at H
  · rename_i c f t r hg; cases H; exact ⟨f, t, r, hg⟩
  · cases H
theorem rd_of {h : AHeap} {b : Nat} {cs : List Value} {r : Nat × Nat × Nat} (h1 : h.fam b = some r) (h2 : r.2.2 ≤ b) (h3 : h.cellsOf b = some cs) : h.rd b = some cs := by
  unfold AHeap.rd; simp [h1, grd, h3, Nat.ble_eq_true_of_le h2]

/-- What a readable block's cells are in the world. -/
theorem HRel.read {E : Env} {base B : Nat} {μ : Emb} {h : AHeap} {w : World} (H : HRel E base B μ h w) {b : Nat} {m : MT} (hb : μ b = some m) {cs : List Value} (hr : h.rd b = some cs) :
    ∃ c e fr, w.heap[m.r]? = some (.cells c e fr) ∧ c.size = m.n ∧ m.s + cs.length ≤ m.n ∧ (base ≤ b → fr = (0, 0)) ∧ ∀ (i : Nat) v, cs[i]? = some v → ∃ v', c[m.s + i]? = some v' ∧ VRel μ v v' := by
  obtain ⟨o, o', ho, ho', hrel⟩ := H.obj b m hb
  obtain ⟨r, h1, h2, h3⟩ := rd_some hr
  obtain ⟨f, tip, thr, hg⟩ := cellsOf_some h3
  rw [hg] at ho; cases ho
  cases hrel with
  | cells hn hl hf hc => exact ⟨_, _, _, ho', hn, hl, hf, hc (by simp [hr])⟩

theorem readCells_some {h : AHeap} {b o n : Nat} {l : List Value} (H : readCells h b o n = some l) : ∃ cs, h.rd b = some cs ∧ o + n ≤ cs.length ∨ n = 0 := by
  unfold readCells at H
  simp only [Option.bind_eq_some_iff, takeN_some] at H
  obtain ⟨cs, h1, h2, h3⟩ := H
  refine ⟨cs, ?_⟩
  simp at h2
  by_cases hn : n = 0
  · exact .inr hn
  · exact .inl ⟨h1, by omega⟩

/-- The cells that are read, in the world. -/
theorem HRel.readCells {E : Env} {base B : Nat} {μ : Emb} {h : AHeap} {w : World} (H : HRel E base B μ h w) {b o n : Nat} {m : MT} (hb : μ b = some m) {l : List Value} (hr : readCells h b o n = some l) :
    l.length = n ∧ ∀ (i : Nat) v, l[i]? = some v → ∃ v', w.cell? ⟨m.r, m.s + o + i, none⟩ = some v' ∧ VRel μ v v' := by
  unfold M.readCells at hr
  simp only [Option.bind_eq_some_iff, takeN_some] at hr
  obtain ⟨cs, h1, h2, rfl⟩ := hr
  refine ⟨by simp at h2 ⊢; omega, fun i v hv => ?_⟩
  obtain ⟨c, e, fr, hw, hn, hl, hf, hc⟩ := H.read hb h1
  have hi : i < n := by
    have := (List.getElem?_eq_some_iff.1 hv).1
    simp at this; omega
  rw [List.getElem?_take, if_pos hi, List.getElem?_drop] at hv
  obtain ⟨v', k1, k2⟩ := hc _ v hv
  refine ⟨v', ?_, k2⟩
  simp only [World.cell?, hw]
  simpa [Nat.add_assoc] using k1

end Go.M
