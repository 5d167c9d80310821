/-
  An append that goes on from the last block of a family: in place, or in a new row.
-/
import Derived.Test.YtmookciakjmjiaaMStep2
namespace Go.M
open Go
variable {E : Env} {base B : Nat} {μ : Emb} {h : AHeap} {w w' : World}

/-- The canonical heap behind such an append. -/
def extH (h : AHeap) (f thr : Nat) (cs : List Value) : AHeap := (h.setFam f h.size thr).push (.cells cs f 0 0)

theorem Step.ext (H : HRel E base B μ h w) {b f thr : Nat} {m : MT} (hb : μ b = some m) (hfam : h.fam b = some (f, b, thr)) (hbf : base ≤ f) {cs new : List Value}
    (mt : MT) (hsize : w.heap.size ≤ w'.heap.size) (htape : w'.tape = w.tape) (hos : w'.os = w.os) (hout : w'.output = w.output)
    (hnew : ∃ c' e, w'.heap[mt.r]? = some (.cells c' e (0, 0)) ∧ c'.size = mt.n ∧ mt.s + new.length ≤ mt.n ∧ (∀ (i : Nat) v, new[i]? = some v → ∃ v', c'[mt.s + i]? = some v' ∧ VRel μ v v'))
    (hcs : h.cellsOf b = some cs)
    (hrest : ∀ r, r < w.heap.size → r ≠ mt.r → w'.heap[r]? = w.heap[r]?)
    (hB : B ≤ mt.r)
    (hcase : w.heap.size ≤ mt.r ∨ (mt.r = m.r ∧ mt.n = m.n ∧ m.s + cs.length ≤ mt.s + new.length ∧ ∀ c e fr, w.heap[m.r]? = some (.cells c e fr) → ∃ c', w'.heap[m.r]? = some (.cells c' e fr) ∧ c'.size = c.size ∧ ∀ i, i < m.s + cs.length → c'[i]? = c[i]?)) :
    Step E base B μ h w (upd μ h.size mt) (extH h f thr new) w' := by
  obtain ⟨c0, hroot⟩ := fam_root hfam
  simp only at hroot
  have hle : μ.le (upd μ h.size mt) := upd_le H.fresh
  have hbl := H.dom _ _ hb
  have ftr := H.fam b m _ hb hfam
  simp only at ftr
  have rec_eq : ∀ x r, h.fam x = some r → r.1 = f → r = (f, b, thr) := by
    rintro x ⟨rf, rt, rh⟩ hx rfl
    obtain ⟨c2, k⟩ := fam_root hx
    simp only at k
    rw [hroot] at k; cases k; rfl
  have hwf1 : ∀ x cs f1 tip thr1, (h.setFam f h.size thr).get x = some (.cells cs f1 tip thr1) → f1 ≤ x := by
    intro x cs f1 tip thr1 hx
    rw [get_setFam] at hx
    by_cases e : x = f
    · subst e; rw [if_pos rfl, hroot] at hx; cases hx; exact Nat.le_refl _
    · rw [if_neg e] at hx; exact H.wf _ _ _ _ _ hx
  have hsz1 : (h.setFam f h.size thr).size = h.size := size_setFam _ _ _ _
  have hfam' : ∀ x, x < h.size → (extH h f thr new).fam x = (h.fam x).map fun r => if r.1 = f then (f, h.size, thr) else r := by
    intro x hx
    unfold extH
    rw [fam_push hwf1 _ (by rw [hsz1]; exact hx), fam_setFam hroot]
  have getnew : (extH h f thr new).get h.size = some (.cells new f 0 0) := by
    unfold extH; rw [AHeap.get_push, hsz1, if_pos rfl]
  have getold : ∀ x, x < h.size → (extH h f thr new).get x = (h.setFam f h.size thr).get x := by
    intro x hx; unfold extH; rw [AHeap.get_push, hsz1, if_neg (by omega)]
  have famnew : (extH h f thr new).fam h.size = some (f, h.size, thr) := by
    refine fam_of getnew (c0 := c0) ?_
    rw [getold f (by omega), get_setFam, if_pos rfl, hroot]
  have hlen' : ∀ x, x < h.size → lenOf (extH h f thr new) x = lenOf h x := by
    intro x hx
    unfold lenOf extH
    rw [cellsOf_push _ (by rw [hsz1]; exact hx), cellsOf_setFam]
  have lennew : lenOf (extH h f thr new) h.size = new.length := by
    unfold lenOf; rw [cellsOf_get getnew]
  have hrd : ∀ x, x < h.size → ((extH h f thr new).rd x).isSome = true → (h.rd x).isSome = true := by
    intro x hx hs
    unfold AHeap.rd at hs ⊢
    rw [hfam' x hx] at hs
    have : (extH h f thr new).cellsOf x = h.cellsOf x := by
      unfold extH; rw [cellsOf_push _ (by rw [hsz1]; exact hx), cellsOf_setFam]
    rw [this] at hs
    cases hfx : h.fam x with
    | none => rw [hfx] at hs; simp at hs
    | some r =>
      rw [hfx] at hs
      by_cases e : r.1 = f
      · have := rec_eq x r hfx e
        rw [this] at hs ⊢
        simpa using hs
      · simpa [e] using hs
  have cas : ∀ {c : Nat} {mc : MT}, upd μ h.size mt c = some mc → (c = h.size ∧ mc = mt) ∨ (c < h.size ∧ μ c = some mc) := by
    intro c mc hc
    by_cases e : c = h.size
    · subst e; rw [upd_self] at hc; cases hc; exact .inl ⟨rfl, rfl⟩
    · rw [upd_ne _ _ e] at hc; exact .inr ⟨H.dom _ _ hc, hc⟩
  have hend : ∀ c mc, μ c = some mc → mc.r = m.r → h.fam c = some (f, b, thr) ∧ mc.s + lenOf h c ≤ m.s + cs.length := by
    intro c mc hc hr
    have lb : lenOf h b = cs.length := by unfold lenOf; rw [hcs]
    by_cases e : c = b
    · subst e; rw [hb] at hc; cases hc; exact ⟨hfam, by omega⟩
    · obtain ⟨r, q1, q2, q3⟩ := H.alias c b mc m hc hb hr e
      rw [hfam] at q2; cases q2
      exact ⟨q1, by rw [← lb]; exact q3 rfl⟩
  have bb : base ≤ b := by omega
  refine ⟨⟨?_, ?_, ?_, ?_, ?_, ?_, ?_, ?_, ?_, ?_⟩, ⟨htape, hos, hout, hsize, ?_⟩, hle, ?_, ?_, ?_⟩
  · intro c mc hc
    have : (extH h f thr new).size = h.size + 1 := by unfold extH; rw [AHeap.size_push, hsz1]
    rcases cas hc with ⟨rfl, _⟩ | ⟨h1, _⟩ <;> omega
  · intro c hc
    have : (extH h f thr new).size = h.size + 1 := by unfold extH; rw [AHeap.size_push, hsz1]
    unfold extH
    rw [AHeap.get_push, hsz1, if_neg (by omega), get_setFam, if_neg (by omega)]; exact H.high c (by omega)
  · intro c mc hc
    rcases cas hc with ⟨rfl, rfl⟩ | ⟨h1, h2⟩
    · obtain ⟨c', e, k1, k2, k3, k4⟩ := hnew
      refine ⟨_, _, getnew, k1, .cells k2 k3 (fun _ => rfl) fun _ i v hv => ?_⟩
      obtain ⟨v', q1, q2⟩ := k4 i v hv
      exact ⟨v', q1, q2.mono hle⟩
    · obtain ⟨p, p', k1, k2, k3⟩ := H.obj c mc h2
      have hlt := H.lt h2
      have hp : ∃ q, (extH h f thr new).get c = some q ∧ ∀ r' : Obj, (mc.r ≠ mt.r → r' = p') → (mc.r = mt.r → mc.r = m.r → ∃ cc cc' e fr, p' = .cells cc e fr ∧ r' = .cells cc' e fr ∧ cc'.size = cc.size ∧ ∀ i, i < m.s + cs.length → cc'[i]? = cc[i]?) → (mc.r = mt.r → mc.r = m.r) →
          ORel (upd μ h.size mt) (extH h f thr new) base c mc q r' := by
        by_cases exf : c = f
        · subst exf
          rw [hroot] at k1; cases k1
          refine ⟨.cells c0 c h.size thr, by rw [getold c h1, get_setFam, if_pos rfl, hroot], fun r' r1 r2 r3 => ?_⟩
          by_cases er : mc.r = mt.r
          · obtain ⟨cc, cc', e, fr, e1, e2, e3, e4⟩ := r2 er (r3 er)
            subst e1; subst e2
            obtain ⟨q1, q2⟩ := hend c mc h2 (r3 er)
            have hl0 : lenOf h c = c0.length := by unfold lenOf; rw [cellsOf_get hroot]
            cases k3 with
            | cells hn hl hf hcc =>
              refine .cells (by omega) hl hf fun hx i v hv => ?_
              obtain ⟨v', w1, w2⟩ := hcc (hrd c h1 hx) i v hv
              have hi := (List.getElem?_eq_some_iff.1 hv).1
              exact ⟨v', by rw [e4 _ (by omega)]; exact w1, w2.mono hle⟩
          · rw [r1 er]
            cases k3 with
            | cells hn hl hf hcc =>
              refine .cells hn hl hf fun hx i v hv => ?_
              obtain ⟨v', w1, w2⟩ := hcc (hrd c h1 hx) i v hv
              exact ⟨v', w1, w2.mono hle⟩
        · refine ⟨p, by rw [getold c h1, get_setFam, if_neg exf]; exact k1, fun r' r1 r2 r3 => ?_⟩
          by_cases er : mc.r = mt.r
          · obtain ⟨cc, cc', e, fr, e1, e2, e3, e4⟩ := r2 er (r3 er)
            subst e1; subst e2
            obtain ⟨q1, q2⟩ := hend c mc h2 (r3 er)
            obtain ⟨cs1, t1, th1, k⟩ := fam_cells q1
            rw [k] at k1; cases k1
            have hl0 : lenOf h c = cs1.length := by unfold lenOf; rw [cellsOf_get k]
            cases k3 with
            | cells hn hl hf hcc =>
              refine .cells (by omega) hl hf fun hx i v hv => ?_
              obtain ⟨v', w1, w2⟩ := hcc (hrd c h1 hx) i v hv
              have hi := (List.getElem?_eq_some_iff.1 hv).1
              exact ⟨v', by rw [e4 _ (by omega)]; exact w1, w2.mono hle⟩
          · rw [r1 er]; exact k3.mono hle (hrd c h1)
      obtain ⟨q, hq, hrel⟩ := hp
      rcases hcase with hc1 | ⟨hc1, hc2, hc3, hc4⟩
      · refine ⟨q, p', hq, ?_, hrel p' (fun _ => rfl) (fun er => by omega) (fun er => by omega)⟩
        rw [hrest _ hlt (by omega)]; exact k2
      · by_cases er : mc.r = mt.r
        · have erm : mc.r = m.r := er.trans hc1
          obtain ⟨q1, _⟩ := hend c mc h2 erm
          obtain ⟨cs1, t1, th1, k⟩ := fam_cells q1
          rw [k] at k1; cases k1
          cases k3 with
          | cells hn hl hf hcc =>
            rename_i cc e fr
            rw [erm] at k2
            obtain ⟨cc', w1, w2, w3⟩ := hc4 cc e fr k2
            exact ⟨q, _, hq, by rw [erm]; exact w1, hrel _ (fun hx => absurd er hx) (fun _ _ => ⟨cc, cc', e, fr, rfl, rfl, w2, w3⟩) fun _ => erm⟩
        · refine ⟨q, p', hq, ?_, hrel p' (fun _ => rfl) (fun hx => absurd hx er) (fun hx => absurd hx er)⟩
          rw [hrest _ hlt er]; exact k2
  · intro c mc hc hbc
    rcases cas hc with ⟨rfl, rfl⟩ | ⟨h1, h2⟩
    · exact hB
    · exact H.own c mc h2 hbc
  · intro b1 b2 m1 m2 hb1 hb2 hr hne
    rcases cas hb1 with ⟨rfl, rfl⟩ | ⟨h1, h2⟩ <;> rcases cas hb2 with ⟨rfl, rfl⟩ | ⟨k1, k2⟩
    · exact absurd rfl hne
    · have hlt := H.lt k2
      rcases hcase with hc1 | ⟨hc1, hc2, hc3, hc4⟩
      · omega
      · obtain ⟨q1, q2⟩ := hend b2 m2 k2 (hr.symm.trans hc1)
        refine ⟨(f, h.size, thr), famnew, by rw [hfam' b2 k1, q1]; simp, fun he => ?_⟩
        simp at he; omega
    · have hlt := H.lt h2
      rcases hcase with hc1 | ⟨hc1, hc2, hc3, hc4⟩
      · omega
      · obtain ⟨q1, q2⟩ := hend b1 m1 h2 (hr.trans hc1)
        refine ⟨(f, h.size, thr), by rw [hfam' b1 h1, q1]; simp, famnew, fun _ => ?_⟩
        rw [hlen' b1 h1, lennew]; omega
    · obtain ⟨r, q1, q2, q3⟩ := H.alias b1 b2 m1 m2 h2 k2 hr hne
      refine ⟨if r.1 = f then (f, h.size, thr) else r, by rw [hfam' b1 h1, q1]; rfl, by rw [hfam' b2 k1, q2]; rfl, ?_⟩
      rw [hlen' b1 h1, hlen' b2 k1]
      by_cases e1 : r.1 = f
      · rw [if_pos e1]; intro he; simp at he; omega
      · rw [if_neg e1]; exact q3
  · intro c mc r hc hr
    rcases cas hc with ⟨rfl, rfl⟩ | ⟨h1, h2⟩
    · rw [famnew] at hr; cases hr
      obtain ⟨mf, hmf⟩ := ftr.2.2
      exact ⟨Nat.le_refl _, by simp only; omega, mf, hle _ _ hmf⟩
    · rw [hfam' c h1] at hr
      obtain ⟨r0, k1, k2⟩ := Option.map_eq_some_iff.1 hr
      obtain ⟨q1, q2, q3, q4⟩ := H.fam c mc r0 h2 k1
      by_cases e1 : r0.1 = f
      · rw [if_pos e1] at k2; subst k2
        exact ⟨by simp only; omega, by simp only; omega, q3, hle _ _ (by rw [← e1]; exact q4)⟩
      · rw [if_neg e1] at k2; subst k2; exact ⟨q1, q2, q3, hle _ _ q4⟩
  · intro g hg
    obtain ⟨m, q1, q2⟩ := H.glob g hg
    exact ⟨m, hle _ _ q1, q2⟩
  · exact Nat.le_trans H.low hsize
  · have := H.bsz
    have : (extH h f thr new).size = h.size + 1 := by unfold extH; rw [AHeap.size_push, hsz1]
    omega
  · intro x cs1 f1 tip1 thr1 hx
    unfold extH at hx
    rw [AHeap.get_push, hsz1] at hx
    by_cases e : x = h.size
    · rw [if_pos e] at hx; cases hx; omega
    · rw [if_neg e] at hx; exact hwf1 _ _ _ _ _ hx
  · intro r hr hk
    refine hrest r hr fun er => ?_
    rcases hcase with hc1 | ⟨hc1, _⟩
    · omega
    · have := hk b m hb (hc1.symm.trans er.symm); omega
  · intro c mc h0 hc
    rcases cas hc with ⟨rfl, rfl⟩ | ⟨_, h2⟩
    · refine ⟨Nat.le_refl _, H.bsz, ?_⟩
      rcases hcase with hc1 | ⟨hc1, _⟩
      · exact .inl hc1
      · exact .inr ⟨b, m, bb, hb, hc1.symm⟩
    · rw [h0] at h2; cases h2
  · intro c hc h0
    rw [getold c hc, get_setFam, if_neg]
    intro e
    subst e
    obtain ⟨mf, hmf⟩ := ftr.2.2
    rw [h0] at hmf; cases hmf
  · unfold extH; rw [AHeap.size_push, hsz1]; omega

end Go.M
