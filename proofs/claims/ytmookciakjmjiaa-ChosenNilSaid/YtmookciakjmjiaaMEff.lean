import Derived.Test.YtmookciakjmjiaaMRead
namespace Go.M
open Go

theorem oneC_oneCell {v : Value} (h : oneC v = true) : v.oneCell' = true := by cases v <;> simp [oneC] at h <;> rfl

theorem run_storeCells {P : Program} {r off : Nat} {e : TypeId} : ∀ (vs : List Value) (i : Nat) (w : World) (c : Array Value), w.heap[r]? = some (.cells c e (0, 0)) → vs.all oneC = true → off + i + vs.length ≤ c.size →
    ∃ w' c', (storeCells ⟨r, off, none⟩ vs i).run P w = .ok () w' ∧ Upd w r (.cells c' e (0, 0)) w' ∧ c'.size = c.size ∧ ∀ k, c'[k]? = if off + i ≤ k ∧ k < off + i + vs.length then vs[k - (off + i)]? else c[k]?
  | [], i, w, c, hw, _, _ => by
    refine ⟨w, c, by simp [storeCells], ⟨rfl, rfl, rfl, rfl, fun k => ?_⟩, rfl, fun k => ?_⟩
    · by_cases e : k = r
      · subst e; rw [if_pos rfl, hw]
      · rw [if_neg e]
    · rw [if_neg (by simp)]
  | v :: vs, i, w, c, hw, hone, hb => by
    simp only [List.all_cons, Bool.and_eq_true] at hone
    simp only [List.length_cons] at hb
    have hcell : w.cell? ⟨r, off + i, none⟩ = some (c[off + i]'(by omega)) := by
      simp only [World.cell?, hw]
      simp
    have hfr : w.frozen? ⟨r, off + i, none⟩ = false := by
      simp only [World.frozen?, hw]; simp
    let w1 := w.setCell ⟨r, off + i, none⟩ v
    have hget : ∀ k, w1.heap[k]? = if k = r then some (.cells (c.setIfInBounds (off + i) v) e (0, 0)) else w.heap[k]? := by
      intro k
      simp only [w1, World.setCell, Array.getElem?_modify]
      by_cases ek : k = r
      · subst ek; rw [if_pos rfl, if_pos rfl, hw]; simp
      · rw [if_neg (fun h => ek h.symm), if_neg ek]
    obtain ⟨w', c', q1, q2, q3, q4⟩ := run_storeCells (P := P) (off := off) vs (i + 1) w1 (c.setIfInBounds (off + i) v) (by rw [hget, if_pos rfl]) hone.2 (by simp; omega)
    refine ⟨w', c', ?_, ⟨q2.tape, q2.os, q2.output, by rw [q2.size]; simp [w1, World.setCell], fun k => ?_⟩, by rw [q3]; simp, fun k => ?_⟩
    · simp only [storeCells, Sem.run_bind, addr_add, run_store P w _ v .plain (oneC_oneCell hone.1), hcell, hfr]
      simp only [Bool.false_eq_true, if_false, Result.andThen_ok]
      exact q1
    · rw [q2.get]
      by_cases ek : k = r
      · rw [if_pos ek, if_pos ek]
      · rw [if_neg ek, if_neg ek, hget, if_neg ek]
    · rw [q4 k]
      by_cases h1 : off + (i + 1) ≤ k ∧ k < off + (i + 1) + vs.length
      · rw [if_pos h1, if_pos (by simp; omega)]
        have : k - (off + i) = (k - (off + (i + 1))) + 1 := by omega
        rw [this, List.getElem?_cons_succ]
      · rw [if_neg h1]
        by_cases h2 : k = off + i
        · subst h2
          rw [if_pos (by simp), Array.getElem?_setIfInBounds_self_of_lt (show off + i < c.size by omega)]
          simp
        · rw [if_neg (by simp; omega), Array.getElem?_setIfInBounds_ne (by omega)]

theorem growBy_le (n : Nat) : ∀ (rounds c : Nat), 256 ≤ c → Builtin.growBy n rounds c ≤ c * 2 ^ rounds
  | 0, c, _ => by simp [Builtin.growBy]
  | k + 1, c, h => by
    simp only [Builtin.growBy]
    split
    · exact Nat.le_mul_of_pos_right _ (Nat.pow_pos (by omega))
    · have h1 : c + (c + 768) / 4 ≤ c * 2 := by omega
      have := growBy_le n k (c + (c + 768) / 4) (by omega)
      calc _ ≤ (c + (c + 768) / 4) * 2 ^ k := this
        _ ≤ (c * 2) * 2 ^ k := Nat.mul_le_mul_right _ h1
        _ = c * 2 ^ (k + 1) := by rw [Nat.pow_succ, Nat.mul_assoc, Nat.mul_comm 2]

theorem nextslicecap_le {n c : Nat} (h : c < n) : Builtin.nextslicecap n c ≤ 16 * n := by
  unfold Builtin.nextslicecap
  split
  · omega
  · split
    · omega
    · have := growBy_le n 4 c (by omega)
      omega

section
variable {P : Program} {E : Env} {μ : Emb} {f : AF} {a : Act} {base B : Nat} {h : AHeap} {w : World}

theorem lenV_rel {x x' : Value} {n : Nat} (h : lenV x = some n) (hr : VRel μ x x') : Gives P (Builtin.lenOf x') n := by
  unfold lenV at h
  split at h
  · simp only [Option.some.injEq] at h; subst h
    intro w
    cases hr <;> rfl
  · simp only [Option.some.injEq] at h; subst h
    cases hr; intro w; rfl
  · cases h

/-- What is appended, or copied. -/
theorem firstV_rel (H : HRel E base B μ h w) {size n L : Nat} {x x' : Value} {l : List Value} (h1 : firstV h size n x = some l) (hr : VRel μ x x') (hL : lenV x = some L) (hn : n ≤ L) :
    ∃ l', VRels μ l l' ∧ ∀ d, (Builtin.firstCells size n x').run P { w with drawn := d } = .ok l'.toArray { w with drawn := d } := by
  unfold firstV at h1
  split at h1
  · rename_i b o z len cap
    cases hr with
    | lit hh => simp [plain1] at hh
    | slice hb k1 k2 k3 k4 =>
      rename_i cap' m
      obtain ⟨l', r1, r2⟩ := H.readL hb h1
      refine ⟨l', r1, fun d => ?_⟩
      simp only [Builtin.firstCells, loadCells]
      have hl : l'.length = n * size := by rw [← r1.length]; exact (H.readCells hb h1).1
      rw [run_loadCells (n * size) 0 #[] l' hl (fun k v hv => by rw [addr_add]; have := r2 k v hv; simpa [World.cell?] using this)]
      simp
    | slice0 =>
      simp only [lenV, Option.some.injEq] at hL
      have hn0 : n = 0 := by omega
      subst hn0
      unfold M.readCells at h1
      simp only [Option.bind_eq_some_iff, takeN_some] at h1
      obtain ⟨cs, _, _, rfl⟩ := h1
      refine ⟨[], by simpa using VRels.nil, fun d => ?_⟩
      simp [Builtin.firstCells, loadCells, loadCellsFrom]
  · rename_i len cap
    simp only [Option.some.injEq] at h1; subst h1
    cases hr with
    | lit hh => exact ⟨[], .nil, fun d => by simp [Builtin.firstCells]⟩
  · rename_i s
    simp only [Option.some.injEq] at h1; subst h1
    cases hr.inv_scalar rfl
    refine ⟨_, VRels.refl_plain μ (by
      rw [List.all_eq_true]
      intro v hv
      obtain ⟨u, _, rfl⟩ := List.mem_map.1 hv
      rfl), fun d => ?_⟩
    simp only [Builtin.firstCells, Sem.run_pure]
    congr 1
    apply Array.ext'
    simp [List.extract_eq_take_drop]
  · cases h1

/-- A store into a canonical block, in both. -/
theorem store_sim (H : HRel E base B μ h w) {b o : Nat} {m : MT} (hb : μ b = some m) {cs cs' vs vs' : List Value} {h' : AHeap} (hrd : h.rd b = some cs) (hset : setN cs o vs = some cs') (hwr : h.wr base b cs' = some h')
    (hr : VRels μ vs vs') (hone : vs.all oneC = true) : ∃ w', (storeCells ⟨m.r, m.s + o, none⟩ vs').run P w = .ok () w' ∧ Step E base B μ h w μ h' w' := by
  obtain ⟨c, e, fr, k1, k2, k3, k4, k5⟩ := H.read hb hrd
  obtain ⟨f, thr, hbase, _, _, _⟩ := wr_some hwr
  have := k4 hbase; subst this
  obtain ⟨s1, s2, s3⟩ := setN_some hset
  have hl := hr.length
  have hone' : vs'.all oneC = true := by
    rw [List.all_eq_true] at hone ⊢
    intro v' hv'
    obtain ⟨i, hi, rfl⟩ := List.mem_iff_getElem.1 hv'
    have h0 : vs[i]? = some (vs[i]'(by omega)) := by simp
    obtain ⟨u, q1, q2⟩ := hr.get h0
    have : vs'[i]? = some vs'[i] := by simp [hi]
    rw [this] at q1; cases q1
    exact q2.oneC (hone _ (List.getElem_mem _))
  obtain ⟨w', c', q1, q2, q3, q4⟩ := run_storeCells (P := P) vs' 0 w c k1 hone' (off := m.s + o) (by omega)
  obtain ⟨r, _, _, hcs⟩ := rd_some hrd
  refine ⟨w', q1, Step.wr H hb hcs s2 hwr k1 q3 q2 fun i v hv => ?_⟩
  rw [s3 i] at hv
  rw [q4 (m.s + i)]
  by_cases hi : o ≤ i ∧ i < o + vs.length
  · rw [if_pos hi] at hv
    rw [if_pos (by omega)]
    obtain ⟨v', z1, z2⟩ := hr.get hv
    exact ⟨v', by rw [← z1]; congr 1; omega, z2⟩
  · rw [if_neg hi] at hv
    rw [if_neg (by omega)]
    exact k5 i v hv

end
end Go.M
