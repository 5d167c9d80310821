import Derived.Test.YtmookciakjmjiaaMEff2
namespace Go.M
open Go
section
variable {P : Program} {E : Env} {μ : Emb} {f : AF} {a : Act} {base B : Nat} {h : AHeap} {w : World}

/-- What an operation that may turn memory comes to, in both. -/
def EffSim (P : Program) (E : Env) (base B : Nat) (μ : Emb) (h : AHeap) (w : World) (s : Sem Value) (v : Value) (h' : AHeap) : Prop :=
  ∃ μ' v' w', s.run P w = .ok v' w' ∧ VRel μ' v v' ∧ Step E base B μ h w μ' h' w'

/-- A new row that holds what is known, and more. -/
theorem fresh_sim (H : HRel E base B μ h w) {cs : List Value} {cs' : List Value} (hr : VRels μ cs cs') {rest : Array Value} {elem : TypeId} {size len newCap : Nat} (hl : len ≤ newCap) (hlen : cs.length = len * size) (hrest : rest.size = (newCap - len) * size) (d : Nat) :
    ∃ μ', VRel μ' (fresh h cs size len).1 (.slice (some ⟨w.heap.size, 0, none⟩) len newCap) ∧
      Step E base B μ h w μ' (fresh h cs size len).2 { w with heap := w.heap.push (.cells (cs'.toArray ++ rest) elem (0, 0)), drawn := d } := by
  have hs : (cs'.toArray ++ rest).size = newCap * size := by
    have := hr.length
    simp only [Array.size_append, List.size_toArray, hrest, ← this, hlen]
    rw [← Nat.add_mul]; congr 1; omega
  have hd := Step.drawn H d
  have hal := Alc.mk' { w with drawn := d } (.cells (cs'.toArray ++ rest) elem (0, 0))
  have st := Step.alloc hd.rel hal (newCap * size) (o := .cells cs h.size h.size 0) (fun cs f tip thr hh => by cases hh; exact ⟨rfl, rfl⟩) (by
    have := cells_obj (base := base) (b := h.size) (r := w.heap.size) hr elem (upd μ h.size ⟨w.heap.size, 0, newCap * size⟩) (h.push (.cells cs h.size h.size 0)) (upd_le H.fresh) h.size h.size 0 rest (cs'.toArray ++ rest) (by simp)
    rw [hs] at this
    exact this)
  refine ⟨_, ?_, hd.trans st⟩
  have := VRel.slice (o := 0) (z := size) (len := len) (cap := len + 1) (cap' := newCap) (upd_self μ h.size ⟨w.heap.size, 0, newCap * size⟩) (by omega) hl (fun h => by omega) (by simp only; omega)
  simpa [fresh] using this

theorem readCells_nil {b o : Nat} {l : List Value} (hr : M.readCells h b o 0 = some l) : l = [] := by
  unfold M.readCells at hr
  simp only [Option.bind_eq_some_iff, takeN_some] at hr
  obtain ⟨cs, _, _, rfl⟩ := hr
  simp

set_option maxHeartbeats 1000000 in
theorem append_sim (hE : EnvOk P E) (H : HRel E base B μ h w) {st xt ty : TypeId} {s x s' x' v : Value} {h' : AHeap} (ha : aappend E base h st xt s x = some (v, h')) (hs : VRel μ s s') (hx : VRel μ x x') :
    EffSim P E base B μ h w (Builtin.append_ #[st, xt] ty #[s', x']) v h' := by
  unfold aappend at ha
  simp only [Option.bind_eq_some_iff] at ha
  obtain ⟨sd, hst, xd, hxt, ha⟩ := ha
  split at ha
  · rename_i elem
    simp only [Option.bind_eq_some_iff, grd_some, Bool.and_eq_true, Bool.not_eq_true', beq_iff] at ha
    obtain ⟨size, hsz, bytes, hby, z0, hz, n, hn, ⟨hni, hzs⟩, ha⟩ := ha
    have hlx := lenV_rel (P := P) hn hx
    have hxz : ∀ d, (Builtin.firstCells size 0 x').run P { w with drawn := d } = .ok ([] : List Value).toArray { w with drawn := d } := by
      intro d
      unfold lenV at hn
      split at hn
      · cases hx with
        | lit hh =>
          unfold plain1 at hh
          split at hh <;> simp_all [Builtin.firstCells]
        | slice => simp [Builtin.firstCells, loadCells, loadCellsFrom]
        | slice0 => simp [Builtin.firstCells, loadCells, loadCellsFrom]
      · cases hx with
        | lit hh => simp [Builtin.firstCells]
      · cases hn
    split at ha
    · -- a nil slice
      have es : s' = .slice none 0 0 := by cases hs; rfl
      subst es
      have rap := fun new hnew => run_append (w := w) (ty := ty) (base' := none) (cap := 0) (len := 0) (old := []) (new := new) hE hst hxt hni hsz hby hz hzs hlx hnew
      rw [bif_eq] at ha
      split at ha
      · rename_i h0
        rw [beq_iff] at h0; subst h0
        simp only [Option.some.injEq, Prod.mk.injEq] at ha
        obtain ⟨rfl, rfl⟩ := ha
        exact ⟨μ, _, w, (rap [] hxz).1 (Nat.le_refl _) w rfl, .lit rfl, .refl H⟩
      · rename_i h0
        rw [beq_iff] at h0
        simp only [grd_some, ble_iff, beq_iff, Option.bind_eq_some_iff, Option.some.injEq] at ha
        obtain ⟨hbd, new, hnew, hl, ha⟩ := ha
        obtain ⟨new', r1, r2⟩ := firstV_rel (P := P) H hnew hx hn (Nat.le_refl _)
        obtain ⟨newCap, rest, k1, k2, k3⟩ := (rap new' r2).2 (by omega) (by simpa using hbd) (fun d => by simp [Builtin.firstCells])
        obtain ⟨μ', q1, q2⟩ := fresh_sim (elem := elem) H r1 (rest := rest) (by simpa using k1) hl (by simpa using k2) (w.drawn + 1)
        simp only [Nat.zero_add] at k3 ha
        rw [ha] at q1 q2
        refine ⟨μ', _, _, k3, q1, ?_⟩
        simpa using q2
    · rename_i b o z len cap
      rw [bif_eq] at ha
      split at ha
      · -- nothing is appended
        rename_i h0
        rw [beq_iff] at h0; subst h0
        simp only [Option.some.injEq, Prod.mk.injEq] at ha
        obtain ⟨rfl, rfl⟩ := ha
        have fin : ∀ (a' : Addr) (cap' : Nat), s' = .slice (some a') len cap' → len ≤ cap' → EffSim P E base B μ h w (Builtin.append_ #[st, xt] ty #[s', x']) (.slice (some ⟨b, o, some z⟩) len cap) h := by
          intro a' cap' e hlc
          subst e
          have ra := (run_append (w := w) (ty := ty) (base' := some a') (cap := cap') (len := len) (old := []) hE hst hxt hni hsz hby hz hzs hlx hxz).1 (by omega) w (by simp [stAt, storeCells])
          exact ⟨μ, _, w, ra, hs, .refl H⟩
        generalize hv : Value.slice (some ⟨b, o, some z⟩) len cap = v at hs
        cases hs with
        | slice hb k1 k2 k3 k4 => cases hv; exact fin _ _ rfl k2
        | slice0 => cases hv; exact fin _ _ rfl (Nat.le_refl _)
        | _ => cases hv <;> simp [plain1] at *
      · rename_i h0
        rw [beq_iff] at h0
        simp only [grd_some, Bool.and_eq_true, ble_iff, beq_iff, Option.bind_eq_some_iff] at ha
        obtain ⟨⟨hzz, hbd⟩, old, hold, new, hnew, hl, ha⟩ := ha
        subst hzz
        obtain ⟨new', r1, r2⟩ := firstV_rel (P := P) H hnew hx hn (Nat.le_refl _)
        -- the elder cells
        have hold' : ∃ old', VRels μ old old' ∧ (∀ d, (Builtin.firstCells z len s').run P { w with drawn := d } = .ok old'.toArray { w with drawn := d }) :=
          firstV_rel (P := P) H (x := .slice (some ⟨b, o, some z⟩) len cap) (x' := s') hold hs rfl (Nat.le_refl _)
        obtain ⟨old', o1, o2⟩ := hold'
        have holdl : old.length = len * z := by
          unfold M.readCells at hold
          simp only [Option.bind_eq_some_iff, takeN_some] at hold
          obtain ⟨cs, _, h3, rfl⟩ := hold
          simp at h3 ⊢; omega
        have hboth : VRels μ (old ++ new) (old' ++ new') := o1.append r1
        have hlen2 : (old ++ new).length = (len + n) * z := by rw [List.length_append, holdl, hl, Nat.add_mul]
        have grows : ∀ (a' : Addr) (cap' : Nat), s' = .slice (some a') len cap' → cap' < len + n → ∃ newCap rest, len + n ≤ newCap ∧ rest.size = (newCap - (len + n)) * z ∧
            (Builtin.append_ #[st, xt] ty #[s', x']).run P w = .ok (.slice (some ⟨w.heap.size, 0, none⟩) (len + n) newCap) { w with heap := w.heap.push (.cells ((old' ++ new').toArray ++ rest) elem (0, 0)), drawn := w.drawn + 1 } := by
          intro a' cap' e hc
          subst e
          obtain ⟨newCap, rest, q1, q2, q3⟩ := (run_append (w := w) (ty := ty) (base' := some a') (cap := cap') (len := len) (old := old') hE hst hxt hni hsz hby hz hzs hlx r2).2 hc hbd o2
          refine ⟨newCap, rest, q1, q2, ?_⟩
          rw [q3]; simp
        rw [bif_eq] at ha
        split at ha
        · -- no room
          rename_i hcl
          rw [beq_iff] at hcl; subst hcl
          simp only [Option.some.injEq] at ha
          have fin : ∀ (a' : Addr) (cap' : Nat), s' = .slice (some a') cap cap' → cap' < cap + n → EffSim P E base B μ h w (Builtin.append_ #[st, xt] ty #[s', x']) v h' := by
            intro a' cap' e hc
            obtain ⟨newCap, rest, q1, q2, q3⟩ := grows a' cap' e hc
            obtain ⟨μ', p1, p2⟩ := fresh_sim (elem := elem) H hboth (rest := rest) q1 hlen2 q2 (w.drawn + 1)
            rw [ha] at p1 p2
            exact ⟨μ', _, _, q3, p1, p2⟩
          generalize hv : Value.slice (some ⟨b, o, some z⟩) cap cap = sv at hs
          cases hs with
          | slice hb k1 k2 k3 k4 => cases hv; exact fin _ _ rfl (by have := k3 rfl; omega)
          | slice0 => cases hv; exact fin _ _ rfl (by omega)
          | _ => cases hv <;> simp [plain1] at *
        · -- the last block of a family goes on
          rename_i hcl
          rw [beq_iff] at hcl
          simp only [Option.bind_eq_some_iff, grd_some, Bool.and_eq_true, ble_iff, beq_iff, Option.some.injEq, Prod.mk.injEq] at ha
          obtain ⟨cs, hcs, ⟨f, tip, thr⟩, hfam, ⟨⟨⟨hbf, htip⟩, htail⟩, hone⟩, rfl, rfl⟩ := ha
          simp only at hbf htip
          subst htip
          have hmk : ∀ mt : MT, mt.s + 0 + (len + n) * z ≤ mt.n → ∀ capx, len + n ≤ capx → mt.s + 0 + capx * z ≤ mt.n →
              VRel (upd μ h.size mt) (.slice (some ⟨h.size, 0, some z⟩) (len + n) (len + n + 1)) (.slice (some ⟨mt.r, mt.s + 0, none⟩) (len + n) capx) := by
            intro mt _ capx hc hfit
            exact .slice (upd_self μ h.size mt) (by omega) hc (fun h => by omega) hfit
          have realloc : ∀ (a' : Addr) (cap' : Nat) (m : MT), μ tip = some m → s' = .slice (some a') len cap' → cap' < len + n → EffSim P E base B μ h w (Builtin.append_ #[st, xt] ty #[s', x']) (.slice (some ⟨h.size, 0, some z⟩) (len + n) (len + n + 1)) ((h.setFam f h.size thr).push (.cells (old ++ new) f 0 0)) := by
            intro a' cap' m hb e hc
            obtain ⟨newCap, rest, q1, q2, q3⟩ := grows a' cap' e hc
            have hsz2 : ((old' ++ new').toArray ++ rest).size = newCap * z := by
              have := hboth.length
              simp only [Array.size_append, List.size_toArray, q2, ← this, hlen2]
              rw [← Nat.add_mul]; congr 1; omega
            let mt : MT := ⟨w.heap.size, 0, newCap * z⟩
            have hle : newCap * z ≥ (len + n) * z := Nat.mul_le_mul_right _ q1
            have st := Step.ext (w' := { w with heap := w.heap.push (.cells ((old' ++ new').toArray ++ rest) elem (0, 0)), drawn := w.drawn + 1 }) H hb hfam hbf (cs := cs) (new := old ++ new) mt (by simp) rfl rfl rfl
              ⟨(old' ++ new').toArray ++ rest, elem, by simp [mt], hsz2, by simp only [mt]; omega, fun i v hv => by
                obtain ⟨v', z1, z2⟩ := hboth.get hv
                refine ⟨v', ?_, z2⟩
                have hi := (List.getElem?_eq_some_iff.1 z1).1
                simp only [mt, Nat.zero_add]
                rw [← Array.getElem?_toList, Array.toList_append, List.getElem?_append_left (by simpa using hi)]
                exact z1⟩ hcs
              (fun r hr hne => by simp only [mt] at hne; simp only [Array.getElem?_push]; rw [if_neg (by omega)]) H.low (.inl (Nat.le_refl _))
            refine ⟨_, _, _, q3, ?_, st⟩
            have := hmk mt (by simp only [mt]; omega) newCap q1 (by simp only [mt]; omega)
            simpa [mt] using this
          generalize hv : Value.slice (some ⟨tip, o, some z⟩) len cap = sv at hs
          cases hs with
          | slice hb k1 k2 k3 k4 =>
            rename_i b1 o1' z1 len1 cap1 cap' m
            cases hv
            by_cases hfit : len + n ≤ cap'
            · -- in place
              obtain ⟨c, e, fr, w1, w2, w3, w4, w5⟩ : ∃ c e fr, w.heap[m.r]? = some (.cells c e fr) ∧ c.size = m.n ∧ m.s + cs.length ≤ m.n ∧ (base ≤ tip → fr = (0, 0)) ∧ ∀ (i : Nat) v, cs[i]? = some v → ∃ v', c[m.s + i]? = some v' ∧ VRel μ v v' := by
                unfold M.readCells at hold
                simp only [Option.bind_eq_some_iff] at hold
                obtain ⟨cs2, hrd, _⟩ := hold
                obtain ⟨_, _, _, h9⟩ := rd_some hrd
                rw [hcs] at h9; cases h9
                exact H.read hb hrd
              have hft := H.fam tip m _ hb hfam
              simp only at hft
              have hbt : base ≤ tip := by omega
              have := w4 hbt; subst this
              have hone' : new'.all oneC = true := by
                rw [List.all_eq_true] at hone ⊢
                intro v' hv'
                obtain ⟨i, hi, rfl⟩ := List.mem_iff_getElem.1 hv'
                have hlx' := r1.length
                have h0 : new[i]? = some (new[i]'(by omega)) := by simp
                obtain ⟨u, q1, q2⟩ := r1.get h0
                have : new'[i]? = some new'[i] := by simp [hi]
                rw [this] at q1; cases q1
                exact q2.oneC (hone _ (List.getElem_mem _))
              have hnl : new'.length = n * z := by rw [← r1.length]; exact hl
              have hmul : (len + n) * z = len * z + n * z := Nat.add_mul _ _ _
              have hfz : (len + n) * z ≤ cap' * z := Nat.mul_le_mul_right _ hfit
              obtain ⟨w', c', q1, q2, q3, q4⟩ := run_storeCells (P := P) (off := m.s + o + len * z) new' 0 w c w1 hone' (by omega)
              have ra := (run_append (w := w) (ty := ty) (base' := some ⟨m.r, m.s + o, none⟩) (cap := cap') (len := len) (old := old') hE hst hxt hni hsz hby hz hzs hlx r2).1 hfit w' (by simp only [stAt, addr_add]; exact q1)
              let mt : MT := ⟨m.r, m.s + o, m.n⟩
              have hread : ∀ (i : Nat) v, old[i]? = some v → ∃ v', c[m.s + o + i]? = some v' ∧ VRel μ v v' := by
                intro i v hv
                unfold M.readCells at hold
                simp only [Option.bind_eq_some_iff, takeN_some] at hold
                obtain ⟨cs2, hrd, h3, rfl⟩ := hold
                obtain ⟨_, _, _, h9⟩ := rd_some hrd
                rw [hcs] at h9; cases h9
                have hi := (List.getElem?_eq_some_iff.1 hv).1
                simp at hi
                rw [List.getElem?_take, if_pos (by omega), List.getElem?_drop] at hv
                obtain ⟨v', z1, z2⟩ := w5 _ v hv
                exact ⟨v', by rw [Nat.add_assoc]; exact z1, z2⟩
              have st := Step.ext (w' := w') H hb hfam hbf (cs := cs) (new := old ++ new) mt (by rw [q2.size]; exact Nat.le_refl _) q2.tape q2.os q2.output
                ⟨c', e, by rw [q2.get, if_pos rfl], by rw [q3, w2], by simp only [mt]; omega, fun i v hv => by
                  simp only [mt]
                  rw [q4]
                  by_cases hi : i < old.length
                  · rw [List.getElem?_append_left hi] at hv
                    obtain ⟨v', z1, z2⟩ := hread i v hv
                    refine ⟨v', ?_, z2⟩
                    rw [if_neg (by omega)]; exact z1
                  · rw [List.getElem?_append_right (by omega)] at hv
                    have hi2 := (List.getElem?_eq_some_iff.1 hv).1
                    obtain ⟨v', z1, z2⟩ := r1.get hv
                    refine ⟨v', ?_, z2⟩
                    rw [if_pos (by omega), ← z1]; congr 1; omega⟩ hcs
                (fun r hr hne => by rw [q2.get, if_neg hne]) (H.own tip m hb hbt)
                (.inr ⟨rfl, rfl, by simp only [mt]; omega, fun c2 e2 fr2 hh => by
                  rw [w1] at hh; cases hh
                  exact ⟨c', by rw [q2.get, if_pos rfl], q3, fun i hi => by rw [q4, if_neg (by omega)]⟩⟩)
              refine ⟨_, _, w', ra, ?_, st⟩
              have := hmk mt (by simp only [mt]; omega) cap' hfit (by simp only [mt]; omega)
              simpa [mt] using this
            · exact realloc _ _ m hb rfl (by omega)
          | slice0 hb => cases hv; exact realloc _ _ _ hb rfl (by omega)
          | _ => cases hv <;> simp [plain1] at *
    · cases ha
  · cases ha

end
end Go.M
