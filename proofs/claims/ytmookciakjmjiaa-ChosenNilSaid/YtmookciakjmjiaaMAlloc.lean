import Derived.Test.YtmookciakjmjiaaMOps
namespace Go.M
open Go

theorem repeatL_length (z : List Value) : ∀ n, (repeatL z n).length = n * z.length
  | 0 => by simp [repeatL]
  | n + 1 => by simp [repeatL, repeatL_length z n, Nat.add_mul]; omega
theorem repeatL_get (z : List Value) : ∀ (n i : Nat), i < n * z.length → (repeatL z n)[i]? = z[i % z.length]?
  | 0, i, h => by simp at h
  | n + 1, i, h => by
    simp only [repeatL]
    by_cases hi : i < z.length
    · rw [List.getElem?_append_left hi, Nat.mod_eq_of_lt hi]
    · rw [List.getElem?_append_right (by omega), repeatL_get z n (i - z.length) (by rw [Nat.add_mul] at h; omega)]
      congr 1
      rw [← Nat.mod_eq_sub_mod (by omega)]

theorem VRels.repeatL {μ : Emb} {z : List Value} (h : VRels μ z z) : ∀ n, VRels μ (repeatL z n) (repeatL z n)
  | 0 => .nil
  | n + 1 => h.append (h.repeatL n)

/-- The zero cells that the model lays. -/
theorem zeros_eq (z : Array Value) (n : Nat) (hz : 0 < z.size) : ((Array.range (n * z.size)).map (z[· % z.size]!)).toList = repeatL z.toList n := by
  apply List.ext_getElem?
  intro i
  by_cases hi : i < n * z.size
  · rw [repeatL_get z.toList n i (by simpa using hi)]
    have hm : i % z.size < z.size := Nat.mod_lt _ hz
    simp [hi, hm]
  · have h1 : (repeatL z.toList n)[i]? = none := by
      rw [List.getElem?_eq_none_iff, repeatL_length]; simpa using hi
    rw [h1]
    simp
    omega

section
variable {P : Program} {E : Env} {μ : Emb} {f : AF} {a : Act}

/-- What is laid for an operation that makes a block. -/
structure AllocSim (P : Program) (μ : Emb) (s : Sem Next) (md : Made) (hd : Hold) (o' : Obj) (n : Nat) (hv : Nat → Value) : Prop where
  run : ∀ w : World, s.run P w = .ok (.value (hv w.heap.size)) { w with heap := w.heap.push o' }
  val : ∀ (μ' : Emb) b r, μ' b = some ⟨r, 0, n⟩ → VRel μ' (hd.val b) (hv r)
  obj : ∀ (μ' : Emb) h base b r, μ.le μ' → ORel μ' h base b ⟨r, 0, n⟩ (md.obj b) o'

theorem cells_obj {cs cs' : List Value} (hr : VRels μ cs cs') (e : TypeId) (μ' : Emb) (h : AHeap) (base b r : Nat) (hle : μ.le μ') (f tip thr : Nat) (rest : Array Value) (c : Array Value) (hc : c.toList = cs' ++ rest.toList) :
    ORel μ' h base b ⟨r, 0, c.size⟩ (.cells cs f tip thr) (.cells c e (0, 0)) := by
  have hl := hr.length
  have hs : c.size = cs'.length + rest.size := by
    have := congrArg List.length hc; simpa using this
  refine .cells rfl (by simp only; omega) (fun _ => rfl) fun _ i v hv => ?_
  obtain ⟨v', h1, h2⟩ := hr.get hv
  refine ⟨v', ?_, h2.mono hle⟩
  have hi := (List.getElem?_eq_some_iff.1 h1).1
  rw [← Array.getElem?_toList, hc, Nat.zero_add, List.getElem?_append_left hi]; exact h1

theorem aalloc_sim (hE : EnvOk P E) (hg : GlobOk E μ) (hf : FRel μ f a.tmps) {o : Oper} {md : Made} {hd : Hold} (h : aalloc E f o = some (md, hd)) :
    ∃ o' n hv, AllocSim P μ (execOp a.eval o) md hd o' n hv := by
  obtain ⟨dst, op, type, pos, after, guard⟩ := o
  cases op
  case alloc t =>
    simp only [aalloc, Option.bind_eq_some_iff, Option.some.injEq, Prod.mk.injEq] at h
    obtain ⟨z, hz, rfl, rfl⟩ := h
    have hzr := (VRel.refl_plain μ (hE.zero t z hz).2).cells
    refine ⟨.cells z.cells t (0, 0), z.cells.size, fun r => .pointer (some ⟨r, 0, none⟩), fun w => ?_, fun μ' b r hb => ?_, fun μ' h base b r hle => ?_⟩
    · simp [execOp, Instr.alloc, g_zero hE hz w, newVar, newRow]
    · have := VRel.ptr (o := 0) hb; simpa [Hold.val] using this
    · exact cells_obj hzr t μ' h base b r hle _ _ _ #[] z.cells (by simp)
  case box t x =>
    simp only [aalloc, Option.bind_eq_some_iff, Option.some.injEq, Prod.mk.injEq] at h
    obtain ⟨v, hv, rfl, rfl⟩ := h
    have hr := (ev_rel hg hf hv).cells
    refine ⟨.cells (a.eval x).cells t (0, 0), (a.eval x).cells.size, fun r => .pointer (some ⟨r, 0, none⟩), fun w => ?_, fun μ' b r hb => ?_, fun μ' h base b r hle => ?_⟩
    · simp [execOp, Instr.box, newVar, newRow]
    · have := VRel.ptr (o := 0) hb; simpa [Hold.val] using this
    · exact cells_obj hr t μ' h base b r hle _ _ _ #[] _ (by simp)
  case buildSlice t len parts =>
    simp only [aalloc, Option.bind_eq_some_iff] at h
    obtain ⟨d, hd1, ps, h1, h2⟩ := h
    split at h2
    · rename_i elem
      simp only [Option.bind_eq_some_iff, grd_some, Bool.and_eq_true, ble_iff, beq_iff, Option.some.injEq, Prod.mk.injEq] at h2
      obtain ⟨n, hn, z, hz, ⟨hk, hzs⟩, cs, h3, rfl, rfl⟩ := h2
      have hp := evParts_rel hg hf h1
      have hzr := (VRel.refl_plain μ (hE.zero elem z hz).2).cells
      let cells0 : Array Value := (repeatL z.cells.toList len).toArray
      obtain ⟨cs', q1, q2⟩ := fill_sim (μ := μ) (place' := fun i => some (i * n, n)) (fun _ _ h => h) (cells' := cells0) (ps' := parts.toList.map fun p => (p.1, a.eval p.2)) h3 (by simpa [cells0] using hzr.repeatL len) hp.1 hp.2
      have hsz : cs.length = len * n := by
        have : ∀ {ps : List (Nat × Value)} {c r : List Value}, fillA (fun i => some (i * n, n)) c ps = some r → r.length = c.length := by
          intro ps
          induction ps with
          | nil => intro c r h; simp only [fillA, Option.some.injEq] at h; subst h; rfl
          | cons p ps ih =>
            intro c r h
            simp only [fillA, Option.bind_eq_some_iff, grd_some] at h
            obtain ⟨q, _, _, c1, h4, h5⟩ := h
            rw [ih h5, (setN_some h4).2.1]
        rw [this h3, repeatL_length]; simp [hzs]
      refine ⟨.cells cs' elem (0, 0), cs'.size, fun r => .slice (some ⟨r, 0, none⟩) len len, fun w => ?_, fun μ' b r hb => ?_, fun μ' h base b r hle => ?_⟩
      · have e : (parts.map fun (i, x) => (i, a.eval x)) = (parts.toList.map fun p => (p.1, a.eval p.2)).toArray := by
          apply Array.ext'; simp
        have key0 : len * n = 0 → ∀ g : Nat → Value, (Array.range (len * n)).map g = cells0 := by
          intro h0 g
          apply Array.ext'
          have : (repeatL z.cells.toList len) = [] := by
            apply List.eq_nil_of_length_eq_zero; rw [repeatL_length]; simpa [hzs] using h0
          simp [h0, cells0, this]
        have key1 : len * n ≠ 0 → (Array.range (len * n)).map (z.cells[· % z.cells.size]!) = cells0 := by
          intro h0
          apply Array.ext'
          have hpos : 0 < z.cells.size := by
            rw [hzs]; exact Nat.pos_of_ne_zero fun e => h0 (by rw [e]; simp)
          have := zeros_eq z.cells len hpos
          rw [hzs] at this
          simp only [cells0]
          rw [← this, hzs]
        unfold execOp
        simp only [Sem.run_bind, Instr.buildSlice, g_under hE hd1 w, Result.andThen_ok, g_size hE hn w]
        rw [if_neg (by omega)]
        by_cases h0 : len * n = 0
        · rw [if_pos h0]
          simp only [Sem.run_bind, Sem.run_pure, Result.andThen_ok]
          rw [key0 h0, e, q1]
          rfl
        · rw [if_neg h0]
          simp only [Sem.run_bind, Sem.run_pure, Result.andThen_ok, g_zero hE hz w]
          rw [key1 h0, e, q1]
          rfl
      · have := VRel.slice (o := 0) (z := n) hb (Nat.le_refl len) (Nat.le_refl len) (fun h => h) (by simp only; have := q2.length; simp at this; omega)
        simpa [Hold.val] using this
      · exact cells_obj q2 elem μ' h base b r hle _ _ _ #[] cs' (by simp)
    · cases h2
  case makeMap t r =>
    cases r with
    | none =>
      simp only [aalloc, Option.some.injEq, Prod.mk.injEq] at h
      obtain ⟨rfl, rfl⟩ := h
      refine ⟨.map #[] 0, 0, fun r => .map (some r), fun w => ?_, fun μ' b r hb => ?_, fun μ' h base b r hle => ?_⟩
      · simp [execOp, Instr.makeMap]
      · exact .map hb
      · exact .map (by simpa using ERels.nil)
    | some r => simp only [aalloc] at h; cases h
  case makeSlice t l c =>
    simp only [aalloc, Option.bind_eq_some_iff] at h
    obtain ⟨d, hd1, lv, h1, cv, h2, l1, h3, c1, h4, h5⟩ := h
    obtain ⟨k1, e1⟩ := asI_some h3; subst e1
    obtain ⟨k2, e2⟩ := asI_some h4; subst e2
    have el := (ev_rel hg hf h1).inv_scalar rfl
    have ec := (ev_rel hg hf h2).inv_scalar rfl
    split at h5
    · rename_i elem
      simp only [Option.bind_eq_some_iff, grd_some, Bool.and_eq_true, beq_iff, decide_eq_true_eq, Option.some.injEq, Prod.mk.injEq] at h5
      obtain ⟨n, hn, bytes, hb, z, hz, ⟨⟨⟨hzs, hl0⟩, hlc⟩, hbd⟩, rfl, rfl⟩ := h5
      obtain ⟨ti, hti, gti⟩ := g_bytes hE hb
      have hzr := (VRel.refl_plain μ (hE.zero elem z hz).2).cells
      obtain ⟨ln, rfl⟩ := Int.eq_ofNat_of_zero_le hl0
      obtain ⟨cn, rfl⟩ := Int.eq_ofNat_of_zero_le (show 0 ≤ c1 by omega)
      have hlc' : ln ≤ cn := by omega
      have hbd' : (cn + 1) * (bytes + 1) ≤ 1099511627776 := by
        have : (((cn + 1) * (bytes + 1) : Nat) : Int) ≤ 1099511627776 := by push_cast; exact hbd
        omega
      have hcn : cn + 1 ≤ 1099511627776 := Nat.le_trans (Nat.le_mul_of_pos_right _ (by omega)) hbd'
      have hbc : bytes * cn ≤ 1099511627776 := by
        have : bytes * cn ≤ (cn + 1) * (bytes + 1) := by rw [Nat.mul_comm]; exact Nat.mul_le_mul (by omega) (by omega)
        omega
      let cells0 : Array Value := (repeatL z.cells.toList cn).toArray
      refine ⟨.cells cells0 elem (0, 0), cells0.size, fun r => .slice (some ⟨r, 0, none⟩) ln cn, fun w => ?_, fun μ' b r hb => ?_, fun μ' h base b r hle => ?_⟩
      · have wl : IntKind.i64.wrap (ln : Int) = ln := IntWalk.i64_in _ (by omega)
        have wc : IntKind.i64.wrap (cn : Int) = cn := IntWalk.i64_in _ (by omega)
        have nt : (decide ((cn : Int) < 0) || decide ((ti.bytes : Int) * (cn : Int) > 2 ^ 48)) = false := by
          rw [hti]
          have : ((bytes * cn : Nat) : Int) ≤ 1099511627776 := by omega
          simp only [Bool.or_eq_false_iff, decide_eq_false_iff_not]
          refine ⟨by omega, ?_⟩
          have e : (2 : Int) ^ 48 = 281474976710656 := by decide
          rw [e]
          push_cast at this
          omega
        have key0 : cn * n = 0 → ∀ g : Nat → Value, (Array.range (cn * n)).map g = cells0 := by
          intro h0 g
          apply Array.ext'
          have : (repeatL z.cells.toList cn) = [] := by
            apply List.eq_nil_of_length_eq_zero; rw [repeatL_length]; simpa [hzs] using h0
          simp [h0, cells0, this]
        have key1 : cn * n ≠ 0 → (Array.range (cn * n)).map (z.cells[· % z.cells.size]!) = cells0 := by
          intro h0
          apply Array.ext'
          have hpos : 0 < z.cells.size := by
            rw [hzs]; exact Nat.pos_of_ne_zero fun e => h0 (by rw [e]; simp)
          have := zeros_eq z.cells cn hpos
          rw [hzs] at this
          simp only [cells0]
          rw [← this, hzs]
        unfold execOp
        simp only [Sem.run_bind, Instr.makeSlice, g_under hE hd1 w, Result.andThen_ok, el, ec, asInt, asIntOf, Sem.run_pure, gti w, wl, wc, nt]
        rw [if_neg (by simp; omega)]
        simp only [Sem.run_bind, run_askRoom, Result.andThen_ok, g_size hE hn w, Int.toNat_natCast]
        by_cases h0 : cn * n = 0
        · rw [if_pos h0]
          simp only [Sem.run_bind, Sem.run_pure, Result.andThen_ok]
          rw [key0 h0]
          rfl
        · rw [if_neg h0]
          simp only [Sem.run_bind, Sem.run_pure, Result.andThen_ok, g_zero hE hz w]
          rw [key1 h0]
          rfl
      · have hcs : cells0.size = cn * n := by simp [cells0, repeatL_length, hzs]
        by_cases e : ln = cn
        · subst e
          have := VRel.slice (o := 0) (z := n) hb (Nat.le_refl ln) (Nat.le_refl ln) (fun h => h) (by simp only; omega)
          simpa [Hold.val] using this
        · have := VRel.slice (o := 0) (z := n) (len := ln) (cap := ln + 1) (cap' := cn) hb (by omega) hlc' (fun h => by omega) (by simp only; omega)
          simpa [Hold.val, e, bif_eq] using this
      · have hsplit : repeatL z.cells.toList cn = repeatL z.cells.toList ln ++ repeatL z.cells.toList (cn - ln) := by
          have : ∀ a b, repeatL z.cells.toList (a + b) = repeatL z.cells.toList a ++ repeatL z.cells.toList b := by
            intro a b
            induction a with
            | zero => simp [M.repeatL]
            | succ a ih => rw [Nat.succ_add]; simp [M.repeatL, ih]
          rw [← this]; congr 1; omega
        exact cells_obj (hzr.repeatL ln) elem μ' h base b r hle _ _ _ (repeatL z.cells.toList (cn - ln)).toArray cells0 (by simp [cells0, hsplit])
    · cases h5
  case range t x =>
    simp only [aalloc, Option.bind_eq_some_iff] at h
    obtain ⟨d, hd1, v, h1, h2⟩ := h
    split at h2
    · rename_i s
      simp only [Option.some.injEq, Prod.mk.injEq] at h2
      obtain ⟨rfl, rfl⟩ := h2
      have ex := (ev_rel hg hf h1).inv_scalar rfl
      refine ⟨.stringIter s 0, 0, fun r => .pointer (some ⟨r, 0, none⟩), fun w => ?_, fun μ' b r hb => ?_, fun μ' h base b r hle => .siter rfl⟩
      · simp [execOp, Instr.range, g_under hE hd1 w, ex]
      · have := VRel.ptr (o := 0) hb; simpa [Hold.val] using this
    · simp only [Option.some.injEq, Prod.mk.injEq] at h2
      obtain ⟨rfl, rfl⟩ := h2
      have ex : a.eval x = .map none := by
        have := ev_rel hg hf h1
        generalize a.eval x = q at this
        cases this; rfl
      refine ⟨.mapIter none 0 #[] 0, 0, fun r => .pointer (some ⟨r, 0, none⟩), fun w => ?_, fun μ' b r hb => ?_, fun μ' h base b r hle => .miter0 rfl⟩
      · simp [execOp, Instr.range, g_under hE hd1 w, ex]
      · have := VRel.ptr (o := 0) hb; simpa [Hold.val] using this
    · cases h2
  all_goals (simp only [aalloc] at h; cases h)

end
end Go.M
