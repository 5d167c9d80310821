import Derived.Test.YtmookciakjmjiaaMEff3
namespace Go.M
open Go

theorem Upd.set (w : World) (r : Nat) (o : Obj) (hr : r < w.heap.size) : Upd w r o { w with heap := w.heap.setIfInBounds r o } :=
  ⟨rfl, rfl, rfl, by simp, fun k => by
    by_cases e : k = r
    · subst e; rw [if_pos rfl, Array.getElem?_setIfInBounds_self_of_lt hr]
    · rw [if_neg e, Array.getElem?_setIfInBounds_ne (fun h => e h.symm)]⟩

theorem run_setObj' {P : Program} {w : World} {r : Nat} {o1 o : Obj} (h : w.heap[r]? = some o1) (ho : ∀ c e f, o1 ≠ .cells c e f) : (setObj r o).run P w = .ok () { w with heap := w.heap.setIfInBounds r o } := by
  unfold setObj
  simp only [Sem.run, h]

section
variable {P : Program} {E : Env} {μ : Emb} {f : AF} {a : Act} {base B : Nat} {h : AHeap} {w : World}

theorem copy_sim (hE : EnvOk P E) (H : HRel E base B μ h w) {dt st ty : TypeId} {d s d' s' v : Value} {h' : AHeap} (ha : acopy E base h dt d s = some (v, h')) (hd : VRel μ d d') (hs : VRel μ s s') (ts : Array TypeId) (ht : ts[0]? = some dt) :
    EffSim P E base B μ h w (Builtin.copy_ ts ty #[d', s']) v h' := by
  unfold acopy at ha
  simp only [Option.bind_eq_some_iff] at ha
  obtain ⟨dd, hdt, ha⟩ := ha
  split at ha
  · rename_i elem ad dLen dcap
    simp only [Option.bind_eq_some_iff] at ha
    obtain ⟨size, hsz, sl, hsl, ha⟩ := ha
    have hlx := lenV_rel (P := P) hsl hs
    have hd' : ∃ ad' cap', d' = .slice ad' dLen cap' := by cases hd <;> exact ⟨_, _, rfl⟩
    obtain ⟨ad', cap', rfl⟩ := hd'
    have run : ∀ (cells : List Value) (w' : World), (Builtin.firstCells size (Nat.min sl dLen) s').run P w = .ok cells.toArray w → (stAt ad' 0 cells).run P w = .ok () w' → (Builtin.copy_ ts ty #[.slice ad' dLen cap', s']).run P w = .ok (goInt (Nat.min sl dLen)) w' := by
      intro cells w' h1 h2
      unfold Builtin.copy_
      simp only [ht, List.getElem?_toArray, List.getElem?_cons_zero, List.getElem?_cons_succ, Sem.run_bind, g_under hE hdt w, Result.andThen_ok, hlx w, g_size hE hsz w, h1]
      cases ad' with
      | none => simp only [stAt, Sem.run_pure] at h2; cases h2; simp
      | some aa => 
        simp only [stAt] at h2
        have : aa.add 0 = aa := by simp [Addr.add]
        rw [this] at h2
        simp [h2]
    rw [bif_eq] at ha
    split at ha
    · rename_i h0
      rw [beq_iff] at h0
      simp only [Option.some.injEq, Prod.mk.injEq] at ha
      obtain ⟨rfl, rfl⟩ := ha
      have hx0 : (Builtin.firstCells size (Nat.min sl dLen) s').run P w = .ok ([] : List Value).toArray w := by
        rw [h0]
        unfold lenV at hsl
        split at hsl
        · cases hs with
          | lit hh => unfold plain1 at hh; split at hh <;> simp_all [Builtin.firstCells]
          | slice => simp [Builtin.firstCells, loadCells, loadCellsFrom]
          | slice0 => simp [Builtin.firstCells, loadCells, loadCellsFrom]
        · cases hs with
          | lit hh => simp [Builtin.firstCells]
        · cases hsl
      have := run [] w hx0 (by cases ad' <;> simp [stAt, storeCells])
      rw [h0] at this
      exact ⟨μ, _, w, this, .int μ _ _, .refl H⟩
    · rename_i h0
      rw [beq_iff] at h0
      split at ha
      · rename_i b o z
        simp only [Option.bind_eq_some_iff, grd_some, Option.some.injEq, Prod.mk.injEq] at ha
        obtain ⟨cells, hc, hone, cs, hrd, cs', hset, h1, hwr, rfl, rfl⟩ := ha
        obtain ⟨cells', r1, r2⟩ := firstV_rel (P := P) H hc hs hsl (Nat.min_le_left _ _)
        cases hd with
        | slice hb k1 k2 k3 k4 =>
          obtain ⟨w', q1, q2⟩ := store_sim (P := P) H hb hrd hset hwr r1 hone
          exact ⟨μ, _, w', run cells' w' (r2 w.drawn) (by simp only [stAt, addr_add]; exact q1), .int μ _ _, q2⟩
        | slice0 => exact absurd (Nat.min_zero _) h0
        | lit hh => simp [plain1] at hh
      · cases ha
  · cases ha

theorem clear_sim (hE : EnvOk P E) (H : HRel E base B μ h w) {t ty : TypeId} {x x' v : Value} {h' : AHeap} (ha : aclear E base h t x = some (v, h')) (hx : VRel μ x x') (ts : Array TypeId) (ht : ts[0]? = some t) (args : Array Value) (hargs : args[0]? = some x')
    (hu : ∃ d, E.desc t = some d) : EffSim P E base B μ h w (Builtin.clear_ ts ty args) v h' := by
  obtain ⟨d, hdt⟩ := hu
  unfold aclear at ha
  split at ha
  · simp only [Option.some.injEq, Prod.mk.injEq] at ha
    obtain ⟨rfl, rfl⟩ := ha
    have ex : x' = .map none := by cases hx; rfl
    subst ex
    refine ⟨μ, .tuple #[], w, ?_, VRel.undef μ, .refl H⟩
    unfold Builtin.clear_
    simp only [ht, hargs, Sem.run_bind, g_under hE hdt w, Result.andThen_ok]
    rfl
  · simp only [Option.some.injEq, Prod.mk.injEq] at ha
    obtain ⟨rfl, rfl⟩ := ha
    have ex : ∃ n c, x' = .slice none n c := by cases hx; exact ⟨_, _, rfl⟩
    obtain ⟨n, c, rfl⟩ := ex
    refine ⟨μ, .tuple #[], w, ?_, VRel.undef μ, .refl H⟩
    unfold Builtin.clear_
    simp only [ht, hargs, Sem.run_bind, g_under hE hdt w, Result.andThen_ok]
    rfl
  · rename_i b o z n cap
    have shape : ∃ a' cap', x' = .slice (some a') n cap' := by
      cases hx with
      | lit hh => simp [plain1] at hh
      | slice => exact ⟨_, _, rfl⟩
      | slice0 => exact ⟨_, _, rfl⟩
    rw [bif_eq] at ha
    split at ha
    · rename_i h0
      rw [beq_iff] at h0; subst h0
      simp only [Option.some.injEq, Prod.mk.injEq] at ha
      obtain ⟨rfl, rfl⟩ := ha
      obtain ⟨a', cap', rfl⟩ := shape
      refine ⟨μ, .tuple #[], w, ?_, VRel.undef μ, .refl H⟩
      unfold Builtin.clear_
      simp only [ht, hargs, Sem.run_bind, g_under hE hdt w, Result.andThen_ok]
      rfl
    · rename_i h0
      rw [beq_iff] at h0
      simp only [Option.bind_eq_some_iff] at ha
      obtain ⟨d2, hdt2, ha⟩ := ha
      rw [hdt] at hdt2; cases hdt2
      split at ha
      · rename_i elem
        simp only [Option.bind_eq_some_iff, grd_some, Option.some.injEq, Prod.mk.injEq] at ha
        obtain ⟨zv, hz, hone, cs, hrd, cs', hset, h1, hwr, rfl, rfl⟩ := ha
        have hzr := (VRel.refl_plain μ (hE.zero elem zv hz).2).cells
        have hone' : (repeatL zv.cells.toList n).all oneC = true := by
          have : ∀ k, (repeatL zv.cells.toList k).all oneC = true := by
            intro k
            induction k with
            | zero => rfl
            | succ k ih => simp only [M.repeatL, List.all_append, hone, ih, Bool.and_self]
          exact this n
        cases hx with
        | lit hh => simp [plain1] at hh
        | slice hb k1 k2 k3 k4 =>
          rename_i cap' m
          obtain ⟨w', q1, q2⟩ := store_sim (P := P) H hb hrd hset hwr (hzr.repeatL n) hone'
          refine ⟨μ, .tuple #[], w', ?_, VRel.undef μ, q2⟩
          have hzc : (Builtin.zeroCells zv.cells n).toList = repeatL zv.cells.toList n := by
            unfold Builtin.zeroCells
            by_cases hpos : 0 < zv.cells.size
            · exact zeros_eq zv.cells n hpos
            · have e0 : zv.cells.size = 0 := by omega
              have e1 : (repeatL zv.cells.toList n) = [] := by
                apply List.eq_nil_of_length_eq_zero; rw [repeatL_length]; simp [e0]
              rw [e1]; simp [e0]
          obtain ⟨n', rfl⟩ : ∃ n', n = n' + 1 := ⟨n - 1, by omega⟩
          unfold Builtin.clear_
          simp only [ht, hargs, Sem.run_bind, g_under hE hdt w, Result.andThen_ok, g_zero hE hz w, hzc, q1, Sem.run_pure]
        | slice0 => exact absurd rfl h0
      · cases ha
  · rename_i r
    simp only [grd_some, ble_iff] at ha
    obtain ⟨hbase, ha⟩ := ha
    split at ha
    · rename_i es clock hg
      simp only [Option.some.injEq, Prod.mk.injEq] at ha
      obtain ⟨rfl, rfl⟩ := ha
      obtain ⟨m, hb, rfl⟩ := hx.inv_map
      obtain ⟨o1, o2, k1, k2, k3⟩ := H.obj r m hb
      rw [hg] at k1; cases k1
      cases k3 with
      | map hs =>
        have st := Step.put H hb hbase hg rfl rfl (Upd.set w m.r (.map #[] clock) (H.lt hb)) (.map (by simpa using ERels.nil))
        refine ⟨μ, .tuple #[], _, ?_, VRel.undef μ, st⟩
        unfold Builtin.clear_
        simp only [ht, hargs, Sem.run_bind, g_under hE hdt w, Result.andThen_ok, run_getObj_map (P := P) k2 (fun _ _ _ => by simp), run_setObj' (P := P) k2 (fun _ _ _ => by simp), Sem.run_pure]
    · cases ha
  · cases ha

theorem findNow_lt {kd : TypeDesc} {k : Value} : ∀ {es : List MapEntry} {i j : Nat} {v : Value}, Instr.findNow kd k es i = some (some (j, v)) → i ≤ j ∧ j < i + es.length
  | [], i, j, v, h => by simp [Instr.findNow] at h
  | e :: es, i, j, v, h => by
    simp only [Instr.findNow] at h
    split at h
    · simp only [Option.some.injEq, Prod.mk.injEq] at h; obtain ⟨rfl, _⟩ := h; simp
    · have := findNow_lt h; simp; omega
    · cases h

theorem ERels.eraseIdx {l l' : List MapEntry} (hs : ERels μ l l') : ∀ i, ERels μ (l.eraseIdx i) (l'.eraseIdx i) := by
  induction hs with
  | nil => intro i; simpa using ERels.nil
  | cons hk hv hb t ih => intro i; cases i with
    | zero => simpa using t
    | succ i => simpa using ERels.cons hk hv hb (ih i)
theorem ERels.append {l l' k k' : List MapEntry} (hs : ERels μ l l') (hk : ERels μ k k') : ERels μ (l ++ k) (l' ++ k') := by
  induction hs with
  | nil => exact hk
  | cons a b c _ ih => exact .cons a b c ih
theorem ERels.modify {l l' : List MapEntry} (hs : ERels μ l l') {g g' : MapEntry → MapEntry} (hg : ∀ e e', VRel μ e.key e'.key → VRel μ e.val e'.val → e.born = e'.born → VRel μ (g e).key (g' e').key ∧ VRel μ (g e).val (g' e').val ∧ (g e).born = (g' e').born) : ∀ i, ERels μ (l.modify i g) (l'.modify i g') := by
  induction hs with
  | nil => intro i; simpa using ERels.nil
  | cons hk hv hb t ih => intro i; cases i with
    | zero => obtain ⟨a, b, c⟩ := hg _ _ hk hv hb; simpa using ERels.cons a b c t
    | succ i => simpa using ERels.cons hk hv hb (ih i)

theorem delete_sim (hE : EnvOk P E) (H : HRel E base B μ h w) {t ty : TypeId} {mv k mv' k' v : Value} {h' : AHeap} (ha : adelete E base h t mv k = some (v, h')) (hm : VRel μ mv mv') (hk : VRel μ k k') (ts : Array TypeId) (ht : ts[0]? = some t) :
    EffSim P E base B μ h w (Builtin.delete_ ts ty #[mv', k']) v h' := by
  unfold adelete at ha
  simp only [Option.bind_eq_some_iff] at ha
  obtain ⟨d, hd, ha⟩ := ha
  split at ha
  · rename_i kt et r
    simp only [grd_some, Bool.and_eq_true, ble_iff, Option.bind_eq_some_iff] at ha
    obtain ⟨⟨hbase, hks⟩, kd, hkd, hst, ha⟩ := ha
    split at ha
    · rename_i es clock hg
      obtain ⟨m, hb, rfl⟩ := hm.inv_map
      have ek := hk.inv_scalar hks
      subst ek
      obtain ⟨o1, o2, k1, k2, k3⟩ := H.obj r m hb
      rw [hg] at k1; cases k1
      cases k3 with
      | map hs =>
        rename_i es'
        simp only [Option.bind_eq_some_iff] at ha
        obtain ⟨fr, hfr, ha⟩ := ha
        obtain ⟨fr', q1, q2, q3⟩ := findNow_rel hs hfr
        have hfk : (Instr.findKey kt k' es'.toList).run P w = .ok fr' w := by
          simp only [Instr.findKey, Sem.run_bind, g_under hE hkd w, Result.andThen_ok, q1, Sem.run_pure]
        have hck := g_checkKey (P := P) hE hkd hst es'.isEmpty 9999 k' w
        have hgo := run_getObj_map (P := P) k2 (fun _ _ _ => by simp)
        have hso := fun o => run_setObj' (P := P) (o := o) k2 (fun _ _ _ => by simp)
        cases fr with
        | none =>
          have e := q2 rfl; subst e
          simp only [Option.some.injEq, Prod.mk.injEq] at ha
          obtain ⟨rfl, rfl⟩ := ha
          have st := Step.put H hb hbase hg rfl rfl (Upd.set w m.r (.map es' clock) (H.lt hb)) (.map hs)
          refine ⟨μ, .tuple #[], _, ?_, VRel.undef μ, st⟩
          unfold Builtin.delete_
          simp only [ht, List.getElem?_toArray, List.getElem?_cons_zero, List.getElem?_cons_succ, Sem.run_bind, g_under hE hd w, Result.andThen_ok, hgo, hck, hfk, hso, Sem.run_pure]
        | some jv =>
          obtain ⟨v', e, hr⟩ := q3 jv.1 jv.2 rfl
          subst e
          simp only [Option.some.injEq, Prod.mk.injEq] at ha
          obtain ⟨rfl, rfl⟩ := ha
          have hlt := (findNow_lt hfr).2
          have hl := hs.length
          have st := Step.put H hb hbase hg rfl rfl (Upd.set w m.r (.map (es'.eraseIdxIfInBounds jv.1) clock) (H.lt hb)) (.map (by
            have hlt' : jv.1 < es'.size := by simp at hl hlt; omega
            have : (es'.eraseIdxIfInBounds jv.1).toList = es'.toList.eraseIdx jv.1 := by
              simp [Array.eraseIdxIfInBounds, hlt']
            rw [this]; exact hs.eraseIdx jv.1))
          refine ⟨μ, .tuple #[], _, ?_, VRel.undef μ, st⟩
          unfold Builtin.delete_
          simp only [ht, List.getElem?_toArray, List.getElem?_cons_zero, List.getElem?_cons_succ, Sem.run_bind, g_under hE hd w, Result.andThen_ok, hgo, hck, hfk, hso, Sem.run_pure]
    · cases ha
  · cases ha

end
end Go.M
