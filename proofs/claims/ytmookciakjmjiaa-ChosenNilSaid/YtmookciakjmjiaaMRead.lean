import Derived.Test.YtmookciakjmjiaaMAlloc
namespace Go.M
open Go

theorem run_getObj_map {P : Program} {w : World} {r : Nat} {o : Obj} (h : w.heap[r]? = some o) (ho : ∀ c e f, o ≠ .cells c e f) : (getObj r).run P w = .ok o w := by
  unfold getObj
  simp only [Sem.run, h]

theorem findNow_rel {μ : Emb} {kd : TypeDesc} {k : Value} : ∀ {es es' : List MapEntry} {i : Nat} {r : Option (Nat × Value)}, ERels μ es es' → Instr.findNow kd k es i = some r →
    ∃ r', Instr.findNow kd k es' i = some r' ∧ (r = none → r' = none) ∧ (∀ j v, r = some (j, v) → ∃ v', r' = some (j, v') ∧ VRel μ v v')
  | [], es', i, r, h, hr => by
    cases h with
    | nil => simp only [Instr.findNow, Option.some.injEq] at hr; subst hr; exact ⟨none, rfl, fun _ => rfl, fun j v h => by cases h⟩
  | e :: es, es', i, r, h, hr => by
    cases h with
    | cons hk hv hb t =>
      rename_i e' es'
      have hs : ∀ b, Instr.sameNow kd k e.key = some b → e'.key = e.key := by
        intro b hs
        have : scalar e.key = true := by
          unfold Instr.sameNow at hs
          split at hs
          · rename_i h2; rw [h2]; rfl
          · rename_i h2; rw [h2]; rfl
          · rename_i h2; rw [h2]; rfl
          · cases hs
        exact hk.inv_scalar this
      simp only [Instr.findNow] at hr ⊢
      split at hr
      · rename_i hq
        rw [hs _ hq, hq]
        simp only [Option.some.injEq] at hr; subst hr
        exact ⟨_, rfl, (fun h => by cases h), fun j v h => (by cases h; exact ⟨_, rfl, hv⟩)⟩
      · rename_i hq
        rw [hs _ hq, hq]
        exact findNow_rel t hr
      · cases hr

theorem run_loadCells {P : Program} {w : World} {a : Addr} : ∀ (n i : Nat) (acc : Array Value) (l : List Value), l.length = n → (∀ (k : Nat) v, l[k]? = some v → w.cell? (a.add (i + k)) = some v) → (loadCellsFrom a i n acc).run P w = .ok (acc ++ l.toArray) w
  | 0, i, acc, l, h, _ => by
    have : l = [] := List.eq_nil_of_length_eq_zero h
    subst this; simp [loadCellsFrom]
  | n + 1, i, acc, [], h, _ => by simp at h
  | n + 1, i, acc, v :: l, h, hc => by
    have h0 := hc 0 v rfl
    have ih := run_loadCells (P := P) n (i + 1) (acc.push v) l (by simpa using h) (fun k u hu => by have := hc (k + 1) u (by simpa using hu); rw [← this]; congr 2; omega)
    simp only [Nat.add_zero] at h0
    simp only [loadCellsFrom, Sem.run_bind, run_load, h0, Result.andThen_ok, ih]
    simp

section
variable {P : Program} {E : Env} {μ : Emb} {f : AF} {a : Act} {base B : Nat} {h : AHeap} {w : World}

/-- The cells that are read, as a list. -/
theorem HRel.readL (H : HRel E base B μ h w) {b o n : Nat} {m : MT} (hb : μ b = some m) {l : List Value} (hr : M.readCells h b o n = some l) :
    ∃ l', VRels μ l l' ∧ ∀ (i : Nat) v, l'[i]? = some v → w.cell? ⟨m.r, m.s + o + i, none⟩ = some v := by
  obtain ⟨h1, h2⟩ := H.readCells hb hr
  have key : ∀ (l : List Value) (k : Nat), (∀ (i : Nat) v, l[i]? = some v → ∃ v', w.cell? ⟨m.r, m.s + o + k + i, none⟩ = some v' ∧ VRel μ v v') → ∃ l', VRels μ l l' ∧ ∀ (i : Nat) v, l'[i]? = some v → w.cell? ⟨m.r, m.s + o + k + i, none⟩ = some v := by
    intro l
    induction l with
    | nil => intro k _; exact ⟨[], .nil, fun i v h => by simp at h⟩
    | cons v l ih =>
      intro k hl
      obtain ⟨v', q1, q2⟩ := hl 0 v rfl
      obtain ⟨l', r1, r2⟩ := ih (k + 1) fun i u hu => by
        obtain ⟨u', k1, k2⟩ := hl (i + 1) u (by simpa using hu)
        exact ⟨u', by rw [← k1]; congr 2; omega, k2⟩
      refine ⟨v' :: l', .cons q2 r1, fun i u hu => ?_⟩
      cases i with
      | zero => simp at hu; subst hu; simpa using q1
      | succ i =>
        simp at hu
        rw [← r2 i u hu]; congr 2; omega
  obtain ⟨l', r1, r2⟩ := key l 0 (by simpa using h2)
  exact ⟨l', r1, by simpa using r2⟩

theorem run_loadVar (hE : EnvOk P E) {t : TypeId} {agg : Bool} {n : Nat} (hs : shapeT E t = some (agg, n)) {r o : Nat} {l' : List Value} (hl : l'.length = n) (hc : ∀ (i : Nat) v, l'[i]? = some v → w.cell? ⟨r, o + i, none⟩ = some v) {v' : Value}
    (hv : fromCells agg l' = some v') : (loadVar t ⟨r, o, none⟩).run P w = .ok v' w := by
  obtain ⟨d, k1, k2, k3, k4⟩ := shapeT_some hs
  unfold loadVar
  simp only [Sem.run_bind, g_isAgg hE k1 w, Result.andThen_ok, k2]
  cases agg with
  | true =>
    simp only [fromCells, Option.some.injEq] at hv
    subst hv
    simp only [if_true, Sem.run_bind, g_size hE (k3 rfl) w, Result.andThen_ok, loadCells]
    rw [run_loadCells n 0 #[] l' hl (fun k v hv => by rw [addr_add]; simpa using hc k v hv)]
    simp
  | false =>
    have := k4 rfl; subst this
    match l', hl with
    | [u], _ =>
      simp only [fromCells, Option.some.injEq] at hv
      subst hv
      have := hc 0 u rfl
      simp only [Nat.add_zero] at this
      simp [this]

theorem aread_sim (hE : EnvOk P E) (hf : FRel μ f a.tmps) (H : HRel E base B μ h w) {o : Oper} {q : RQ} {v : Value} (hq : aread E f o = some q) (hv : q.run h = some v) :
    ∃ v', VRel μ v v' ∧ (execOp a.eval o).run P w = .ok (.value v') w := by
  have hg : GlobOk E μ := H.glob
  obtain ⟨dst, op, type, pos, after, guard⟩ := o
  cases op
  case load t x =>
    simp only [aread, Option.bind_eq_some_iff, Option.some.injEq] at hq
    obtain ⟨u, h1, p, h2, ⟨agg, n⟩, h3, rfl⟩ := hq
    have e := asPtr_some h2; subst e
    obtain ⟨m, hb, ex⟩ := (ev_rel hg hf h1).inv_ptr
    simp only [RQ.run, Option.bind_eq_some_iff] at hv
    obtain ⟨l, h4, h5⟩ := hv
    obtain ⟨l', r1, r2⟩ := H.readL hb h4
    obtain ⟨v', q1, q2⟩ := fromCells_rel h5 r1
    refine ⟨v', q2, ?_⟩
    have hl : l'.length = n := by rw [← r1.length]; exact (H.readCells hb h4).1
    simp only [execOp, Instr.loadAt, Sem.run_bind, ex, Instr.sureAddr, Sem.run_pure, Result.andThen_ok]
    rw [run_loadVar hE h3 hl r2 q1]
    rfl
  case lookup t x ix ok =>
    simp only [aread, Option.bind_eq_some_iff] at hq
    obtain ⟨d, hd, mv, h1, k, h2, h3⟩ := hq
    split at h3
    · rename_i kt elem r
      simp only [Option.bind_eq_some_iff, grd_some, Bool.and_eq_true, Option.some.injEq] at h3
      obtain ⟨kd, hkd, z, hz, ⟨⟨s1, s2⟩, s3⟩, rfl⟩ := h3
      obtain ⟨m, hb, ex⟩ := (ev_rel hg hf h1).inv_map
      have ek := (ev_rel hg hf h2).inv_scalar s2
      simp only [RQ.run, Option.bind_eq_some_iff] at hv
      obtain ⟨⟨es, clock⟩, h4, h5⟩ := hv
      obtain ⟨o1, o2, k1, k2, k3⟩ := H.obj r m hb
      have hm : h.get r = some (.map es clock) := by
        unfold mapAt at h4; split at h4 <;> simp at h4
        obtain ⟨rfl, rfl⟩ := h4; assumption
      rw [hm] at k1; cases k1
      cases k3 with
      | map hs =>
        rename_i es'
        have hgo := run_getObj_map (P := P) k2 (fun _ _ _ => by simp)
        simp only [lookIn, Option.bind_eq_some_iff, Option.some.injEq] at h5
        obtain ⟨fr, h6, h7⟩ := h5
        obtain ⟨fr', q1, q2, q3⟩ := findNow_rel hs h6
        have hzr := VRel.refl_plain μ s3
        have hfk : (Instr.findKey kt k es'.toList).run P w = .ok fr' w := by
          simp only [Instr.findKey, Sem.run_bind, g_under hE hkd w, Result.andThen_ok, q1, Sem.run_pure]
        have hck := g_checkKey (P := P) hE hkd s1 es'.isEmpty 9999 k w
        have fin : ∀ (u u' : Value) (b : Bool), VRel μ u u' → VRel μ (bif ok then .tuple #[u, .bool b] else u) (if ok = true then .tuple #[u', .bool b] else u') := by
          intro u u' b hu
          cases ok with
          | true => simp only [cond_true, if_true]; exact .tuple_of (by simpa using VRels.cons hu (.cons (.bool μ b) .nil))
          | false => simpa using hu
        cases fr with
        | none =>
          have e := q2 rfl; subst e
          simp only at h7; subst h7
          refine ⟨_, fin z z false hzr, ?_⟩
          simp only [execOp, Instr.lookup, Sem.run_bind, g_under hE hd w, Result.andThen_ok, ex, ek, hgo, Sem.run_pure, hck, hfk, g_zero hE hz w]
        | some jv =>
          obtain ⟨v', e, hr⟩ := q3 jv.1 jv.2 rfl
          subst e
          simp only at h7; subst h7
          refine ⟨_, fin jv.2 v' true hr, ?_⟩
          simp only [execOp, Instr.lookup, Sem.run_bind, g_under hE hd w, Result.andThen_ok, ex, ek, hgo, Sem.run_pure, hck, hfk]
    · cases h3
  case call c =>
    simp only [aread] at hq
    split at hq
    · rename_i t ts hcal htys
      simp only [Option.bind_eq_some_iff] at hq
      obtain ⟨d, hd, args, h1, h2⟩ := hq
      split at h2
      · rename_i kt et r rest
        simp only [Option.some.injEq] at h2; subst h2
        have hr := evs_rel hg hf h1
        cases hr' : c.args.toList.map a.eval with
        | nil => rw [hr'] at hr; cases hr
        | cons u us =>
          rw [hr'] at hr
          cases hr with
          | cons hx _ =>
            obtain ⟨m, hb, rfl⟩ := hx.inv_map
            simp only [RQ.run, Option.bind_eq_some_iff, Option.some.injEq] at hv
            obtain ⟨⟨es, clock⟩, h4, rfl⟩ := hv
            obtain ⟨o1, o2, k1, k2, k3⟩ := H.obj r m hb
            have hm : h.get r = some (.map es clock) := by
              unfold mapAt at h4; split at h4 <;> simp at h4
              obtain ⟨rfl, rfl⟩ := h4; assumption
            rw [hm] at k1; cases k1
            cases k3 with
            | map hs =>
              rename_i es'
              have hgo := run_getObj_map (P := P) k2 (fun _ _ _ => by simp)
              have e0 : (c.args.map a.eval)[0]? = some (.map (some m.r)) := by
                have : (c.args.map a.eval).toList = .map (some m.r) :: us := by simpa using hr'
                rw [← Array.getElem?_toList, this]; rfl
              have e1 : c.argTypes[0]? = some t := by rw [← Array.getElem?_toList, htys]; rfl
              refine ⟨goInt es'.size, ?_, ?_⟩
              · have := hs.length
                simp only [Array.length_toList] at this
                rw [this]; exact .int μ _ _
              · simp only [execOp, resolve, hcal, Sem.run_bind, Sem.run_pure, Result.andThen_ok, invoke, builtin, Builtin.len_, e0, e1, g_under hE hd w, hgo]
      · cases h2
    · cases hq
  all_goals (simp only [aread] at hq; cases hq)

end
end Go.M
