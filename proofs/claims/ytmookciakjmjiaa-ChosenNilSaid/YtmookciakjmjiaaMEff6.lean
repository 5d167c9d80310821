import Derived.Test.YtmookciakjmjiaaMEff5
namespace Go.M
open Go
section
variable {P : Program} {E : Env} {μ : Emb} {f : AF} {a : Act} {base B : Nat} {h : AHeap} {w : World}

theorem bytes_of_beq {a b : ByteArray} (h : (a == b) = true) : a = b := by
  rw [beq_toListBytes, ByteArray.toList_eq, ByteArray.toList_eq] at h
  have := eq_of_beq h
  obtain ⟨⟨x⟩⟩ := a
  obtain ⟨⟨y⟩⟩ := b
  simp at this
  rw [this]

/-- A value, or nothing. -/
def ValOr (nx : Next) (v' : Value) : Prop := nx = .value v' ∨ (nx = .skip ∧ v' = undef)

/-- The block of an iterator begins at its place 0. -/
def IterAt (E : Env) (base B : Nat) (μ : Emb) (h : AHeap) (w : World) : Prop := HRel E base B μ h w

set_option maxHeartbeats 1000000 in
theorem aeff_val (hE : EnvOk P E) (hf : FRel μ f a.tmps) (H : HRel E base B μ h w) {o : Oper} {v : Value} {h' : AHeap} (ha : aeff E base f o h = some (.val v, h')) :
    ∃ μ' nx v' w', (execOp a.eval o).run P w = .ok nx w' ∧ ValOr nx v' ∧ VRel μ' v v' ∧ Step E base B μ h w μ' h' w' := by
  have hg : GlobOk E μ := H.glob
  obtain ⟨dst, op, type, pos, after, guard⟩ := o
  cases op
  case store t x y =>
    simp only [aeff, Option.bind_eq_some_iff, grd_some, Bool.and_eq_true, beq_iff, Option.some.injEq, Prod.mk.injEq, ARes.val.injEq] at ha
    obtain ⟨av, h1, v1, h2, n, h3, p, h4, ⟨h5, hone⟩, cs, hrd, cs', hset, h6, hwr, rfl, rfl⟩ := ha
    have e := asPtr_some h4; subst e
    obtain ⟨m, hb, ex⟩ := (ev_rel hg hf h1).inv_ptr
    have hv := ev_rel hg hf h2
    obtain ⟨w', q1, q2⟩ := store_sim (P := P) H hb hrd hset hwr hv.cells hone
    refine ⟨μ, .skip, undef, w', ?_, .inr ⟨rfl, rfl⟩, .undef μ, q2⟩
    have hsz : (a.eval y).cells.size = n := by rw [← hv.cells_size]; exact h5
    simp only [execOp, Instr.storeAt, Sem.run_bind, ex, Instr.sureAddr, Sem.run_pure, Result.andThen_ok, storeVar, g_size hE h3 w]
    rw [if_neg (by simpa using hsz)]
    simp only [q1, Result.andThen_ok]
  case mapUpdate t mm kk x =>
    simp only [aeff, Option.bind_eq_some_iff, Option.some.injEq, Prod.mk.injEq, ARes.val.injEq] at ha
    obtain ⟨mv, h1, k, h2, v1, h3, h4, h5, rfl, rfl⟩ := ha
    unfold amapUpdate at h5
    simp only [Option.bind_eq_some_iff] at h5
    obtain ⟨d, hd, h5⟩ := h5
    split at h5
    · rename_i kt et r
      simp only [Option.bind_eq_some_iff, grd_some, Bool.and_eq_true, ble_iff] at h5
      obtain ⟨kd, hkd, ⟨⟨hbase, hst⟩, hks⟩, h5⟩ := h5
      split at h5
      · rename_i es clock hgm
        obtain ⟨m, hb, ex⟩ := (ev_rel hg hf h1).inv_map
        have ek := (ev_rel hg hf h2).inv_scalar hks
        have hv := ev_rel hg hf h3
        obtain ⟨o1, o2, k1, k2, k3⟩ := H.obj r m hb
        rw [hgm] at k1; cases k1
        cases k3 with
        | map hs =>
          rename_i es'
          simp only [Option.bind_eq_some_iff] at h5
          obtain ⟨fr, hfr, h5⟩ := h5
          obtain ⟨fr', q1, q2, q3⟩ := findNow_rel hs hfr
          have hfk : (Instr.findKey kt k es'.toList).run P w = .ok fr' w := by
            simp only [Instr.findKey, Sem.run_bind, g_under hE hkd w, Result.andThen_ok, q1, Sem.run_pure]
          have hck := g_checkKey (P := P) hE hkd hst false 9999 k w
          have hgo := run_getObj_map (P := P) k2 (fun _ _ _ => by simp)
          have hso := fun o => run_setObj' (P := P) (o := o) k2 (fun _ _ _ => by simp)
          have hkr : VRel μ k k := .of_scalar μ hks
          cases fr with
          | none =>
            have e := q2 rfl; subst e
            simp only [Option.some.injEq] at h5
            subst h5
            have st := Step.put (o := .map (es ++ [{ key := k, val := v1, born := clock }]) (clock + 1)) H hb hbase hgm rfl rfl (Upd.set w m.r (.map (es'.push { key := k, val := a.eval x, born := clock }) (clock + 1)) (H.lt hb)) (.map (by
              simpa using hs.append (ERels.cons (e := { key := k, val := v1, born := clock }) (e' := { key := k, val := a.eval x, born := clock }) hkr hv rfl .nil)))
            refine ⟨μ, .skip, undef, _, ?_, .inr ⟨rfl, rfl⟩, .undef μ, st⟩
            simp only [execOp, Instr.mapUpdate, Sem.run_bind, g_under hE hd w, Result.andThen_ok, ex, ek, hgo, hck, hfk, hso]
            rfl
          | some jv =>
            obtain ⟨v', e, hr⟩ := q3 jv.1 jv.2 rfl
            subst e
            simp only [Option.some.injEq] at h5
            subst h5
            have hsb : Instr.sameBits 10000 (((es'[jv.1]?).map (·.key)).getD k) k = true := by
              have hh : ∀ {es : List MapEntry} {i j : Nat} {v : Value}, Instr.findNow kd k es i = some (some (j, v)) → ∃ e, es[j - i]? = some e ∧ e.key = k ∧ i ≤ j := by
                intro es
                induction es with
                | nil => intro i j v hq; simp [Instr.findNow] at hq
                | cons e0 es0 ih =>
                  intro i j v hq
                  simp only [Instr.findNow] at hq
                  split at hq
                  · rename_i hsn
                    simp only [Option.some.injEq, Prod.mk.injEq] at hq
                    obtain ⟨rfl, _⟩ := hq
                    refine ⟨e0, by simp, ?_, Nat.le_refl _⟩
                    unfold Instr.sameNow at hsn
                    split at hsn
                    · rename_i z1
                      split at hsn
                      · rename_i z2; subst z2; simp only [Option.some.injEq, beq_iff_eq] at hsn; rw [z1, hsn]
                      · cases hsn
                    · rename_i z1; simp only [Option.some.injEq] at hsn; rw [z1, bytes_of_beq hsn]
                    · rename_i z1; simp only [Option.some.injEq, beq_iff_eq] at hsn; rw [z1, hsn]
                    · cases hsn
                  · obtain ⟨e1, p1, p2, p3⟩ := ih hq
                    refine ⟨e1, ?_, p2, by omega⟩
                    have : j - i = (j - (i + 1)) + 1 := by omega
                    rw [this]; simpa using p1
                  · cases hq
              obtain ⟨e1, p1, p2, _⟩ := hh q1
              have p1' : es'[jv.1]? = some e1 := by simpa using p1
              rw [p1']
              simp only [Option.map_some, Option.getD_some, p2]
              cases k <;> simp [scalar] at hks <;> first | (simp [Instr.sameBits]; done) | (simp only [Instr.sameBits]; rw [beq_toListBytes]; simp)
            have st := Step.put (o := .map (es.modify jv.1 fun e => { e with key := k, val := v1 }) clock) H hb hbase hgm rfl rfl (Upd.set w m.r (.map (es'.modify jv.1 fun e => { e with key := k, val := a.eval x }) clock) (H.lt hb)) (.map (by
              have := hs.modify (g := fun e => { e with key := k, val := v1 }) (g' := fun e => { e with key := k, val := a.eval x }) (fun e e' _ _ hb => ⟨hkr, hv, hb⟩) jv.1
              simpa using this))
            refine ⟨μ, .skip, undef, _, ?_, .inr ⟨rfl, rfl⟩, .undef μ, st⟩
            simp only [execOp, Instr.mapUpdate, Sem.run_bind, g_under hE hd w, Result.andThen_ok, ex, ek, hgo, hck, hfk]
            unfold Instr.keyThatStays
            rw [hsb]
            simp only [if_true, Sem.run_bind, Sem.run_pure, Result.andThen_ok, hso]
      · cases h5
    · cases h5
  case range t x =>
    simp only [aeff, Option.bind_eq_some_iff] at ha
    obtain ⟨d, hd, v1, h1, ha⟩ := ha
    split at ha
    · rename_i kt et r
      split at ha
      · rename_i es clock hgm
        simp only [Option.some.injEq, Prod.mk.injEq, ARes.val.injEq] at ha
        obtain ⟨rfl, rfl⟩ := ha
        obtain ⟨m, hb, ex⟩ := (ev_rel hg hf h1).inv_map
        obtain ⟨o1, o2, k1, k2, k3⟩ := H.obj r m hb
        rw [hgm] at k1; cases k1
        cases k3 with
        | map hs =>
          have hgo := run_getObj_map (P := P) k2 (fun _ _ _ => by simp)
          have hle : μ.le (upd μ h.size ⟨w.heap.size, 0, 0⟩) := upd_le H.fresh
          have st := Step.alloc (o := .miter (some r) clock [] clock) H (Alc.mk' w (.mapIter (some m.r) clock #[] clock)) 0 (fun _ _ _ _ hh => by cases hh) (by
            have := ORel.miter (μ := upd μ h.size ⟨w.heap.size, 0, 0⟩) (h := h.push (.miter (some r) clock [] clock)) (base := base) (b := h.size) (m := ⟨w.heap.size, 0, 0⟩) (since := clock) (last := clock) (seen := []) (hle _ _ hb) rfl
            simpa using this)
          refine ⟨_, _, .pointer (some ⟨w.heap.size, 0, none⟩), _, ?_, .inl rfl, ?_, st⟩
          · simp only [execOp, Instr.range, Sem.run_bind, g_under hE hd w, Result.andThen_ok, ex, hgo, Sem.run_pure, run_newObj]
          · have := VRel.ptr (o := 0) (upd_self μ h.size ⟨w.heap.size, 0, 0⟩); simpa using this
      · cases ha
    · cases ha
  case next it isStr =>
    simp only [aeff, Option.bind_eq_some_iff, Option.some.injEq, Prod.mk.injEq, ARes.val.injEq] at ha
    obtain ⟨v1, h1, r, h2, ⟨v2, h2'⟩, h3, rfl, rfl⟩ := ha
    have e := asIter_some h2; subst e
    obtain ⟨m, hb, ex⟩ := (ev_rel hg hf h1).inv_ptr
    have hms : m.s = 0 := by
      obtain ⟨o1, o2, k1, k2, k3⟩ := H.obj r m hb
      unfold anext at h3
      simp only [grd_some] at h3
      cases k3 with
      | siter hs => exact hs
      | miter0 hs => exact hs
      | miter _ hs => exact hs
      | _ => rw [k1] at h3; simp at h3
    obtain ⟨μ', v', w', q1, q2, q3⟩ := next_sim (P := P) H type h3 hb
    refine ⟨μ', .value v', v', w', ?_, .inl rfl, q2, q3⟩
    rw [hms] at ex
    simp only [execOp, Sem.run_bind, ex, q1, Result.andThen_ok, Sem.run_pure]
  case entry it =>
    simp only [aeff, Option.bind_eq_some_iff, Option.some.injEq, Prod.mk.injEq, ARes.val.injEq] at ha
    obtain ⟨v1, h1, r, h2, v2, h3, rfl, rfl⟩ := ha
    have e := asIter_some h2; subst e
    obtain ⟨m, hb, ex⟩ := (ev_rel hg hf h1).inv_ptr
    have hms : m.s = 0 := by
      obtain ⟨o1, o2, k1, k2, k3⟩ := H.obj r m hb
      unfold aentry at h3
      cases k3 with
      | siter hs => exact hs
      | miter0 hs => exact hs
      | miter _ hs => exact hs
      | _ => rw [k1] at h3; simp at h3
    obtain ⟨v', q1, q2⟩ := entry_sim (P := P) H h3 hb
    refine ⟨μ, .value v', v', w, ?_, .inl rfl, q1, .refl H⟩
    rw [hms] at ex
    simp only [execOp, Sem.run_bind, ex, q2, Result.andThen_ok, Sem.run_pure]
  case call c =>
    simp only [aeff, Option.bind_eq_some_iff] at ha
    obtain ⟨args, h1, ha⟩ := ha
    have hr := evs_rel hg hf h1
    split at ha
    · rename_i b hcal
      simp only [Option.bind_eq_some_iff, Option.some.injEq, Prod.mk.injEq, ARes.val.injEq] at ha
      obtain ⟨⟨v1, h1'⟩, h2, rfl, rfl⟩ := ha
      obtain ⟨s, ⟨μ', v', w', q1, q2, q3⟩, hs⟩ := builtE_sim hE H (ts := c.argTypes) (args' := c.args.map a.eval) type h2 (by simpa using hr)
      refine ⟨μ', .value v', v', w', ?_, .inl rfl, q2, q3⟩
      simp only [execOp, resolve, hcal, Sem.run_bind, Sem.run_pure, Result.andThen_ok, invoke]
      rw [hs _]
      simp only [Sem.run_bind, q1, Result.andThen_ok, Sem.run_pure]
    · simp only [Option.bind_eq_some_iff] at ha
      obtain ⟨g, _, ha⟩ := ha
      split at ha <;> simp at ha
    · cases ha
  all_goals (simp only [aeff] at ha; cases ha)


/-- A call of a function. -/
theorem aeff_enter (hE : EnvOk P E) (hf : FRel μ f a.tmps) (H : HRel E base B μ h w) {o : Oper} {g : FuncId} {args : List Value} {h' : AHeap} (ha : aeff E base f o h = some (.enter g args, h')) (hfun : (E.func g).isSome = true) :
    ∃ args' : Array Value, h' = h ∧ VRels μ args args'.toList ∧ (execOp a.eval o).run P w = .ok (.enter g args') w := by
  have hg : GlobOk E μ := H.glob
  obtain ⟨dst, op, type, pos, after, guard⟩ := o
  cases op
  case call c =>
    simp only [aeff, Option.bind_eq_some_iff] at ha
    obtain ⟨as, h1, ha⟩ := ha
    have hr := evs_rel hg hf h1
    split at ha
    · simp only [Option.bind_eq_some_iff, Option.some.injEq, Prod.mk.injEq] at ha
      obtain ⟨_, _, h2, _⟩ := ha; cases h2
    · rename_i gx hcal
      simp only [Option.bind_eq_some_iff] at ha
      obtain ⟨gv, h2, ha⟩ := ha
      split at ha
      · rename_i gid first captured
        simp only [Option.some.injEq, Prod.mk.injEq, ARes.enter.injEq] at ha
        obtain ⟨⟨rfl, rfl⟩, rfl⟩ := ha
        have hgr := ev_rel hg hf h2
        generalize hq : a.eval gx = q at hgr
        cases hgr with
        | lit hh => simp [plain1] at hh
        | func q1 q2 q3 q4 =>
          rename_i first' captured'
          refine ⟨first' ++ c.args.map a.eval ++ captured', rfl, ?_, ?_⟩
          · simp only [Array.toList_append, Array.toList_map]
            exact ((VRels.of_arr q1 q2).append hr).append (VRels.of_arr q3 q4)
          · obtain ⟨fn, hfn⟩ := Option.isSome_iff_exists.1 hfun
            obtain ⟨f1, f2, f3⟩ := hE.func _ _ hfn
            have hb : fn.body.isNone = false := by cases hx : fn.body <;> simp_all
            simp only [execOp, resolve, hcal, Sem.run_bind, Sem.run_pure, Result.andThen_ok, hq, Deferred.ofValue, invoke, callFunc, run_program, f1, f3, hb, Bool.false_eq_true, if_false]
      · simp at ha
      · cases ha
    · cases ha
  all_goals (simp only [aeff] at ha; first | cases ha | (simp only [Option.bind_eq_some_iff, Option.some.injEq, Prod.mk.injEq, grd_some, reduceCtorEq, false_and, and_false, exists_false] at ha) | skip)
  case range t x =>
    obtain ⟨_, _, _, _, ha⟩ := ha
    split at ha
    · split at ha <;> simp at ha
    · cases ha

/-- A call of a loop's body. -/
theorem aeff_round (hf : FRel μ f a.tmps) (H : HRel E base B μ h w) {o : Oper} {l : Nat} {args : List Value} {h' : AHeap} (ha : aeff E base f o h = some (.round l args, h')) {st : LoopState} {p : Option Code} {f0 : AF} {ps : List Tmp} {asg body : Code}
    (hl : h.get l = some (.loop st p f0 ps asg body)) (hlen : ps.length = args.length) :
    ∃ (m : MT) (args' : List Value) (lo : Loop), h' = h ∧ μ l = some m ∧ w.heap[m.r]? = some (.loop lo) ∧ VRels μ args args' ∧
      (execOp a.eval o).run P w = .ok (.round m.r lo.fn ((ps.zip args').foldl (fun tmps (t, a) => tmps.setIfInBounds t a) lo.tmps) asg body) w ∧ FRel μ f0 lo.tmps := by
  have hg : GlobOk E μ := H.glob
  obtain ⟨dst, op, type, pos, after, guard⟩ := o
  cases op
  case call c =>
    simp only [aeff, Option.bind_eq_some_iff] at ha
    obtain ⟨as, h1, ha⟩ := ha
    have hr := evs_rel hg hf h1
    split at ha
    · simp only [Option.bind_eq_some_iff, Option.some.injEq, Prod.mk.injEq] at ha
      obtain ⟨_, _, h2, _⟩ := ha; cases h2
    · rename_i gx hcal
      simp only [Option.bind_eq_some_iff] at ha
      obtain ⟨gv, h2, ha⟩ := ha
      split at ha
      · simp at ha
      · rename_i l0 first captured
        simp only [Option.some.injEq, Prod.mk.injEq, ARes.round.injEq] at ha
        obtain ⟨⟨rfl, rfl⟩, rfl⟩ := ha
        have hgr := ev_rel hg hf h2
        generalize hq : a.eval gx = q at hgr
        cases hgr with
        | lit hh => simp [plain1] at hh
        | yield hb =>
          rename_i m
          obtain ⟨o1, o2, k1, k2, k3⟩ := H.obj l0 m hb
          rw [hl] at k1; cases k1
          cases k3 with
          | loop hfr =>
            rename_i fn tmps d
            have hgo := run_getObj_map (P := P) k2 (fun _ _ _ => by simp)
            refine ⟨m, c.args.toList.map a.eval, _, rfl, hb, k2, by simpa using hr, ?_, hfr⟩
            have hl2 := hr.length
            have hsz : (c.args.map a.eval).size = ps.toArray.size := by
              simp at hlen hl2 ⊢; omega
            simp only [execOp, resolve, hcal, Sem.run_bind, Sem.run_pure, Result.andThen_ok, hq, Deferred.ofValue, invoke, Instr.yield, Instr.getLoop, hgo]
            rw [if_neg (by simpa using hsz)]
            have ez : (ps.toArray.zip (#[] ++ c.args.map a.eval)) = (ps.zip (c.args.toList.map a.eval)).toArray := by
              apply Array.ext'; simp
            simp only [ez, Sem.run_pure, List.foldl_toArray]
      · cases ha
    · cases ha
  all_goals (simp only [aeff] at ha; first | cases ha | (simp only [Option.bind_eq_some_iff, Option.some.injEq, Prod.mk.injEq, grd_some, reduceCtorEq, false_and, and_false, exists_false] at ha) | skip)
  case range t x =>
    obtain ⟨_, _, _, _, ha⟩ := ha
    split at ha
    · split at ha <;> simp at ha
    · cases ha

end
end Go.M
