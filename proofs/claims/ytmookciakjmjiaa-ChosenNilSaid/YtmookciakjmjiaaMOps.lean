import Derived.Test.YtmookciakjmjiaaMPure3
namespace Go.M
open Go

/-- The package variables that are told lie where they are. -/
def GlobOk (E : Env) (μ : Emb) : Prop := ∀ g, E.glob g = true → ∃ m, μ g = some m ∧ m.r = g ∧ m.s = 0

section
variable {P : Program} {E : Env} {μ : Emb} {f : AF} {a : Act}

theorem ev_rel (hg : GlobOk E μ) (hf : FRel μ f a.tmps) {x : Operand} {v : Value} (h : ev E f x = some v) : VRel μ v (a.eval x) := by
  cases x with
  | tmp t => simp only [ev, Option.some.injEq] at h; subst h; exact hf.get t
  | const c => simp only [ev, grd_some, Option.some.injEq] at h; obtain ⟨h1, rfl⟩ := h; exact .refl_plain μ h1
  | global g =>
    simp only [ev, grd_some, Option.some.injEq] at h
    obtain ⟨h1, rfl⟩ := h
    obtain ⟨m, h2, h3, h4⟩ := hg g h1
    have := VRel.ptr (o := 0) h2
    rw [h3, h4] at this
    exact this
  | func g => simp only [ev, Option.some.injEq] at h; subst h; exact .func rfl (fun i v v' h => by simp at h) rfl (fun i v v' h => by simp at h)

theorem evs_rel (hg : GlobOk E μ) (hf : FRel μ f a.tmps) : ∀ {xs : List Operand} {vs : List Value}, evs E f xs = some vs → VRels μ vs (xs.map a.eval)
  | [], vs, h => by simp only [evs, Option.some.injEq] at h; subst h; exact .nil
  | x :: xs, vs, h => by
    simp only [evs, Option.bind_eq_some_iff, Option.some.injEq] at h
    obtain ⟨v, h1, l, h2, rfl⟩ := h
    exact .cons (ev_rel hg hf h1) (evs_rel hg hf h2)

theorem evParts_rel (hg : GlobOk E μ) (hf : FRel μ f a.tmps) : ∀ {xs : List (Nat × Operand)} {vs : List (Nat × Value)}, evParts E f xs = some vs → PRel μ vs (xs.map fun p => (p.1, a.eval p.2))
  | [], vs, h => by simp only [evParts, Option.some.injEq] at h; subst h; exact ⟨rfl, fun k q h => by simp at h⟩
  | (i, x) :: xs, vs, h => by
    simp only [evParts, Option.bind_eq_some_iff, Option.some.injEq] at h
    obtain ⟨v, h1, l, h2, rfl⟩ := h
    obtain ⟨e1, e2⟩ := evParts_rel hg hf h2
    refine ⟨by simpa using e1, fun k q hk => ?_⟩
    cases k with
    | zero => simp at hk; subst hk; exact ⟨_, rfl, ev_rel hg hf h1⟩
    | succ k => simp at hk; obtain ⟨v', q1, q2⟩ := e2 k q hk; exact ⟨v', by simpa using q1, q2⟩

theorem evOpt_rel (hg : GlobOk E μ) (hf : FRel μ f a.tmps) {x : Option Operand} {v : Option Value} (h : evOpt E f x = some v) : ORelV μ v (x.map a.eval) := by
  cases x with
  | none => simp only [evOpt, Option.some.injEq] at h; subst h; trivial
  | some x =>
    simp only [evOpt, Option.bind_eq_some_iff, Option.some.injEq] at h
    obtain ⟨u, h1, rfl⟩ := h
    exact ev_rel hg hf h1

theorem asPtr_some {v : Value} {p : Nat × Nat} (h : asPtr v = some p) : v = .pointer (some ⟨p.1, p.2, none⟩) := by
  unfold asPtr at h; split at h <;> simp at h; subst h; rfl
theorem asI_some {v : Value} {n : Int} (h : asI v = some n) : ∃ k, v = .int k n := by
  unfold asI at h; split at h <;> simp at h; subst h; exact ⟨_, rfl⟩
theorem asB_some {v : Value} {n : Bool} (h : asB v = some n) : v = .bool n := by
  unfold asB at h; split at h <;> simp at h; subst h; rfl
theorem asA_some {v : Value} {n : List Value} (h : asA v = some n) : ∃ cs : Array Value, v = .agg cs ∧ n = cs.toList := by
  unfold asA at h; split at h <;> simp at h; subst h; exact ⟨_, rfl, rfl⟩

theorem unary_scalar {op : UnOp} {a v : Value} (h : pureV (Op.unary op a) = some v) (ha : scalar a = true) : scalar v = true := by
  cases op <;> cases a <;> simp [scalar] at ha <;> simp only [Op.unary, Op.intArith, Op.intBits, pureV, stuck, Pure.pure, Option.some.injEq] at h <;> first | (subst h; rfl) | cases h

theorem g_checkKey (hE : EnvOk P E) {kt : TypeId} {kd : TypeDesc} (h : E.desc kt = some kd) (hs : scalarT kd = true) (e : Bool) (n : Nat) (k : Value) : Gives P (Instr.checkKey e (n + 1) kt k) () := by
  intro w
  cases kd <;> simp [scalarT] at hs <;> simp [Instr.checkKey, g_under hE h w]

set_option maxHeartbeats 1000000 in
/-- An operation that looks at no memory. -/
theorem apure_sim (hE : EnvOk P E) (hg : GlobOk E μ) (hf : FRel μ f a.tmps) {o : Oper} {v : Value} (h : apure E f o = some v) : ∃ v', VRel μ v v' ∧ Gives P (execOp a.eval o) (.value v') := by
  obtain ⟨dst, op, type, pos, after, guard⟩ := o
  cases op
  case move x => simp only [apure] at h; exact ⟨_, ev_rel hg hf h, fun w => rfl⟩
  case assign x => simp only [apure] at h; exact ⟨_, ev_rel hg hf h, fun w => rfl⟩
  case pick c x y =>
    simp only [apure, Option.bind_eq_some_iff] at h
    obtain ⟨cv, h1, b, h2, h3⟩ := h
    have e := asB_some h2; subst e
    have hc := (ev_rel hg hf h1).inv_scalar rfl
    cases b with
    | true => exact ⟨_, ev_rel hg hf h3, fun w => by simp [execOp, hc, asBool]⟩
    | false => exact ⟨_, ev_rel hg hf h3, fun w => by simp [execOp, hc, asBool]⟩
  case build t parts =>
    simp only [apure, Option.bind_eq_some_iff] at h
    obtain ⟨ps, h1, h2⟩ := h
    obtain ⟨v', q1, q2⟩ := g_build hE h2 (evParts_rel hg hf h1)
    refine ⟨v', q1, fun w => ?_⟩
    have e : (parts.map fun (i, x) => (i, a.eval x)) = (parts.toList.map fun p => (p.1, a.eval p.2)).toArray := by
      apply Array.ext'; simp
    simp only [execOp, Sem.run_bind]
    rw [e, q2 w]; rfl
  case nilCheck x =>
    simp only [apure, Option.bind_eq_some_iff] at h
    obtain ⟨u, h1, h2⟩ := h
    have hr := ev_rel hg hf h1
    generalize hq : a.eval x = q at hr
    unfold nilCheckV at h2
    split at h2
    · simp only [Option.some.injEq] at h2; subst h2
      cases hr with
      | lit hh => simp [plain1] at hh
      | ptr hb => exact ⟨_, .ptr hb, fun w => by simp [execOp, hq]⟩
    · simp only [Option.some.injEq] at h2; subst h2
      cases hr with
      | lit hh => simp [plain1] at hh
      | func h1 h2 h3 h4 => exact ⟨_, .func h1 h2 h3 h4, fun w => by simp [execOp, hq]⟩
    · simp only [Option.some.injEq] at h2; subst h2
      cases hr with
      | lit hh => simp [plain1] at hh
      | yield hb => exact ⟨_, .yield hb, fun w => by simp [execOp, hq]⟩
    · cases h2
  case binOp op t x y yt =>
    simp only [apure, Option.bind_eq_some_iff] at h
    obtain ⟨u, h1, u2, h2, h3⟩ := h
    obtain ⟨v', q1, q2⟩ := g_bin hE h3 (ev_rel hg hf h1) (ev_rel hg hf h2)
    refine ⟨v', q1, fun w => ?_⟩
    simp only [execOp]
    rw [Sem.run_bind, q2 w]; rfl
  case unOp op t x =>
    simp only [apure, Option.bind_eq_some_iff, grd_some] at h
    obtain ⟨u, h1, hs, h2⟩ := h
    have e := (ev_rel hg hf h1).inv_scalar hs
    refine ⟨v, .of_scalar μ (unary_scalar h2 hs), fun w => ?_⟩
    simp only [execOp, Sem.run_bind, e, gives_pureV (P := P) h2 w, Result.andThen_ok, Sem.run_pure]
  case convert s d x =>
    simp only [apure, Option.bind_eq_some_iff] at h
    obtain ⟨u, h1, h2⟩ := h
    obtain ⟨v', q1, q2⟩ := g_conv hE h2 (ev_rel hg hf h1)
    refine ⟨v', q1, fun w => ?_⟩
    simp only [execOp, Sem.run_bind, q2 w, Result.andThen_ok, Sem.run_pure]
  case makeInterface t x =>
    simp only [apure, Option.bind_eq_some_iff] at h
    obtain ⟨d, hd, u, h1, h2⟩ := h
    refine ⟨.iface t (a.eval x), ?_, fun w => ?_⟩
    · split at h2
      · cases h2
      · simp only [Option.some.injEq] at h2; subst h2; exact .iface (ev_rel hg hf h1)
    · simp only [execOp, Sem.run_bind, Instr.makeInterface, g_under hE hd w, Result.andThen_ok]
      split at h2
      · cases h2
      · cases d <;> first | rfl | (exfalso; simp at *)
  case makeFunc fn first captured =>
    simp only [apure] at h
    split at h
    · simp only [Option.bind_eq_some_iff, Option.some.injEq] at h
      obtain ⟨x, h1, y, h2, rfl⟩ := h
      have r1 := evs_rel hg hf h1
      have r2 := evs_rel hg hf h2
      refine ⟨.func (.func _) (first.map a.eval) (captured.map a.eval), .func ?_ ?_ ?_ ?_, fun w => ?_⟩
      · have := r1.length; simpa using this
      · intro i u u' hu hu'
        obtain ⟨u2, k1, k2⟩ := r1.get (i := i) (v := u) (by simpa using hu)
        have : u' = u2 := by
          simp only [Array.getElem?_map] at hu'
          simp only [List.getElem?_map, Array.getElem?_toList] at k1
          rw [hu'] at k1; exact Option.some.inj k1
        subst this; exact k2
      · have := r2.length; simpa using this
      · intro i u u' hu hu'
        obtain ⟨u2, k1, k2⟩ := r2.get (i := i) (v := u) (by simpa using hu)
        have : u' = u2 := by
          simp only [Array.getElem?_map] at hu'
          simp only [List.getElem?_map, Array.getElem?_toList] at k1
          rw [hu'] at k1; exact Option.some.inj k1
        subst this; exact k2
      · simp [execOp, Instr.makeFunc]
    · cases h
  case slice t x lo hi mx =>
    simp only [apure, Option.bind_eq_some_iff] at h
    obtain ⟨u, h1, l, h2, hh, h3, m, h4, h5⟩ := h
    obtain ⟨v', q1, q2⟩ := g_sliceAt hE h5 (ev_rel hg hf h1) (evOpt_rel hg hf h2) (evOpt_rel hg hf h3) (evOpt_rel hg hf h4)
    refine ⟨v', q1, fun w => ?_⟩
    simp only [execOp, Sem.run_bind, q2 w, Result.andThen_ok, Sem.run_pure]
  case fieldAddr s x fd =>
    simp only [apure, Option.bind_eq_some_iff] at h
    obtain ⟨d, hd, u, h1, p, h2, h3⟩ := h
    have e := asPtr_some h2; subst e
    obtain ⟨m, hb, ex⟩ := (ev_rel hg hf h1).inv_ptr
    split at h3
    · simp only [Option.bind_eq_some_iff, grd_some, blt_iff, Option.some.injEq] at h3
      obtain ⟨fl, h4, n, h5, h6, rfl⟩ := h3
      refine ⟨.pointer (some ⟨m.r, m.s + (p.2 + fl.offset), none⟩), .ptr hb, fun w => ?_⟩
      have hn : n ≠ 0 := by omega
      simp [execOp, Instr.fieldAt, g_under hE hd w, h4, ex, Instr.sureAddr, fieldPlace, g_size hE h5 w, hn, addr_add, Nat.add_assoc]
    · cases h3
  case field t x fd =>
    simp only [apure, Option.bind_eq_some_iff] at h
    obtain ⟨d, hd, u, h1, cs, h2, h3⟩ := h
    obtain ⟨ca, e, rfl⟩ := asA_some h2; subst e
    obtain ⟨cs', ex, hr⟩ := (ev_rel hg hf h1).inv_agg
    split at h3
    · simp only [Option.bind_eq_some_iff] at h3
      obtain ⟨fl, h4, h5⟩ := h3
      obtain ⟨v', q1, q2⟩ := g_part hE (μ := μ) h5 hr
      have e : cs'.toList.toArray = cs' := by simp
      rw [e] at q2
      refine ⟨v', q1, fun w => ?_⟩
      simp only [execOp, Instr.field, Sem.run_bind, g_under hE hd w, Result.andThen_ok, h4, ex, asAgg, Sem.run_pure, q2 w]
    · cases h3
  case indexAddr t x ix =>
    simp only [apure, Option.bind_eq_some_iff] at h
    obtain ⟨u, h1, u2, h2, h3⟩ := h
    obtain ⟨v', q1, q2⟩ := g_indexAddr hE h3 (ev_rel hg hf h1) (ev_rel hg hf h2)
    refine ⟨v', q1, fun w => ?_⟩
    simp only [execOp, Sem.run_bind, q2 w, Result.andThen_ok, Sem.run_pure]
  case index t x ix =>
    simp only [apure, Option.bind_eq_some_iff] at h
    obtain ⟨u, h1, u2, h2, h3⟩ := h
    obtain ⟨v', q1, q2⟩ := g_index hE h3 (ev_rel hg hf h1) (ev_rel hg hf h2)
    refine ⟨v', q1, fun w => ?_⟩
    simp only [execOp, Sem.run_bind, q2 w, Result.andThen_ok, Sem.run_pure]
  case extract t ix =>
    simp only [apure, Option.bind_eq_some_iff] at h
    obtain ⟨u, h1, h2⟩ := h
    split at h2
    · obtain ⟨vs', ex, hr⟩ := (ev_rel hg hf h1).inv_tuple
      obtain ⟨v', k1, k2⟩ := hr.get h2
      refine ⟨v', k2, fun w => ?_⟩
      have k1' : vs'[ix]? = some v' := by simpa using k1
      simp [execOp, Instr.extract, ex, k1']
    · cases h2
  case lookup t x ix ok =>
    simp only [apure, Option.bind_eq_some_iff] at h
    obtain ⟨d, hd, m, h1, k, h2, h3⟩ := h
    split at h3
    · rename_i kt elem
      simp only [Option.bind_eq_some_iff, grd_some, Bool.and_eq_true, Option.some.injEq] at h3
      obtain ⟨kd, hkd, z, hz, ⟨⟨s1, s2⟩, s3⟩, rfl⟩ := h3
      have e1 : a.eval x = .map none := by
        have := ev_rel hg hf h1
        generalize a.eval x = q at this
        cases this; rfl
      have e2 := (ev_rel hg hf h2).inv_scalar s2
      have hchk : ∀ w, (Instr.checkKey true 10000 kt k).run P w = .ok () w := fun w => g_checkKey hE hkd s1 true 9999 k w
      have hfk : ∀ w, (Instr.findKey kt k []).run P w = .ok none w := by
        intro w
        simp [Instr.findKey, g_under hE hkd w, Instr.findNow]
      refine ⟨(if ok then .tuple #[z, .bool false] else z), ?_, fun w => ?_⟩
      · have hzr := VRel.refl_plain μ s3
        cases ok with
        | true => simp only [cond_true, if_true]; exact .tuple_of (by simpa using VRels.cons hzr (.cons (.bool μ false) .nil))
        | false => simpa using hzr
      · simp [execOp, Instr.lookup, g_under hE hd w, e1, e2, hchk w, hfk w, g_zero hE hz w]
    · cases h3
  case call c =>
    simp only [apure] at h
    split at h
    · rename_i b hb
      simp only [Option.bind_eq_some_iff] at h
      obtain ⟨args, h1, h2⟩ := h
      have hr := evs_rel hg hf h1
      obtain ⟨v', q1, q2⟩ := g_builtP hE (ts := c.argTypes) (args' := c.args.map a.eval) type (c.args.map fun | .const _ => true | _ => false) h2 (by simpa using hr)
      refine ⟨v', q1, fun w => ?_⟩
      simp only [execOp, resolve, hb, Sem.run_bind, Sem.run_pure, Result.andThen_ok, invoke]
      exact q2 w
    · cases h
  all_goals (simp only [apure] at h; cases h)

end
end Go.M
