/-
  Reading lemmas for one block alone; what an operation looks at.
-/
import Derived.Test.YtmookciakjmjiaaMTop
namespace Go.M
open Go

def ObjAt (base : Nat) (μ : Emb) (h : AHeap) (w : World) (b : Nat) (m : MT) : Prop := ∃ o o', h.get b = some o ∧ w.heap[m.r]? = some o' ∧ ORel μ h base b m o o'

/-- What a readable block's cells are in the world. -/
theorem ObjAt.read {base : Nat} {μ : Emb} {h : AHeap} {w : World} {b : Nat} {m : MT} (H : ObjAt base μ h w b m) {cs : List Value} (hr : h.rd b = some cs) :
    ∃ c e fr, w.heap[m.r]? = some (.cells c e fr) ∧ c.size = m.n ∧ m.s + cs.length ≤ m.n ∧ (base ≤ b → fr = (0, 0)) ∧ ∀ (i : Nat) v, cs[i]? = some v → ∃ v', c[m.s + i]? = some v' ∧ VRel μ v v' := by
  obtain ⟨o, o', ho, ho', hrel⟩ := H
  obtain ⟨r, h1, h2, h3⟩ := rd_some hr
  obtain ⟨f, tip, thr, hg⟩ := cellsOf_some h3
  rw [hg] at ho; cases ho
  cases hrel with
  | cells hn hl hf hc => exact ⟨_, _, _, ho', hn, hl, hf, hc (by simp [hr])⟩

/-- The cells that are read, in the world. -/
theorem ObjAt.readCells {base : Nat} {μ : Emb} {h : AHeap} {w : World} {b o n : Nat} {m : MT} (H : ObjAt base μ h w b m) {l : List Value} (hr : readCells h b o n = some l) :
    l.length = n ∧ ∀ (i : Nat) v, l[i]? = some v → ∃ v', w.cell? ⟨m.r, m.s + o + i, none⟩ = some v' ∧ VRel μ v v' := by
  unfold M.readCells at hr
  simp only [Option.bind_eq_some_iff, takeN_some] at hr
  obtain ⟨cs, h1, h2, rfl⟩ := hr
  refine ⟨by simp at h2 ⊢; omega, fun i v hv => ?_⟩
  obtain ⟨c, e, fr, hw, hn, hl, hf, hc⟩ := H.read h1
  have hi : i < n := by
    have := (List.getElem?_eq_some_iff.1 hv).1
    simp at this; omega
  rw [List.getElem?_take, if_pos hi, List.getElem?_drop] at hv
  obtain ⟨v', k1, k2⟩ := hc _ v hv
  refine ⟨v', ?_, k2⟩
  simp only [World.cell?, hw]
  simpa [Nat.add_assoc] using k1

section
variable {P : Program} {E : Env} {μ : Emb} {f : AF} {a : Act} {base B : Nat} {h : AHeap} {w : World}

/-- The cells that are read, as a list. -/
theorem ObjAt.readL {b o n : Nat} {m : MT} (H : ObjAt base μ h w b m) {l : List Value} (hr : M.readCells h b o n = some l) :
    ∃ l', VRels μ l l' ∧ ∀ (i : Nat) v, l'[i]? = some v → w.cell? ⟨m.r, m.s + o + i, none⟩ = some v := by
  obtain ⟨h1, h2⟩ := H.readCells hr
  have key : ∀ (l : List Value) (k : Nat), (∀ (i : Nat) v, l[i]? = some v → ∃ v', w.cell? ⟨m.r, m.s + o + k + i, none⟩ = some v' ∧ VRel μ v v') → ∃ l', VRels μ l l' ∧ ∀ (i : Nat) v, l'[i]? = some v → w.cell? ⟨m.r, m.s + o + k + i, none⟩ = some v := by
    intro l
    induction l with
    | nil => intro k _; exact ⟨[], .nil, fun i v h => by simp at h⟩
    | cons v l ih =>
      intro k hl
      obtain ⟨v', q1, q2⟩ := hl 0 v rfl
      obtain ⟨l', r1, r2⟩ := ih (k + 1) fun i u hu => by
        obtain ⟨u', k1, k2⟩ := hl (i + 1) u (by simpa using hu)
        exact ⟨u', by rw [← k1]; congr 2; omega, k2⟩
      refine ⟨v' :: l', .cons q2 r1, fun i u hu => ?_⟩
      cases i with
      | zero => simp at hu; subst hu; simpa using q1
      | succ i =>
        simp at hu
        rw [← r2 i u hu]; congr 2; omega
  obtain ⟨l', r1, r2⟩ := key l 0 (by simpa using h2)
  exact ⟨l', r1, by simpa using r2⟩

theorem aread_loc (hE : EnvOk P E) (hf : FRel μ f a.tmps) (hg : GlobOk E μ) {o : Oper} {q : RQ} {v : Value} (hq : aread E f o = some q) (Hq : ∀ m, μ q.blk = some m → ∃ h, q.run h = some v ∧ ObjAt base μ h w q.blk m) :
    ∃ v', VRel μ v v' ∧ (execOp a.eval o).run P w = .ok (.value v') w := by
  obtain ⟨dst, op, type, pos, after, guard⟩ := o
  cases op
  case load t x =>
    simp only [aread, Option.bind_eq_some_iff, Option.some.injEq] at hq
    obtain ⟨u, h1, p, h2, ⟨agg, n⟩, h3, rfl⟩ := hq
    have e := asPtr_some h2; subst e
    obtain ⟨m, hb, ex⟩ := (ev_rel hg hf h1).inv_ptr
    obtain ⟨h, hv, H⟩ := Hq m hb
    simp only [RQ.run, Option.bind_eq_some_iff] at hv
    obtain ⟨l, h4, h5⟩ := hv
    obtain ⟨l', r1, r2⟩ := H.readL h4
    obtain ⟨v', q1, q2⟩ := fromCells_rel h5 r1
    refine ⟨v', q2, ?_⟩
    have hl : l'.length = n := by rw [← r1.length]; exact (H.readCells h4).1
    simp only [execOp, Instr.loadAt, Sem.run_bind, ex, Instr.sureAddr, Sem.run_pure, Result.andThen_ok]
    rw [run_loadVar hE h3 hl r2 q1]
    rfl
  case lookup t x ix ok =>
    simp only [aread, Option.bind_eq_some_iff] at hq
    obtain ⟨d, hd, mv, h1, k, h2, h3⟩ := hq
    split at h3
    · rename_i kt elem r
      simp only [Option.bind_eq_some_iff, grd_some, Bool.and_eq_true, Option.some.injEq] at h3
      obtain ⟨kd, hkd, z, hz, ⟨⟨s1, s2⟩, s3⟩, rfl⟩ := h3
      obtain ⟨m, hb, ex⟩ := (ev_rel hg hf h1).inv_map
      have ek := (ev_rel hg hf h2).inv_scalar s2
      obtain ⟨h, hv, H⟩ := Hq m hb
      simp only [RQ.run, Option.bind_eq_some_iff] at hv
      obtain ⟨⟨es, clock⟩, h4, h5⟩ := hv
      obtain ⟨o1, o2, k1, k2, k3⟩ := H
      have hm : h.get r = some (.map es clock) := by
        unfold mapAt at h4; split at h4 <;> simp at h4
        obtain ⟨rfl, rfl⟩ := h4; assumption
      simp only [RQ.blk] at k1 k3; rw [hm] at k1; cases k1
      cases k3 with
      | map hs =>
        rename_i es'
        have hgo := run_getObj_map (P := P) k2 (fun _ _ _ => by simp)
        simp only [lookIn, Option.bind_eq_some_iff, Option.some.injEq] at h5
        obtain ⟨fr, h6, h7⟩ := h5
        obtain ⟨fr', q1, q2, q3⟩ := findNow_rel hs h6
        have hzr := VRel.refl_plain μ s3
        have hfk : (Instr.findKey kt k es'.toList).run P w = .ok fr' w := by
          simp only [Instr.findKey, Sem.run_bind, g_under hE hkd w, Result.andThen_ok, q1, Sem.run_pure]
        have hck := g_checkKey (P := P) hE hkd s1 es'.isEmpty 9999 k w
        have fin : ∀ (u u' : Value) (b : Bool), VRel μ u u' → VRel μ (bif ok then .tuple #[u, .bool b] else u) (if ok = true then .tuple #[u', .bool b] else u') := by
          intro u u' b hu
          cases ok with
          | true => simp only [cond_true, if_true]; exact .tuple_of (by simpa using VRels.cons hu (.cons (.bool μ b) .nil))
          | false => simpa using hu
        cases fr with
        | none =>
          have e := q2 rfl; subst e
          simp only at h7; subst h7
          refine ⟨_, fin z z false hzr, ?_⟩
          simp only [execOp, Instr.lookup, Sem.run_bind, g_under hE hd w, Result.andThen_ok, ex, ek, hgo, Sem.run_pure, hck, hfk, g_zero hE hz w]
        | some jv =>
          obtain ⟨v', e, hr⟩ := q3 jv.1 jv.2 rfl
          subst e
          simp only at h7; subst h7
          refine ⟨_, fin jv.2 v' true hr, ?_⟩
          simp only [execOp, Instr.lookup, Sem.run_bind, g_under hE hd w, Result.andThen_ok, ex, ek, hgo, Sem.run_pure, hck, hfk]
    · cases h3
  case call c =>
    simp only [aread] at hq
    split at hq
    · rename_i t ts hcal htys
      simp only [Option.bind_eq_some_iff] at hq
      obtain ⟨d, hd, args, h1, h2⟩ := hq
      split at h2
      · rename_i kt et r rest
        simp only [Option.some.injEq] at h2; subst h2
        have hr := evs_rel hg hf h1
        cases hr' : c.args.toList.map a.eval with
        | nil => rw [hr'] at hr; cases hr
        | cons u us =>
          rw [hr'] at hr
          cases hr with
          | cons hx _ =>
            obtain ⟨m, hb, rfl⟩ := hx.inv_map
            obtain ⟨h, hv, H⟩ := Hq m hb
            simp only [RQ.run, Option.bind_eq_some_iff, Option.some.injEq] at hv
            obtain ⟨⟨es, clock⟩, h4, rfl⟩ := hv
            obtain ⟨o1, o2, k1, k2, k3⟩ := H
            have hm : h.get r = some (.map es clock) := by
              unfold mapAt at h4; split at h4 <;> simp at h4
              obtain ⟨rfl, rfl⟩ := h4; assumption
            simp only [RQ.blk] at k1 k3; rw [hm] at k1; cases k1
            cases k3 with
            | map hs =>
              rename_i es'
              have hgo := run_getObj_map (P := P) k2 (fun _ _ _ => by simp)
              have e0 : (c.args.map a.eval)[0]? = some (.map (some m.r)) := by
                have : (c.args.map a.eval).toList = .map (some m.r) :: us := by simpa using hr'
                rw [← Array.getElem?_toList, this]; rfl
              have e1 : c.argTypes[0]? = some t := by rw [← Array.getElem?_toList, htys]; rfl
              refine ⟨goInt es'.size, ?_, ?_⟩
              · have := hs.length
                simp only [Array.length_toList] at this
                rw [this]; exact .int μ _ _
              · simp only [execOp, resolve, hcal, Sem.run_bind, Sem.run_pure, Result.andThen_ok, invoke, builtin, Builtin.len_, e0, e1, g_under hE hd w, hgo]
      · cases h2
    · cases hq
  all_goals (simp only [aread] at hq; cases hq)


/-! ### What an operation looks at -/
def Same (o : Oper) (f f' : AF) : Prop := ∀ t, Operand.tmp t ∈ o.op.operands → f.get t = f'.get t

theorem ev_same {f f' : AF} {x : Operand} (h : ∀ t, x = .tmp t → f.get t = f'.get t) : ev E f x = ev E f' x := by
  cases x <;> simp only [ev]
  rw [h _ rfl]
theorem evs_same {f f' : AF} : ∀ {xs : List Operand}, (∀ t, Operand.tmp t ∈ xs → f.get t = f'.get t) → evs E f xs = evs E f' xs
  | [], _ => rfl
  | x :: l, h => by
    simp only [evs]
    rw [ev_same (fun t e => h t (by rw [e]; exact List.mem_cons_self)), evs_same fun t ht => h t (List.mem_cons_of_mem _ ht)]
theorem evParts_same {f f' : AF} : ∀ {xs : List (Nat × Operand)}, (∀ t, Operand.tmp t ∈ xs.map (·.2) → f.get t = f'.get t) → evParts E f xs = evParts E f' xs
  | [], _ => rfl
  | (i, x) :: l, h => by
    simp only [evParts]
    rw [ev_same (fun t e => h t (by rw [e]; exact List.mem_cons_self)), evParts_same fun t ht => h t (List.mem_cons_of_mem _ ht)]
theorem evOpt_same {f f' : AF} {x : Option Operand} (h : ∀ t, x = some (.tmp t) → f.get t = f'.get t) : evOpt E f x = evOpt E f' x := by
  cases x <;> simp only [evOpt]
  rw [ev_same fun t e => h t (by rw [e])]

theorem apure_same {f f' : AF} {o : Oper} (h : Same o f f') : apure E f o = apure E f' o := by
  obtain ⟨dst, op, type, pos, after, guard⟩ := o
  unfold Same at h
  cases op <;> simp only [Op.operands] at h <;> simp only [apure]
  case call c =>
    have h2 : ∀ t, Operand.tmp t ∈ c.args.toList → f.get t = f'.get t := fun t ht => h t (by simp [Call.operands] at ht ⊢; exact .inr ht)
    rw [evs_same h2]
  case makeFunc fn first captured =>
    rw [evs_same (xs := first.toList) fun t ht => h t (by simp at ht ⊢; exact .inl ht), evs_same (xs := captured.toList) fun t ht => h t (by simp at ht ⊢; exact .inr ht)]
  case build t ps => rw [evParts_same fun t ht => h t (by simpa using ht)]
  case slice t x lo hi mx =>
    rw [ev_same fun t e => h t (by simp [e]), evOpt_same (x := lo) fun t e => h t (by simp [e]), evOpt_same (x := hi) fun t e => h t (by simp [e]), evOpt_same (x := mx) fun t e => h t (by simp [e])]
  case pick c x y => rw [ev_same (x := c) fun t e => h t (by simp [e]), ev_same (x := x) fun t e => h t (by simp [e]), ev_same (x := y) fun t e => h t (by simp [e])]
  case binOp op t x y z => rw [ev_same (x := x) fun t e => h t (by simp [e]), ev_same (x := y) fun t e => h t (by simp [e])]
  case indexAddr t x y => rw [ev_same (x := x) fun t e => h t (by simp [e]), ev_same (x := y) fun t e => h t (by simp [e])]
  case index t x y => rw [ev_same (x := x) fun t e => h t (by simp [e]), ev_same (x := y) fun t e => h t (by simp [e])]
  case lookup t x y k => rw [ev_same (x := x) fun t e => h t (by simp [e]), ev_same (x := y) fun t e => h t (by simp [e])]
  all_goals first | rfl | (rw [ev_same fun t e => h t (by simp [e])])

theorem aread_same {f f' : AF} {o : Oper} (h : Same o f f') : aread E f o = aread E f' o := by
  obtain ⟨dst, op, type, pos, after, guard⟩ := o
  unfold Same at h
  cases op <;> simp only [Op.operands] at h <;> simp only [aread]
  case call c =>
    have h2 : ∀ t, Operand.tmp t ∈ c.args.toList → f.get t = f'.get t := fun t ht => h t (by simp [Call.operands] at ht ⊢; exact .inr ht)
    rw [evs_same h2]
  case lookup t x y k => rw [ev_same (x := x) fun t e => h t (by simp [e]), ev_same (x := y) fun t e => h t (by simp [e])]
  all_goals first | rfl | (rw [ev_same fun t e => h t (by simp [e])])

theorem aalloc_same {f f' : AF} {o : Oper} (h : Same o f f') : aalloc E f o = aalloc E f' o := by
  obtain ⟨dst, op, type, pos, after, guard⟩ := o
  unfold Same at h
  cases op <;> simp only [Op.operands] at h <;> simp only [aalloc]
  case buildSlice t n ps => rw [evParts_same fun t ht => h t (by simpa using ht)]
  case makeMap t r => cases r <;> rfl
  case makeSlice t x y => rw [ev_same (x := x) fun t e => h t (by simp [e]), ev_same (x := y) fun t e => h t (by simp [e])]
  all_goals first | rfl | (rw [ev_same fun t e => h t (by simp [e])])

theorem aeff_same {f f' : AF} {o : Oper} (h : Same o f f') (k : AHeap) : aeff E base f o k = aeff E base f' o k := by
  obtain ⟨dst, op, type, pos, after, guard⟩ := o
  unfold Same at h
  cases op <;> simp only [Op.operands] at h <;> simp only [aeff]
  case call c =>
    have h2 : ∀ t, Operand.tmp t ∈ c.args.toList → f.get t = f'.get t := fun t ht => h t (by simp [Call.operands] at ht ⊢; exact .inr ht)
    rw [evs_same h2]
    cases hc : c.callee with
    | value g =>
      have h3 : ∀ t, g = .tmp t → f.get t = f'.get t := fun t ht => h t (by simp [Call.operands, hc, ht])
      simp only
      rw [ev_same h3]
    | builtin b => rfl
    | invoke r m => rfl
  case store t x y => rw [ev_same (x := x) fun t e => h t (by simp [e]), ev_same (x := y) fun t e => h t (by simp [e])]
  case mapUpdate t x y z => rw [ev_same (x := x) fun t e => h t (by simp [e]), ev_same (x := y) fun t e => h t (by simp [e]), ev_same (x := z) fun t e => h t (by simp [e])]
  all_goals first | rfl | (rw [ev_same fun t e => h t (by simp [e])])

theorem runOp_same {f f' : AF} {o : Oper} (h : Same o f f') (k : AHeap) (cf : CallF) (rf : RoundF) : runOp E base cf rf o f k = runOp E base cf rf o f' k := by
  unfold runOp
  rw [apure_same h, aread_same h, aalloc_same h, aeff_same h]

/-- The slots of a list alone. -/
def AF.only (f : AF) (l : List Nat) : AF := ⟨l.foldl (fun tr t => tr.set t (f.get t)) .nil, f.n⟩
theorem AF.get_only (f : AF) (l : List Nat) (t : Nat) : (f.only l).get t = if t ∈ l then f.get t else undef := by
  have key : ∀ (l : List Nat) (tr : Tr Value), (∀ t, tr.get t = none ∨ tr.get t = some (f.get t)) → ∀ t, (l.foldl (fun tr t => tr.set t (f.get t)) tr).get t = if t ∈ l then some (f.get t) else tr.get t := by
    intro l
    induction l with
    | nil => intro tr _ t; simp
    | cons x l ih =>
      intro tr htr t
      simp only [List.foldl_cons]
      have h0 : ∀ t, (tr.set x (f.get x)).get t = none ∨ (tr.set x (f.get x)).get t = some (f.get t) := fun t => by
        rw [Tr.get_set]
        by_cases e : t = x
        · subst e; rw [if_pos rfl]; exact .inr rfl
        · rw [if_neg e]; exact htr t
      rw [ih _ h0 t, Tr.get_set]
      by_cases h1 : t ∈ l
      · simp [h1]
      · by_cases h2 : t = x
        · subst h2; simp
        · simp [h1, h2]
  have e : (f.only l).get t = (match (l.foldl (fun (tr : Tr Value) t => tr.set t (f.get t)) Tr.nil).get t with | some v => v | none => undef) := rfl
  rw [e, key l .nil (fun _ => .inl rfl) t, Tr.get_nil]
  by_cases ht : t ∈ l
  · rw [if_pos ht, if_pos ht]
  · rw [if_neg ht, if_neg ht]

def onlyT (tmps : Array Value) (l : List Nat) : Array Value := (Array.range tmps.size).map fun t => if t ∈ l then tmps.getD t undef else undef
theorem onlyT_size (tmps : Array Value) (l : List Nat) : (onlyT tmps l).size = tmps.size := by simp [onlyT]
theorem onlyT_get (tmps : Array Value) (l : List Nat) (t : Nat) : (onlyT tmps l).getD t undef = if t ∈ l then tmps.getD t undef else undef := by
  by_cases ht : t < tmps.size
  · simp [onlyT, ht]
  · simp [onlyT, ht]
def onlyA (a : Act) (l : List Nat) : Act := { a with tmps := onlyT a.tmps l }

theorem only_rel {f : AF} {a : Act} {l : List Nat} (hn : a.tmps.size = f.n) (h : ∀ t ∈ l, VRel μ (f.get t) (a.tmps.getD t undef)) : FRel μ (f.only l) (onlyA a l).tmps := by
  refine ⟨?_, fun t => ?_⟩
  · show f.n = (onlyT a.tmps l).size
    rw [onlyT_size]; exact hn.symm
  · show VRel μ _ ((onlyT a.tmps l).getD t undef)
    rw [AF.get_only, onlyT_get]
    split
    · exact h t ‹_›
    · exact .undef μ

/-- What an operation looks at, in the text. -/
theorem mem_looks_tmp {ops : List Oper} {o : Oper} {t : Nat} (h : Operand.tmp t ∈ o.op.operands) : t ∈ looks ops o := by
  unfold looks
  exact List.mem_append_left _ (List.mem_filterMap.2 ⟨.tmp t, by simpa using h, rfl⟩)
theorem mem_looks_guard {ops : List Oper} {o : Oper} {g : Nat} {want : Bool} {t : Nat} (h : o.guard = some (g, want)) (h2 : (ops[g]?).bind (·.dst) = some t) : t ∈ looks ops o := by
  unfold looks
  rw [h]; simp [h2]

theorem only_same (ops : List Oper) (o : Oper) (f : AF) : Same o (f.only (looks ops o)) f := fun t ht => by
  rw [AF.get_only, if_pos (mem_looks_tmp ht)]
theorem only_wanted (ops : List Oper) (o : Oper) (f : AF) : wanted ops o (f.only (looks ops o)) = wanted ops o f := by
  unfold wanted
  cases hg : o.guard with
  | none => rfl
  | some gw =>
    obtain ⟨g, want⟩ := gw
    simp only
    cases hd : (ops[g]?).bind (·.dst) with
    | none => rfl
    | some t =>
      simp only
      rw [AF.get_only, if_pos (mem_looks_guard hg hd)]
theorem only_eval {ops : List Oper} {o : Oper} {a : Act} {x : Operand} (h : x ∈ o.op.operands) : a.eval x = (onlyA a (looks ops o)).eval x := by
  cases x with
  | tmp t =>
    have := onlyT_get a.tmps (looks ops o) t
    rw [if_pos (mem_looks_tmp h)] at this
    show a.tmps.getD t undef = (onlyT a.tmps (looks ops o)).getD t undef
    exact this.symm
  | _ => rfl
theorem only_exec {ops : List Oper} {o : Oper} {a : Act} (hs : ∀ cs b, o.op ≠ .select cs b) : execOp a.eval o = execOp (onlyA a (looks ops o)).eval o :=
  execOp_congr o hs fun x hx => only_eval hx
theorem only_yielded {ops : Array Oper} {o : Oper} {a : Act} : Region.wanted o (yielded ops (onlyA a (looks ops.toList o)).tmps) = Region.wanted o (yielded ops a.tmps) := by
  unfold Region.wanted
  cases hg : o.guard with
  | none => rfl
  | some gw =>
    obtain ⟨g, want⟩ := gw
    simp only
    congr 1
    unfold yielded
    cases hd : (ops[g]?).bind (·.dst) with
    | none => simp
    | some t =>
      simp only [Option.bind_some]
      have hm : t ∈ looks ops.toList o := mem_looks_guard hg (by simpa using hd)
      show (match (onlyT a.tmps (looks ops.toList o))[t]? with | some (.bool b) => some b | _ => none) = _
      by_cases ht : t < a.tmps.size
      · have h1 : (onlyT a.tmps (looks ops.toList o))[t]? = a.tmps[t]? := by
          simp [onlyT, ht, hm]
        rw [h1]
        rfl
      · have e1 : a.tmps[t]? = none := Array.getElem?_eq_none (Nat.le_of_not_lt ht)
        have e2 : (onlyT a.tmps (looks ops.toList o))[t]? = none := Array.getElem?_eq_none (by rw [onlyT_size]; exact Nat.le_of_not_lt ht)
        rw [e1, e2]

theorem noSelect {cf : CallF} {rf : RoundF} {o : Oper} {r : OpR} {k : AHeap} (h : runOp E base cf rf o f k = some r) : ∀ cs b, o.op ≠ .select cs b := by
  intro cs b hc
  unfold runOp at h
  simp only [apure, aread, aalloc, aeff, hc] at h
  cases h

end
end Go.M
