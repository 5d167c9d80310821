/-
  The canonical run of a region that draws its order, operation by operation.
-/
import Derived.Test.YtmookciakjmjiaaMLoc
namespace Go.M
open Go
section
variable {E : Env} {base : Nat} {cf : CallF} {rf : RoundF}

theorem runOp_cases {o : Oper} {f : AF} {h : AHeap} {r : OpR} (hr : runOp E base cf rf o f h = some r) :
    (apure E f o = some r.v ∧ r.h = h ∧ r.log = .pure) ∨
    (∃ q, aread E f o = some q ∧ q.run h = some r.v ∧ r.h = h ∧ r.log = .rd q h) ∨
    (∃ md hd, aalloc E f o = some (md, hd) ∧ r.v = hd.val h.size ∧ r.h = h.push (md.obj h.size) ∧ r.log = .alloc h r.h) ∨
    r.log = .eff h r.h := by
  unfold runOp at hr
  split at hr
  · simp only [Option.some.injEq] at hr; subst hr
    exact .inl ⟨by assumption, rfl, rfl⟩
  · split at hr
    · simp only [Option.bind_eq_some_iff, Option.some.injEq] at hr
      obtain ⟨v, hv, rfl⟩ := hr
      exact .inr (.inl ⟨_, by assumption, hv, rfl, rfl⟩)
    · split at hr
      · simp only [Option.some.injEq] at hr; subst hr
        exact .inr (.inr (.inl ⟨_, _, by assumption, rfl, rfl, rfl⟩))
      · split at hr
        · simp only [Option.some.injEq] at hr; subst hr
          rename_i he
          refine .inr (.inr (.inr rfl))
        · simp only [Option.bind_eq_some_iff, Option.some.injEq] at hr
          obtain ⟨x, _, rfl⟩ := hr
          exact .inr (.inr (.inr rfl))
        · simp only [Option.bind_eq_some_iff, Option.some.injEq] at hr
          obtain ⟨x, _, rfl⟩ := hr
          exact .inr (.inr (.inr rfl))
        · cases hr

/-- The canonical run. -/
structure Trace (E : Env) (base : Nat) (cf : CallF) (rf : RoundF) (all ops : List Oper) (fs : Nat → AF) (hs : Nat → AHeap) (vs : Nat → Value) (lg : Nat → LogE) : Prop where
  put : ∀ j o, ops[j]? = some o → fs (j + 1) = (fs j).put o.dst (vs j)
  run : ∀ j o, ops[j]? = some o → (wanted all o (fs j) = true ∧ runOp E base cf rf o (fs j) (hs j) = some ⟨vs j, hs (j + 1), lg j⟩) ∨ (wanted all o (fs j) = false ∧ vs j = undef ∧ hs (j + 1) = hs j ∧ lg j = .pure)

theorem trace_of {all : List Oper} : ∀ {ops : List Oper} {f : AF} {h : AHeap} {f' : AF} {h' : AHeap} {logs : List LogE}, aopsL E base cf rf all ops f h = some (f', h', logs) →
    ∃ fs hs vs lg, Trace E base cf rf all ops fs hs vs lg ∧ fs 0 = f ∧ hs 0 = h ∧ fs ops.length = f' ∧ hs ops.length = h' ∧ ∀ j, j < ops.length → logs[j]? = some (lg j)
  | [], f, h, f', h', logs, hr => by
    simp only [aopsL, Option.some.injEq, Prod.mk.injEq] at hr
    obtain ⟨rfl, rfl, rfl⟩ := hr
    exact ⟨fun _ => f, fun _ => h, fun _ => undef, fun _ => .pure, ⟨fun j o ho => by simp at ho, fun j o ho => by simp at ho⟩, rfl, rfl, rfl, rfl, fun j hj => by simp at hj⟩
  | o :: ops, f, h, f', h', logs, hr => by
    simp only [aopsL] at hr
    have fin : ∀ (v : Value) (h1 : AHeap) (l1 : LogE) (f1 : AF) (h2 : AHeap) (l2 : List LogE), aopsL E base cf rf all ops (f.put o.dst v) h1 = some (f1, h2, l2) →
        ((wanted all o f = true ∧ runOp E base cf rf o f h = some ⟨v, h1, l1⟩) ∨ (wanted all o f = false ∧ v = undef ∧ h1 = h ∧ l1 = .pure)) →
        ∃ fs hs vs lg, Trace E base cf rf all (o :: ops) fs hs vs lg ∧ fs 0 = f ∧ hs 0 = h ∧ fs (o :: ops).length = f1 ∧ hs (o :: ops).length = h2 ∧ ∀ j, j < (o :: ops).length → (l1 :: l2)[j]? = some (lg j) := by
      intro v h1 l1 f1 h2 l2 hrun hk
      obtain ⟨fs, hs, vs, lg, T, e1, e2, e3, e4, e5⟩ := trace_of hrun
      refine ⟨fun | 0 => f | j + 1 => fs j, fun | 0 => h | j + 1 => hs j, fun | 0 => v | j + 1 => vs j, fun | 0 => l1 | j + 1 => lg j, ⟨?_, ?_⟩, rfl, rfl, e3, e4, ?_⟩
      · intro j p hp
        cases j with
        | zero => simp at hp; subst hp; exact e1
        | succ j => exact T.put j p (by simpa using hp)
      · intro j p hp
        cases j with
        | zero => simp at hp; subst hp; simpa [e2] using hk
        | succ j => exact T.run j p (by simpa using hp)
      · intro j hj
        cases j with
        | zero => rfl
        | succ j => simpa using e5 j (by simpa using hj)
    split at hr
    · rename_i hw
      simp only [Option.bind_eq_some_iff, Option.some.injEq, Prod.mk.injEq] at hr
      obtain ⟨r, hr1, ⟨f1, h2, l2⟩, hr2, rfl, rfl, rfl⟩ := hr
      exact fin _ _ _ _ _ _ hr2 (.inl ⟨hw, by rw [hr1]⟩)
    · rename_i hw
      simp only [Option.bind_eq_some_iff, Option.some.injEq, Prod.mk.injEq] at hr
      obtain ⟨⟨f1, h2, l2⟩, hr2, rfl, rfl, rfl⟩ := hr
      exact fin _ _ _ _ _ _ hr2 (.inr ⟨hw, rfl, rfl, rfl⟩)

/-! ### Who stands ahead of whom -/
def bitF (acc : List Nat) (s : Nat) (e : Edge) : Nat := match Region.binds .any e with | true => s ||| 2 ^ e.on ||| acc.getD e.on 0 | false => s
theorem befores_cons (p : Oper) (l : List Oper) (acc : List Nat) : befores (p :: l) acc = befores l (acc ++ [p.after.toList.foldl (bitF acc) 0]) := rfl
theorem foldl_bits (acc : List Nat) (b : Nat) : ∀ (es : List Edge) (s : Nat), (es.foldl (bitF acc) s).testBit b = true →
    s.testBit b = true ∨ ∃ e ∈ es, Region.binds .any e = true ∧ (b = e.on ∨ (acc.getD e.on 0).testBit b = true)
  | [], s, h => .inl h
  | e :: es, s, h => by
    simp only [List.foldl_cons] at h
    rcases foldl_bits acc b es _ h with h1 | ⟨e', h1, h2⟩
    · unfold bitF at h1
      cases hb : Region.binds .any e with
      | false => rw [hb] at h1; exact .inl h1
      | true =>
        rw [hb] at h1
        simp only [Nat.testBit_or, Bool.or_eq_true, Nat.testBit_two_pow, decide_eq_true_eq] at h1
        rcases h1 with (h1 | h1) | h1
        · exact .inl h1
        · exact .inr ⟨e, List.mem_cons_self, hb, .inl h1.symm⟩
        · exact .inr ⟨e, List.mem_cons_self, hb, .inr h1⟩
    · exact .inr ⟨e', List.mem_cons_of_mem _ h1, h2⟩

theorem befores_spec : ∀ (l : List Oper) (acc : List Nat), ∃ ys, befores l acc = acc ++ ys ∧ ∀ i o, l[i]? = some o → ∀ b, ((acc ++ ys).getD (acc.length + i) 0).testBit b = true →
    ∃ e ∈ o.after.toList, Region.binds .any e = true ∧ (b = e.on ∨ (e.on < acc.length + i ∧ ((acc ++ ys).getD e.on 0).testBit b = true))
  | [], acc => ⟨[], by simp [befores], fun i o h => by simp at h⟩
  | p :: l, acc => by
    obtain ⟨ys, h1, h2⟩ := befores_spec l (acc ++ [p.after.toList.foldl (bitF acc) 0])
    refine ⟨(p.after.toList.foldl (bitF acc) 0) :: ys, by rw [befores_cons, h1]; simp, fun i o ho b hb => ?_⟩
    cases i with
    | zero =>
      simp at ho; subst ho
      have e0 : (acc ++ (p.after.toList.foldl (bitF acc) 0) :: ys).getD (acc.length + 0) 0 = (p.after.toList.foldl (bitF acc) 0) := by
        simp [List.getD]
      rw [e0] at hb
      rcases foldl_bits _ _ _ _ hb with hz | ⟨e, k1, k2, k3⟩
      · simp at hz
      · refine ⟨e, k1, k2, ?_⟩
        rcases k3 with k3 | k3
        · exact .inl k3
        · by_cases hlt : e.on < acc.length
          · refine .inr ⟨by omega, ?_⟩
            rw [← k3]
            simp [List.getD, List.getElem?_append_left hlt]
          · simp [List.getD, List.getElem?_eq_none (Nat.le_of_not_lt hlt)] at k3
    | succ i =>
      have := h2 i o (by simpa using ho) b (by simpa [Nat.add_assoc, Nat.add_comm 1 i] using hb)
      simpa [Nat.add_assoc, Nat.add_comm 1 i] using this

theorem befores_bit {ops : List Oper} {i : Nat} {o : Oper} (ho : ops[i]? = some o) {b : Nat} (hb : ((befores ops []).getD i 0).testBit b = true) :
    ∃ e ∈ o.after.toList, Region.binds .any e = true ∧ (b = e.on ∨ (e.on < i ∧ ((befores ops []).getD e.on 0).testBit b = true)) := by
  obtain ⟨ys, h1, h2⟩ := befores_spec ops []
  simp only [List.nil_append, List.length_nil, Nat.zero_add] at h1 h2
  rw [h1] at hb ⊢
  exact h2 i o ho b hb

theorem slotsOk1_get {ops : List Oper} {bs : List Nat} {i : Nat} {o : Oper} : ∀ {l : List Oper} {j0 : Nat}, slotsOk1 ops bs i o j0 l = true → ∀ k p, l[k]? = some p → i ≠ j0 + k → ∀ d, p.dst = some d → o.dst ≠ some d ∧ (d ∈ looks ops o → ordered bs i (j0 + k) = true)
  | [], j0, _, k, p, hp, _, d, _ => by simp at hp
  | q :: l, j0, h, k, p, hp, hne, d, hd => by
    simp only [slotsOk1, Bool.and_eq_true, Bool.or_eq_true, beq_iff] at h
    obtain ⟨h1, h2⟩ := h
    cases k with
    | zero =>
      simp at hp; subst hp
      rcases h1 with h1 | h1
      · exact absurd h1 hne
      · rw [hd] at h1
        simp only [Bool.and_eq_true, bne_iff_ne, Bool.or_eq_true, Bool.not_eq_true'] at h1
        refine ⟨h1.1, fun hm => ?_⟩
        rcases h1.2 with h3 | h3
        · have : (looks ops o).contains d = true := by simpa using hm
          rw [this] at h3; cases h3
        · exact h3
    | succ k =>
      have := slotsOk1_get h2 k p (by simpa using hp) (by omega) d hd
      rw [show j0 + (k + 1) = j0 + 1 + k by omega]; exact this

theorem slotsOk_get {ops : List Oper} {bs : List Nat} : ∀ {l : List Oper} {i0 : Nat}, slotsOk ops bs i0 l = true → ∀ k o, l[k]? = some o → slotsOk1 ops bs (i0 + k) o 0 ops = true ∧ ∀ e ∈ o.after.toList, Region.binds .any e = true → e.on < i0 + k
  | [], i0, _, k, o, ho => by simp at ho
  | q :: l, i0, h, k, o, ho => by
    simp only [slotsOk, Bool.and_eq_true, List.all_eq_true, Bool.or_eq_true, Bool.not_eq_true', blt_iff] at h
    obtain ⟨⟨h1, h2⟩, h3⟩ := h
    cases k with
    | zero =>
      simp at ho; subst ho
      refine ⟨h1, fun e he hb => ?_⟩
      rcases h2 e he with h4 | h4
      · rw [hb] at h4; cases h4
      · exact h4
    | succ k =>
      have := slotsOk_get h3 k o (by simpa using ho)
      rw [show i0 + (k + 1) = i0 + 1 + k by omega]; exact this

/-- What the check on a region's text says. -/
structure TextOk (ops : List Oper) : Prop where
  edge : ∀ (i : Nat) (o : Oper), ops[i]? = some o → ∀ e ∈ o.after.toList, Region.binds .any e = true → e.on < i
  one : ∀ (i j : Nat) (o p : Oper) (d : Tmp), ops[i]? = some o → ops[j]? = some p → i ≠ j → p.dst = some d → o.dst ≠ some d
  look : ∀ (i j : Nat) (o p : Oper) (d : Tmp), ops[i]? = some o → ops[j]? = some p → i ≠ j → p.dst = some d → d ∈ looks ops o → ordered (befores ops []) i j = true

theorem textOk {ops : List Oper} (h : staticOk ops = true) : TextOk ops := by
  have key := fun i o ho => slotsOk_get (l := ops) (i0 := 0) h i o ho
  simp only [Nat.zero_add] at key
  have k2 := fun i o ho j p (hp : ops[j]? = some p) => slotsOk1_get (l := ops) (j0 := 0) (key i o ho).1 j p hp
  simp only [Nat.zero_add] at k2
  exact ⟨fun i o ho => (key i o ho).2, fun i j o p d ho hp hne hd => (k2 i o ho j p hp hne d hd).1, fun i j o p d ho hp hne hd hm => (k2 i o ho j p hp hne d hd).2 hm⟩

theorem bit_lt {ops : List Oper} (T : TextOk ops) : ∀ (j : Nat) (o : Oper), ops[j]? = some o → ∀ b, ((befores ops []).getD j 0).testBit b = true → b < j := by
  intro j
  induction j using Nat.strongRecOn with
  | ind j ih =>
    intro o ho b hb
    obtain ⟨e, h1, h2, h3⟩ := befores_bit ho hb
    have hlt := T.edge j o ho e h1 h2
    rcases h3 with rfl | ⟨h3, h4⟩
    · exact hlt
    · have hlen : j < ops.length := (List.getElem?_eq_some_iff.1 ho).1
      have := ih e.on h3 _ (List.getElem?_eq_getElem (by omega)) b h4
      omega

def Ready (ops : List Oper) (L : Nat → Bool) (o : Oper) : Prop := ∀ e ∈ o.after.toList, Region.binds .any e = true → L e.on = true
def Closed (ops : List Oper) (L : Nat → Bool) : Prop := ∀ j o, ops[j]? = some o → L j = true → Ready ops L o

theorem bit_listed {ops : List Oper} {L : Nat → Bool} (C : Closed ops L) : ∀ (j : Nat) (o : Oper), ops[j]? = some o → Ready ops L o → ∀ b, ((befores ops []).getD j 0).testBit b = true → L b = true := by
  intro j
  induction j using Nat.strongRecOn with
  | ind j ih =>
    intro o ho hr b hb
    obtain ⟨e, h1, h2, h3⟩ := befores_bit ho hb
    have hl := hr e h1 h2
    rcases h3 with rfl | ⟨h3, h4⟩
    · exact hl
    · have hlen : j < ops.length := (List.getElem?_eq_some_iff.1 ho).1
      have h5 := List.getElem?_eq_getElem (l := ops) (i := e.on) (by omega)
      exact ih e.on h3 _ h5 (C _ _ h5 hl) b h4

/-- Of two that stand in an order, the one that comes first in the text is taken first. -/
theorem ordered_listed {ops : List Oper} (T : TextOk ops) {L : Nat → Bool} (C : Closed ops L) {i j : Nat} (hij : i < j) {o : Oper} (ho : ops[j]? = some o) (hr : Ready ops L o) (h : ordered (befores ops []) i j = true ∨ ordered (befores ops []) j i = true) : L i = true := by
  have hlen : j < ops.length := (List.getElem?_eq_some_iff.1 ho).1
  have h5 := List.getElem?_eq_getElem (l := ops) (i := i) (by omega)
  have : ((befores ops []).getD j 0).testBit i = true := by
    unfold ordered at h
    simp only [Bool.or_eq_true] at h
    rcases h with (h | h) | (h | h)
    · exact h
    · have := bit_lt T i _ h5 j h; omega
    · have := bit_lt T i _ h5 j h; omega
    · exact h
  exact bit_listed C j o ho hr i this

theorem allPass1_get {bs : List Nat} {i : Nat} {x : LogE} : ∀ {l : List LogE} {j0 : Nat}, allPass1 bs i x j0 l = true → ∀ k y, l[k]? = some y → mayPass bs i x (j0 + k) y = true
  | [], _, _, k, y, h => by simp at h
  | z :: l, j0, h, k, y, hy => by
    simp only [allPass1, Bool.and_eq_true] at h
    cases k with
    | zero => simp at hy; subst hy; exact h.1
    | succ k =>
      have := allPass1_get h.2 k y (by simpa using hy)
      rw [show j0 + (k + 1) = j0 + 1 + k by omega]; exact this

theorem allPass_get {bs : List Nat} : ∀ {l : List LogE} {i0 : Nat}, allPass bs i0 l = true → (∀ (i : Nat) (x : LogE), l[i]? = some x → growsL x = true) ∧ ∀ (i j : Nat) (x y : LogE), i < j → l[i]? = some x → l[j]? = some y → mayPass bs (i0 + i) x (i0 + j) y = true
  | [], _, _ => ⟨fun i x h => by simp at h, fun i j x y _ h => by simp at h⟩
  | z :: l, i0, h => by
    simp only [allPass, Bool.and_eq_true] at h
    obtain ⟨⟨h1, h2⟩, h3⟩ := h
    obtain ⟨k1, k2⟩ := allPass_get h3
    refine ⟨fun i x hx => ?_, fun i j x y hij hx hy => ?_⟩
    · cases i with
      | zero => simp at hx; subst hx; exact h1
      | succ i => exact k1 i x (by simpa using hx)
    · cases j with
      | zero => omega
      | succ j =>
        cases i with
        | zero =>
          simp at hx; subst hx
          have := allPass1_get h2 j y (by simpa using hy)
          rw [show i0 + (j + 1) = i0 + 1 + j by omega]; exact this
        | succ i =>
          have := k2 i j x y (by omega) (by simpa using hx) (by simpa using hy)
          rw [show i0 + (i + 1) = i0 + 1 + i by omega, show i0 + (j + 1) = i0 + 1 + j by omega]; exact this

/-! ### The frames -/
variable {all ops : List Oper} {fs : Nat → AF} {hs : Nat → AHeap} {vs : Nat → Value} {lg : Nat → LogE}

theorem Trace.fs_n (T : Trace E base cf rf all ops fs hs vs lg) : ∀ k, k ≤ ops.length → (fs k).n = (fs 0).n := by
  intro k
  induction k with
  | zero => intro _; rfl
  | succ k ih =>
    intro hk
    rw [T.put k _ (List.getElem?_eq_getElem (by omega)), AF.n_put, ih (by omega)]

theorem AF.get_put (f : AF) (d : Option Tmp) (v : Value) (t : Nat) : (f.put d v).get t = if d = some t ∧ t < f.n then v else f.get t := by
  cases d with
  | none => simp [AF.put]
  | some d =>
    simp only [AF.put, AF.get_set, Option.some.injEq]
    by_cases e : t = d
    · subst e; simp
    · have : d ≠ t := fun h => e h.symm
      simp [e, this]

theorem Trace.fs_old (T : Trace E base cf rf all ops fs hs vs lg) (t : Nat) : ∀ k, k ≤ ops.length → (∀ j o, j < k → ops[j]? = some o → o.dst ≠ some t) → (fs k).get t = (fs 0).get t := by
  intro k
  induction k with
  | zero => intro _ _; rfl
  | succ k ih =>
    intro hk hno
    rw [T.put k _ (List.getElem?_eq_getElem (by omega)), AF.get_put, if_neg (fun h => hno k _ (by omega) (List.getElem?_eq_getElem (by omega)) h.1), ih (by omega) fun j o hj ho => hno j o (by omega) ho]

theorem Trace.fs_new (T : Trace E base cf rf all ops fs hs vs lg) (X : TextOk ops) {t : Nat} (ht : t < (fs 0).n) {j : Nat} {o : Oper} (ho : ops[j]? = some o) (hd : o.dst = some t) : ∀ k, k ≤ ops.length → j < k → (fs k).get t = vs j := by
  intro k
  induction k with
  | zero => intro _ h; omega
  | succ k ih =>
    intro hk hjk
    have hk0 := List.getElem?_eq_getElem (l := ops) (i := k) (by omega)
    rw [T.put k _ hk0, AF.get_put]
    by_cases e : j = k
    · subst e
      rw [hk0] at ho; cases ho
      rw [if_pos ⟨hd, by rw [T.fs_n j (by omega)]; exact ht⟩]
    · rw [if_neg (fun h => X.one k j _ o t hk0 ho (fun h => e h.symm) hd h.1), ih (by omega) (by omega)]

end
end Go.M
