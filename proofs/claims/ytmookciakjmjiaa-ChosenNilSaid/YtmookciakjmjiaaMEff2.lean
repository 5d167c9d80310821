import Derived.Test.YtmookciakjmjiaaMEff
namespace Go.M
open Go
section
variable {P : Program} {E : Env} {μ : Emb} {f : AF} {a : Act} {base B : Nat} {h : AHeap} {w : World}

theorem match_int (d : TypeDesc) : (d matches .int _) = isIntT d := by cases d <;> rfl
/-- The new cells behind the elder ones. -/
def stAt (b : Option Addr) (k : Nat) (new : List Value) : Sem Unit := match b with | some a => storeCells (a.add k) new | none => pure ()

theorem zeroCells_size (z : Array Value) (n : Nat) : (Builtin.zeroCells z n).size = n * z.size := by simp [Builtin.zeroCells]

/-- What the append of the model does: in place where there is room, else in a new row. -/
theorem run_append (hE : EnvOk P E) {st xt ty elem : TypeId} {xd : TypeDesc} {size bytes n len cap : Nat} {z0 : Value} {base' : Option Addr} {x' : Value} {old new : List Value}
    (hst : E.desc st = some (.slice elem)) (hxt : E.desc xt = some xd) (hni : isIntT xd = false) (hs : E.size elem = some size) (hby : E.bytes elem = some bytes) (hz : E.zero elem = some z0) (hzs : z0.cells.size = size)
    (hlx : Gives P (Builtin.lenOf x') n)
    (hnew : ∀ d, (Builtin.firstCells size n x').run P { w with drawn := d } = .ok new.toArray { w with drawn := d }) :
    (len + n ≤ cap → ∀ w', (stAt base' (len * size) new).run P w = .ok () w' → (Builtin.append_ #[st, xt] ty #[.slice base' len cap, x']).run P w = .ok (.slice base' (len + n) cap) w') ∧
    (cap < len + n → (len + n + 1) * (bytes + 1) ≤ 1099511627776 → (∀ d, (Builtin.firstCells size len (.slice base' len cap)).run P { w with drawn := d } = .ok old.toArray { w with drawn := d }) → ∃ newCap rest, len + n ≤ newCap ∧ rest.size = (newCap - (len + n)) * size ∧
      (Builtin.append_ #[st, xt] ty #[.slice base' len cap, x']).run P w = .ok (.slice (some ⟨w.heap.size, 0, none⟩) (len + n) newCap) { w with heap := w.heap.push (.cells (old.toArray ++ new.toArray ++ rest) elem (0, 0)), drawn := w.drawn + 1 }) := by
  obtain ⟨ti, hti, gti⟩ := g_bytes hE hby
  have hw : ({ w with drawn := w.drawn } : World) = w := rfl
  constructor
  · intro hfit w' hst'
    unfold Builtin.append_
    simp only [List.getElem?_toArray, List.getElem?_cons_zero, List.getElem?_cons_succ, Sem.run_bind, g_under hE hst w, g_under hE hxt w, Result.andThen_ok, g_size hE hs w, Sem.run_pure]
    split
    · simp [isIntT] at hni
    simp only [Bool.false_eq_true, if_false, Sem.run_bind, hlx w, Result.andThen_ok]
    rw [if_pos hfit]
    have := hnew w.drawn
    simp only [Bool.not_false, if_true, Sem.run_bind]
    rw [show (Builtin.firstCells size n x').run P w = .ok new.toArray w from this]
    cases base' with
    | none =>
      simp only [stAt, Sem.run_pure] at hst'
      cases hst'
      simp
    | some a =>
      simp only [stAt] at hst'
      simp [hst']
  · intro hgrow hbd hold
    have hn1 : len + n + 1 ≤ 1099511627776 := Nat.le_trans (Nat.le_mul_of_pos_right _ (by omega)) hbd
    have hmax : ¬ (((len + n : Nat) : Int) > IntKind.i64.max) := by
      have e : IntKind.i64.max = 9223372036854775807 := by decide
      rw [e]; omega
    have hcap : ¬ (Builtin.nextslicecap (len + n) cap * ti.bytes > 2 ^ 48) := by
      have h1 := nextslicecap_le hgrow
      have h2 : Builtin.nextslicecap (len + n) cap * ti.bytes ≤ 16 * (len + n) * bytes := by rw [hti]; exact Nat.mul_le_mul_right _ h1
      have h3 : 16 * (len + n) * bytes ≤ 16 * ((len + n + 1) * (bytes + 1)) := by
        rw [Nat.mul_assoc]; exact Nat.mul_le_mul_left _ (Nat.mul_le_mul (by omega) (by omega))
      have e : (2 : Nat) ^ 48 = 281474976710656 := by decide
      rw [e]; omega
    let nc := (Question.appendCap (len + n) cap elem).cut (w.tape w.drawn (Question.appendCap (len + n) cap elem))
    refine ⟨nc, Builtin.zeroCells z0.cells (nc - (len + n)), ?_, by rw [zeroCells_size, hzs], ?_⟩
    · simp only [nc, Question.cut]; omega
    · unfold Builtin.append_
      simp only [List.getElem?_toArray, List.getElem?_cons_zero, List.getElem?_cons_succ, Sem.run_bind, g_under hE hst w, g_under hE hxt w, Result.andThen_ok, g_size hE hs w, Sem.run_pure]
      split
      · simp [isIntT] at hni
      simp only [Bool.false_eq_true, if_false, Sem.run_bind, hlx w, Result.andThen_ok]
      rw [if_neg (by omega)]
      simp only [Sem.run_bind, gti w, Result.andThen_ok]
      rw [if_neg (fun hh => hmax hh.1)]
      simp only [Sem.run_bind, gti w, Result.andThen_ok]
      rw [if_neg hcap]
      have ho := hold (w.drawn + 1)
      have hn := hnew (w.drawn + 1)
      simp only [Sem.run_bind, run_choose, Question.forced, Bool.false_eq_true, if_false, Result.andThen_ok, gti _, run_askRoom, ho, hn, Bool.not_false, if_true, g_zero hE hz _]
      rfl

end
end Go.M
