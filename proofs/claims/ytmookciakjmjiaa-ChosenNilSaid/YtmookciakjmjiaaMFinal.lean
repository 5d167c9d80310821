/-
  A program's tables as the evaluator asks them; what a closed run says of the model's calls.
-/
import Derived.Test.YtmookciakjmjiaaMDraw5
import Derived.Carry
import Derived.OpenShut
import Derived.KernelRfl
namespace Go.M
open Go

/-- A program's tables. -/
def envOf (P : Program) (orc : FuncId → List Value → AHeap → Option (Value × AHeap)) : Env where
  desc := fun t => P.underlying t
  size := fun t => (P.info? t).map (·.size)
  bytes := fun t => (P.info? t).map (·.bytes)
  zero := fun t => (P.info? t).bind fun i => i.zero.bind fun z => grd (plainV z) (some z)
  eqOk := fun t => !P.eqGuardType P.depth t && !P.stoodInHeld t
  func := fun g => (P.funcs[g]?).bind fun fn => grd (fn.body.isSome && !(fn.name == "runtime.NumGoroutine")) (some fn)
  glob := fun _ => false
  orc := orc

theorem envOk (P : Program) (orc : FuncId → List Value → AHeap → Option (Value × AHeap)) : EnvOk P (envOf P orc) := by
  refine ⟨fun t d h => h, fun t n h => ?_, fun t n h => ?_, fun t z h => ?_, fun t h => ?_, fun f fn h => ?_⟩
  · simp only [envOf, Option.map_eq_some_iff] at h
    obtain ⟨i, h1, h2⟩ := h
    exact ⟨i, h1, h2⟩
  · simp only [envOf, Option.map_eq_some_iff] at h
    obtain ⟨i, h1, h2⟩ := h
    exact ⟨i, h1, h2⟩
  · simp only [envOf, Option.bind_eq_some_iff, grd_some, Option.some.injEq] at h
    obtain ⟨i, h1, z', h2, h3, rfl⟩ := h
    exact ⟨⟨i, h1, h2⟩, h3⟩
  · simp only [envOf, Bool.and_eq_true, Bool.not_eq_true'] at h
    exact h
  · simp only [envOf, Option.bind_eq_some_iff, grd_some, Option.some.injEq, Bool.and_eq_true, Bool.not_eq_true'] at h
    obtain ⟨i, h1, ⟨h2, h3⟩, rfl⟩ := h
    exact ⟨h1, h2, h3⟩

section
variable {P : Program} {E : Env} {base B : Nat}

theorem acall_ok (hE : EnvOk P E) (hO : OrcOk P E base B) (hm : P.follows .mixedOrders = true) (n : Nat) : CallOk P E base B (acall E base n) :=
  callOk hE hO (codeOk hE hO (drawSim hE hm) n).1

def noOrc : FuncId → List Value → AHeap → Option (Value × AHeap) := fun _ _ _ => none
theorem noOrc_ok : OrcOk P (envOf P noOrc) base B := fun μ h w g args args' v h' hr => by
  have : (none : Option (Value × AHeap)) = some (v, h') := hr
  cases this

/-- The empty memory lies in every world. -/
def h00 : AHeap := ⟨.nil, 0⟩
def μ00 : Emb := fun _ => none
theorem rel00 (hg : ∀ g, E.glob g = false) (W : World) : HRel E 0 W.heap.size μ00 h00 W := by
  have no : ∀ {b : Nat} {m : MT}, μ00 b = some m → False := fun {b m} h => by
    have : (none : Option MT) = some m := h
    cases this
  refine ⟨fun b m h => (no h).elim, fun b _ => rfl, fun b m h => (no h).elim, fun b m h => (no h).elim, fun b1 b2 m1 m2 h => (no h).elim, fun b m r h => (no h).elim, fun g h => ?_, Nat.le_refl _, Nat.le_refl _, fun b cs f tip thr h => ?_⟩
  · rw [hg g] at h; cases h
  · have : (none : Option AObj) = some (.cells cs f tip thr) := h
    cases this

theorem below_of_step {W W' : World} {μ' : Emb} {h' : AHeap} (S : Step E 0 W.heap.size μ00 h00 W μ' h' W') : Go.RowKit.Below W.heap.size W W' :=
  ⟨S.grow.os, S.grow.tape, S.grow.output, S.grow.size, fun k hk => S.grow.keep k hk fun b m h => by
    have : (none : Option MT) = some m := h
    cases this⟩

/-- Did a run hand back true? -/
def gaveTrue : Option (Value × AHeap) → Bool
  | some (.bool b, _) => b
  | _ => false
theorem gaveTrue_some {x : Option (Value × AHeap)} (h : gaveTrue x = true) : ∃ h', x = some (.bool true, h') := by
  unfold gaveTrue at h
  split at h
  · subst h; exact ⟨_, rfl⟩
  · cases h

theorem plains_rel (μ : Emb) : ∀ {l : List Value}, l.all plainV = true → VRels μ l l
  | [], _ => .nil
  | v :: l, h => by
    simp only [List.all_cons, Bool.and_eq_true] at h
    exact .cons (.refl_plain μ h.1) (plains_rel μ h.2)

/-- A closed run's word on the model's calls. -/
theorem calls_true (hm : P.follows .mixedOrders = true) {n : Nat} {g : FuncId} {args : Array Value} (ha : args.toList.all plainV = true)
    (hr : gaveTrue (acall (envOf P noOrc) 0 n g args.toList h00) = true) (W : World) : Calls P g args W fun e W' => e = .returned (.bool true) ∧ Go.RowKit.Below W.heap.size W W' := by
  obtain ⟨h', hr⟩ := gaveTrue_some hr
  have := acall_ok (envOk P noOrc) noOrc_ok hm n μ00 h00 W g args.toList args (.bool true) h' hr (plains_rel _ ha) (rel00 (fun _ => rfl) W) Fence.wide 0 Wide.wide
  refine (callsIn_wide.1 (this.mono ?_))
  rintro e W' ⟨v', μ', rfl, hv, S⟩
  have e := hv.inv_scalar rfl
  subst e
  exact ⟨rfl, below_of_step S⟩

end
end Go.M
