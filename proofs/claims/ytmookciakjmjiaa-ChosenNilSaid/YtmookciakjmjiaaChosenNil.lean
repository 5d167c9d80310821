/-
  Without a log nothing is learned and nothing is told: catenarylaw12.ChosenNil returns true for every input, and the input reads behind the call as it read before. There are no conditions.
-/
import Derived.Test.YtmookciakjmjiaaMRow
import Derived.Test.YtmookciakjmjiaaRows
namespace Go.Proofs.Ytmookciakjmjiaa.chosenNil
open Go Go.M Go.ChangeShapes Go.WideShapes Go.ChangeAt Go.RowKit

theorem own : ownKnob Try.prog.godebug = none := by kernel_rfl
theorem laid : laidOutB Try.prog = true := by kernel_rfl
theorem mixed : Try.prog.follows .mixedOrders = true := by kernel_rfl

set_option maxRecDepth 1000000 in
theorem closed0 (m : Nat) (d e f g : Int) : gaveTrue (acall (envOf Try.prog noOrc) 0 100000 6 [.int .i64 (.ofNat m), .agg #[.int .i64 d, .int .i64 e, .int .u64 f, .int .i64 g]] h00) = true := by kernel_rfl
set_option maxRecDepth 1000000 in
theorem closed1 (d e f g : Int) : gaveTrue (acall (envOf Try.prog noOrc) 0 100000 6 [.int .i64 (.negSucc 0), .agg #[.int .i64 d, .int .i64 e, .int .u64 f, .int .i64 g]] h00) = true := by kernel_rfl
set_option maxRecDepth 1000000 in
theorem closed2 (m : Nat) (d e f g : Int) : gaveTrue (acall (envOf Try.prog noOrc) 0 100000 6 [.int .i64 (.negSucc (m + 1)), .agg #[.int .i64 d, .int .i64 e, .int .u64 f, .int .i64 g]] h00) = true := by kernel_rfl
theorem closed (n : Nat) (hn : 100000 = n) (s d e f g : Int) : gaveTrue (acall (envOf Try.prog noOrc) 0 n 6 [.int .i64 s, .agg #[.int .i64 d, .int .i64 e, .int .u64 f, .int .i64 g]] h00) = true := by
  subst hn
  match s with
  | .ofNat m => exact closed0 m d e f g
  | .negSucc 0 => exact closed1 d e f g
  | .negSucc (m + 1) => exact closed2 m d e f g

theorem ints37 : intsB Try.prog 37 [.i64, .i64, .u64, .i64] = true := by kernel_rfl

set_option maxRecDepth 100000 in
theorem walk {args : Array Value} {W : World} {base : Nat} (h : ∀ (j : Nat) t v, (#[3, 37] : Array TypeId)[j]? = some t → args[j]? = some v → Value.okWide Try.prog W .any base t v) (hl : args.size = 2) :
    Calls Try.prog 6 args W fun e W' => e = .returned (.bool true) ∧ Below W.heap.size W W' := by
  obtain ⟨u, v, rfl⟩ : ∃ u v, args = #[u, v] := by
    obtain ⟨l⟩ := args
    match l, hl with
    | [u, v], _ => exact ⟨u, v, rfl⟩
  have h0 := h 0 3 u rfl rfl
  simp only [Value.okWide, Try.underlying3] at h0
  obtain ⟨s, rfl⟩ := cell_int Try.underlying3 h0
  obtain ⟨ns, h1, rfl⟩ := okWide_ints ints37 (h 1 37 v rfl rfl)
  match ns, h1 with
  | [d, e, f, g], _ =>
    generalize hn : (100000 : Nat) = n
    exact calls_true (args := #[.int .i64 s, .agg #[.int .i64 d, .int .i64 e, .int .u64 f, .int .i64 g]]) mixed rfl (closed n hn s d e f g) W

set_option maxRecDepth 100000 in
theorem lifted (os : Os) (started : os.Started) (H : Type) (enc : TypeId × Value → H) :
    ReturnsInHanded {} Try.checked os 6 .any (Rows.chosenNilSpec.pre6 enc Try.prog Try.f6 Rows.chosenNilRow.domain false) (Rows.chosenNilSpec.post enc Try.prog Try.f6 false true false false) := by
  refine returnsInHanded_of_change (C := Try.checked) own started (by kernel_rfl) Try.func6
    (ChangeSpec.witness6 (enc := enc) (C := Try.checked) false ⟨#[], #[.int .i64 0, .agg #[.int .i64 0, .int .i64 0, .int .u64 0, .int .i64 0]], []⟩ 8 (by kernel_rfl) (by kernel_rfl) (by kernel_rfl) (by kernel_rfl)) ?_
  intro W base args ds gs before hval0 hW hcnd _
  have hlen : ds.length = 2 ∧ args.size = 2 := by
    obtain ⟨p, q, hA, _⟩ := hW
    have := trodAll_length hA
    rw [Try.params6] at this
    exact ⟨this.1, by simpa using this.2⟩
  have hval : ∀ (j : Nat) t v, Try.f6.params[j]? = some t → args[j]? = some v → Value.okWide Try.prog W .any base t v := hval0
  rw [Try.params6] at hval
  refine (walk hval hlen.2).mono fun e W' ⟨he, hb⟩ => ?_
  subst he
  refine ⟨_, rfl, post_true (tb := 4) hW rfl (by kernel_rfl) Try.underlying4 laid ?_ ?_ hb⟩
  · intro t ht
    rw [Try.params6] at ht
    simp at ht
    rcases ht with rfl | rfl
    · exact ⟨by kernel_rfl, of_decide_eq_true (by kernel_rfl)⟩
    · exact ⟨by kernel_rfl, of_decide_eq_true (by kernel_rfl)⟩
  · match ds, hlen.1 with
    | [d, d2], _ => rfl

theorem over : Rows.chosenNilRow.holds Try.pinned (OpenSpec.ofChange Rows.chosenNilSpec) :=
  OpenClaim.holds_of_wide 6 Try.f6 rfl rfl rfl rfl rfl rfl rfl ⟨rfl, rfl, rfl, rfl, rfl⟩ rfl rfl rfl rfl rfl (by kernel_rfl) Try.func6 (by kernel_rfl)
    (of_decide_eq_true (by kernel_rfl)) (by unfold Func.isWrapper; first | (rw [if_pos (by decide +kernel)]; kernel_rfl) | (rw [if_neg (by decide +kernel)]; exact ⟨rfl, rfl⟩))
    (fun os started H enc _ => lifted os started H enc)

theorem proved : Rows.ChosenNilSaid := over
end Go.Proofs.Ytmookciakjmjiaa.chosenNil
