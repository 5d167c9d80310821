/-
  Without an acceptor nothing is promised, nothing is accepted and nothing is told: catenarylaw11.AcceptNil returns true for every input, and the input reads behind the call as it read before. There are no conditions.
-/
import Derived.Test.YtmookciakjmjiaaMRow
import Derived.Test.YtmookciakjmjiaaRows
namespace Go.Proofs.Ytmookciakjmjiaa.acceptNil
open Go Go.M Go.ChangeShapes Go.WideShapes Go.ChangeAt Go.RowKit

theorem own : ownKnob Try.prog.godebug = none := by kernel_rfl
theorem laid : laidOutB Try.prog = true := by kernel_rfl
theorem mixed : Try.prog.follows .mixedOrders = true := by kernel_rfl

set_option maxRecDepth 1000000 in
theorem closed (a b c d e f g : Int) : gaveTrue (acall (envOf Try.prog noOrc) 0 100000 9 [.agg #[.int .i64 a, .int .u64 b, .int .i64 c, .int .i64 d, .int .i64 e, .int .u64 f, .int .i64 g]] h00) = true := by kernel_rfl

theorem ints74 : intsB Try.prog 74 [.i64, .u64, .i64, .i64, .i64, .u64, .i64] = true := by kernel_rfl

set_option maxRecDepth 100000 in
theorem walk {args : Array Value} {W : World} {base : Nat} (h : ∀ (j : Nat) t v, (#[74] : Array TypeId)[j]? = some t → args[j]? = some v → Value.okWide Try.prog W .any base t v) (hl : args.size = 1) :
    Calls Try.prog 9 args W fun e W' => e = .returned (.bool true) ∧ Below W.heap.size W W' := by
  obtain ⟨v, rfl⟩ : ∃ v, args = #[v] := by
    obtain ⟨l⟩ := args
    match l, hl with
    | [v], _ => exact ⟨v, rfl⟩
  obtain ⟨ns, h1, rfl⟩ := okWide_ints ints74 (h 0 74 v rfl rfl)
  match ns, h1 with
  | [a, b, c, d, e, f, g], _ =>
    have hr := closed a b c d e f g
    generalize hn : (100000 : Nat) = n at hr
    exact calls_true (args := #[.agg #[.int .i64 a, .int .u64 b, .int .i64 c, .int .i64 d, .int .i64 e, .int .u64 f, .int .i64 g]]) mixed rfl hr W

set_option maxRecDepth 100000 in
theorem lifted (os : Os) (started : os.Started) (H : Type) (enc : TypeId × Value → H) :
    ReturnsInHanded {} Try.checked os 9 .any (Rows.acceptNilSpec.pre6 enc Try.prog Try.f9 Rows.acceptNilRow.domain false) (Rows.acceptNilSpec.post enc Try.prog Try.f9 false true false false) := by
  refine returnsInHanded_of_change (C := Try.checked) own started (by kernel_rfl) Try.func9
    (ChangeSpec.witness6 (enc := enc) (C := Try.checked) false ⟨#[], #[.agg #[.int .i64 0, .int .u64 0, .int .i64 0, .int .i64 0, .int .i64 0, .int .u64 0, .int .i64 0]], []⟩ 8 (by kernel_rfl) (by kernel_rfl) (by kernel_rfl) (by kernel_rfl)) ?_
  intro W base args ds gs before hval0 hW hcnd _
  have hlen : ds.length = 1 ∧ args.size = 1 := by
    obtain ⟨p, q, hA, _⟩ := hW
    have := trodAll_length hA
    rw [Try.params9] at this
    exact ⟨this.1, by simpa using this.2⟩
  have hval : ∀ (j : Nat) t v, Try.f9.params[j]? = some t → args[j]? = some v → Value.okWide Try.prog W .any base t v := hval0
  rw [Try.params9] at hval
  refine (walk hval hlen.2).mono fun e W' ⟨he, hb⟩ => ?_
  subst he
  refine ⟨_, rfl, post_true (tb := 4) hW rfl (by kernel_rfl) Try.underlying4 laid ?_ ?_ hb⟩
  · intro t ht
    rw [Try.params9] at ht
    simp at ht
    subst ht
    exact ⟨by kernel_rfl, of_decide_eq_true (by kernel_rfl)⟩
  · match ds, hlen.1 with
    | [d], _ => rfl

theorem over : Rows.acceptNilRow.holds Try.pinned (OpenSpec.ofChange Rows.acceptNilSpec) :=
  OpenClaim.holds_of_wide 9 Try.f9 rfl rfl rfl rfl rfl rfl rfl ⟨rfl, rfl, rfl, rfl, rfl⟩ rfl rfl rfl rfl rfl (by kernel_rfl) Try.func9 (by kernel_rfl)
    (of_decide_eq_true (by kernel_rfl)) (by unfold Func.isWrapper; first | (rw [if_pos (by decide +kernel)]; kernel_rfl) | (rw [if_neg (by decide +kernel)]; exact ⟨rfl, rfl⟩))
    (fun os started H enc _ => lifted os started H enc)

theorem proved : Rows.AcceptNilSaid := over
end Go.Proofs.Ytmookciakjmjiaa.acceptNil
