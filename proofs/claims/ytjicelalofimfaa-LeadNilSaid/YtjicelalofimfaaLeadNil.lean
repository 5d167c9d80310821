/-
  No leader leads nothing: catenarylaw13.LeadNil returns true for every input, and the input reads behind the call as it read before. There are no conditions.
-/
import Derived.Test.YtjicelalofimfaaRows
import Derived.Test.YtjicelalofimfaaL5
namespace Go.Proofs.Ytjicelalofimfaa.leadNil
open Go Go.M Go.ChangeShapes Go.WideShapes Go.ChangeAt Go.RowKit

theorem own : ownKnob Try.prog.godebug = none := by kernel_rfl
theorem laid : laidOutB Try.prog = true := by kernel_rfl

@[reducible] def shV : List Sh := [.int .i64, .int .u64, .int .i64, .int .i64, .int .u64, .int .i64]
@[reducible] def shs : List ArgSh := [⟨true, [.int .i64, .bool, .int .u64, .int .i64, .int .i64, .sl shV, .int .i64, .int .i64, .int .u64, .int .i64]⟩]
theorem contract (tvs : List TV) (h : FitAs shs tvs) : VC E0 3 0 tvs [] fun r _ _ => r = .s (.bool true) := by
  simp only [FitAs, FitA, Fits, Fit] at h
  obtain ⟨t, _, rfl, ⟨_, rfl, _, _, rfl, ⟨k, _, _, rfl⟩, _, _, rfl, ⟨own, rfl⟩, _, _, rfl, ⟨b, _, _, rfl⟩, _, _, rfl, ⟨n, _, _, rfl⟩, _, _, rfl, ⟨w, _, _, rfl⟩, _, _, rfl, ⟨es, _, hes, rfl⟩, _, _, rfl, ⟨kk, _, _, rfl⟩, _, _, rfl, ⟨cc, _, _, rfl⟩, _, _, rfl, ⟨ee, _, _, rfl⟩, _, _, rfl, ⟨nn, _, _, rfl⟩, rfl⟩, rfl⟩ := h
  exact nil_ok k b n w kk cc ee nn own es

set_option maxRecDepth 100000 in
theorem lifted (os : Os) (started : os.Started) (H : Type) (enc : TypeId × Value → H) :
    ReturnsInHanded {} Try.checked os 3 .any (Rows.leadNilSpec.pre6 enc Try.prog Try.f3 Rows.leadNilRow.domain false) (Rows.leadNilSpec.post enc Try.prog Try.f3 false true false false) := by
  refine returnsInHanded_of_change (C := Try.checked) own started (by kernel_rfl) Try.func3
    (ChangeSpec.witness6 (enc := enc) (C := Try.checked) false ⟨#[], #[.agg #[.int .i64 0, .bool false, .int .u64 0, .int .i64 0, .int .i64 0, .slice none 0 0, .int .i64 0, .int .i64 0, .int .u64 0, .int .i64 0]], []⟩ 8 (by kernel_rfl) (by kernel_rfl) (by kernel_rfl) (by kernel_rfl)) ?_
  intro W base args ds gs before hval0 hW hcnd _
  have hval : ∀ (j : Nat) t v, Try.f3.params[j]? = some t → args[j]? = some v → Value.okWide Try.prog W .any base t v := hval0
  rw [Try.params3] at hval
  have hlen : ds.length = 1 ∧ args.size = 1 := by
    obtain ⟨p, q, hA, _⟩ := hW
    have := trodAll_length hA
    rw [Try.params3] at this
    exact ⟨this.1, by simpa using this.2⟩
  have walk : Calls Try.prog 3 args W fun e W' => e = .returned (.bool true) ∧ Below W.heap.size W W' := by
    obtain ⟨p, q, hA, _⟩ := hW
    rw [Try.params3] at hA
    exact row_true (E := E0) (ash := shs) (envOk _ _) orc0 mixed0 (fun _ => rfl) (by kernel_rfl) hA (fun j t v a b => hval j t v (by simpa using a) b) contract
  refine walk.mono fun e W' ⟨he, hb⟩ => ?_
  subst he
  refine ⟨_, rfl, post_true (tb := 4) hW rfl (by kernel_rfl) Try.underlying4 laid ?_ ?_ hb⟩
  · intro t ht
    rw [Try.params3] at ht
    simp at ht
    subst ht
    exact ⟨by kernel_rfl, of_decide_eq_true (by kernel_rfl)⟩
  · match ds, hlen.1 with
    | [d], _ => rfl

theorem over : Rows.leadNilRow.holds Try.pinned (OpenSpec.ofChange Rows.leadNilSpec) :=
  OpenClaim.holds_of_wide 3 Try.f3 rfl rfl rfl rfl rfl rfl rfl ⟨rfl, rfl, rfl, rfl, rfl⟩ rfl rfl rfl rfl rfl (by kernel_rfl) Try.func3 (by kernel_rfl)
    (of_decide_eq_true (by kernel_rfl)) (by unfold Func.isWrapper; first | (rw [if_pos (by decide +kernel)]; kernel_rfl) | (rw [if_neg (by decide +kernel)]; exact ⟨rfl, rfl⟩))
    (fun os started H enc _ => lifted os started H enc)

theorem proved : Rows.LeadNilSaid := over
end Go.Proofs.Ytjicelalofimfaa.leadNil
