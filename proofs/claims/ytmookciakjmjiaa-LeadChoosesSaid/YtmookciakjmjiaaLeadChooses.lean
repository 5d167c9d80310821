/-
  A leader to whom enough promise, and accept, has its commands chosen, in the order in which it proposed them: catenarylaw13.LeadChooses returns true for every input, and the input reads behind the call as it read before. There are no conditions.
-/
import Derived.Test.YtmookciakjmjiaaRows
import Derived.Test.YtmookciakjmjiaaL7
namespace Go.Proofs.Ytmookciakjmjiaa.leadChooses
open Go Go.M Go.ChangeShapes Go.WideShapes Go.ChangeAt Go.RowKit

theorem own : ownKnob Try.prog.godebug = none := by kernel_rfl
theorem laid : laidOutB Try.prog = true := by kernel_rfl

@[reducible] def shC : List Sh := [.int .i64, .int .i64, .int .u64, .int .i64]
@[reducible] def shs : List ArgSh := [⟨false, [.int .i64]⟩, ⟨false, [.int .i64]⟩, ⟨false, [.sl shC]⟩]
theorem list_of {α : Type} {enc : α → List TV} {ss : List Sh} (h : ∀ r, Fits ss r → ∃ a, r = enc a) : ∀ {es : List (List TV)}, (∀ r ∈ es, Fits ss r) → ∃ l : List α, es = l.map enc
  | [], _ => ⟨[], rfl⟩
  | r :: es, hr => by
    obtain ⟨a, rfl⟩ := h r (hr r List.mem_cons_self)
    obtain ⟨l, rfl⟩ := list_of h (es := es) fun r hr' => hr r (List.mem_cons_of_mem _ hr')
    exact ⟨a :: l, rfl⟩
theorem cmd_of {r : List TV} (h : Fits shC r) : ∃ c : Cmd, r = encC c := by
  simp only [Fits, Fit] at h
  obtain ⟨_, _, rfl, ⟨a, _, _, rfl⟩, _, _, rfl, ⟨b, _, _, rfl⟩, _, _, rfl, ⟨c, _, _, rfl⟩, _, _, rfl, ⟨d, _, _, rfl⟩, rfl⟩ := h
  exact ⟨⟨a, b, c, d⟩, rfl⟩
theorem contract (tvs : List TV) (h : FitAs shs tvs) : VC E0 11 0 tvs [] fun r _ _ => r = .s (.bool true) := by
  simp only [FitAs, FitA, Fits, Fit] at h
  obtain ⟨t, _, rfl, ⟨_, _, ht, ⟨me, _, _, rfl⟩, rfl⟩, u, _, rfl, ⟨_, _, hu, ⟨ms, _, _, rfl⟩, rfl⟩, w, _, rfl, ⟨_, _, hw, ⟨es, _, hes, rfl⟩, rfl⟩, rfl⟩ := h
  cases ht; cases hu; cases hw
  obtain ⟨l, rfl⟩ := list_of (fun r => cmd_of) (fun r hr => by have := hes r hr; simp only [Fits, Fit]; exact this)
  exact chooses_ok me ms l

set_option maxRecDepth 100000 in
theorem lifted (os : Os) (started : os.Started) (H : Type) (enc : TypeId × Value → H) :
    ReturnsInHanded {} Try.checked os 11 .any (Rows.leadChoosesSpec.pre6 enc Try.prog Try.f11 Rows.leadChoosesRow.domain false) (Rows.leadChoosesSpec.post enc Try.prog Try.f11 false true false false) := by
  refine returnsInHanded_of_change (C := Try.checked) own started (by kernel_rfl) Try.func11
    (ChangeSpec.witness6 (enc := enc) (C := Try.checked) false ⟨#[], #[.int .i64 0, .int .i64 0, .slice none 0 0], []⟩ 8 (by kernel_rfl) (by kernel_rfl) (by kernel_rfl) (by kernel_rfl)) ?_
  intro W base args ds gs before hval0 hW hcnd _
  have hval : ∀ (j : Nat) t v, Try.f11.params[j]? = some t → args[j]? = some v → Value.okWide Try.prog W .any base t v := hval0
  rw [Try.params11] at hval
  have hlen : ds.length = 3 ∧ args.size = 3 := by
    obtain ⟨p, q, hA, _⟩ := hW
    have := trodAll_length hA
    rw [Try.params11] at this
    exact ⟨this.1, by simpa using this.2⟩
  have walk : Calls Try.prog 11 args W fun e W' => e = .returned (.bool true) ∧ Below W.heap.size W W' := by
    obtain ⟨p, q, hA, _⟩ := hW
    rw [Try.params11] at hA
    exact row_true (E := E0) (ash := shs) (envOk _ _) orc0 mixed0 (fun _ => rfl) (by kernel_rfl) hA (fun j t v a b => hval j t v (by simpa using a) b) contract
  refine walk.mono fun e W' ⟨he, hb⟩ => ?_
  subst he
  refine ⟨_, rfl, post_true (tb := 4) hW rfl (by kernel_rfl) Try.underlying4 laid ?_ ?_ hb⟩
  · intro t ht
    rw [Try.params11] at ht
    simp at ht
    rcases ht with rfl | rfl
    · exact ⟨by kernel_rfl, of_decide_eq_true (by kernel_rfl)⟩
    · exact ⟨by kernel_rfl, of_decide_eq_true (by kernel_rfl)⟩
  · match ds, hlen.1 with
    | [d, d', d''], _ => rfl

theorem over : Rows.leadChoosesRow.holds Try.pinned (OpenSpec.ofChange Rows.leadChoosesSpec) :=
  OpenClaim.holds_of_wide 11 Try.f11 rfl rfl rfl rfl rfl rfl rfl ⟨rfl, rfl, rfl, rfl, rfl⟩ rfl rfl rfl rfl rfl (by kernel_rfl) Try.func11 (by kernel_rfl)
    (of_decide_eq_true (by kernel_rfl)) (by unfold Func.isWrapper; first | (rw [if_pos (by decide +kernel)]; kernel_rfl) | (rw [if_neg (by decide +kernel)]; exact ⟨rfl, rfl⟩))
    (fun os started H enc _ => lifted os started H enc)

theorem proved : Rows.LeadChoosesSaid := over
end Go.Proofs.Ytmookciakjmjiaa.leadChooses
