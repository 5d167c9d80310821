/-
  However leaders and acceptors talk, no two unlike commands are chosen in a slot: catenarylaw13.LeadSafe returns true for every input, and the input reads behind the call as it read before. There are no conditions.
-/
import Derived.Test.YtdgpoonbgkapaaaRows
import Derived.Test.YtdgpoonbgkapaaaL7
namespace Go.Proofs.Ytdgpoonbgkapaaa.leadSafe
open Go Go.M Go.ChangeShapes Go.WideShapes Go.ChangeAt Go.RowKit

theorem own : ownKnob Try.prog.godebug = none := by kernel_rfl
theorem laid : laidOutB Try.prog = true := by kernel_rfl

@[reducible] def shP : List Sh := [.int .i64, .int .i64, .bool, .int .u64, .int .i64, .int .i64, .int .u64, .int .i64]
@[reducible] def shs : List ArgSh := [⟨false, [.int .i64]⟩, ⟨false, [.sl shP]⟩]
theorem list_of {α : Type} {enc : α → List TV} {P : α → Prop} {ss : List Sh} (h : ∀ r, Fits ss r → ∃ a, r = enc a ∧ P a) : ∀ {es : List (List TV)}, (∀ r ∈ es, Fits ss r) → ∃ l : List α, es = l.map enc ∧ ∀ a ∈ l, P a
  | [], _ => ⟨[], rfl, by simp⟩
  | r :: es, hr => by
    obtain ⟨a, rfl, ha⟩ := h r (hr r List.mem_cons_self)
    obtain ⟨l, rfl, hl⟩ := list_of h (es := es) fun r hr' => hr r (List.mem_cons_of_mem _ hr')
    exact ⟨a :: l, rfl, fun b hb => by rcases List.mem_cons.1 hb with rfl | hb; exact ha; exact hl b hb⟩
theorem cons_of {s : Sh} {ss : List Sh} {r : List TV} (h : Fits (s :: ss) r) : ∃ t r', r = t :: r' ∧ Fit s t ∧ Fits ss r' := by
  unfold Fits at h; exact h
theorem nil_of {r : List TV} (h : Fits [] r) : r = [] := by
  unfold Fits at h; exact h
theorem int_of {k : IntKind} {t : TV} (h : Fit (.int k) t) : ∃ n, k.min ≤ n ∧ n ≤ k.max ∧ t = .s (.int k n) := by
  unfold Fit at h; exact h
theorem bool_of {t : TV} (h : Fit .bool t) : ∃ b, t = .s (.bool b) := by
  unfold Fit at h; exact h
theorem pick_of {r : List TV} (h : Fits shP r) : ∃ o : Pk, r = encPk o ∧ (0 ≤ o.b ∧ o.b ≤ 18446744073709551615) := by
  obtain ⟨_, _, rfl, q1, g1⟩ := cons_of h
  obtain ⟨k, _, _, rfl⟩ := int_of q1
  obtain ⟨_, _, rfl, q2, g2⟩ := cons_of g1
  obtain ⟨i, _, _, rfl⟩ := int_of q2
  obtain ⟨_, _, rfl, q3, g3⟩ := cons_of g2
  obtain ⟨w, rfl⟩ := bool_of q3
  obtain ⟨_, _, rfl, q4, g4⟩ := cons_of g3
  obtain ⟨b, b1, b2, rfl⟩ := int_of q4
  obtain ⟨_, _, rfl, q7, g7⟩ := cons_of g4
  obtain ⟨c1, _, _, rfl⟩ := int_of q7
  obtain ⟨_, _, rfl, q8, g8⟩ := cons_of g7
  obtain ⟨c2, _, _, rfl⟩ := int_of q8
  obtain ⟨_, _, rfl, q9, g9⟩ := cons_of g8
  obtain ⟨c3, _, _, rfl⟩ := int_of q9
  obtain ⟨_, _, rfl, q10, g10⟩ := cons_of g9
  obtain ⟨c4, _, _, rfl⟩ := int_of q10
  cases nil_of g10
  exact ⟨⟨k, i, w, b, ⟨c1, c2, c3, c4⟩⟩, rfl, b1, b2⟩
theorem contract (tvs : List TV) (h : FitAs shs tvs) : VC E0 3 0 tvs [] fun r _ _ => r = .s (.bool true) := by
  simp only [FitAs, FitA] at h
  obtain ⟨t, _, rfl, h1, w, _, rfl, h3, rfl⟩ := h
  obtain ⟨_, _, e1, q1, n1⟩ := cons_of h1
  obtain ⟨_, _, e3, q3, n3⟩ := cons_of h3
  cases nil_of n1; cases nil_of n3
  cases e1; cases e3
  obtain ⟨ms, _, _, rfl⟩ := int_of q1
  unfold Fit at q3
  obtain ⟨es, _, hes, rfl⟩ := q3
  obtain ⟨l, rfl, hl⟩ := list_of (P := fun o : Pk => 0 ≤ o.b ∧ o.b ≤ 18446744073709551615) (fun r => pick_of) hes
  exact safeC ms l hl

set_option maxRecDepth 100000 in
theorem lifted (os : Os) (started : os.Started) (H : Type) (enc : TypeId × Value → H) :
    ReturnsInHanded {} Try.checked os 3 .any (Rows.leadSafeSpec.pre6 enc Try.prog Try.f3 Rows.leadSafeRow.domain false) (Rows.leadSafeSpec.post enc Try.prog Try.f3 false true false false) := by
  refine returnsInHanded_of_change (C := Try.checked) own started (by kernel_rfl) Try.func3
    (ChangeSpec.witness6 (enc := enc) (C := Try.checked) false ⟨#[], #[.int .i64 0, .slice none 0 0], []⟩ 8 (by kernel_rfl) (by kernel_rfl) (by kernel_rfl) (by kernel_rfl)) ?_
  intro W base args ds gs before hval0 hW hcnd _
  have hval : ∀ (j : Nat) t v, Try.f3.params[j]? = some t → args[j]? = some v → Value.okWide Try.prog W .any base t v := hval0
  rw [Try.params3] at hval
  have hlen : ds.length = 2 ∧ args.size = 2 := by
    obtain ⟨p, q, hA, _⟩ := hW
    have := trodAll_length hA
    rw [Try.params3] at this
    exact ⟨this.1, by simpa using this.2⟩
  have walk : Calls Try.prog 3 args W fun e W' => e = .returned (.bool true) ∧ Below W.heap.size W W' := by
    obtain ⟨p, q, hA, _⟩ := hW
    rw [Try.params3] at hA
    exact row_true (E := E0) (ash := shs) (envOk _ _) orc0 mixed0 (fun _ => rfl) (by kernel_rfl) hA (fun j t v a b => hval j t v (by simpa using a) b) contract
  refine walk.mono fun e W' ⟨he, hb⟩ => ?_
  subst he
  refine ⟨_, rfl, post_true (tb := 4) hW rfl (by kernel_rfl) Try.underlying4 laid ?_ ?_ hb⟩
  · intro t ht
    rw [Try.params3] at ht
    simp at ht
    rcases ht with rfl | rfl
    · exact ⟨by kernel_rfl, of_decide_eq_true (by kernel_rfl)⟩
    · exact ⟨by kernel_rfl, of_decide_eq_true (by kernel_rfl)⟩
  · match ds, hlen.1 with
    | [d, d'], _ => rfl

theorem over : Rows.leadSafeRow.holds Try.pinned (OpenSpec.ofChange Rows.leadSafeSpec) :=
  OpenClaim.holds_of_wide 3 Try.f3 rfl rfl rfl rfl rfl rfl rfl ⟨rfl, rfl, rfl, rfl, rfl⟩ rfl rfl rfl rfl rfl (by kernel_rfl) Try.func3 (by kernel_rfl)
    (of_decide_eq_true (by kernel_rfl)) (by unfold Func.isWrapper; first | (rw [if_pos (by decide +kernel)]; kernel_rfl) | (rw [if_neg (by decide +kernel)]; exact ⟨rfl, rfl⟩))
    (fun os started H enc _ => lifted os started H enc)

theorem proved : Rows.LeadSafeSaid := over
end Go.Proofs.Ytdgpoonbgkapaaa.leadSafe
