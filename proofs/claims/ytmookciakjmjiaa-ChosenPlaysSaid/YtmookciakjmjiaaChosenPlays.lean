/-
  Whatever is learned, in whatever order, the program's log and the document's tell the same: catenarylaw12.ChosenPlays returns true for every input, and the input reads behind the call as it read before. There are no conditions.
-/
import Derived.Test.YtmookciakjmjiaaRows
import Derived.Test.YtmookciakjmjiaaL7
namespace Go.Proofs.Ytmookciakjmjiaa.chosenPlays
open Go Go.M Go.ChangeShapes Go.WideShapes Go.ChangeAt Go.RowKit

theorem own : ownKnob Try.prog.godebug = none := by kernel_rfl
theorem laid : laidOutB Try.prog = true := by kernel_rfl

@[reducible] def shV : List Sh := [.int .i64, .int .u64, .int .i64, .int .i64, .int .u64, .int .i64]
@[reducible] def shC : List Sh := [.int .i64, .int .u64, .sl [.int .i64], .bool, .int .i64]
@[reducible] def shK : List Sh := [.int .i64, .int .i64, .int .u64, .int .i64]
@[reducible] def shs : List ArgSh := [⟨false, [.sl shC]⟩, ⟨false, [.sl shV]⟩, ⟨true, shK⟩]
theorem list_of {α : Type} {enc : α → List TV} {P : α → Prop} {ss : List Sh} (h : ∀ r, Fits ss r → ∃ a, r = enc a ∧ P a) : ∀ {es : List (List TV)}, (∀ r ∈ es, Fits ss r) → ∃ l : List α, es = l.map enc ∧ ∀ a ∈ l, P a
  | [], _ => ⟨[], rfl, by simp⟩
  | r :: es, hr => by
    obtain ⟨a, rfl, ha⟩ := h r (hr r List.mem_cons_self)
    obtain ⟨l, rfl, hl⟩ := list_of h (es := es) fun r hr' => hr r (List.mem_cons_of_mem _ hr')
    exact ⟨a :: l, rfl, fun b hb => by rcases List.mem_cons.1 hb with rfl | hb; exact ha; exact hl b hb⟩
theorem vote_of {r : List TV} (h : Fits shV r) : ∃ v : Vote, r = encV v ∧ 0 ≤ v.epoch := by
  simp only [Fits, Fit] at h
  obtain ⟨_, _, rfl, ⟨a, h1, h2, rfl⟩, _, _, rfl, ⟨b, _, _, rfl⟩, _, _, rfl, ⟨c, _, _, rfl⟩, _, _, rfl, ⟨d, _, _, rfl⟩, _, _, rfl, ⟨e, h3, _, rfl⟩, _, _, rfl, ⟨f, _, _, rfl⟩, rfl⟩ := h
  exact ⟨⟨a, b, c, d, e, f⟩, rfl, h3⟩
theorem int1_of {r : List TV} (h : Fits [.int .i64] r) : ∃ n : Int, r = encI1 n ∧ True := by
  simp only [Fits, Fit] at h
  obtain ⟨_, _, rfl, ⟨c, _, _, rfl⟩, rfl⟩ := h
  exact ⟨c, rfl, trivial⟩
theorem cmd_of {r : List TV} (h : Fits shK r) : ∃ v : Cmd, TV.agg r = cT4 v ∧ 0 ≤ v.epoch := by
  simp only [Fits, Fit] at h
  obtain ⟨_, _, rfl, ⟨c, _, _, rfl⟩, _, _, rfl, ⟨d, _, _, rfl⟩, _, _, rfl, ⟨e, h3, _, rfl⟩, _, _, rfl, ⟨f, _, _, rfl⟩, rfl⟩ := h
  exact ⟨⟨c, d, e, f⟩, rfl, h3⟩
theorem conf_of {r : List TV} (h : Fits shC r) : ∃ v : CF, r = encCF v ∧ 0 ≤ v.epoch ∧ v.epoch ≤ 18446744073709551615 := by
  rw [Fits] at h
  simp only [Fits, Fit] at h
  obtain ⟨_, _, rfl, ⟨c, _, _, rfl⟩, _, _, rfl, ⟨d, h3, h4, rfl⟩, _, _, rfl, ⟨es, _, hes, rfl⟩, _, _, rfl, ⟨b, rfl⟩, _, _, rfl, ⟨f, _, _, rfl⟩, rfl⟩ := h
  obtain ⟨l, rfl, _⟩ := list_of (enc := encI1) (P := fun _ => True) (ss := [.int .i64]) (fun r hr => int1_of hr) (es := es) (fun r hr => by have := hes r hr; simp only [Fits, Fit]; exact this)
  exact ⟨⟨c, d, l, b, f⟩, rfl, h3, h4⟩
theorem cons_of {s : Sh} {ss : List Sh} {r : List TV} (h : Fits (s :: ss) r) : ∃ t r', r = t :: r' ∧ Fit s t ∧ Fits ss r' := by
  unfold Fits at h; exact h
theorem nil_of {r : List TV} (h : Fits [] r) : r = [] := by
  unfold Fits at h; exact h
theorem int_of {k : IntKind} {t : TV} (h : Fit (.int k) t) : ∃ n, k.min ≤ n ∧ n ≤ k.max ∧ t = .s (.int k n) := by
  unfold Fit at h; exact h
theorem contract (tvs : List TV) (h : FitAs shs tvs) : VC E0 5 0 tvs [] fun r _ _ => r = .s (.bool true) := by
  simp only [FitAs, FitA] at h
  obtain ⟨t, _, rfl, h1, u, _, rfl, h2, w, _, rfl, ⟨r3, e3, h3⟩, rfl⟩ := h
  obtain ⟨_, _, e1, q1, n1⟩ := cons_of h1
  obtain ⟨_, _, e2, q2, n2⟩ := cons_of h2
  cases nil_of n1; cases nil_of n2
  cases e1; cases e2
  unfold Fit at q1 q2
  obtain ⟨es, hl, hes, rfl⟩ := q1
  obtain ⟨ks, _, hks, rfl⟩ := q2
  obtain ⟨l, rfl, hl2⟩ := list_of (P := fun v : CF => 0 ≤ v.epoch ∧ v.epoch ≤ 18446744073709551615) (fun r hr => conf_of hr) hes
  obtain ⟨m, rfl, hm⟩ := list_of (P := fun v : Vote => 0 ≤ v.epoch) (fun r hr => vote_of hr) hks
  obtain ⟨c, hc, hce⟩ := cmd_of h3
  subst e3
  rw [hc]
  exact plays12_ok l m c hl2 hm hce

set_option maxRecDepth 100000 in
theorem lifted (os : Os) (started : os.Started) (H : Type) (enc : TypeId × Value → H) :
    ReturnsInHanded {} Try.checked os 5 .any (Rows.chosenPlaysSpec.pre6 enc Try.prog Try.f5 Rows.chosenPlaysRow.domain false) (Rows.chosenPlaysSpec.post enc Try.prog Try.f5 false true false false) := by
  refine returnsInHanded_of_change (C := Try.checked) own started (by kernel_rfl) Try.func5
    (ChangeSpec.witness6 (enc := enc) (C := Try.checked) false ⟨#[], #[.slice none 0 0, .slice none 0 0, .agg #[.int .i64 0, .int .i64 0, .int .u64 0, .int .i64 0]], []⟩ 8 (by kernel_rfl) (by kernel_rfl) (by kernel_rfl) (by kernel_rfl)) ?_
  intro W base args ds gs before hval0 hW hcnd _
  have hval : ∀ (j : Nat) t v, Try.f5.params[j]? = some t → args[j]? = some v → Value.okWide Try.prog W .any base t v := hval0
  rw [Try.params5] at hval
  have hlen : ds.length = 3 ∧ args.size = 3 := by
    obtain ⟨p, q, hA, _⟩ := hW
    have := trodAll_length hA
    rw [Try.params5] at this
    exact ⟨this.1, by simpa using this.2⟩
  have walk : Calls Try.prog 5 args W fun e W' => e = .returned (.bool true) ∧ Below W.heap.size W W' := by
    obtain ⟨p, q, hA, _⟩ := hW
    rw [Try.params5] at hA
    exact row_true (E := E0) (ash := shs) (envOk _ _) orc0 mixed0 (fun _ => rfl) (by kernel_rfl) hA (fun j t v a b => hval j t v (by simpa using a) b) contract
  refine walk.mono fun e W' ⟨he, hb⟩ => ?_
  subst he
  refine ⟨_, rfl, post_true (tb := 4) hW rfl (by kernel_rfl) Try.underlying4 laid ?_ ?_ hb⟩
  · intro t ht
    rw [Try.params5] at ht
    simp at ht
    rcases ht with rfl | rfl | rfl
    · exact ⟨by kernel_rfl, of_decide_eq_true (by kernel_rfl)⟩
    · exact ⟨by kernel_rfl, of_decide_eq_true (by kernel_rfl)⟩
    · exact ⟨by kernel_rfl, of_decide_eq_true (by kernel_rfl)⟩
  · match ds, hlen.1 with
    | [d, d', d''], _ => rfl

theorem over : Rows.chosenPlaysRow.holds Try.pinned (OpenSpec.ofChange Rows.chosenPlaysSpec) :=
  OpenClaim.holds_of_wide 5 Try.f5 rfl rfl rfl rfl rfl rfl rfl ⟨rfl, rfl, rfl, rfl, rfl⟩ rfl rfl rfl rfl rfl (by kernel_rfl) Try.func5 (by kernel_rfl)
    (of_decide_eq_true (by kernel_rfl)) (by unfold Func.isWrapper; first | (rw [if_pos (by decide +kernel)]; kernel_rfl) | (rw [if_neg (by decide +kernel)]; exact ⟨rfl, rfl⟩))
    (fun os started H enc _ => lifted os started H enc)

theorem proved : Rows.ChosenPlaysSaid := over
end Go.Proofs.Ytmookciakjmjiaa.chosenPlays
