/-
  Of any lists of votes the best ones are the document's: catenarylaw11.AcceptBest returns true for every input, and the input reads behind the call as it read before. There are no conditions.
-/
import Derived.Test.YtmookciakjmjiaaRows
import Derived.Test.YtmookciakjmjiaaL6
namespace Go.Proofs.Ytmookciakjmjiaa.acceptBest
open Go Go.M Go.ChangeShapes Go.WideShapes Go.ChangeAt Go.RowKit

theorem own : ownKnob Try.prog.godebug = none := by kernel_rfl
theorem laid : laidOutB Try.prog = true := by kernel_rfl

@[reducible] def shV : List Sh := [.int .i64, .int .u64, .int .i64, .int .i64, .int .u64, .int .i64]
@[reducible] def shs : List ArgSh := [⟨false, [.sl [.sl shV]]⟩]
theorem list_of {α : Type} {enc : α → List TV} {P : α → Prop} {ss : List Sh} (h : ∀ r, Fits ss r → ∃ a, r = enc a ∧ P a) : ∀ {es : List (List TV)}, (∀ r ∈ es, Fits ss r) → ∃ l : List α, es = l.map enc ∧ ∀ a ∈ l, P a
  | [], _ => ⟨[], rfl, by simp⟩
  | r :: es, hr => by
    obtain ⟨a, rfl, ha⟩ := h r (hr r List.mem_cons_self)
    obtain ⟨l, rfl, hl⟩ := list_of h (es := es) fun r hr' => hr r (List.mem_cons_of_mem _ hr')
    exact ⟨a :: l, rfl, fun b hb => by rcases List.mem_cons.1 hb with rfl | hb; exact ha; exact hl b hb⟩
theorem vote_of {r : List TV} (h : Fits shV r) : ∃ v : Vote, r = encV v ∧ inI v.slot := by
  simp only [Fits, Fit] at h
  obtain ⟨_, _, rfl, ⟨a, h1, h2, rfl⟩, _, _, rfl, ⟨b, _, _, rfl⟩, _, _, rfl, ⟨c, _, _, rfl⟩, _, _, rfl, ⟨d, _, _, rfl⟩, _, _, rfl, ⟨e, _, _, rfl⟩, _, _, rfl, ⟨f, _, _, rfl⟩, rfl⟩ := h
  exact ⟨⟨a, b, c, d, e, f⟩, rfl, h1, h2⟩
theorem votes_of {r : List TV} (h : Fits [.sl shV] r) : ∃ l : List Vote, r = encL l ∧ ∀ v ∈ l, inI v.slot := by
  unfold Fits at h
  obtain ⟨_, _, rfl, ht, hn⟩ := h
  unfold Fits at hn
  subst hn
  unfold Fit at ht
  obtain ⟨es, _, hes, rfl⟩ := ht
  obtain ⟨l, rfl, hl⟩ := list_of (P := fun v : Vote => inI v.slot) (fun r hr => vote_of hr) hes
  exact ⟨l, rfl, hl⟩
theorem contract (tvs : List TV) (h : FitAs shs tvs) : VC E0 10 0 tvs [] fun r _ _ => r = .s (.bool true) := by
  simp only [FitAs, FitA] at h
  obtain ⟨t, _, rfl, ht, rfl⟩ := h
  unfold Fits at ht
  obtain ⟨_, _, ht', ht, hn⟩ := ht
  unfold Fits at hn
  subst hn
  cases ht'
  unfold Fit at ht
  obtain ⟨es, _, hes, rfl⟩ := ht
  obtain ⟨l, rfl, hl⟩ := list_of (P := fun l : List Vote => ∀ v ∈ l, inI v.slot) (fun r hr => votes_of hr) hes
  exact bestlaw_ok l hl

set_option maxRecDepth 100000 in
theorem lifted (os : Os) (started : os.Started) (H : Type) (enc : TypeId × Value → H) :
    ReturnsInHanded {} Try.checked os 10 .any (Rows.acceptBestSpec.pre6 enc Try.prog Try.f10 Rows.acceptBestRow.domain false) (Rows.acceptBestSpec.post enc Try.prog Try.f10 false true false false) := by
  refine returnsInHanded_of_change (C := Try.checked) own started (by kernel_rfl) Try.func10
    (ChangeSpec.witness6 (enc := enc) (C := Try.checked) false ⟨#[], #[.slice none 0 0], []⟩ 8 (by kernel_rfl) (by kernel_rfl) (by kernel_rfl) (by kernel_rfl)) ?_
  intro W base args ds gs before hval0 hW hcnd _
  have hval : ∀ (j : Nat) t v, Try.f10.params[j]? = some t → args[j]? = some v → Value.okWide Try.prog W .any base t v := hval0
  rw [Try.params10] at hval
  have hlen : ds.length = 1 ∧ args.size = 1 := by
    obtain ⟨p, q, hA, _⟩ := hW
    have := trodAll_length hA
    rw [Try.params10] at this
    exact ⟨this.1, by simpa using this.2⟩
  have walk : Calls Try.prog 10 args W fun e W' => e = .returned (.bool true) ∧ Below W.heap.size W W' := by
    obtain ⟨p, q, hA, _⟩ := hW
    rw [Try.params10] at hA
    exact row_true (E := E0) (ash := shs) (envOk _ _) orc0 mixed0 (fun _ => rfl) (by kernel_rfl) hA (fun j t v a b => hval j t v (by simpa using a) b) contract
  refine walk.mono fun e W' ⟨he, hb⟩ => ?_
  subst he
  refine ⟨_, rfl, post_true (tb := 4) hW rfl (by kernel_rfl) Try.underlying4 laid ?_ ?_ hb⟩
  · intro t ht
    rw [Try.params10] at ht
    simp at ht
    subst ht
    exact ⟨by kernel_rfl, of_decide_eq_true (by kernel_rfl)⟩
  · match ds, hlen.1 with
    | [d], _ => rfl

theorem over : Rows.acceptBestRow.holds Try.pinned (OpenSpec.ofChange Rows.acceptBestSpec) :=
  OpenClaim.holds_of_wide 10 Try.f10 rfl rfl rfl rfl rfl rfl rfl ⟨rfl, rfl, rfl, rfl, rfl⟩ rfl rfl rfl rfl rfl (by kernel_rfl) Try.func10 (by kernel_rfl)
    (of_decide_eq_true (by kernel_rfl)) (by unfold Func.isWrapper; first | (rw [if_pos (by decide +kernel)]; kernel_rfl) | (rw [if_neg (by decide +kernel)]; exact ⟨rfl, rfl⟩))
    (fun os started H enc _ => lifted os started H enc)

theorem proved : Rows.AcceptBestSaid := over
end Go.Proofs.Ytmookciakjmjiaa.acceptBest
