/-
  What a right command is, its bytes and its text: catenary/catenarylaw08.CmdsChecks returns true for every input, and the input reads behind the call as it read before. The card: the table that the row lists is tied to the program's text.
-/
import Derived.Test.YtmbeekloaidcmaaDoorRows
import Derived.Test.YtmbeekloaidcmaaDoorCards
import Derived.Test.YtmbeekloaidcmaaDoorTie
import Derived.LaidMore
import Derived.LaidLaws
import Derived.SevenTiedAt
import Derived.OpenShut
import Derived.Lay
import Derived.MakeChecks
import Derived.Test.YtmbeekloaidcmaaDoorL7
namespace Go.Proofs.YtmbeekloaidcmaaDoor.cmdsChecks
open Go Go.M Go.ChangeShapes Go.WideShapes Go.ChangeAt Go.RowKit

theorem laid : laidOutB Tryd.prog = true := fact1
@[reducible] def tab : List (String × DataW Unit) := [("math/bits.deBruijn32tab", Rows.laid_math_bits_deBruijn32tab), ("math/bits.deBruijn64tab", Rows.laid_math_bits_deBruijn64tab), ("internal/strconv.uint64pow10", Rows.laid_internal_strconv_uint64pow10), ("unicode/utf8.acceptRanges", Rows.laid_unicode_utf8_acceptRanges), ("strconv.ErrRange", Rows.laid_strconv_ErrRange), ("strconv.ErrSyntax", Rows.laid_strconv_ErrSyntax), ("catenary/cmds.names", Rows.laid_catenary_cmds_names), ("unicode/utf8.first", Rows.laid_unicode_utf8_first)]
theorem tabs_are : tabD Tryd.prog tab [(0, names0), (3, pow0)] = true := by kernel_rfl
theorem tables {W : World} (hs : W.ShapedOpen Tryd.prog) (h : laidMetH Tryd.prog tab W) : ∃ mx, LaidT (tabs0 mx) W := by
  rw [MakeChecks.laidMetH_plain _ _ _ (by kernel_rfl)] at h
  obtain ⟨mx, hm⟩ := split31.s1_3 W hs
  have h0 := laidT_of tabs_are h
  obtain ⟨ce, te, fe, ve, r1, r2, r3, r4⟩ := laid_if (P := Tryd.prog) h (nm := "strconv.ErrRange") (d := Rows.laid_strconv_ErrRange) (g := 2) (t := 66) (by simp [tab]) (by kernel_rfl) (by kernel_rfl) Tryd.underlying66
  refine ⟨mx, fun g cs hg => ?_⟩
  have hm2 := look_mem hg
  simp only [tabs0, List.mem_cons, List.not_mem_nil, or_false, Prod.mk.injEq] at hm2
  rcases hm2 with ⟨rfl, rfl⟩ | ⟨rfl, rfl⟩ | ⟨rfl, rfl⟩ | ⟨rfl, rfl⟩
  · exact h0 0 names0 rfl
  · have hm : W.cell? ⟨4, 0, none⟩ = some (.int .i64 mx) := hm
    unfold World.cell? at hm
    split at hm
    · rename_i c t fr hc
      have hm : c[0]? = some (.int .i64 mx) := by simpa using hm
      refine ⟨c, t, fr, hc, (Array.getElem?_eq_some_iff.1 hm).1, fun i v hv => ?_⟩
      cases i with
      | zero => cases hv; exact ⟨_, hm, .inl ⟨rfl, rfl⟩⟩
      | succ i => simp at hv
    · cases hm
  · refine ⟨ce, te, fe, r1, r2, fun i v hv => ?_⟩
    cases i with
    | zero => cases hv; exact ⟨_, r3, .inr ⟨rfl, r4⟩⟩
    | succ i => simp at hv
  · exact h0 3 pow0 rfl

@[reducible] def shK : List Sh := [.int .i64, .int .i64, .int .u64, .int .i64]
@[reducible] def shs : List ArgSh := [⟨true, shK⟩, ⟨false, [.int .i64]⟩]
theorem cons_of {s : Sh} {ss : List Sh} {r : List TV} (h : Fits (s :: ss) r) : ∃ t r', r = t :: r' ∧ Fit s t ∧ Fits ss r' := by
  unfold Fits at h; exact h
theorem nil_of {r : List TV} (h : Fits [] r) : r = [] := by
  unfold Fits at h; exact h
theorem contract {mx : Int} (tvs : List TV) (h : FitAs shs tvs) : VC (E0 mx) 5 0 tvs [] fun r _ _ => r = .s (.bool true) := by
  obtain ⟨t, _, rfl, h1, h2⟩ := h
  obtain ⟨u, _, rfl, h3, rfl⟩ := h2
  obtain ⟨c, rfl, hc1, hc2⟩ : ∃ v : Cmd, t = cT4 v ∧ 0 ≤ v.epoch ∧ v.epoch < 18446744073709551616 := by
    obtain ⟨r, rfl, h⟩ := h1
    simp only [Fits, Fit] at h
    obtain ⟨_, _, rfl, ⟨c, _, _, rfl⟩, _, _, rfl, ⟨d, _, _, rfl⟩, _, _, rfl, ⟨e, h3, h4, rfl⟩, _, _, rfl, ⟨f, _, _, rfl⟩, rfl⟩ := h
    exact ⟨⟨c, d, e, f⟩, rfl, h3, Int.lt_of_le_of_lt h4 (by decide)⟩
  obtain ⟨_, _, e2, q2, n2⟩ := cons_of h3
  cases nil_of n2
  cases e2
  unfold Fit at q2
  obtain ⟨k, _, _, rfl⟩ := q2
  exact cmdsChecks_ok c k ⟨hc1, hc2⟩

set_option maxRecDepth 100000 in
theorem lifted (os : Os) (started : os.Started) (H : Type) (enc : TypeId × Value → H) :
    ReturnsInHanded {} Tryd.checked os 5 .any (fun w args => (Rows.cmdsChecksSpec.pre enc Tryd.prog Tryd.f5 [] false w args ∧ laidMetH Tryd.prog tab w) ∧ sizedMet enc Tryd.prog Tryd.f5 (OpenSpec.ofChange Rows.cmdsChecksSpec) false w args)
      (Rows.cmdsChecksSpec.post enc Tryd.prog Tryd.f5 false true false false) := by
  refine returns_shaped (C := Tryd.checked) (X := fun w _ => laidMetH Tryd.prog tab w) (fun _ _ _ hh h => h.of_heap hh) own started (by kernel_rfl) Tryd.func5
    (ChangeSpec.witness_shaped (enc := enc) (C := Tryd.checked) (os := os) (X := fun w _ => laidMetH Tryd.prog tab w) false (World.laidAll Tryd.prog os tab) #[.agg #[.int .i64 0, .int .i64 0, .int .u64 0, .int .i64 0], .int .i64 0] 8 (World.laidAll_os _ _ _) (World.shaped_of_ZipB (by kernel_rfl) (by kernel_rfl)) (by kernel_rfl) (by kernel_rfl) (by kernel_rfl)
      (by rw [MakeChecks.laidMetH_plain _ _ _ (by kernel_rfl)]; exact laidMet_laidAll _ (by kernel_rfl) (by kernel_rfl))) ?_
  intro W base args ds gs before hSh hval0 hW hL
  have hval : ∀ (j : Nat) t v, Tryd.f5.params[j]? = some t → args[j]? = some v → Value.okWide Tryd.prog W .any base t v := hval0
  rw [Tryd.params5] at hval
  have hlen : ds.length = 2 ∧ args.size = 2 := by
    obtain ⟨p, q, hA, _⟩ := hW
    have := trodAll_length hA
    rw [Tryd.params5] at this
    exact ⟨this.1, by simpa using this.2⟩
  have walk : Calls Tryd.prog 5 args W fun e W' => e = .returned (.bool true) ∧ Below W.heap.size W W' := by
    obtain ⟨p, q, hA, _⟩ := hW
    rw [Tryd.params5] at hA
    obtain ⟨mx, hT⟩ := tables hSh hL
    exact row_trueT (E := E0 mx) (ash := shs) (envOkT _ _ _) (orc0 mx) mixed0 rfl (tabsB0 mx) hT (by kernel_rfl) hA (fun j t v a b => hval j t v (by simpa using a) b) contract
  refine walk.mono fun e W' ⟨he, hb⟩ => ?_
  subst he
  refine ⟨_, rfl, post_true (tb := 4) hW rfl (by kernel_rfl) Tryd.underlying4 laid ?_ ?_ hb⟩
  · intro t ht
    rw [Tryd.params5] at ht
    simp at ht
    rcases ht with rfl | rfl
    · exact ⟨by kernel_rfl, of_decide_eq_true (by kernel_rfl)⟩
    · exact ⟨by kernel_rfl, of_decide_eq_true (by kernel_rfl)⟩
  · match ds, hlen.1 with
    | [d0, d1], _ => rfl

theorem over : Rows.CmdsChecksSaid :=
  OpenClaim.holds_of_wide 5 Tryd.f5 rfl rfl rfl rfl rfl rfl rfl ⟨rfl, rfl, rfl, rfl, rfl⟩ rfl rfl rfl rfl rfl named Tryd.func5 closed
    (of_decide_eq_true (by kernel_rfl)) (by unfold Func.isWrapper; first | (rw [if_pos (by decide +kernel)]; kernel_rfl) | (rw [if_neg (by decide +kernel)]; exact ⟨rfl, rfl⟩))
    (fun os started H enc _ => lifted os started H enc)

theorem main_is : Tryd.pinned.checked.prog.mainIs = some (true, "dc7c46b2a81ca8701efec492f07036220f7e5861b428d3d2268837cbb318e4da".toList) := by kernel_rfl
theorem looks_no : true = Tryd.prog.looks [] := by kernel_rfl
theorem goes_no : false = Rows.cmdsChecksRow.goesBy Tryd.pinned.checked.prog := by kernel_rfl
theorem by_text : Rows.cmdsChecksRow.wfByText (OpenSpec.ofChange Rows.cmdsChecksSpec) = true := by kernel_rfl
theorem no_stand : ([25, 3].all fun u => !Tryd.prog.wantsStandIn u) = true := by kernel_rfl
theorem proved : Rows.CmdsChecksCardSaid :=
  Claim7.holds_tied_plain_at .later [] [.data, .data, .data, .data, .sentinel, .sentinel, .data, .pinned] true (true, "dc7c46b2a81ca8701efec492f07036220f7e5861b428d3d2268837cbb318e4da") true
    over (fun _ h => by cases h) by_text (fun _ h => by cases h) cmdsChecks_row_tie rfl ⟨rfl, rfl⟩ main_is rfl
    (fun f fn hf hfn => by
      obtain rfl : f = 5 := Option.some.inj (named.symm.trans hf) |>.symm
      obtain rfl : fn = Tryd.f5 := (Option.some.inj (Tryd.func5.symm.trans hfn)).symm
      exact ⟨looks_no, fun j t ht => by
        rw [Tryd.params5] at ht
        have hm : t ∈ [25, 3] := by simpa using Array.mem_of_getElem? ht
        exact (show Tryd.prog.wantsStandIn t = false by simpa using List.all_eq_true.1 no_stand t hm)⟩)
    goes_no
end Go.Proofs.YtmbeekloaidcmaaDoor.cmdsChecks
