/-
  Commands that stand one behind the other are put and got in their order: catenary/catenarylaw08.CmdsGets returns true for every input, and the input reads behind the call as it read before. The card: the table that the row lists is tied to the program's text.
-/
import Derived.Test.YtmbeekloaidcmaaDoorRows
import Derived.Test.YtmbeekloaidcmaaDoorCards
import Derived.Test.YtmbeekloaidcmaaDoorTie
import Derived.LaidMore
import Derived.LaidLaws
import Derived.SevenTiedAt
import Derived.OpenShut
import Derived.Lay
import Derived.MakeChecks
import Derived.Test.YtmbeekloaidcmaaDoorL6
namespace Go.Proofs.YtmbeekloaidcmaaDoor.cmdsGets
open Go Go.M Go.ChangeShapes Go.WideShapes Go.ChangeAt Go.RowKit

theorem laid : laidOutB Tryd.prog = true := fact1
@[reducible] def tab : List (String × DataW Unit) := [("math/bits.deBruijn32tab", Rows.laid_math_bits_deBruijn32tab), ("math/bits.deBruijn64tab", Rows.laid_math_bits_deBruijn64tab), ("internal/strconv.uint64pow10", Rows.laid_internal_strconv_uint64pow10), ("unicode/utf8.acceptRanges", Rows.laid_unicode_utf8_acceptRanges), ("strconv.ErrRange", Rows.laid_strconv_ErrRange), ("strconv.ErrSyntax", Rows.laid_strconv_ErrSyntax), ("catenary/cmds.names", Rows.laid_catenary_cmds_names), ("unicode/utf8.first", Rows.laid_unicode_utf8_first)]
theorem tabs_are : tabD Tryd.prog tab [(0, names0)] = true := by kernel_rfl
theorem tables {W : World} (hs : W.ShapedOpen Tryd.prog) (h : laidMetH Tryd.prog tab W) : ∃ mx, LaidT (tabs0 mx) W := by
  rw [MakeChecks.laidMetH_plain _ _ _ (by kernel_rfl)] at h
  obtain ⟨mx, hm⟩ := split31.s1_3 W hs
  have h0 := laidT_of tabs_are h
  refine ⟨mx, fun g cs hg => ?_⟩
  unfold tabs0 at hg
  unfold M.look at hg
  split at hg
  · rename_i e
    exact h0 g cs (by unfold M.look; rw [e]; exact hg)
  · unfold M.look at hg
    split at hg
    · rename_i e
      cases hg
      have e : 4 = g := beq_iff.1 e
      subst e
      have hm : W.cell? ⟨4, 0, none⟩ = some (.int .i64 mx) := hm
      unfold World.cell? at hm
      split at hm
      · rename_i c t fr hc
        refine ⟨c, t, fr, hc, ?_, fun i v hv => ?_⟩
        · have : c[0]? = some (.int .i64 mx) := by simpa using hm
          have := (Array.getElem?_eq_some_iff.1 this).1
          exact this
        · cases i with
          | zero => cases hv; simpa using hm
          | succ i => simp at hv
      · cases hm
    · simp [M.look] at hg

@[reducible] def shK : List Sh := [.int .i64, .int .i64, .int .u64, .int .i64]
@[reducible] def shs : List ArgSh := [⟨false, [.sl shK]⟩, ⟨false, [.sl [.int .u8]]⟩]
theorem list_of {α : Type} {enc : α → List TV} {P : α → Prop} {ss : List Sh} (h : ∀ r, Fits ss r → ∃ a, r = enc a ∧ P a) : ∀ {es : List (List TV)}, (∀ r ∈ es, Fits ss r) → ∃ l : List α, es = l.map enc ∧ ∀ a ∈ l, P a
  | [], _ => ⟨[], rfl, by simp⟩
  | r :: es, hr => by
    obtain ⟨a, rfl, ha⟩ := h r (hr r List.mem_cons_self)
    obtain ⟨l, rfl, hl⟩ := list_of h (es := es) fun r hr' => hr r (List.mem_cons_of_mem _ hr')
    exact ⟨a :: l, rfl, fun b hb => by rcases List.mem_cons.1 hb with rfl | hb; exact ha; exact hl b hb⟩
theorem byte_of {r : List TV} (h : Fits [.int .u8] r) : ∃ n : Int, r = encU1 n ∧ 0 ≤ n ∧ n < 256 := by
  simp only [Fits, Fit] at h
  obtain ⟨_, _, rfl, ⟨c, h1, h2, rfl⟩, rfl⟩ := h
  exact ⟨c, rfl, h1, Int.lt_of_le_of_lt h2 (by decide)⟩
theorem cons_of {s : Sh} {ss : List Sh} {r : List TV} (h : Fits (s :: ss) r) : ∃ t r', r = t :: r' ∧ Fit s t ∧ Fits ss r' := by
  unfold Fits at h; exact h
theorem nil_of {r : List TV} (h : Fits [] r) : r = [] := by
  unfold Fits at h; exact h
theorem cmd_of {r : List TV} (h : Fits shK r) : ∃ v : Cmd, r = encC4 v ∧ 0 ≤ v.epoch ∧ v.epoch < 18446744073709551616 := by
  simp only [Fits, Fit] at h
  obtain ⟨_, _, rfl, ⟨c, _, _, rfl⟩, _, _, rfl, ⟨d, _, _, rfl⟩, _, _, rfl, ⟨e, h3, h4, rfl⟩, _, _, rfl, ⟨f, _, _, rfl⟩, rfl⟩ := h
  exact ⟨⟨c, d, e, f⟩, rfl, h3, Int.lt_of_le_of_lt h4 (by decide)⟩
theorem contract {mx : Int} (tvs : List TV) (h : FitAs shs tvs) : VC (E0 mx) 4 0 tvs [] fun r _ _ => r = .s (.bool true) := by
  obtain ⟨t, _, rfl, h1, h2⟩ := h
  obtain ⟨u, _, rfl, h3, rfl⟩ := h2
  obtain ⟨_, _, e1, q1, n1⟩ := cons_of h1
  obtain ⟨_, _, e2, q2, n2⟩ := cons_of h3
  cases nil_of n1; cases nil_of n2
  cases e1; cases e2
  unfold Fit at q1 q2
  obtain ⟨es, hl, hes, rfl⟩ := q1
  obtain ⟨ks, _, hks, rfl⟩ := q2
  obtain ⟨l, rfl, hl2⟩ := list_of (P := fun v : Cmd => 0 ≤ v.epoch ∧ v.epoch < 18446744073709551616) (fun r hr => cmd_of hr) hes
  obtain ⟨m, rfl, hm⟩ := list_of (P := fun v : Int => 0 ≤ v ∧ v < 256) (fun r hr => byte_of hr) hks
  exact cmdsGets_ok l m (by simpa using hl) hl2 hm

set_option maxRecDepth 100000 in
theorem lifted (os : Os) (started : os.Started) (H : Type) (enc : TypeId × Value → H) :
    ReturnsInHanded {} Tryd.checked os 4 .any (fun w args => (Rows.cmdsGetsSpec.pre enc Tryd.prog Tryd.f4 [] false w args ∧ laidMetH Tryd.prog tab w) ∧ sizedMet enc Tryd.prog Tryd.f4 (OpenSpec.ofChange Rows.cmdsGetsSpec) false w args)
      (Rows.cmdsGetsSpec.post enc Tryd.prog Tryd.f4 false true false false) := by
  refine returns_shaped (C := Tryd.checked) (X := fun w _ => laidMetH Tryd.prog tab w) (fun _ _ _ hh h => h.of_heap hh) own started (by kernel_rfl) Tryd.func4
    (ChangeSpec.witness_shaped (enc := enc) (C := Tryd.checked) (os := os) (X := fun w _ => laidMetH Tryd.prog tab w) false (World.laidAll Tryd.prog os tab) #[.slice none 0 0, .slice none 0 0] 8 (World.laidAll_os _ _ _) (World.shaped_of_ZipB (by kernel_rfl) (by kernel_rfl)) (by kernel_rfl) (by kernel_rfl) (by kernel_rfl)
      (by rw [MakeChecks.laidMetH_plain _ _ _ (by kernel_rfl)]; exact laidMet_laidAll _ (by kernel_rfl) (by kernel_rfl))) ?_
  intro W base args ds gs before hSh hval0 hW hL
  have hval : ∀ (j : Nat) t v, Tryd.f4.params[j]? = some t → args[j]? = some v → Value.okWide Tryd.prog W .any base t v := hval0
  rw [Tryd.params4] at hval
  have hlen : ds.length = 2 ∧ args.size = 2 := by
    obtain ⟨p, q, hA, _⟩ := hW
    have := trodAll_length hA
    rw [Tryd.params4] at this
    exact ⟨this.1, by simpa using this.2⟩
  have walk : Calls Tryd.prog 4 args W fun e W' => e = .returned (.bool true) ∧ Below W.heap.size W W' := by
    obtain ⟨p, q, hA, _⟩ := hW
    rw [Tryd.params4] at hA
    obtain ⟨mx, hT⟩ := tables hSh hL
    exact row_trueT (E := E0 mx) (ash := shs) (envOkT _ _ _) (orc0 mx) mixed0 rfl (tabsB0 mx) hT (by kernel_rfl) hA (fun j t v a b => hval j t v (by simpa using a) b) contract
  refine walk.mono fun e W' ⟨he, hb⟩ => ?_
  subst he
  refine ⟨_, rfl, post_true (tb := 4) hW rfl (by kernel_rfl) Tryd.underlying4 laid ?_ ?_ hb⟩
  · intro t ht
    rw [Tryd.params4] at ht
    simp at ht
    rcases ht with rfl | rfl
    · exact ⟨by kernel_rfl, of_decide_eq_true (by kernel_rfl)⟩
    · exact ⟨by kernel_rfl, of_decide_eq_true (by kernel_rfl)⟩
  · match ds, hlen.1 with
    | [d0, d1], _ => rfl

theorem over : Rows.CmdsGetsSaid :=
  OpenClaim.holds_of_wide 4 Tryd.f4 rfl rfl rfl rfl rfl rfl rfl ⟨rfl, rfl, rfl, rfl, rfl⟩ rfl rfl rfl rfl rfl named Tryd.func4 closed
    (of_decide_eq_true (by kernel_rfl)) (by unfold Func.isWrapper; first | (rw [if_pos (by decide +kernel)]; kernel_rfl) | (rw [if_neg (by decide +kernel)]; exact ⟨rfl, rfl⟩))
    (fun os started H enc _ => lifted os started H enc)

theorem main_is : Tryd.pinned.checked.prog.mainIs = some (true, "dc7c46b2a81ca8701efec492f07036220f7e5861b428d3d2268837cbb318e4da".toList) := by kernel_rfl
theorem looks_no : true = Tryd.prog.looks [] := by kernel_rfl
theorem goes_no : false = Rows.cmdsGetsRow.goesBy Tryd.pinned.checked.prog := by kernel_rfl
theorem by_text : Rows.cmdsGetsRow.wfByText (OpenSpec.ofChange Rows.cmdsGetsSpec) = true := by kernel_rfl
theorem no_stand : ([34, 35].all fun u => !Tryd.prog.wantsStandIn u) = true := by kernel_rfl
theorem proved : Rows.CmdsGetsCardSaid :=
  Claim7.holds_tied_plain_at .later [] [.data, .data, .data, .data, .sentinel, .sentinel, .data, .pinned] true (true, "dc7c46b2a81ca8701efec492f07036220f7e5861b428d3d2268837cbb318e4da") true
    over (fun _ h => by cases h) by_text (fun _ h => by cases h) cmdsGets_row_tie rfl ⟨rfl, rfl⟩ main_is rfl
    (fun f fn hf hfn => by
      obtain rfl : f = 4 := Option.some.inj (named.symm.trans hf) |>.symm
      obtain rfl : fn = Tryd.f4 := (Option.some.inj (Tryd.func4.symm.trans hfn)).symm
      exact ⟨looks_no, fun j t ht => by
        rw [Tryd.params4] at ht
        have hm : t ∈ [34, 35] := by simpa using Array.mem_of_getElem? ht
        exact (show Tryd.prog.wantsStandIn t = false by simpa using List.all_eq_true.1 no_stand t hm)⟩)
    goes_no
end Go.Proofs.YtmbeekloaidcmaaDoor.cmdsGets
