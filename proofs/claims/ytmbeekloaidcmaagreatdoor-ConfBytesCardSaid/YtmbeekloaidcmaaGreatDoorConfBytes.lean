/-
  Any configuration's bytes, and any bytes' configuration: catenary/catenarylaw09.ConfBytes returns true for every input, and the input reads behind the call as it read before. The card: the table that the row lists is tied to the program's text.
-/
import Derived.Test.YtmbeekloaidcmaaGreatDoorRows
import Derived.Test.YtmbeekloaidcmaaGreatDoorCards
import Derived.Test.YtmbeekloaidcmaaGreatDoorTie
import Derived.LaidMore
import Derived.LaidLaws
import Derived.SevenTiedAt
import Derived.OpenShut
import Derived.Lay
import Derived.MakeChecks
import Derived.Test.YtmbeekloaidcmaaGreatDoorL6
namespace Go.Proofs.YtmbeekloaidcmaaGreatDoor.confBytes
open Go Go.M Go.ChangeShapes Go.WideShapes Go.ChangeAt Go.RowKit

theorem laid : laidOutB Tryz.prog = true := fact1
@[reducible] def tab : List (String × DataW Unit) := [("math/bits.deBruijn32tab", Rows.laid_math_bits_deBruijn32tab), ("math/bits.deBruijn64tab", Rows.laid_math_bits_deBruijn64tab), ("internal/strconv.uint64pow10", Rows.laid_internal_strconv_uint64pow10)]
theorem tabs_are : tabD Tryz.prog tab tabs0 = true := by kernel_rfl
theorem tables {W : World} (h : laidMetH Tryz.prog tab W) : LaidT tabs0 W := by
  rw [MakeChecks.laidMetH_plain _ _ _ (by kernel_rfl)] at h
  exact laidT_of tabs_are h

@[reducible] def shC : List Sh := [.int .i64, .int .u64, .sl [.int .i64], .bool, .int .i64]
@[reducible] def shs : List ArgSh := [⟨true, shC⟩, ⟨false, [.sl [.int .u8]]⟩]
theorem list_of {α : Type} {enc : α → List TV} {P : α → Prop} {ss : List Sh} (h : ∀ r, Fits ss r → ∃ a, r = enc a ∧ P a) : ∀ {es : List (List TV)}, (∀ r ∈ es, Fits ss r) → ∃ l : List α, es = l.map enc ∧ ∀ a ∈ l, P a
  | [], _ => ⟨[], rfl, by simp⟩
  | r :: es, hr => by
    obtain ⟨a, rfl, ha⟩ := h r (hr r List.mem_cons_self)
    obtain ⟨l, rfl, hl⟩ := list_of h (es := es) fun r hr' => hr r (List.mem_cons_of_mem _ hr')
    exact ⟨a :: l, rfl, fun b hb => by rcases List.mem_cons.1 hb with rfl | hb; exact ha; exact hl b hb⟩
theorem int1_of {r : List TV} (h : Fits [.int .i64] r) : ∃ n : Int, r = encI1 n ∧ True := by
  simp only [Fits, Fit] at h
  obtain ⟨_, _, rfl, ⟨c, _, _, rfl⟩, rfl⟩ := h
  exact ⟨c, rfl, trivial⟩
theorem conf_of {r : List TV} (h : Fits shC r) : ∃ v : CF, r = encCF v ∧ 0 ≤ v.epoch ∧ v.epoch ≤ 18446744073709551615 := by
  rw [Fits] at h
  simp only [Fits, Fit] at h
  obtain ⟨_, _, rfl, ⟨c, _, _, rfl⟩, _, _, rfl, ⟨d, h3, h4, rfl⟩, _, _, rfl, ⟨es, _, hes, rfl⟩, _, _, rfl, ⟨b, rfl⟩, _, _, rfl, ⟨f, _, _, rfl⟩, rfl⟩ := h
  obtain ⟨l, rfl, _⟩ := list_of (enc := encI1) (P := fun _ => True) (ss := [.int .i64]) (fun r hr => int1_of hr) (es := es) (fun r hr => by have := hes r hr; simp only [Fits, Fit]; exact this)
  exact ⟨⟨c, d, l, b, f⟩, rfl, h3, h4⟩
theorem cons_of {s : Sh} {ss : List Sh} {r : List TV} (h : Fits (s :: ss) r) : ∃ t r', r = t :: r' ∧ Fit s t ∧ Fits ss r' := by
  unfold Fits at h; exact h
theorem nil_of {r : List TV} (h : Fits [] r) : r = [] := by
  unfold Fits at h; exact h
theorem byte_of {r : List TV} (h : Fits [.int .u8] r) : ∃ n : Int, r = encU1 n ∧ 0 ≤ n ∧ n < 256 := by
  simp only [Fits, Fit] at h
  obtain ⟨_, _, rfl, ⟨c, h1, h2, rfl⟩, rfl⟩ := h
  exact ⟨c, rfl, h1, Int.lt_of_le_of_lt h2 (by decide)⟩
theorem contract (tvs : List TV) (h : FitAs shs tvs) : VC E0 3 0 tvs [] fun r _ _ => r = .s (.bool true) := by
  obtain ⟨t, _, rfl, ⟨q, rfl, hq⟩, h2⟩ := h
  obtain ⟨u, _, rfl, h3, rfl⟩ := h2
  obtain ⟨_, _, e1, q1, n1⟩ := cons_of h3
  cases nil_of n1
  cases e1
  unfold Fit at q1
  obtain ⟨es, hl, hes, rfl⟩ := q1
  obtain ⟨l, rfl, hl2⟩ := list_of (P := fun v : Int => 0 ≤ v ∧ v < 256) (fun r hr => byte_of hr) hes
  obtain ⟨v, rfl, hv⟩ := conf_of hq
  exact confBytes_ok v l hv hl2

set_option maxRecDepth 100000 in
theorem lifted (os : Os) (started : os.Started) (H : Type) (enc : TypeId × Value → H) :
    ReturnsInHanded {} Tryz.checked os 3 .any (fun w args => (Rows.confBytesSpec.pre enc Tryz.prog Tryz.f3 [] false w args ∧ laidMetH Tryz.prog tab w) ∧ sizedMet enc Tryz.prog Tryz.f3 (OpenSpec.ofChange Rows.confBytesSpec) false w args)
      (Rows.confBytesSpec.post enc Tryz.prog Tryz.f3 false true false false) := by
  refine returnsInHanded_of_change_and (C := Tryz.checked) (X := fun w _ => laidMetH Tryz.prog tab w) (fun _ _ _ hh h => h.of_heap hh) own started (by kernel_rfl) Tryz.func3
    (ChangeSpec.witness_shaped (enc := enc) (C := Tryz.checked) (os := os) (X := fun w _ => laidMetH Tryz.prog tab w) false (World.laidAll Tryz.prog os tab) #[.agg #[.int .i64 0, .int .u64 0, .slice none 0 0, .bool false, .int .i64 0], .slice none 0 0] 8 (World.laidAll_os _ _ _) (World.shaped_of_ZipB (by kernel_rfl) (by kernel_rfl)) (by kernel_rfl) (by kernel_rfl) (by kernel_rfl)
      (by rw [MakeChecks.laidMetH_plain _ _ _ (by kernel_rfl)]; exact laidMet_laidAll _ (by kernel_rfl) (by kernel_rfl))) ?_
  intro W base args ds gs before hval0 hW _ _ hL _
  have hval : ∀ (j : Nat) t v, Tryz.f3.params[j]? = some t → args[j]? = some v → Value.okWide Tryz.prog W .any base t v := hval0
  rw [Tryz.params3] at hval
  have hlen : ds.length = 2 ∧ args.size = 2 := by
    obtain ⟨p, q, hA, _⟩ := hW
    have := trodAll_length hA
    rw [Tryz.params3] at this
    exact ⟨this.1, by simpa using this.2⟩
  have walk : Calls Tryz.prog 3 args W fun e W' => e = .returned (.bool true) ∧ Below W.heap.size W W' := by
    obtain ⟨p, q, hA, _⟩ := hW
    rw [Tryz.params3] at hA
    exact row_trueT (E := E0) (ash := shs) (envOkT _ _ _) orc0 mixed0 rfl tabsB0 (tables hL) (by kernel_rfl) hA (fun j t v a b => hval j t v (by simpa using a) b) contract
  refine walk.mono fun e W' ⟨he, hb⟩ => ?_
  subst he
  refine ⟨_, rfl, post_true (tb := 4) hW rfl (by kernel_rfl) Tryz.underlying4 laid ?_ ?_ hb⟩
  · intro t ht
    rw [Tryz.params3] at ht
    simp at ht
    rcases ht with rfl | rfl
    · exact ⟨by kernel_rfl, of_decide_eq_true (by kernel_rfl)⟩
    · exact ⟨by kernel_rfl, of_decide_eq_true (by kernel_rfl)⟩
  · match ds, hlen.1 with
    | [d0, d1], _ => rfl

theorem over : Rows.ConfBytesSaid :=
  OpenClaim.holds_of_wide 3 Tryz.f3 rfl rfl rfl rfl rfl rfl rfl ⟨rfl, rfl, rfl, rfl, rfl⟩ rfl rfl rfl rfl rfl named Tryz.func3 closed
    (of_decide_eq_true (by kernel_rfl)) (by unfold Func.isWrapper; first | (rw [if_pos (by decide +kernel)]; kernel_rfl) | (rw [if_neg (by decide +kernel)]; exact ⟨rfl, rfl⟩))
    (fun os started H enc _ => lifted os started H enc)

theorem main_is : Tryz.pinned.checked.prog.mainIs = some (true, "ba733126082bee47e6b0569b5c2ba8e32c1fb4113b734ca247385375fe6495d5".toList) := by kernel_rfl
theorem looks_no : false = Tryz.prog.looks [] := by kernel_rfl
theorem goes_no : false = Rows.confBytesRow.goesBy Tryz.pinned.checked.prog := by kernel_rfl
theorem by_text : Rows.confBytesRow.wfByText (OpenSpec.ofChange Rows.confBytesSpec) = true := by kernel_rfl
theorem no_stand : ([25, 26].all fun u => !Tryz.prog.wantsStandIn u) = true := by kernel_rfl
theorem proved : Rows.ConfBytesCardSaid :=
  Claim7.holds_tied_plain_at .later [] [.data, .data, .data] true (true, "ba733126082bee47e6b0569b5c2ba8e32c1fb4113b734ca247385375fe6495d5") false
    over (fun _ h => by cases h) by_text (fun _ h => by cases h) confBytes_row_tie rfl ⟨rfl, rfl⟩ main_is rfl
    (fun f fn hf hfn => by
      obtain rfl : f = 3 := Option.some.inj (named.symm.trans hf) |>.symm
      obtain rfl : fn = Tryz.f3 := (Option.some.inj (Tryz.func3.symm.trans hfn)).symm
      exact ⟨looks_no, fun j t ht => by
        rw [Tryz.params3] at ht
        have hm : t ∈ [25, 26] := by simpa using Array.mem_of_getElem? ht
        exact (show Tryz.prog.wantsStandIn t = false by simpa using List.all_eq_true.1 no_stand t hm)⟩)
    goes_no
end Go.Proofs.YtmbeekloaidcmaaGreatDoor.confBytes
