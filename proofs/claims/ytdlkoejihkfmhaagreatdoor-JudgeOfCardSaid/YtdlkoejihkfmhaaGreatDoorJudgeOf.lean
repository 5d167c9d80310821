/-
  Of no world there is no history: catenary/catenarylaw36.JudgeOf returns true for every input, and the input reads behind the call as it read before. The card: the tables that the row lists are tied to the program's text.
-/
import Derived.Test.YtdlkoejihkfmhaaGreatDoorRows
import Derived.Test.YtdlkoejihkfmhaaGreatDoorCards
import Derived.Test.YtdlkoejihkfmhaaGreatDoorTie
import Derived.LaidMore
import Derived.LaidLaws
import Derived.SevenTiedAt
import Derived.OpenShut
import Derived.Lay
import Derived.MakeChecks
import Derived.Test.YtdlkoejihkfmhaaGreatDoorL7
namespace Go.Proofs.YtdlkoejihkfmhaaGreatDoor.judgeOf
open Go Go.M Go.ChangeShapes Go.WideShapes Go.ChangeAt Go.RowKit

theorem laid : laidOutB Tryz.prog = true := fact1
@[reducible] def tab : List (String × DataW Unit) := [("unicode/utf8.acceptRanges", Rows.laid_unicode_utf8_acceptRanges), ("catenary/judge.names", Rows.laid_catenary_judge_names), ("unicode/utf8.first", Rows.laid_unicode_utf8_first)]
theorem tabs_are : tabD Tryz.prog tab tabs0 = true := by kernel_rfl
theorem tables {W : World} (h : laidMetH Tryz.prog tab W) : LaidT tabs0 W := by
  rw [MakeChecks.laidMetH_plain _ _ _ (by kernel_rfl)] at h
  exact laidT_of tabs_are h

set_option maxRecDepth 100000 in
theorem lifted (os : Os) (started : os.Started) (H : Type) (enc : TypeId × Value → H) :
    ReturnsInHanded {} Tryz.checked os 3 .any (fun w args => (Rows.judgeOfSpec.pre enc Tryz.prog Tryz.f3 [] false w args ∧ laidMetH Tryz.prog tab w) ∧ sizedMet enc Tryz.prog Tryz.f3 (OpenSpec.ofChange Rows.judgeOfSpec) false w args)
      (Rows.judgeOfSpec.post enc Tryz.prog Tryz.f3 false true false false) := by
  refine returnsInHanded_of_change_and (C := Tryz.checked) (X := fun w _ => laidMetH Tryz.prog tab w) (fun _ _ _ hh h => h.of_heap hh) own started (by kernel_rfl) Tryz.func3
    (ChangeSpec.witness_shaped (enc := enc) (C := Tryz.checked) (os := os) (X := fun w _ => laidMetH Tryz.prog tab w) false (World.laidAll Tryz.prog os tab) #[.int .i64 0] 8 (World.laidAll_os _ _ _) (World.shaped_of_ZipB (by kernel_rfl) (by kernel_rfl)) (by kernel_rfl) (by kernel_rfl) (by kernel_rfl)
      (by rw [MakeChecks.laidMetH_plain _ _ _ (by kernel_rfl)]; exact laidMet_laidAll _ (by kernel_rfl) (by kernel_rfl))) ?_
  intro W base args ds gs before hval0 hW _ _ hL _
  have hval : ∀ (j : Nat) t v, Tryz.f3.params[j]? = some t → args[j]? = some v → Value.okWide Tryz.prog W .any base t v := hval0
  rw [Tryz.params3] at hval
  have hlen : ds.length = 1 ∧ args.size = 1 := by
    obtain ⟨p, q, hA, _⟩ := hW
    have := trodAll_length hA
    rw [Tryz.params3] at this
    exact ⟨this.1, by simpa using this.2⟩
  have walk : Calls Tryz.prog 3 args W fun e W' => e = .returned (.bool true) ∧ Below W.heap.size W W' := by
    obtain ⟨p, q, hA, _⟩ := hW
    rw [Tryz.params3] at hA
    obtain ⟨v0, d0, rfl, rfl, h0⟩ := trodAll_one hA
    obtain ⟨x, rfl, rfl, rfl, wx⟩ := open_int Tryz.underlying3 (hval 0 3 v0 rfl rfl) h0
    exact judgeOf_calls (tables hL) x
  refine walk.mono fun e W' ⟨he, hb⟩ => ?_
  subst he
  refine ⟨_, rfl, post_true (tb := 4) hW rfl (by kernel_rfl) Tryz.underlying4 laid ?_ ?_ hb⟩
  · intro t ht
    rw [Tryz.params3] at ht
    simp at ht
    subst ht
    exact ⟨by kernel_rfl, of_decide_eq_true (by kernel_rfl)⟩
  · match ds, hlen.1 with
    | [d], _ => rfl

theorem over : Rows.JudgeOfSaid :=
  OpenClaim.holds_of_wide 3 Tryz.f3 rfl rfl rfl rfl rfl rfl rfl ⟨rfl, rfl, rfl, rfl, rfl⟩ rfl rfl rfl rfl rfl named Tryz.func3 closed
    (of_decide_eq_true (by kernel_rfl)) (by unfold Func.isWrapper; first | (rw [if_pos (by decide +kernel)]; kernel_rfl) | (rw [if_neg (by decide +kernel)]; exact ⟨rfl, rfl⟩))
    (fun os started H enc _ => lifted os started H enc)

theorem main_is : Tryz.pinned.checked.prog.mainIs = some (true, "d004f7a2ce72cd99b5d8b19b27d1f13e769069881eef14de3f3fda4ad9f139d1".toList) := by kernel_rfl
theorem looks_no : true = Tryz.prog.looks [] := by kernel_rfl
theorem goes_no : false = Rows.judgeOfRow.goesBy Tryz.pinned.checked.prog := by kernel_rfl
theorem by_text : Rows.judgeOfRow.wfByText (OpenSpec.ofChange Rows.judgeOfSpec) = true := by kernel_rfl
theorem no_stand : ([3].all fun u => !Tryz.prog.wantsStandIn u) = true := by kernel_rfl
theorem proved : Rows.JudgeOfCardSaid :=
  Claim7.holds_tied_plain_at .later [] [.data, .data, .pinned] true (true, "d004f7a2ce72cd99b5d8b19b27d1f13e769069881eef14de3f3fda4ad9f139d1") true
    over (fun _ h => by cases h) by_text (fun _ h => by cases h) judgeOf_row_tie rfl ⟨rfl, rfl⟩ main_is rfl
    (fun f fn hf hfn => by
      obtain rfl : f = 3 := Option.some.inj (named.symm.trans hf) |>.symm
      obtain rfl : fn = Tryz.f3 := (Option.some.inj (Tryz.func3.symm.trans hfn)).symm
      exact ⟨looks_no, fun j t ht => by
        rw [Tryz.params3] at ht
        have hm : t ∈ [3] := by simpa using Array.mem_of_getElem? ht
        exact (show Tryz.prog.wantsStandIn t = false by simpa using List.all_eq_true.1 no_stand t hm)⟩)
    goes_no
end Go.Proofs.YtdlkoejihkfmhaaGreatDoor.judgeOf
