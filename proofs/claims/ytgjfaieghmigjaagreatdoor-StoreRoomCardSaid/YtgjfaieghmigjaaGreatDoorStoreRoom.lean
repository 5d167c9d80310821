/-
  A store holds so many keys and no more: catenary/catenarylaw18.StoreRoom returns true for every input, and the input reads behind the call as it read before. The card: the table that the row lists is tied to the program's text.
-/
import Derived.Test.YtgjfaieghmigjaaGreatDoorRows
import Derived.Test.YtgjfaieghmigjaaGreatDoorCards
import Derived.Test.YtgjfaieghmigjaaGreatDoorTie
import Derived.LaidMore
import Derived.LaidLaws
import Derived.SevenTiedAt
import Derived.OpenShut
import Derived.Lay
import Derived.MakeChecks
import Derived.Test.YtgjfaieghmigjaaGreatDoorL29
import Derived.Test.YtgjfaieghmigjaaGreatDoorL30
import Derived.Test.YtgjfaieghmigjaaGreatDoorL31
namespace Go.Proofs.YtgjfaieghmigjaaGreatDoor.storeRoom
open Go Go.M Go.ChangeShapes Go.WideShapes Go.ChangeAt Go.RowKit

theorem laid : laidOutB Tryz.prog = true := fact1
@[reducible] def tab : List (String × DataW Unit) := [("catenary/letter.kinds", Rows.laid_catenary_letter_kinds)]
theorem tabs_are : tabD Tryz.prog tab tabs0 = true := by kernel_rfl
theorem tables {W : World} (h : laidMetH Tryz.prog tab W) : LaidT tabs0 W := by
  rw [MakeChecks.laidMetH_plain _ _ _ (by kernel_rfl)] at h
  exact laidT_of tabs_are h

@[reducible] def shs : List ArgSh := [⟨false, [.int .u32]⟩, ⟨false, [.int .u8]⟩]
theorem contract (tvs : List TV) (h : FitAs shs tvs) : VC EZ 4 0 tvs [] fun r _ _ => r = .s (.bool true) := by
  simp only [FitAs, FitA, Fits, Fit] at h
  obtain ⟨t, _, rfl, ⟨_, _, e1, ⟨k, _, _, rfl⟩, n1⟩, w, _, rfl, ⟨_, _, e3, ⟨m, h4, h5, rfl⟩, n3⟩, rfl⟩ := h
  cases e1; cases e3
  exact VC.mono (room_ok k m ⟨h4, h5⟩) fun _ _ _ h => h.1

set_option maxRecDepth 100000 in
theorem lifted (os : Os) (started : os.Started) (H : Type) (enc : TypeId × Value → H) :
    ReturnsInHanded {} Tryz.checked os 4 .any (fun w args => (Rows.storeRoomSpec.pre enc Tryz.prog Tryz.f4 [] false w args ∧ laidMetH Tryz.prog tab w) ∧ sizedMet enc Tryz.prog Tryz.f4 (OpenSpec.ofChange Rows.storeRoomSpec) false w args)
      (Rows.storeRoomSpec.post enc Tryz.prog Tryz.f4 false true false false) := by
  refine returnsInHanded_of_change_and (C := Tryz.checked) (X := fun w _ => laidMetH Tryz.prog tab w) (fun _ _ _ hh h => h.of_heap hh) own started (by kernel_rfl) Tryz.func4
    (ChangeSpec.witness_shaped (enc := enc) (C := Tryz.checked) (os := os) (X := fun w _ => laidMetH Tryz.prog tab w) false (World.laidAll Tryz.prog os tab) #[.int .u32 0, .int .u8 0] 8 (World.laidAll_os _ _ _) (World.shaped_of_ZipB (by kernel_rfl) (by kernel_rfl)) (by kernel_rfl) (by kernel_rfl) (by kernel_rfl)
      (by rw [MakeChecks.laidMetH_plain _ _ _ (by kernel_rfl)]; exact laidMet_laidAll _ (by kernel_rfl) (by kernel_rfl))) ?_
  intro W base args ds gs before hval0 hW _ _ hL _
  have hval : ∀ (j : Nat) t v, Tryz.f4.params[j]? = some t → args[j]? = some v → Value.okWide Tryz.prog W .any base t v := hval0
  rw [Tryz.params4] at hval
  have hlen : ds.length = 2 ∧ args.size = 2 := by
    obtain ⟨p, q, hA, _⟩ := hW
    have := trodAll_length hA
    rw [Tryz.params4] at this
    exact ⟨this.1, by simpa using this.2⟩
  have walk : Calls Tryz.prog 4 args W fun e W' => e = .returned (.bool true) ∧ Below W.heap.size W W' := by
    obtain ⟨p, q, hA, _⟩ := hW
    rw [Tryz.params4] at hA
    exact row_trueT (E := EZ) (ash := shs) (envOkT _ _ _) orcZ mixed0 rfl tabsB0 (tables hL) (by kernel_rfl) hA (fun j t v a b => hval j t v (by simpa using a) b) contract
  refine walk.mono fun e W' ⟨he, hb⟩ => ?_
  subst he
  refine ⟨_, rfl, post_true (tb := 4) hW rfl (by kernel_rfl) Tryz.underlying4 laid ?_ ?_ hb⟩
  · intro t ht
    rw [Tryz.params4] at ht
    simp at ht
    rcases ht with rfl | rfl
    · exact ⟨by kernel_rfl, of_decide_eq_true (by kernel_rfl)⟩
    · exact ⟨by kernel_rfl, of_decide_eq_true (by kernel_rfl)⟩
  · match ds, hlen.1 with
    | [d0, d1], _ => rfl

theorem over : Rows.StoreRoomSaid :=
  OpenClaim.holds_of_wide 4 Tryz.f4 rfl rfl rfl rfl rfl rfl rfl ⟨rfl, rfl, rfl, rfl, rfl⟩ rfl rfl rfl rfl rfl named Tryz.func4 closed
    (of_decide_eq_true (by kernel_rfl)) (by unfold Func.isWrapper; first | (rw [if_pos (by decide +kernel)]; kernel_rfl) | (rw [if_neg (by decide +kernel)]; exact ⟨rfl, rfl⟩))
    (fun os started H enc _ => lifted os started H enc)

theorem main_is : Tryz.pinned.checked.prog.mainIs = some (true, "2a6f93724f58c6d464ab1f62fdad12e588cc5d613415b3ab4f0ca76a2dea3d82".toList) := by kernel_rfl
theorem looks_no : false = Tryz.prog.looks [] := by kernel_rfl
theorem goes_no : false = Rows.storeRoomRow.goesBy Tryz.pinned.checked.prog := by kernel_rfl
theorem by_text : Rows.storeRoomRow.wfByText (OpenSpec.ofChange Rows.storeRoomSpec) = true := by kernel_rfl
theorem no_stand : ([29, 5].all fun u => !Tryz.prog.wantsStandIn u) = true := by kernel_rfl
theorem proved : Rows.StoreRoomCardSaid :=
  Claim7.holds_tied_plain_at .later [] [.data] true (true, "2a6f93724f58c6d464ab1f62fdad12e588cc5d613415b3ab4f0ca76a2dea3d82") false
    over (fun _ h => by cases h) by_text (fun _ h => by cases h) storeRoom_row_tie rfl ⟨rfl, rfl⟩ main_is rfl
    (fun f fn hf hfn => by
      obtain rfl : f = 4 := Option.some.inj (named.symm.trans hf) |>.symm
      obtain rfl : fn = Tryz.f4 := (Option.some.inj (Tryz.func4.symm.trans hfn)).symm
      exact ⟨looks_no, fun j t ht => by
        rw [Tryz.params4] at ht
        have hm : t ∈ [29, 5] := by simpa using Array.mem_of_getElem? ht
        exact (show Tryz.prog.wantsStandIn t = false by simpa using List.all_eq_true.1 no_stand t hm)⟩)
    goes_no
end Go.Proofs.YtgjfaieghmigjaaGreatDoor.storeRoom
