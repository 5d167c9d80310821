/-
  What a node that is behind answers is what the tail told, or newer: catenary/catenarylaw22.CraqNewer returns true for every input, and the input reads behind the call as it read before. The card: the table that the row lists is tied to the program's text.
-/
import Derived.Test.YtgjfaieghmigjaaGreatDoorRows
import Derived.Test.YtgjfaieghmigjaaGreatDoorCards
import Derived.Test.YtgjfaieghmigjaaGreatDoorTie
import Derived.LaidMore
import Derived.LaidLaws
import Derived.SevenTiedAt
import Derived.OpenShut
import Derived.Lay
import Derived.MakeChecks
import Derived.Test.YtgjfaieghmigjaaGreatDoorL29
import Derived.Test.YtgjfaieghmigjaaGreatDoorL30
import Derived.Test.YtgjfaieghmigjaaGreatDoorL31
namespace Go.Proofs.YtgjfaieghmigjaaGreatDoor.craqNewer
open Go Go.M Go.ChangeShapes Go.WideShapes Go.ChangeAt Go.RowKit

theorem laid : laidOutB Tryz.prog = true := fact1
@[reducible] def tab : List (String × DataW Unit) := [("catenary/letter.kinds", Rows.laid_catenary_letter_kinds)]
theorem tabs_are : tabD Tryz.prog tab tabs0 = true := by kernel_rfl
theorem tables {W : World} (h : laidMetH Tryz.prog tab W) : LaidT tabs0 W := by
  rw [MakeChecks.laidMetH_plain _ _ _ (by kernel_rfl)] at h
  exact laidT_of tabs_are h

@[reducible] def shs : List ArgSh := [⟨false, [.sl shU]⟩, ⟨false, [.int .u8]⟩, ⟨false, [.int .u8]⟩]
theorem contract (tvs : List TV) (h : FitAs shs tvs) : VC EZ 6 0 tvs [] fun r _ _ => r = .s (.bool true) := by
  obtain ⟨t, _, rfl, ht, h⟩ := h
  obtain ⟨u, _, rfl, hu, h⟩ := h
  obtain ⟨w, _, rfl, hw, rfl⟩ := h
  obtain ⟨_, _, e1, h1, n1⟩ := cons_of ht
  obtain ⟨_, _, e2, h2, n2⟩ := cons_of hu
  obtain ⟨_, _, e3, h3, n3⟩ := cons_of hw
  cases nil_of n1; cases nil_of n2; cases nil_of n3
  cases e1; cases e2; cases e3
  unfold Fit at h1 h2 h3
  obtain ⟨es, _, hes, rfl⟩ := h1
  obtain ⟨d, d1, d2, rfl⟩ := h2
  obtain ⟨m, m1, m2, rfl⟩ := h3
  obtain ⟨us, rfl, hus⟩ := upds_of hes
  exact VC.mono (newer_ok us hus d m ⟨d1, d2⟩ ⟨m1, m2⟩) fun _ _ _ h => h.1

set_option maxRecDepth 100000 in
theorem lifted (os : Os) (started : os.Started) (H : Type) (enc : TypeId × Value → H) :
    ReturnsInHanded {} Tryz.checked os 6 .any (fun w args => (Rows.craqNewerSpec.pre enc Tryz.prog Tryz.f6 [] false w args ∧ laidMetH Tryz.prog tab w) ∧ sizedMet enc Tryz.prog Tryz.f6 (OpenSpec.ofChange Rows.craqNewerSpec) false w args)
      (Rows.craqNewerSpec.post enc Tryz.prog Tryz.f6 false true false false) := by
  refine returnsInHanded_of_change_and (C := Tryz.checked) (X := fun w _ => laidMetH Tryz.prog tab w) (fun _ _ _ hh h => h.of_heap hh) own started (by kernel_rfl) Tryz.func6
    (ChangeSpec.witness_shaped (enc := enc) (C := Tryz.checked) (os := os) (X := fun w _ => laidMetH Tryz.prog tab w) false (World.laidAll Tryz.prog os tab) #[.slice none 0 0, .int .u8 0, .int .u8 0] 8 (World.laidAll_os _ _ _) (World.shaped_of_ZipB (by kernel_rfl) (by kernel_rfl)) (by kernel_rfl) (by kernel_rfl) (by kernel_rfl)
      (by rw [MakeChecks.laidMetH_plain _ _ _ (by kernel_rfl)]; exact laidMet_laidAll _ (by kernel_rfl) (by kernel_rfl))) ?_
  intro W base args ds gs before hval0 hW _ _ hL _
  have hval : ∀ (j : Nat) t v, Tryz.f6.params[j]? = some t → args[j]? = some v → Value.okWide Tryz.prog W .any base t v := hval0
  rw [Tryz.params6] at hval
  have hlen : ds.length = 3 ∧ args.size = 3 := by
    obtain ⟨p, q, hA, _⟩ := hW
    have := trodAll_length hA
    rw [Tryz.params6] at this
    exact ⟨this.1, by simpa using this.2⟩
  have walk : Calls Tryz.prog 6 args W fun e W' => e = .returned (.bool true) ∧ Below W.heap.size W W' := by
    obtain ⟨p, q, hA, _⟩ := hW
    rw [Tryz.params6] at hA
    exact row_trueT (E := EZ) (ash := shs) (envOkT _ _ _) orcZ mixed0 rfl tabsB0 (tables hL) (by kernel_rfl) hA (fun j t v a b => hval j t v (by simpa using a) b) contract
  refine walk.mono fun e W' ⟨he, hb⟩ => ?_
  subst he
  refine ⟨_, rfl, post_true (tb := 4) hW rfl (by kernel_rfl) Tryz.underlying4 laid ?_ ?_ hb⟩
  · intro t ht
    rw [Tryz.params6] at ht
    simp at ht
    rcases ht with rfl | rfl
    · exact ⟨by kernel_rfl, of_decide_eq_true (by kernel_rfl)⟩
    · exact ⟨by kernel_rfl, of_decide_eq_true (by kernel_rfl)⟩
  · match ds, hlen.1 with
    | [d0, d1, d2], _ => rfl

theorem over : Rows.CraqNewerSaid :=
  OpenClaim.holds_of_wide 6 Tryz.f6 rfl rfl rfl rfl rfl rfl rfl ⟨rfl, rfl, rfl, rfl, rfl⟩ rfl rfl rfl rfl rfl named Tryz.func6 closed
    (of_decide_eq_true (by kernel_rfl)) (by unfold Func.isWrapper; first | (rw [if_pos (by decide +kernel)]; kernel_rfl) | (rw [if_neg (by decide +kernel)]; exact ⟨rfl, rfl⟩))
    (fun os started H enc _ => lifted os started H enc)

theorem main_is : Tryz.pinned.checked.prog.mainIs = some (true, "2a6f93724f58c6d464ab1f62fdad12e588cc5d613415b3ab4f0ca76a2dea3d82".toList) := by kernel_rfl
theorem looks_no : false = Tryz.prog.looks [] := by kernel_rfl
theorem goes_no : false = Rows.craqNewerRow.goesBy Tryz.pinned.checked.prog := by kernel_rfl
theorem by_text : Rows.craqNewerRow.wfByText (OpenSpec.ofChange Rows.craqNewerSpec) = true := by kernel_rfl
theorem no_stand : ([64, 5, 5].all fun u => !Tryz.prog.wantsStandIn u) = true := by kernel_rfl
theorem proved : Rows.CraqNewerCardSaid :=
  Claim7.holds_tied_plain_at .later [] [.data] true (true, "2a6f93724f58c6d464ab1f62fdad12e588cc5d613415b3ab4f0ca76a2dea3d82") false
    over (fun _ h => by cases h) by_text (fun _ h => by cases h) craqNewer_row_tie rfl ⟨rfl, rfl⟩ main_is rfl
    (fun f fn hf hfn => by
      obtain rfl : f = 6 := Option.some.inj (named.symm.trans hf) |>.symm
      obtain rfl : fn = Tryz.f6 := (Option.some.inj (Tryz.func6.symm.trans hfn)).symm
      exact ⟨looks_no, fun j t ht => by
        rw [Tryz.params6] at ht
        have hm : t ∈ [64, 5, 5] := by simpa using Array.mem_of_getElem? ht
        exact (show Tryz.prog.wantsStandIn t = false by simpa using List.all_eq_true.1 no_stand t hm)⟩)
    goes_no
end Go.Proofs.YtgjfaieghmigjaaGreatDoor.craqNewer
