/-
  The store of any bytes is the chapter's, or refused, and it has this picture: catenary/catenarylaw18.StoreLoads returns true for every input, and the input reads behind the call as it read before. The card: the table that the row lists is tied to the program's text.
-/
import Derived.Test.YtgjfaieghmigjaaGreatDoorRows
import Derived.Test.YtgjfaieghmigjaaGreatDoorCards
import Derived.Test.YtgjfaieghmigjaaGreatDoorTie
import Derived.LaidMore
import Derived.LaidLaws
import Derived.SevenTiedAt
import Derived.OpenShut
import Derived.Lay
import Derived.MakeChecks
import Derived.Test.YtgjfaieghmigjaaGreatDoorL32
import Derived.Test.YtgjfaieghmigjaaGreatDoorL33
import Derived.Test.YtgjfaieghmigjaaGreatDoorL34
namespace Go.Proofs.YtgjfaieghmigjaaGreatDoor.storeLoads
open Go Go.M Go.ChangeShapes Go.WideShapes Go.ChangeAt Go.RowKit

theorem laid : laidOutB Tryz.prog = true := fact1
@[reducible] def tab : List (String × DataW Unit) := [("catenary/letter.kinds", Rows.laid_catenary_letter_kinds)]
theorem tabs_are : tabD Tryz.prog tab tabs0 = true := by kernel_rfl
theorem tables {W : World} (h : laidMetH Tryz.prog tab W) : LaidT tabs0 W := by
  rw [MakeChecks.laidMetH_plain _ _ _ (by kernel_rfl)] at h
  exact laidT_of tabs_are h

@[reducible] def shO : List Sh := [.int .i64, .bool, .int .u64, .int .i64, .int .u64, .int .i64, .int .u32, .int .u64, .sl [.int .u8], .int .u32, .int .u64, .int .u64]
theorem op_of {r : List TV} (h : Fits shO r) : ∃ o : OpS, r = encO o ∧ UOk o.u := by
  simp only [Fits, Fit] at h
  obtain ⟨_, _, rfl, ⟨a, _, _, rfl⟩, _, _, rfl, ⟨b, rfl⟩, _, _, rfl, ⟨c, c1, c2, rfl⟩, _, _, rfl, ⟨d, _, _, rfl⟩, _, _, rfl, ⟨e, e1, e2, rfl⟩, _, _, rfl, ⟨f, _, _, rfl⟩, _, _, rfl, ⟨g, g1, g2, rfl⟩, _, _, rfl, ⟨i, i1, i2, rfl⟩, _, _, rfl, ⟨es, _, hes, rfl⟩, _, _, rfl, ⟨j, _, _, rfl⟩, _, _, rfl, ⟨k, _, _, rfl⟩, _, _, rfl, ⟨m, _, _, rfl⟩, rfl⟩ := h
  obtain ⟨l, rfl, _⟩ := bytes_of fun r hr => by simp only [Fits, Fit]; exact hes r hr
  exact ⟨⟨a, b, ⟨c, d, e, f, g, i, l⟩, j, k, m⟩, rfl, ⟨c1, c2⟩, ⟨e1, e2⟩, ⟨i1, i2⟩, ⟨g1, g2⟩⟩
@[reducible] def shs : List ArgSh := [⟨false, [.sl [.int .u8]]⟩, ⟨true, shO⟩]
theorem contract (tvs : List TV) (h : FitAs shs tvs) : VC EZ 10 0 tvs [] fun r _ _ => r = .s (.bool true) := by
  obtain ⟨t, _, rfl, ht, h⟩ := h
  obtain ⟨u, _, rfl, ⟨q, rfl, hq⟩, rfl⟩ := h
  obtain ⟨_, _, e1, h1, n1⟩ := cons_of ht
  cases nil_of n1
  cases e1
  unfold Fit at h1
  obtain ⟨es, _, hes, rfl⟩ := h1
  obtain ⟨b, rfl, hb⟩ := bytes_of fun r hr => hes r hr
  obtain ⟨o, rfl, hu⟩ := op_of hq
  exact VC.mono (loads_ok b hb o hu) fun _ _ _ h => h.1

set_option maxRecDepth 100000 in
theorem lifted (os : Os) (started : os.Started) (H : Type) (enc : TypeId × Value → H) :
    ReturnsInHanded {} Tryz.checked os 10 .any (fun w args => (Rows.storeLoadsSpec.pre enc Tryz.prog Tryz.f10 [] false w args ∧ laidMetH Tryz.prog tab w) ∧ sizedMet enc Tryz.prog Tryz.f10 (OpenSpec.ofChange Rows.storeLoadsSpec) false w args)
      (Rows.storeLoadsSpec.post enc Tryz.prog Tryz.f10 false true false false) := by
  refine returnsInHanded_of_change_and (C := Tryz.checked) (X := fun w _ => laidMetH Tryz.prog tab w) (fun _ _ _ hh h => h.of_heap hh) own started (by kernel_rfl) Tryz.func10
    (ChangeSpec.witness_shaped (enc := enc) (C := Tryz.checked) (os := os) (X := fun w _ => laidMetH Tryz.prog tab w) false (World.laidAll Tryz.prog os tab) #[.slice none 0 0, .agg #[.int .i64 0, .bool false, .int .u64 0, .int .i64 0, .int .u64 0, .int .i64 0, .int .u32 0, .int .u64 0, .slice none 0 0, .int .u32 0, .int .u64 0, .int .u64 0]] 8 (World.laidAll_os _ _ _) (World.shaped_of_ZipB (by kernel_rfl) (by kernel_rfl)) (by kernel_rfl) (by kernel_rfl) (by kernel_rfl)
      (by rw [MakeChecks.laidMetH_plain _ _ _ (by kernel_rfl)]; exact laidMet_laidAll _ (by kernel_rfl) (by kernel_rfl))) ?_
  intro W base args ds gs before hval0 hW _ _ hL _
  have hval : ∀ (j : Nat) t v, Tryz.f10.params[j]? = some t → args[j]? = some v → Value.okWide Tryz.prog W .any base t v := hval0
  rw [Tryz.params10] at hval
  have hlen : ds.length = 2 ∧ args.size = 2 := by
    obtain ⟨p, q, hA, _⟩ := hW
    have := trodAll_length hA
    rw [Tryz.params10] at this
    exact ⟨this.1, by simpa using this.2⟩
  have walk : Calls Tryz.prog 10 args W fun e W' => e = .returned (.bool true) ∧ Below W.heap.size W W' := by
    obtain ⟨p, q, hA, _⟩ := hW
    rw [Tryz.params10] at hA
    exact row_trueT (E := EZ) (ash := shs) (envOkT _ _ _) orcZ mixed0 rfl tabsB0 (tables hL) (by kernel_rfl) hA (fun j t v a b => hval j t v (by simpa using a) b) contract
  refine walk.mono fun e W' ⟨he, hb⟩ => ?_
  subst he
  refine ⟨_, rfl, post_true (tb := 4) hW rfl (by kernel_rfl) Tryz.underlying4 laid ?_ ?_ hb⟩
  · intro t ht
    rw [Tryz.params10] at ht
    simp at ht
    rcases ht with rfl | rfl
    · exact ⟨by kernel_rfl, of_decide_eq_true (by kernel_rfl)⟩
    · exact ⟨by kernel_rfl, of_decide_eq_true (by kernel_rfl)⟩
  · match ds, hlen.1 with
    | [d0, d1], _ => rfl

theorem over : Rows.StoreLoadsSaid :=
  OpenClaim.holds_of_wide 10 Tryz.f10 rfl rfl rfl rfl rfl rfl rfl ⟨rfl, rfl, rfl, rfl, rfl⟩ rfl rfl rfl rfl rfl named Tryz.func10 closed
    (of_decide_eq_true (by kernel_rfl)) (by unfold Func.isWrapper; first | (rw [if_pos (by decide +kernel)]; kernel_rfl) | (rw [if_neg (by decide +kernel)]; exact ⟨rfl, rfl⟩))
    (fun os started H enc _ => lifted os started H enc)

theorem main_is : Tryz.pinned.checked.prog.mainIs = some (true, "2a6f93724f58c6d464ab1f62fdad12e588cc5d613415b3ab4f0ca76a2dea3d82".toList) := by kernel_rfl
theorem looks_no : false = Tryz.prog.looks [] := by kernel_rfl
theorem goes_no : false = Rows.storeLoadsRow.goesBy Tryz.pinned.checked.prog := by kernel_rfl
theorem by_text : Rows.storeLoadsRow.wfByText (OpenSpec.ofChange Rows.storeLoadsSpec) = true := by kernel_rfl
theorem no_stand : ([53, 97].all fun u => !Tryz.prog.wantsStandIn u) = true := by kernel_rfl
theorem proved : Rows.StoreLoadsCardSaid :=
  Claim7.holds_tied_plain_at .later [] [.data] true (true, "2a6f93724f58c6d464ab1f62fdad12e588cc5d613415b3ab4f0ca76a2dea3d82") false
    over (fun _ h => by cases h) by_text (fun _ h => by cases h) storeLoads_row_tie rfl ⟨rfl, rfl⟩ main_is rfl
    (fun f fn hf hfn => by
      obtain rfl : f = 10 := Option.some.inj (named.symm.trans hf) |>.symm
      obtain rfl : fn = Tryz.f10 := (Option.some.inj (Tryz.func10.symm.trans hfn)).symm
      exact ⟨looks_no, fun j t ht => by
        rw [Tryz.params10] at ht
        have hm : t ∈ [53, 97] := by simpa using Array.mem_of_getElem? ht
        exact (show Tryz.prog.wantsStandIn t = false by simpa using List.all_eq_true.1 no_stand t hm)⟩)
    goes_no
end Go.Proofs.YtgjfaieghmigjaaGreatDoor.storeLoads
