/-
  Whatever is asked, and told, who waits is the chapter's, and each client once at most: catenary/catenarylaw22.CraqWaits returns true for every input, and the input reads behind the call as it read before. The card: the table that the row lists is tied to the program's text.
-/
import Derived.Test.YtgjfaieghmigjaaGreatDoorRows
import Derived.Test.YtgjfaieghmigjaaGreatDoorCards
import Derived.Test.YtgjfaieghmigjaaGreatDoorTie
import Derived.LaidMore
import Derived.LaidLaws
import Derived.SevenTiedAt
import Derived.OpenShut
import Derived.Lay
import Derived.MakeChecks
import Derived.Test.YtgjfaieghmigjaaGreatDoorL15
import Derived.Test.YtgjfaieghmigjaaGreatDoorL16
import Derived.Test.YtgjfaieghmigjaaGreatDoorL17
namespace Go.Proofs.YtgjfaieghmigjaaGreatDoor.craqWaits
open Go Go.M Go.ChangeShapes Go.WideShapes Go.ChangeAt Go.RowKit

theorem laid : laidOutB Tryz.prog = true := fact1
@[reducible] def tab : List (String × DataW Unit) := [("catenary/letter.kinds", Rows.laid_catenary_letter_kinds)]
theorem tabs_are : tabD Tryz.prog tab tabs0 = true := by kernel_rfl
theorem tables {W : World} (h : laidMetH Tryz.prog tab W) : LaidT tabs0 W := by
  rw [MakeChecks.laidMetH_plain _ _ _ (by kernel_rfl)] at h
  exact laidT_of tabs_are h

@[reducible] def shO : List Sh := [.int .i64, .int .i64, .int .u64, .int .u32]
theorem op_of {r : List TV} (h : Fits shO r) : ∃ o : Opw, r = encOw o := by
  simp only [Fits, Fit] at h
  obtain ⟨_, _, rfl, ⟨a, _, _, rfl⟩, _, _, rfl, ⟨b, _, _, rfl⟩, _, _, rfl, ⟨c, _, _, rfl⟩, _, _, rfl, ⟨d, _, _, rfl⟩, rfl⟩ := h
  exact ⟨⟨a, b, c, d⟩, rfl⟩
theorem ops_of : ∀ {es : List (List TV)}, (∀ r ∈ es, Fits shO r) → ∃ l : List Opw, es = l.map encOw
  | [], _ => ⟨[], rfl⟩
  | e :: es, h => by
    obtain ⟨o, rfl⟩ := op_of (h e List.mem_cons_self)
    obtain ⟨l, rfl⟩ := ops_of (es := es) fun r m => h r (List.mem_cons_of_mem _ m)
    exact ⟨o :: l, rfl⟩
@[reducible] def shs : List ArgSh := [⟨false, [.sl shO]⟩]
theorem contract (tvs : List TV) (h : FitAs shs tvs) : VC EW 3 0 tvs [] fun r _ _ => r = .s (.bool true) := by
  obtain ⟨t, _, rfl, ht, rfl⟩ := h
  simp only [FitA, Fits] at ht
  obtain ⟨_, _, e1, h1, n1⟩ := ht
  cases n1
  cases e1
  unfold Fit at h1
  obtain ⟨es, hn, hes, rfl⟩ := h1
  obtain ⟨l, rfl⟩ := ops_of hes
  exact VC.mono (waits_ok l (by rw [List.length_map] at hn; exact Nat.le_trans hn (by decide))) fun _ _ _ h => h.1

set_option maxRecDepth 100000 in
theorem lifted (os : Os) (started : os.Started) (H : Type) (enc : TypeId × Value → H) :
    ReturnsInHanded {} Tryz.checked os 3 .any (fun w args => (Rows.craqWaitsSpec.pre enc Tryz.prog Tryz.f3 [] false w args ∧ laidMetH Tryz.prog tab w) ∧ sizedMet enc Tryz.prog Tryz.f3 (OpenSpec.ofChange Rows.craqWaitsSpec) false w args)
      (Rows.craqWaitsSpec.post enc Tryz.prog Tryz.f3 false true false false) := by
  refine returnsInHanded_of_change_and (C := Tryz.checked) (X := fun w _ => laidMetH Tryz.prog tab w) (fun _ _ _ hh h => h.of_heap hh) own started (by kernel_rfl) Tryz.func3
    (ChangeSpec.witness_shaped (enc := enc) (C := Tryz.checked) (os := os) (X := fun w _ => laidMetH Tryz.prog tab w) false (World.laidAll Tryz.prog os tab) #[.slice none 0 0] 8 (World.laidAll_os _ _ _) (World.shaped_of_ZipB (by kernel_rfl) (by kernel_rfl)) (by kernel_rfl) (by kernel_rfl) (by kernel_rfl)
      (by rw [MakeChecks.laidMetH_plain _ _ _ (by kernel_rfl)]; exact laidMet_laidAll _ (by kernel_rfl) (by kernel_rfl))) ?_
  intro W base args ds gs before hval0 hW _ _ hL _
  have hval : ∀ (j : Nat) t v, Tryz.f3.params[j]? = some t → args[j]? = some v → Value.okWide Tryz.prog W .any base t v := hval0
  rw [Tryz.params3] at hval
  have hlen : ds.length = 1 ∧ args.size = 1 := by
    obtain ⟨p, q, hA, _⟩ := hW
    have := trodAll_length hA
    rw [Tryz.params3] at this
    exact ⟨this.1, by simpa using this.2⟩
  have walk : Calls Tryz.prog 3 args W fun e W' => e = .returned (.bool true) ∧ Below W.heap.size W W' := by
    obtain ⟨p, q, hA, _⟩ := hW
    rw [Tryz.params3] at hA
    exact row_trueT (E := EW) (ash := shs) (envOkD _ _ _ _) orcW0 mixedW rfl tabsBW (tables hL) (by kernel_rfl) hA (fun j t v a b => hval j t v (by simpa using a) b) contract
  refine walk.mono fun e W' ⟨he, hb⟩ => ?_
  subst he
  refine ⟨_, rfl, post_true (tb := 4) hW rfl (by kernel_rfl) Tryz.underlying4 laid ?_ ?_ hb⟩
  · intro t ht
    rw [Tryz.params3] at ht
    simp at ht
    subst ht
    · exact ⟨by kernel_rfl, of_decide_eq_true (by kernel_rfl)⟩
  · match ds, hlen.1 with
    | [d0], _ => rfl

theorem over : Rows.CraqWaitsSaid :=
  OpenClaim.holds_of_wide 3 Tryz.f3 rfl rfl rfl rfl rfl rfl rfl ⟨rfl, rfl, rfl, rfl, rfl⟩ rfl rfl rfl rfl rfl named Tryz.func3 closed
    (of_decide_eq_true (by kernel_rfl)) (by unfold Func.isWrapper; first | (rw [if_pos (by decide +kernel)]; kernel_rfl) | (rw [if_neg (by decide +kernel)]; exact ⟨rfl, rfl⟩))
    (fun os started H enc _ => lifted os started H enc)

theorem main_is : Tryz.pinned.checked.prog.mainIs = some (true, "2a6f93724f58c6d464ab1f62fdad12e588cc5d613415b3ab4f0ca76a2dea3d82".toList) := by kernel_rfl
theorem looks_no : false = Tryz.prog.looks [] := by kernel_rfl
theorem goes_no : false = Rows.craqWaitsRow.goesBy Tryz.pinned.checked.prog := by kernel_rfl
theorem by_text : Rows.craqWaitsRow.wfByText (OpenSpec.ofChange Rows.craqWaitsSpec) = true := by kernel_rfl
theorem no_stand : ([22].all fun u => !Tryz.prog.wantsStandIn u) = true := by kernel_rfl
theorem proved : Rows.CraqWaitsCardSaid :=
  Claim7.holds_tied_plain_at .later [] [.data] true (true, "2a6f93724f58c6d464ab1f62fdad12e588cc5d613415b3ab4f0ca76a2dea3d82") false
    over (fun _ h => by cases h) by_text (fun _ h => by cases h) craqWaits_row_tie rfl ⟨rfl, rfl⟩ main_is rfl
    (fun f fn hf hfn => by
      obtain rfl : f = 3 := Option.some.inj (named.symm.trans hf) |>.symm
      obtain rfl : fn = Tryz.f3 := (Option.some.inj (Tryz.func3.symm.trans hfn)).symm
      exact ⟨looks_no, fun j t ht => by
        rw [Tryz.params3] at ht
        have hm : t ∈ [22] := by simpa using Array.mem_of_getElem? ht
        exact (show Tryz.prog.wantsStandIn t = false by simpa using List.all_eq_true.1 no_stand t hm)⟩)
    goes_no
end Go.Proofs.YtgjfaieghmigjaaGreatDoor.craqWaits
