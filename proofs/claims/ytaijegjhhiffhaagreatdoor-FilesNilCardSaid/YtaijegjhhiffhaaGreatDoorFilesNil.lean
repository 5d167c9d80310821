/-
  No client says, and answers, nothing: catenary/catenarylaw33.FilesNil returns true for every input, and the input reads behind the call as it read before. The card: the tables that the row lists are tied to the program's text.
-/
import Derived.Test.YtaijegjhhiffhaaGreatDoorRows
import Derived.Test.YtaijegjhhiffhaaGreatDoorCards
import Derived.Test.YtaijegjhhiffhaaGreatDoorTie
import Derived.LaidMore
import Derived.LaidLaws
import Derived.SevenTiedAt
import Derived.OpenShut
import Derived.Lay
import Derived.MakeChecks
import Derived.Test.YtaijegjhhiffhaaGreatDoorL6
namespace Go.Proofs.YtaijegjhhiffhaaGreatDoor.filesNil
open Go Go.M Go.ChangeShapes Go.WideShapes Go.ChangeAt Go.RowKit

theorem laid : laidOutB Tryz.prog = true := fact1
@[reducible] def tab : List (String × DataW Unit) := [("unicode/utf8.acceptRanges", Rows.laid_unicode_utf8_acceptRanges), ("catenary/letter.kinds", Rows.laid_catenary_letter_kinds), ("unicode/utf8.first", Rows.laid_unicode_utf8_first)]

@[reducible] def shC : List Sh := [.int .i64, .str, .str, .int .i64, .int .i64, .sl [.int .u8]]
@[reducible] def shs : List ArgSh := [⟨true, shC⟩, ⟨false, [.int .i64]⟩]
theorem contract (tvs : List TV) (h : FitAs shs tvs) : VC E0 3 0 tvs [] fun r _ _ => r = .s (.bool true) := by
  obtain ⟨t, _, rfl, ⟨r, rfl, hr⟩, h2⟩ := h
  simp only [Fits, Fit] at hr
  obtain ⟨_, _, rfl, ⟨k, _, _, rfl⟩, _, _, rfl, ⟨a, _, rfl⟩, _, _, rfl, ⟨b, _, rfl⟩, _, _, rfl, ⟨m, _, _, rfl⟩, _, _, rfl, ⟨n, _, _, rfl⟩, _, _, rfl, ⟨d, _, _, rfl⟩, rfl⟩ := hr
  obtain ⟨u, _, rfl, hu, rfl⟩ := h2
  simp only [FitA, Fits, Fit] at hu
  obtain ⟨_, _, e, ⟨p, _, _, rfl⟩, rfl⟩ := hu
  cases e
  exact filesNil_ok k a b m n p d

set_option maxRecDepth 100000 in
theorem lifted (os : Os) (started : os.Started) (H : Type) (enc : TypeId × Value → H) :
    ReturnsInHanded {} Tryz.checked os 3 .any (fun w args => (Rows.filesNilSpec.pre enc Tryz.prog Tryz.f3 [] false w args ∧ laidMetH Tryz.prog tab w) ∧ sizedMet enc Tryz.prog Tryz.f3 (OpenSpec.ofChange Rows.filesNilSpec) false w args)
      (Rows.filesNilSpec.post enc Tryz.prog Tryz.f3 false true false false) := by
  refine returnsInHanded_of_change_and (C := Tryz.checked) (X := fun w _ => laidMetH Tryz.prog tab w) (fun _ _ _ hh h => h.of_heap hh) own started (by kernel_rfl) Tryz.func3
    (ChangeSpec.witness_shaped (enc := enc) (C := Tryz.checked) (os := os) (X := fun w _ => laidMetH Tryz.prog tab w) false (World.laidAll Tryz.prog os tab) #[.agg #[.int .i64 0, .string ⟨#[]⟩, .string ⟨#[]⟩, .int .i64 0, .int .i64 0, .slice none 0 0], .int .i64 0] 8 (World.laidAll_os _ _ _) (World.shaped_of_ZipB (by kernel_rfl) (by kernel_rfl)) (by kernel_rfl) (by kernel_rfl) (by kernel_rfl)
      (by rw [MakeChecks.laidMetH_plain _ _ _ (by kernel_rfl)]; exact laidMet_laidAll _ (by kernel_rfl) (by kernel_rfl))) ?_
  intro W base args ds gs before hval0 hW _ _ _ _
  have hval : ∀ (j : Nat) t v, Tryz.f3.params[j]? = some t → args[j]? = some v → Value.okWide Tryz.prog W .any base t v := hval0
  rw [Tryz.params3] at hval
  have hlen : ds.length = 2 ∧ args.size = 2 := by
    obtain ⟨p, q, hA, _⟩ := hW
    have := trodAll_length hA
    rw [Tryz.params3] at this
    exact ⟨this.1, by simpa using this.2⟩
  have walk : Calls Tryz.prog 3 args W fun e W' => e = .returned (.bool true) ∧ Below W.heap.size W W' := by
    obtain ⟨p, q, hA, _⟩ := hW
    rw [Tryz.params3] at hA
    exact row_true (E := E0) (ash := shs) (envOk _ _) orc0 mixed0 (fun _ => rfl) (by kernel_rfl) hA (fun j t v a b => hval j t v (by simpa using a) b) contract
  refine walk.mono fun e W' ⟨he, hb⟩ => ?_
  subst he
  refine ⟨_, rfl, post_true (tb := 4) hW rfl (by kernel_rfl) Tryz.underlying4 laid ?_ ?_ hb⟩
  · intro t ht
    rw [Tryz.params3] at ht
    simp at ht
    rcases ht with rfl | rfl
    · exact ⟨by kernel_rfl, of_decide_eq_true (by kernel_rfl)⟩
    · exact ⟨by kernel_rfl, of_decide_eq_true (by kernel_rfl)⟩
  · match ds, hlen.1 with
    | [d, d'], _ => rfl

theorem over : Rows.FilesNilSaid :=
  OpenClaim.holds_of_wide 3 Tryz.f3 rfl rfl rfl rfl rfl rfl rfl ⟨rfl, rfl, rfl, rfl, rfl⟩ rfl rfl rfl rfl rfl named Tryz.func3 closed
    (of_decide_eq_true (by kernel_rfl)) (by unfold Func.isWrapper; first | (rw [if_pos (by decide +kernel)]; kernel_rfl) | (rw [if_neg (by decide +kernel)]; exact ⟨rfl, rfl⟩))
    (fun os started H enc _ => lifted os started H enc)

theorem main_is : Tryz.pinned.checked.prog.mainIs = some (true, "e389a6817c78f06ee98f5b50103c732652a9dc76ac3ba74f973ce92acba43883".toList) := by kernel_rfl
theorem looks_no : true = Tryz.prog.looks [] := by kernel_rfl
theorem goes_no : false = Rows.filesNilRow.goesBy Tryz.pinned.checked.prog := by kernel_rfl
theorem by_text : Rows.filesNilRow.wfByText (OpenSpec.ofChange Rows.filesNilSpec) = true := by kernel_rfl
theorem no_stand : ([24, 3].all fun u => !Tryz.prog.wantsStandIn u) = true := by kernel_rfl
theorem proved : Rows.FilesNilCardSaid :=
  Claim7.holds_tied_plain_at .later [] [.data, .data, .pinned] true (true, "e389a6817c78f06ee98f5b50103c732652a9dc76ac3ba74f973ce92acba43883") true
    over (fun _ h => by cases h) by_text (fun _ h => by cases h) filesNil_row_tie rfl ⟨rfl, rfl⟩ main_is rfl
    (fun f fn hf hfn => by
      obtain rfl : f = 3 := Option.some.inj (named.symm.trans hf) |>.symm
      obtain rfl : fn = Tryz.f3 := (Option.some.inj (Tryz.func3.symm.trans hfn)).symm
      exact ⟨looks_no, fun j t ht => by
        rw [Tryz.params3] at ht
        have hm : t ∈ [24, 3] := by simpa using Array.mem_of_getElem? ht
        exact (show Tryz.prog.wantsStandIn t = false by simpa using List.all_eq_true.1 no_stand t hm)⟩)
    goes_no
end Go.Proofs.YtaijegjhhiffhaaGreatDoor.filesNil
