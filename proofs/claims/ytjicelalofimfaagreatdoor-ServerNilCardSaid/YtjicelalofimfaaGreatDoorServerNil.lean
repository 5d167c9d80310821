/-
  No server says nothing: catenary/catenarylaw24.ServerNil returns true for every input, and the input reads behind the call as it read before. The card: the table that the row lists is tied to the program's text.
-/
import Derived.Test.YtjicelalofimfaaGreatDoorRows
import Derived.Test.YtjicelalofimfaaGreatDoorCards
import Derived.Test.YtjicelalofimfaaGreatDoorTie
import Derived.LaidMore
import Derived.LaidLaws
import Derived.SevenTiedAt
import Derived.OpenShut
import Derived.Test.YtjicelalofimfaaGreatDoorL6
namespace Go.Proofs.YtjicelalofimfaaGreatDoor.serverNil
open Go Go.M Go.ChangeShapes Go.WideShapes Go.ChangeAt Go.RowKit

theorem laid : laidOutB Tryz.prog = true := fact1
@[reducible] def tab : List (String × DataW Unit) := [("catenary/letter.kinds", Rows.laid_catenary_letter_kinds)]

@[reducible] def shU : List Sh := [.int .u64, .int .i64, .int .u64, .int .i64, .int .u32, .int .u64, .sl [.int .u8]]
@[reducible] def shV : List Sh := [.int .i64, .int .u64, .int .i64, .int .i64, .int .u64, .int .i64]
@[reducible] def shL : List Sh := [.int .i64, .int .i64, .int .i64, .int .i64, .int .u64, .int .u64, .int .u64, .int .u64, .int .u64, .int .u64, .int .i64, .int .u32, .int .i64, .int .i64, .int .i64, .int .u64, .int .i64, .int .i64, .int .u64, .sl [.int .i64], .bool, .int .i64, .sl shV, .sl shU, .sl [.int .u8]]
@[reducible] def shs : List ArgSh := [⟨true, shL⟩, ⟨false, [.sl [.int .i64]]⟩]
theorem upd_of {r : List TV} (h : Fits shU r) : ∃ u : UpdL, r = encU u := by
  simp only [Fits, Fit] at h
  obtain ⟨_, _, rfl, ⟨a, _, _, rfl⟩, _, _, rfl, ⟨b, _, _, rfl⟩, _, _, rfl, ⟨c, _, _, rfl⟩, _, _, rfl, ⟨d, _, _, rfl⟩, _, _, rfl, ⟨e, _, _, rfl⟩, _, _, rfl, ⟨f, _, _, rfl⟩, _, _, rfl, ⟨data, _, _, rfl⟩, rfl⟩ := h
  exact ⟨⟨a, b, c, d, e, f, data⟩, rfl⟩
theorem list_of {α : Type} {enc : α → List TV} {ss : List Sh} (h : ∀ r, Fits ss r → ∃ a, r = enc a) : ∀ {es : List (List TV)}, (∀ r ∈ es, Fits ss r) → ∃ l : List α, es = l.map enc
  | [], _ => ⟨[], rfl⟩
  | r :: es, hr => by
    obtain ⟨a, rfl⟩ := h r (hr r List.mem_cons_self)
    obtain ⟨l, rfl⟩ := list_of h (es := es) fun r hr' => hr r (List.mem_cons_of_mem _ hr')
    exact ⟨a :: l, rfl⟩
theorem let_of {r : List TV} (h : Fits shL r) : ∃ l : Let, r = encL l := by
  rw [Fits] at h
  simp only [Fits, Fit] at h
  obtain ⟨_, _, rfl, ⟨a1, _, _, rfl⟩, _, _, rfl, ⟨a2, _, _, rfl⟩, _, _, rfl, ⟨a3, _, _, rfl⟩, _, _, rfl, ⟨a4, _, _, rfl⟩, _, _, rfl, ⟨a5, _, _, rfl⟩, _, _, rfl, ⟨a6, _, _, rfl⟩, _, _, rfl, ⟨a7, _, _, rfl⟩, _, _, rfl, ⟨a8, _, _, rfl⟩, _, _, rfl, ⟨a9, _, _, rfl⟩, _, _, rfl, ⟨a10, _, _, rfl⟩,
    _, _, rfl, ⟨a11, _, _, rfl⟩, _, _, rfl, ⟨a12, _, _, rfl⟩, _, _, rfl, ⟨a13, _, _, rfl⟩, _, _, rfl, ⟨a14, _, _, rfl⟩, _, _, rfl, ⟨a15, _, _, rfl⟩, _, _, rfl, ⟨a16, _, _, rfl⟩, _, _, rfl, ⟨a17, _, _, rfl⟩, _, _, rfl, ⟨a18, _, _, rfl⟩, _, _, rfl, ⟨a19, _, _, rfl⟩, _, _, rfl, ⟨nodes, _, _, rfl⟩,
    _, _, rfl, ⟨fresh, rfl⟩, _, _, rfl, ⟨join, _, _, rfl⟩, _, _, rfl, ⟨votes, _, _, rfl⟩, _, _, rfl, ⟨us, _, hus, rfl⟩, _, _, rfl, ⟨data, _, _, rfl⟩, rfl⟩ := h
  obtain ⟨l, rfl⟩ := list_of (enc := encU) (ss := shU) (fun r h => upd_of h) (es := us) (fun r hr => by have := hus r hr; simp only [Fits, Fit]; exact this)
  exact ⟨⟨a1, a2, a3, a4, a5, a6, a7, a8, a9, a10, a11, a12, a13, a14, a15, a16, a17, a18, a19, nodes, fresh, join, votes, l, data⟩, rfl⟩
theorem contract (tvs : List TV) (h : FitAs shs tvs) : VC E0 9 0 tvs [] fun r _ _ => r = .s (.bool true) := by
  obtain ⟨t, _, rfl, ⟨r, rfl, hr⟩, h2⟩ := h
  obtain ⟨l, rfl⟩ := let_of hr
  obtain ⟨u, _, rfl, hu, rfl⟩ := h2
  simp only [FitA, Fits, Fit] at hu
  obtain ⟨_, _, e, ⟨d, _, _, rfl⟩, rfl⟩ := hu
  cases e
  exact serverNil_ok l d

/-- The door's own heap meets the condition: three closed facts. -/
theorem door_met (os : Os) (args : Array Value) : laidMetH Tryz.prog tab ((World.doorLaid Tryz.prog 54 os).forCall (fun _ _ => 0) ⟨#[], args, []⟩).memory :=
  laidMetH_of_parts3 (fuel := 8) (laidMet_of_run' 8 (by kernel_rfl) (by kernel_rfl)) (by kernel_rfl) (by kernel_rfl)

set_option maxRecDepth 100000 in
theorem lifted (os : Os) (started : os.Started) (H : Type) (enc : TypeId × Value → H) :
    ReturnsInHanded {} Tryz.checked os 9 .any (fun w args => (Rows.serverNilSpec.pre enc Tryz.prog Tryz.f9 [] false w args ∧ laidMetH Tryz.prog tab w) ∧ sizedMet enc Tryz.prog Tryz.f9 (OpenSpec.ofChange Rows.serverNilSpec) false w args)
      (Rows.serverNilSpec.post enc Tryz.prog Tryz.f9 false true false false) := by
  refine returnsInHanded_of_change_and (C := Tryz.checked) (X := fun w _ => laidMetH Tryz.prog tab w) (fun _ _ _ hh h => h.of_heap hh) own started (by kernel_rfl) Tryz.func9
    (ChangeSpec.witness_shaped (enc := enc) (C := Tryz.checked) (os := os) (X := fun w _ => laidMetH Tryz.prog tab w) false (World.doorLaid Tryz.prog 54 os) #[.agg #[.int .i64 0, .int .i64 0, .int .i64 0, .int .i64 0, .int .u64 0, .int .u64 0, .int .u64 0, .int .u64 0, .int .u64 0, .int .u64 0, .int .i64 0, .int .u32 0, .int .i64 0, .int .i64 0, .int .i64 0, .int .u64 0, .int .i64 0, .int .i64 0, .int .u64 0, .slice none 0 0, .bool false, .int .i64 0, .slice none 0 0, .slice none 0 0, .slice none 0 0], .slice none 0 0] 8 rfl (World.shaped_of_RefB (by kernel_rfl) (by kernel_rfl)) (by kernel_rfl) (by kernel_rfl) (by kernel_rfl) (door_met os _)) ?_
  intro W base args ds gs before hval0 hW _ _ _ _
  have hval : ∀ (j : Nat) t v, Tryz.f9.params[j]? = some t → args[j]? = some v → Value.okWide Tryz.prog W .any base t v := hval0
  rw [Tryz.params9] at hval
  have hlen : ds.length = 2 ∧ args.size = 2 := by
    obtain ⟨p, q, hA, _⟩ := hW
    have := trodAll_length hA
    rw [Tryz.params9] at this
    exact ⟨this.1, by simpa using this.2⟩
  have walk : Calls Tryz.prog 9 args W fun e W' => e = .returned (.bool true) ∧ Below W.heap.size W W' := by
    obtain ⟨p, q, hA, _⟩ := hW
    rw [Tryz.params9] at hA
    exact row_true (E := E0) (ash := shs) (envOk _ _) orc0 mixed0 (fun _ => rfl) (by kernel_rfl) hA (fun j t v a b => hval j t v (by simpa using a) b) contract
  refine walk.mono fun e W' ⟨he, hb⟩ => ?_
  subst he
  refine ⟨_, rfl, post_true (tb := 4) hW rfl (by kernel_rfl) Tryz.underlying4 laid ?_ ?_ hb⟩
  · intro t ht
    rw [Tryz.params9] at ht
    simp at ht
    rcases ht with rfl | rfl
    · exact ⟨by kernel_rfl, of_decide_eq_true (by kernel_rfl)⟩
    · exact ⟨by kernel_rfl, of_decide_eq_true (by kernel_rfl)⟩
  · match ds, hlen.1 with
    | [d, d'], _ => rfl

theorem over : Rows.ServerNilSaid :=
  OpenClaim.holds_of_wide 9 Tryz.f9 rfl rfl rfl rfl rfl rfl rfl ⟨rfl, rfl, rfl, rfl, rfl⟩ rfl rfl rfl rfl rfl named Tryz.func9 closed
    (of_decide_eq_true (by kernel_rfl)) (by unfold Func.isWrapper; first | (rw [if_pos (by decide +kernel)]; kernel_rfl) | (rw [if_neg (by decide +kernel)]; exact ⟨rfl, rfl⟩))
    (fun os started H enc _ => lifted os started H enc)

theorem main_is : Tryz.pinned.checked.prog.mainIs = some (true, "8e0547e20ee4ba7af81177830350de387057debebf0760188b94b2abcb3a5660".toList) := by kernel_rfl
theorem looks_no : false = Tryz.prog.looks [] := by kernel_rfl
theorem goes_no : false = Rows.serverNilRow.goesBy Tryz.pinned.checked.prog := by kernel_rfl
theorem by_text : Rows.serverNilRow.wfByText (OpenSpec.ofChange Rows.serverNilSpec) = true := by kernel_rfl
theorem no_stand : ([66, 60].all fun u => !Tryz.prog.wantsStandIn u) = true := by kernel_rfl
theorem proved : Rows.ServerNilCardSaid :=
  Claim7.holds_tied_plain_at .later [] [.data] true (true, "8e0547e20ee4ba7af81177830350de387057debebf0760188b94b2abcb3a5660") false
    over (fun _ h => by cases h) by_text (fun _ h => by cases h) serverNil_row_tie rfl ⟨rfl, rfl⟩ main_is rfl
    (fun f fn hf hfn => by
      obtain rfl : f = 9 := Option.some.inj (named.symm.trans hf) |>.symm
      obtain rfl : fn = Tryz.f9 := (Option.some.inj (Tryz.func9.symm.trans hfn)).symm
      exact ⟨looks_no, fun j t ht => by
        rw [Tryz.params9] at ht
        have hm : t ∈ [66, 60] := by simpa using Array.mem_of_getElem? ht
        exact (show Tryz.prog.wantsStandIn t = false by simpa using List.all_eq_true.1 no_stand t hm)⟩)
    goes_no
end Go.Proofs.YtjicelalofimfaaGreatDoor.serverNil
