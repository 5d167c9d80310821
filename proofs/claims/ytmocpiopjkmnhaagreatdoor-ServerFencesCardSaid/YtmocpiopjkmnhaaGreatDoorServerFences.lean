/-
  What a node lets in is of its chain and epoch: what is fenced turns nothing: catenary/catenarylaw24.ServerFences returns true for every input, and the input reads behind the call as it read before. The card: the table that the row lists is tied to the program's text.
-/
import Derived.Test.YtmocpiopjkmnhaaGreatDoorRows
import Derived.Test.YtmocpiopjkmnhaaGreatDoorCards
import Derived.Test.YtmocpiopjkmnhaaGreatDoorTie
import Derived.LaidMore
import Derived.LaidLaws
import Derived.SevenTiedAt
import Derived.OpenShut
import Derived.Lay
import Derived.MakeChecks
import Derived.Test.YtmocpiopjkmnhaaGreatDoorL41
import Derived.Test.YtmocpiopjkmnhaaGreatDoorL40
import Derived.Test.YtmocpiopjkmnhaaGreatDoorL42
import Derived.Test.YtmocpiopjkmnhaaGreatDoorL43
namespace Go.Proofs.YtmocpiopjkmnhaaGreatDoor.serverFences
open Go Go.M Go.ChangeShapes Go.WideShapes Go.ChangeAt Go.RowKit

theorem laid : laidOutB Tryz.prog = true := fact1
@[reducible] def tab : List (String × DataW Unit) := [("catenary/letter.kinds", Rows.laid_catenary_letter_kinds)]
theorem tabs_are : tabD Tryz.prog tab tabs0 = true := by kernel_rfl
theorem tables {W : World} (h : laidMetH Tryz.prog tab W) : LaidT tabs0 W := by
  rw [MakeChecks.laidMetH_plain _ _ _ (by kernel_rfl)] at h
  exact laidT_of tabs_are h

@[reducible] def shUF : List Sh := [.int .u64, .int .i64, .int .u64, .int .i64, .int .u32, .int .u64, .sl [.int .u8]]
@[reducible] def shVF : List Sh := [.int .i64, .int .u64, .int .i64, .int .i64, .int .u64, .int .i64]
@[reducible] def shLF : List Sh := [.int .i64, .int .i64, .int .i64, .int .i64, .int .u64, .int .u64, .int .u64, .int .u64, .int .u64, .int .u64, .int .i64, .int .u32, .int .i64, .int .i64, .int .i64, .int .u64, .int .i64, .int .i64, .int .u64, .sl [.int .i64], .bool, .int .i64, .sl shVF, .sl shUF, .sl [.int .u8]]
@[reducible] def shRF : List Sh := [.int .i64, .int .u64, .sl [.int .i64], .bool, .int .i64]
@[reducible] def shs : List ArgSh := [⟨false, [.int .i64]⟩, ⟨true, shRF⟩, ⟨true, shLF⟩]
theorem lst_of {α : Type} {enc : α → List TV} {ss : List Sh} (h : ∀ r, Fits ss r → ∃ a, r = enc a) : ∀ {es : List (List TV)}, (∀ r ∈ es, Fits ss r) → ∃ l : List α, es = l.map enc
  | [], _ => ⟨[], rfl⟩
  | r :: es, hr => by
    obtain ⟨a, rfl⟩ := h r (hr r List.mem_cons_self)
    obtain ⟨l, rfl⟩ := lst_of h (es := es) fun r hr' => hr r (List.mem_cons_of_mem _ hr')
    exact ⟨a :: l, rfl⟩
theorem byt_of {r : List TV} (h : Fits [.int .u8] r) : ∃ n : Int, r = encB1 n := by
  simp only [Fits, Fit] at h
  obtain ⟨_, _, rfl, ⟨a, _, _, rfl⟩, rfl⟩ := h
  exact ⟨a, rfl⟩
theorem int_of {r : List TV} (h : Fits [.int .i64] r) : ∃ n : Int, r = encI1 n := by
  simp only [Fits, Fit] at h
  obtain ⟨_, _, rfl, ⟨a, _, _, rfl⟩, rfl⟩ := h
  exact ⟨a, rfl⟩
theorem vot_of {r : List TV} (h : Fits shVF r) : ∃ v : VoF, r = encVF v := by
  simp only [Fits, Fit] at h
  obtain ⟨_, _, rfl, ⟨a, _, _, rfl⟩, _, _, rfl, ⟨b, _, _, rfl⟩, _, _, rfl, ⟨c, _, _, rfl⟩, _, _, rfl, ⟨d, _, _, rfl⟩, _, _, rfl, ⟨e, _, _, rfl⟩, _, _, rfl, ⟨f, _, _, rfl⟩, rfl⟩ := h
  exact ⟨⟨a, b, c, d, e, f⟩, rfl⟩
theorem upd_of {r : List TV} (h : Fits shUF r) : ∃ u : UpF, r = encUF u := by
  simp only [Fits, Fit] at h
  obtain ⟨_, _, rfl, ⟨a, _, _, rfl⟩, _, _, rfl, ⟨b, _, _, rfl⟩, _, _, rfl, ⟨c, _, _, rfl⟩, _, _, rfl, ⟨d, _, _, rfl⟩, _, _, rfl, ⟨e, _, _, rfl⟩, _, _, rfl, ⟨f, _, _, rfl⟩, _, _, rfl, ⟨data, _, hd, rfl⟩, rfl⟩ := h
  obtain ⟨l, rfl⟩ := lst_of (enc := encB1) (ss := [.int .u8]) (fun r h => byt_of h) (es := data) (fun r hr => by have := hd r hr; simp only [Fits, Fit]; exact this)
  exact ⟨⟨a, b, c, d, e, f, l⟩, rfl⟩
theorem let_of {r : List TV} (h : Fits shLF r) : ∃ l : LtF, r = encL l := by
  rw [Fits] at h
  simp only [Fits, Fit] at h
  obtain ⟨_, _, rfl, ⟨a1, _, _, rfl⟩, _, _, rfl, ⟨a2, _, _, rfl⟩, _, _, rfl, ⟨a3, _, _, rfl⟩, _, _, rfl, ⟨a4, _, _, rfl⟩, _, _, rfl, ⟨a5, _, _, rfl⟩, _, _, rfl, ⟨a6, _, _, rfl⟩, _, _, rfl, ⟨a7, _, _, rfl⟩, _, _, rfl, ⟨a8, _, _, rfl⟩, _, _, rfl, ⟨a9, _, _, rfl⟩, _, _, rfl, ⟨a10, _, _, rfl⟩,
    _, _, rfl, ⟨a11, _, _, rfl⟩, _, _, rfl, ⟨a12, _, _, rfl⟩, _, _, rfl, ⟨a13, _, _, rfl⟩, _, _, rfl, ⟨a14, _, _, rfl⟩, _, _, rfl, ⟨a15, _, _, rfl⟩, _, _, rfl, ⟨a16, _, _, rfl⟩, _, _, rfl, ⟨a17, _, _, rfl⟩, _, _, rfl, ⟨a18, _, _, rfl⟩, _, _, rfl, ⟨a19, _, _, rfl⟩, _, _, rfl, ⟨nodes, _, hn, rfl⟩,
    _, _, rfl, ⟨fresh, rfl⟩, _, _, rfl, ⟨join, _, _, rfl⟩, _, _, rfl, ⟨votes, _, hv, rfl⟩, _, _, rfl, ⟨us, _, hus, rfl⟩, _, _, rfl, ⟨data, _, hd, rfl⟩, rfl⟩ := h
  obtain ⟨l1, rfl⟩ := lst_of (enc := encI1) (ss := [.int .i64]) (fun r h => int_of h) (es := nodes) (fun r hr => by have := hn r hr; simp only [Fits, Fit]; exact this)
  obtain ⟨l2, rfl⟩ := lst_of (enc := encVF) (ss := shVF) (fun r h => vot_of h) (es := votes) (fun r hr => by have := hv r hr; simp only [Fits, Fit]; exact this)
  obtain ⟨l3, rfl⟩ := lst_of (enc := encUF) (ss := shUF) (fun r h => upd_of h) (es := us) (fun r hr => by have := hus r hr; simp only [Fits, Fit]; exact this)
  obtain ⟨l4, rfl⟩ := lst_of (enc := encB1) (ss := [.int .u8]) (fun r h => byt_of h) (es := data) (fun r hr => by have := hd r hr; simp only [Fits, Fit]; exact this)
  exact ⟨⟨a1, a2, a3, a4, a5, a6, a7, a8, a9, a10, a11, a12, a13, ⟨a14, a15, a16, a17⟩, ⟨a18, a19, l1, fresh, join⟩, l2, l3, l4⟩, rfl⟩
theorem cnf_of {r : List TV} (h : Fits shRF r) : ∃ c : CF, r = encCF c := by
  simp only [Fits, Fit] at h
  obtain ⟨_, _, rfl, ⟨a, _, _, rfl⟩, _, _, rfl, ⟨b, _, _, rfl⟩, _, _, rfl, ⟨es, _, hn, rfl⟩, _, _, rfl, ⟨f, rfl⟩, _, _, rfl, ⟨g, _, _, rfl⟩, rfl⟩ := h
  obtain ⟨l1, rfl⟩ := lst_of (enc := encI1) (ss := [.int .i64]) (fun r h => int_of h) (es := es) (fun r hr => by have := hn r hr; simp only [Fits, Fit]; exact this)
  exact ⟨⟨a, b, l1, f, g⟩, rfl⟩
theorem contract (tvs : List TV) (h : FitAs shs tvs) : VC E0 3 0 tvs [] fun r _ _ => r = .s (.bool true) := by
  obtain ⟨t, _, rfl, ht, h1⟩ := h
  obtain ⟨u, _, rfl, ⟨r, rfl, hr⟩, h2⟩ := h1
  obtain ⟨w, _, rfl, ⟨q, rfl, hq⟩, rfl⟩ := h2
  simp only [FitA, Fits, Fit] at ht
  obtain ⟨_, _, e1, ⟨n, _, _, rfl⟩, n1⟩ := ht
  cases n1
  cases e1
  obtain ⟨l, rfl⟩ := let_of hq
  obtain ⟨c, rfl⟩ := cnf_of hr
  exact fences_ok n c l

set_option maxRecDepth 100000 in
theorem lifted (os : Os) (started : os.Started) (H : Type) (enc : TypeId × Value → H) :
    ReturnsInHanded {} Tryz.checked os 3 .any (fun w args => (Rows.serverFencesSpec.pre enc Tryz.prog Tryz.f3 [] false w args ∧ laidMetH Tryz.prog tab w) ∧ sizedMet enc Tryz.prog Tryz.f3 (OpenSpec.ofChange Rows.serverFencesSpec) false w args)
      (Rows.serverFencesSpec.post enc Tryz.prog Tryz.f3 false true false false) := by
  refine returnsInHanded_of_change_and (C := Tryz.checked) (X := fun w _ => laidMetH Tryz.prog tab w) (fun _ _ _ hh h => h.of_heap hh) own started (by kernel_rfl) Tryz.func3
    (ChangeSpec.witness_shaped (enc := enc) (C := Tryz.checked) (os := os) (X := fun w _ => laidMetH Tryz.prog tab w) false (World.laidAll Tryz.prog os tab) #[.int .i64 0, .agg #[.int .i64 0, .int .u64 0, .slice none 0 0, .bool false, .int .i64 0], .agg #[.int .i64 0, .int .i64 0, .int .i64 0, .int .i64 0, .int .u64 0, .int .u64 0, .int .u64 0, .int .u64 0, .int .u64 0, .int .u64 0, .int .i64 0, .int .u32 0, .int .i64 0, .int .i64 0, .int .i64 0, .int .u64 0, .int .i64 0, .int .i64 0, .int .u64 0, .slice none 0 0, .bool false, .int .i64 0, .slice none 0 0, .slice none 0 0, .slice none 0 0]] 8 (World.laidAll_os _ _ _) (World.shaped_of_ZipB (by kernel_rfl) (by kernel_rfl)) (by kernel_rfl) (by kernel_rfl) (by kernel_rfl)
      (by rw [MakeChecks.laidMetH_plain _ _ _ (by kernel_rfl)]; exact laidMet_laidAll _ (by kernel_rfl) (by kernel_rfl))) ?_
  intro W base args ds gs before hval0 hW _ _ hL _
  have hval : ∀ (j : Nat) t v, Tryz.f3.params[j]? = some t → args[j]? = some v → Value.okWide Tryz.prog W .any base t v := hval0
  rw [Tryz.params3] at hval
  have hlen : ds.length = 3 ∧ args.size = 3 := by
    obtain ⟨p, q, hA, _⟩ := hW
    have := trodAll_length hA
    rw [Tryz.params3] at this
    exact ⟨this.1, by simpa using this.2⟩
  have walk : Calls Tryz.prog 3 args W fun e W' => e = .returned (.bool true) ∧ Below W.heap.size W W' := by
    obtain ⟨p, q, hA, _⟩ := hW
    rw [Tryz.params3] at hA
    exact row_trueT (E := E0) (ash := shs) (envOkT _ _ _) orc0 mixed0 rfl tabsB0 (tables hL) (by kernel_rfl) hA (fun j t v a b => hval j t v (by simpa using a) b) contract
  refine walk.mono fun e W' ⟨he, hb⟩ => ?_
  subst he
  refine ⟨_, rfl, post_true (tb := 4) hW rfl (by kernel_rfl) Tryz.underlying4 laid ?_ ?_ hb⟩
  · intro t ht
    rw [Tryz.params3] at ht
    simp at ht
    rcases ht with rfl | rfl | rfl
    · exact ⟨by kernel_rfl, of_decide_eq_true (by kernel_rfl)⟩
    · exact ⟨by kernel_rfl, of_decide_eq_true (by kernel_rfl)⟩
    · exact ⟨by kernel_rfl, of_decide_eq_true (by kernel_rfl)⟩
  · match ds, hlen.1 with
    | [d0, d1, d2], _ => rfl

theorem over : Rows.ServerFencesSaid :=
  OpenClaim.holds_of_wide 3 Tryz.f3 rfl rfl rfl rfl rfl rfl rfl ⟨rfl, rfl, rfl, rfl, rfl⟩ rfl rfl rfl rfl rfl named Tryz.func3 closed
    (of_decide_eq_true (by kernel_rfl)) (by unfold Func.isWrapper; first | (rw [if_pos (by decide +kernel)]; kernel_rfl) | (rw [if_neg (by decide +kernel)]; exact ⟨rfl, rfl⟩))
    (fun os started H enc _ => lifted os started H enc)

theorem main_is : Tryz.pinned.checked.prog.mainIs = some (true, "d293b0cb0d70cf641ed40482129b6a6bd11ae87a88b8994c6a6baa846440c1ea".toList) := by kernel_rfl
theorem looks_no : false = Tryz.prog.looks [] := by kernel_rfl
theorem goes_no : false = Rows.serverFencesRow.goesBy Tryz.pinned.checked.prog := by kernel_rfl
theorem by_text : Rows.serverFencesRow.wfByText (OpenSpec.ofChange Rows.serverFencesSpec) = true := by kernel_rfl
theorem no_stand : ([3, 25, 34].all fun u => !Tryz.prog.wantsStandIn u) = true := by kernel_rfl
theorem proved : Rows.ServerFencesCardSaid :=
  Claim7.holds_tied_plain_at .later [] [.data] true (true, "d293b0cb0d70cf641ed40482129b6a6bd11ae87a88b8994c6a6baa846440c1ea") false
    over (fun _ h => by cases h) by_text (fun _ h => by cases h) serverFences_row_tie rfl ⟨rfl, rfl⟩ main_is rfl
    (fun f fn hf hfn => by
      obtain rfl : f = 3 := Option.some.inj (named.symm.trans hf) |>.symm
      obtain rfl : fn = Tryz.f3 := (Option.some.inj (Tryz.func3.symm.trans hfn)).symm
      exact ⟨looks_no, fun j t ht => by
        rw [Tryz.params3] at ht
        have hm : t ∈ [3, 25, 34] := by simpa using Array.mem_of_getElem? ht
        exact (show Tryz.prog.wantsStandIn t = false by simpa using List.all_eq_true.1 no_stand t hm)⟩)
    goes_no
end Go.Proofs.YtmocpiopjkmnhaaGreatDoor.serverFences
