/-
  ReplicaJoins: catenary/catenarylaw23.ReplicaJoins returns true for every input, and the input reads behind the call as it read before. The card: the table that the row lists is tied to the program's text.
-/
import Derived.Test.YteoljjhhdgplnaaGreatDoorRows
import Derived.Test.YteoljjhhdgplnaaGreatDoorCards
import Derived.Test.YteoljjhhdgplnaaGreatDoorTie
import Derived.LaidMore
import Derived.LaidLaws
import Derived.SevenTiedAt
import Derived.OpenShut
import Derived.Lay
import Derived.MakeChecks
import Derived.Test.YteoljjhhdgplnaaGreatDoorL47
import Derived.Test.YteoljjhhdgplnaaGreatDoorL31
import Derived.Test.YteoljjhhdgplnaaGreatDoorL48
import Derived.Test.YteoljjhhdgplnaaGreatDoorL49
namespace Go.Proofs.YteoljjhhdgplnaaGreatDoor.replicaJoins
open Go Go.M Go.ChangeShapes Go.WideShapes Go.ChangeAt Go.RowKit

theorem laid : laidOutB Tryz.prog = true := Zo
@[reducible] def y5 : List (String × DataW Unit) := [("catenary/letter.kinds", Rows.laid_catenary_letter_kinds)]
theorem UY : ag0 Tryz.prog y5 DA = true := by kernel_rfl
theorem tables {W : World} (h : laidMetH Tryz.prog y5 W) : Bb DA W := by
  rw [MakeChecks.laidMetH_plain _ _ _ (by kernel_rfl)] at h;exact UX UY h

@[reducible] def shs : List ye := [⟨false, [.int .i64]⟩, ⟨false, [.int .u8]⟩]
theorem NN {s : Sh} {ss : List Sh} {r : List TV} (h : Fits (s :: ss) r) : ∃ t r', r = t :: r' ∧ Fit s t ∧ Fits ss r' := by
  unfold Fits at h; exact h
theorem UZ {r : List TV} (h : Fits [] r) : r = [] := by
  unfold Fits at h; exact h
theorem U0 {k : IntKind} {t : TV} (h : Fit (.int k) t) : ∃ n, k.min ≤ n ∧ n ≤ k.max ∧ t = .s (.int k n) := by
  unfold Fit at h; exact h
theorem U3 (Dh : List TV) (h : Ik shs Dh) : VC E0 5 0 Dh [] fun r _ _ => r = .s (.bool true) := by
  simp only [Ik, aaz] at h;obtain ⟨t, _, rfl, h1, w, _, rfl, h2, rfl⟩ := h;obtain ⟨_, _, e1, q1, n1⟩ := NN h1;obtain ⟨_, _, e2, q2, n2⟩ := NN h2;cases UZ n1; cases UZ n2;cases e1; cases e2;obtain ⟨nn, _, _, rfl⟩ := U0 q1;obtain ⟨ww, b1, b2, rfl⟩ := U0 q2;exact acj nn ww ⟨b1, b2⟩

set_option maxRecDepth 100000 in
theorem lifted (os : Os) (started : os.Started) (H : Type) (enc : TypeId × Value → H) :
    ReturnsInHanded {} Tryz.checked os 5 .any (fun w args => (Rows.replicaJoinsSpec.pre enc Tryz.prog Tryz.f5 [] false w args ∧ laidMetH Tryz.prog y5 w) ∧ sizedMet enc Tryz.prog Tryz.f5 (OpenSpec.ofChange Rows.replicaJoinsSpec) false w args)
      (Rows.replicaJoinsSpec.post enc Tryz.prog Tryz.f5 false true false false) := by
  refine returnsInHanded_of_change_and (C := Tryz.checked) (X := fun w _ => laidMetH Tryz.prog y5 w) (fun _ _ _ hh h => h.of_heap hh) own started (by kernel_rfl) Tryz.func5
    (ChangeSpec.witness_shaped (enc := enc) (C := Tryz.checked) (os := os) (X := fun w _ => laidMetH Tryz.prog y5 w) false (World.laidAll Tryz.prog os y5) #[.int .i64 0, .int .u8 0] 8 (World.laidAll_os _ _ _) (World.shaped_of_ZipB (by kernel_rfl) (by kernel_rfl)) (by kernel_rfl) (by kernel_rfl) (by kernel_rfl)
      (by rw [MakeChecks.laidMetH_plain _ _ _ (by kernel_rfl)]; exact laidMet_laidAll _ (by kernel_rfl) (by kernel_rfl))) ?_
  intro W base args ds gs before aha hW _ _ hL _;have ahb : ∀ (j : Nat) t v, Tryz.f5.params[j]? = some t → args[j]? = some v → Value.okWide Tryz.prog W .any base t v := aha;rw [Tryz.params5] at ahb;have hlen : ds.length = 2 ∧ args.size = 2 := by
    obtain ⟨p, q, hA, _⟩ := hW;have := qs hA;rw [Tryz.params5] at this;exact ⟨this.1, by simpa using this.2⟩
  have walk : Calls Tryz.prog 5 args W fun e W' => e = .returned (.bool true) ∧ Below W.heap.size W W' := by
    obtain ⟨p, q, hA, _⟩ := hW;rw [Tryz.params5] at hA;exact OW (E := E0) (MN := shs) (uy _ _ _) ajZ LX rfl Gr (tables hL) (by kernel_rfl) hA (fun j t v a b => ahb j t v (by simpa using a) b) U3
  refine walk.mono fun e W' ⟨he, hb⟩ => ?_;subst he;refine ⟨_, rfl, N8 (tb := 4) hW rfl (by kernel_rfl) Tryz.underlying4 laid ?_ ?_ hb⟩
  · intro t ht
    rw [Tryz.params5] at ht;simp at ht;rcases ht with rfl | rfl
    · exact ⟨by kernel_rfl, of_decide_eq_true (by kernel_rfl)⟩
    · exact ⟨by kernel_rfl, of_decide_eq_true (by kernel_rfl)⟩
  · match ds, hlen.1 with
    | [d0, d1], _ => rfl

theorem over : Rows.ReplicaJoinsSaid :=
  OpenClaim.holds_of_wide 5 Tryz.f5 rfl rfl rfl rfl rfl rfl rfl ⟨rfl, rfl, rfl, rfl, rfl⟩ rfl rfl rfl rfl rfl named Tryz.func5 closed
    (of_decide_eq_true (by kernel_rfl)) (by unfold Func.isWrapper; first | (rw [if_pos (by decide +kernel)]; kernel_rfl) | (rw [if_neg (by decide +kernel)]; exact ⟨rfl, rfl⟩))
    (fun os started H enc _ => lifted os started H enc)

theorem Yo : Tryz.pinned.checked.prog.mainIs = some (true, "7f72a9d1ab64ec01a0f426fe8333482c9ba75fd30fe4540b5ccd682ccd0df1ab".toList) := by kernel_rfl
theorem U4 : false = Tryz.prog.looks [] := by kernel_rfl
theorem Yp : false = Rows.replicaJoinsRow.goesBy Tryz.pinned.checked.prog := by kernel_rfl
theorem Yq : Rows.replicaJoinsRow.wfByText (OpenSpec.ofChange Rows.replicaJoinsSpec) = true := by kernel_rfl
theorem U5 : ([3, 5].all fun u => !Tryz.prog.wantsStandIn u) = true := by kernel_rfl
theorem proved : Rows.ReplicaJoinsCardSaid :=
  Claim7.holds_tied_plain_at .later [] [.data] true (true, "7f72a9d1ab64ec01a0f426fe8333482c9ba75fd30fe4540b5ccd682ccd0df1ab") false
    over (fun _ h => by cases h) Yq (fun _ h => by cases h) replicaJoins_row_tie rfl ⟨rfl, rfl⟩ Yo rfl
    (fun f fn hf hfn => by
      obtain rfl : f = 5 := Option.some.inj (named.symm.trans hf) |>.symm;obtain rfl : fn = Tryz.f5 := (Option.some.inj (Tryz.func5.symm.trans hfn)).symm;exact ⟨U4, fun j t ht => by
        rw [Tryz.params5] at ht;have hm : t ∈ [3, 5] := by simpa using Array.mem_of_getElem? ht
        exact (show Tryz.prog.wantsStandIn t = false by simpa using List.all_eq_true.1 U5 t hm)⟩)
    Yp
end Go.Proofs.YteoljjhhdgplnaaGreatDoor.replicaJoins
