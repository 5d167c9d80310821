/-
  ReplicaWrites: catenary/catenarylaw23.ReplicaWrites returns true for every input, and the input reads behind the call as it read before. The card: the table that the row lists is tied to the program's text.
-/
import Derived.Test.YteoljjhhdgplnaaGreatDoorRows
import Derived.Test.YteoljjhhdgplnaaGreatDoorCards
import Derived.Test.YteoljjhhdgplnaaGreatDoorTie
import Derived.LaidMore
import Derived.LaidLaws
import Derived.SevenTiedAt
import Derived.OpenShut
import Derived.Lay
import Derived.MakeChecks
import Derived.Test.YteoljjhhdgplnaaGreatDoorL31
import Derived.Test.YteoljjhhdgplnaaGreatDoorL25
import Derived.Test.YteoljjhhdgplnaaGreatDoorL32
import Derived.Test.YteoljjhhdgplnaaGreatDoorL33
namespace Go.Proofs.YteoljjhhdgplnaaGreatDoor.replicaWrites
open Go Go.M Go.ChangeShapes Go.WideShapes Go.ChangeAt Go.RowKit

theorem laid : laidOutB Tryz.prog = true := QX
@[reducible] def tF : List (String × DataW Unit) := [("catenary/letter.kinds", Rows.laid_catenary_letter_kinds)]
theorem MY : Xn Tryz.prog tF yq = true := by kernel_rfl
theorem tables {W : World} (h : laidMetH Tryz.prog tF W) : vH yq W := by
  rw [MakeChecks.laidMetH_plain _ _ _ (by kernel_rfl)] at h;exact MX MY h

@[reducible] def shs : List sX := [⟨false, [.int .i64]⟩, ⟨false, [.int .u8]⟩]
theorem Gy {s : Sh} {ss : List Sh} {r : List TV} (h : Fits (s :: ss) r) : ∃ t r', r = t :: r' ∧ Fit s t ∧ Fits ss r' := by
  unfold Fits at h; exact h
theorem MZ {r : List TV} (h : Fits [] r) : r = [] := by
  unfold Fits at h; exact h
theorem M0 {k : IntKind} {t : TV} (h : Fit (.int k) t) : ∃ n, k.min ≤ n ∧ n ≤ k.max ∧ t = .s (.int k n) := by
  unfold Fit at h; exact h
theorem M4 (xR : List TV) (h : BW shs xR) : VC E0 3 0 xR [] fun r _ _ => r = .s (.bool true) := by
  simp only [BW, Sv] at h;obtain ⟨t, _, rfl, h1, w, _, rfl, h2, rfl⟩ := h;obtain ⟨_, _, e1, q1, n1⟩ := Gy h1;obtain ⟨_, _, e2, q2, n2⟩ := Gy h2;cases MZ n1; cases MZ n2;cases e1; cases e2;obtain ⟨nn, _, _, rfl⟩ := M0 q1;obtain ⟨ww, b1, b2, rfl⟩ := M0 q2;exact PV nn ww ⟨b1, b2⟩

set_option maxRecDepth 100000 in
theorem lifted (os : Os) (started : os.Started) (H : Type) (enc : TypeId × Value → H) :
    ReturnsInHanded {} Tryz.checked os 3 .any (fun w args => (Rows.replicaWritesSpec.pre enc Tryz.prog Tryz.f3 [] false w args ∧ laidMetH Tryz.prog tF w) ∧ sizedMet enc Tryz.prog Tryz.f3 (OpenSpec.ofChange Rows.replicaWritesSpec) false w args)
      (Rows.replicaWritesSpec.post enc Tryz.prog Tryz.f3 false true false false) := by
  refine returnsInHanded_of_change_and (C := Tryz.checked) (X := fun w _ => laidMetH Tryz.prog tF w) (fun _ _ _ hh h => h.of_heap hh) own started (by kernel_rfl) Tryz.func3
    (ChangeSpec.witness_shaped (enc := enc) (C := Tryz.checked) (os := os) (X := fun w _ => laidMetH Tryz.prog tF w) false (World.laidAll Tryz.prog os tF) #[.int .i64 0, .int .u8 0] 8 (World.laidAll_os _ _ _) (World.shaped_of_ZipB (by kernel_rfl) (by kernel_rfl)) (by kernel_rfl) (by kernel_rfl) (by kernel_rfl)
      (by rw [MakeChecks.laidMetH_plain _ _ _ (by kernel_rfl)]; exact laidMet_laidAll _ (by kernel_rfl) (by kernel_rfl))) ?_
  intro W base args ds gs before Xx hW _ _ hL _;have Xy : ∀ (j : Nat) t v, Tryz.f3.params[j]? = some t → args[j]? = some v → Value.okWide Tryz.prog W .any base t v := Xx;rw [Tryz.params3] at Xy;have hlen : ds.length = 2 ∧ args.size = 2 := by
    obtain ⟨p, q, hA, _⟩ := hW;have := mU hA;rw [Tryz.params3] at this;exact ⟨this.1, by simpa using this.2⟩
  have walk : Calls Tryz.prog 3 args W fun e W' => e = .returned (.bool true) ∧ Below W.heap.size W W' := by
    obtain ⟨p, q, hA, _⟩ := hW;rw [Tryz.params3] at hA;exact HK (E := E0) (FK := shs) (pt _ _ _) aax EM rfl Au (tables hL) (by kernel_rfl) hA (fun j t v a b => Xy j t v (by simpa using a) b) M4
  refine walk.mono fun e W' ⟨he, hb⟩ => ?_;subst he;refine ⟨_, rfl, GQ (tb := 4) hW rfl (by kernel_rfl) Tryz.underlying4 laid ?_ ?_ hb⟩
  · intro t ht
    rw [Tryz.params3] at ht;simp at ht;rcases ht with rfl | rfl
    · exact ⟨by kernel_rfl, of_decide_eq_true (by kernel_rfl)⟩
    · exact ⟨by kernel_rfl, of_decide_eq_true (by kernel_rfl)⟩
  · match ds, hlen.1 with
    | [d0, d1], _ => rfl

theorem over : Rows.ReplicaWritesSaid :=
  OpenClaim.holds_of_wide 3 Tryz.f3 rfl rfl rfl rfl rfl rfl rfl ⟨rfl, rfl, rfl, rfl, rfl⟩ rfl rfl rfl rfl rfl named Tryz.func3 closed
    (of_decide_eq_true (by kernel_rfl)) (by unfold Func.isWrapper; first | (rw [if_pos (by decide +kernel)]; kernel_rfl) | (rw [if_neg (by decide +kernel)]; exact ⟨rfl, rfl⟩))
    (fun os started H enc _ => lifted os started H enc)

theorem PW : Tryz.pinned.checked.prog.mainIs = some (true, "7f72a9d1ab64ec01a0f426fe8333482c9ba75fd30fe4540b5ccd682ccd0df1ab".toList) := by kernel_rfl
theorem M5 : false = Tryz.prog.looks [] := by kernel_rfl
theorem PX : false = Rows.replicaWritesRow.goesBy Tryz.pinned.checked.prog := by kernel_rfl
theorem PY : Rows.replicaWritesRow.wfByText (OpenSpec.ofChange Rows.replicaWritesSpec) = true := by kernel_rfl
theorem M6 : ([3, 5].all fun u => !Tryz.prog.wantsStandIn u) = true := by kernel_rfl
theorem proved : Rows.ReplicaWritesCardSaid :=
  Claim7.holds_tied_plain_at .later [] [.data] true (true, "7f72a9d1ab64ec01a0f426fe8333482c9ba75fd30fe4540b5ccd682ccd0df1ab") false
    over (fun _ h => by cases h) PY (fun _ h => by cases h) replicaWrites_row_tie rfl ⟨rfl, rfl⟩ PW rfl
    (fun f fn hf U4 => by
      obtain rfl : f = 3 := Option.some.inj (named.symm.trans hf) |>.symm;obtain rfl : fn = Tryz.f3 := (Option.some.inj (Tryz.func3.symm.trans U4)).symm;exact ⟨M5, fun j t ht => by
        rw [Tryz.params3] at ht;have hm : t ∈ [3, 5] := by simpa using Array.mem_of_getElem? ht
        exact (show Tryz.prog.wantsStandIn t = false by simpa using List.all_eq_true.1 M6 t hm)⟩)
    PX
end Go.Proofs.YteoljjhhdgplnaaGreatDoor.replicaWrites
