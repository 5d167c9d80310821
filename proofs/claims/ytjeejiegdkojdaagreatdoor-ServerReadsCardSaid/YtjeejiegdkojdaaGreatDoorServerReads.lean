/-
  ServerReads: catenary/catenarylaw24.ServerReads returns true for every input, and the input reads behind the call as it read before. The card: the table that the row lists is tied to the program's text.
-/
import Derived.Test.YtjeejiegdkojdaaGreatDoorRows
import Derived.Test.YtjeejiegdkojdaaGreatDoorCards
import Derived.Test.YtjeejiegdkojdaaGreatDoorTie
import Derived.LaidMore
import Derived.LaidLaws
import Derived.SevenTiedAt
import Derived.OpenShut
import Derived.Lay
import Derived.MakeChecks
import Derived.Test.YtjeejiegdkojdaaGreatDoorL24
import Derived.Test.YtjeejiegdkojdaaGreatDoorL23
import Derived.Test.YtjeejiegdkojdaaGreatDoorL25
import Derived.Test.YtjeejiegdkojdaaGreatDoorL26
namespace Go.Proofs.YtjeejiegdkojdaaGreatDoor.serverReads
open Go Go.M Go.ChangeShapes Go.WideShapes Go.ChangeAt Go.RowKit

theorem laid : laidOutB Tryz.prog = true := Vt
@[reducible] def wg : List (String × DataW Unit) := [("catenary/letter.kinds", Rows.laid_catenary_letter_kinds)]
theorem QH : abL Tryz.prog wg A6 = true := by kernel_rfl
theorem tables {W : World} (h : laidMetH Tryz.prog wg W) : yF A6 W := by
  rw [MakeChecks.laidMetH_plain _ _ _ (by kernel_rfl)] at h;exact QG QH h

@[reducible] def shP : List Sh := [.int .i64, .int .i64, .bool, .bool]
@[reducible] def shs : List vC := [⟨false, [.int .i64]⟩, ⟨false, [.sl shP]⟩]
theorem Ka {α : Type} {enc : α → List TV} {ss : List Sh} {P : α → Prop} (h : ∀ r, Fits ss r → ∃ a, r = enc a ∧ P a) : ∀ {es : List (List TV)}, (∀ r ∈ es, Fits ss r) → ∃ l : List α, es = l.map enc ∧ ∀ a ∈ l, P a
  | [], _ => ⟨[], rfl, fun _ h => (by cases h)⟩
  | r :: es, hr => by
    obtain ⟨a, rfl, ha⟩ := h r (hr r List.mem_cons_self);obtain ⟨l, rfl, hl⟩ := Ka h (es := es) fun r kQ => hr r (List.mem_cons_of_mem _ kQ);exact ⟨a :: l, rfl, fun x hx => by
      rcases List.mem_cons.1 hx with rfl | hx
      · exact ha
      · exact hl x hx⟩
theorem qu {s : Sh} {ss : List Sh} {r : List TV} (h : Fits (s :: ss) r) : ∃ t r', r = t :: r' ∧ Fit s t ∧ Fits ss r' := by
  unfold Fits at h; exact h
theorem IC {r : List TV} (h : Fits [] r) : r = [] := by
  unfold Fits at h; exact h
theorem ID {k : IntKind} {t : TV} (h : Fit (.int k) t) : ∃ n, k.min ≤ n ∧ n ≤ k.max ∧ t = .s (.int k n) := by
  unfold Fit at h; exact h
theorem Kb {t : TV} (h : Fit .bool t) : ∃ b, t = .s (.bool b) := by
  unfold Fit at h; exact h
theorem T5 {r : List TV} (h : Fits shP r) : ∃ o : J7, r = tQ o ∧ o.i ≤ 9223372036854775807 := by
  obtain ⟨_, _, rfl, q1, g1⟩ := qu h;obtain ⟨k, _, _, rfl⟩ := ID q1;obtain ⟨_, _, rfl, q2, g2⟩ := qu g1;obtain ⟨i, _, hi, rfl⟩ := ID q2;obtain ⟨_, _, rfl, q3, g3⟩ := qu g2;obtain ⟨w, rfl⟩ := Kb q3;obtain ⟨_, _, rfl, q4, g4⟩ := qu g3;obtain ⟨b, rfl⟩ := Kb q4;cases IC g4;exact ⟨⟨k, i, w, b⟩, rfl, hi⟩
theorem QI (AJ : List TV) (h : EM shs AJ) : VC E0 3 0 AJ [] fun r _ _ => r = .s (.bool true) := by
  simp only [EM, WJ] at h;obtain ⟨t, _, rfl, h1, u, _, rfl, h3, rfl⟩ := h;obtain ⟨_, _, e1, q1, n1⟩ := qu h1;obtain ⟨_, _, e3, q3, n3⟩ := qu h3;cases IC n1; cases IC n3;cases e1; cases e3;obtain ⟨nn, _, _, rfl⟩ := ID q1;unfold Fit at q3;obtain ⟨es, _, Du, rfl⟩ := q3;obtain ⟨l, rfl, hl⟩ := Ka (fun r => T5) Du;exact X2 nn l hl

set_option maxRecDepth 100000 in
theorem lifted (os : Os) (started : os.Started) (H : Type) (enc : TypeId × Value → H) :
    ReturnsInHanded {} Tryz.checked os 3 .any (fun w args => (Rows.serverReadsSpec.pre enc Tryz.prog Tryz.f3 [] false w args ∧ laidMetH Tryz.prog wg w) ∧ sizedMet enc Tryz.prog Tryz.f3 (OpenSpec.ofChange Rows.serverReadsSpec) false w args)
      (Rows.serverReadsSpec.post enc Tryz.prog Tryz.f3 false true false false) := by
  refine returnsInHanded_of_change_and (C := Tryz.checked) (X := fun w _ => laidMetH Tryz.prog wg w) (fun _ _ _ hh h => h.of_heap hh) own started (by kernel_rfl) Tryz.func3
    (ChangeSpec.witness_shaped (enc := enc) (C := Tryz.checked) (os := os) (X := fun w _ => laidMetH Tryz.prog wg w) false (World.laidAll Tryz.prog os wg) #[.int .i64 0, .slice none 0 0] 8 (World.laidAll_os _ _ _) (World.shaped_of_ZipB (by kernel_rfl) (by kernel_rfl)) (by kernel_rfl) (by kernel_rfl) (by kernel_rfl)
      (by rw [MakeChecks.laidMetH_plain _ _ _ (by kernel_rfl)]; exact laidMet_laidAll _ (by kernel_rfl) (by kernel_rfl))) ?_
  intro W base args ds gs before abV hW _ _ hL _;have Pj : ∀ (j : Nat) t v, Tryz.f3.params[j]? = some t → args[j]? = some v → Value.okWide Tryz.prog W .any base t v := abV;rw [Tryz.params3] at Pj;have hlen : ds.length = 2 ∧ args.size = 2 := by
    obtain ⟨p, q, hA, _⟩ := hW;have := pf hA;rw [Tryz.params3] at this;exact ⟨this.1, by simpa using this.2⟩
  have walk : Calls Tryz.prog 3 args W fun e W' => e = .returned (.bool true) ∧ Below W.heap.size W W' := by
    obtain ⟨p, q, hA, _⟩ := hW;rw [Tryz.params3] at hA;exact Ll (E := E0) (Jo := shs) (Xe _ _ _ _) aeS IA rfl Dk (tables hL) (by kernel_rfl) hA (fun j t v a b => Pj j t v (by simpa using a) b) QI
  refine walk.mono fun e W' ⟨he, hb⟩ => ?_;subst he;refine ⟨_, rfl, Ks (tb := 4) hW rfl (by kernel_rfl) Tryz.underlying4 laid ?_ ?_ hb⟩
  · intro t ht
    rw [Tryz.params3] at ht;simp at ht;rcases ht with rfl | rfl
    · exact ⟨by kernel_rfl, of_decide_eq_true (by kernel_rfl)⟩
    · exact ⟨by kernel_rfl, of_decide_eq_true (by kernel_rfl)⟩
  · match ds, hlen.1 with
    | [d0, d1], _ => rfl

theorem over : Rows.ServerReadsSaid :=
  OpenClaim.holds_of_wide 3 Tryz.f3 rfl rfl rfl rfl rfl rfl rfl ⟨rfl, rfl, rfl, rfl, rfl⟩ rfl rfl rfl rfl rfl named Tryz.func3 closed
    (of_decide_eq_true (by kernel_rfl)) (by unfold Func.isWrapper; first | (rw [if_pos (by decide +kernel)]; kernel_rfl) | (rw [if_neg (by decide +kernel)]; exact ⟨rfl, rfl⟩))
    (fun os started H enc _ => lifted os started H enc)

theorem T6 : Tryz.pinned.checked.prog.mainIs = some (true, "84952083616225ef6d55d6eba857df2c54d4b47d3a0c9057ef8b595417be6f78".toList) := by kernel_rfl
theorem QJ : false = Tryz.prog.looks [] := by kernel_rfl
theorem T7 : false = Rows.serverReadsRow.goesBy Tryz.pinned.checked.prog := by kernel_rfl
theorem T8 : Rows.serverReadsRow.wfByText (OpenSpec.ofChange Rows.serverReadsSpec) = true := by kernel_rfl
theorem QK : ([3, 22].all fun u => !Tryz.prog.wantsStandIn u) = true := by kernel_rfl
theorem proved : Rows.ServerReadsCardSaid :=
  Claim7.holds_tied_plain_at .later [] [.data] true (true, "84952083616225ef6d55d6eba857df2c54d4b47d3a0c9057ef8b595417be6f78") false
    over (fun _ h => by cases h) T8 (fun _ h => by cases h) serverReads_row_tie rfl ⟨rfl, rfl⟩ T6 rfl
    (fun f fn hf Zq => by
      obtain rfl : f = 3 := Option.some.inj (named.symm.trans hf) |>.symm;obtain rfl : fn = Tryz.f3 := (Option.some.inj (Tryz.func3.symm.trans Zq)).symm;exact ⟨QJ, fun j t ht => by
        rw [Tryz.params3] at ht;have hm : t ∈ [3, 22] := by simpa using Array.mem_of_getElem? ht
        exact (show Tryz.prog.wantsStandIn t = false by simpa using List.all_eq_true.1 QK t hm)⟩)
    T7
end Go.Proofs.YtjeejiegdkojdaaGreatDoor.serverReads
