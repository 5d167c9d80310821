/-
  However masters talk, no two of their logs know unlike commands of a slot: catenary/catenarylaw14.MasterAgrees returns true for every input, and the input reads behind the call as it read before. The card: the table that the row lists is tied to the program's text.
-/
import Derived.Test.YtpkdpgcpmeibpaaGreatDoorRows
import Derived.Test.YtpkdpgcpmeibpaaGreatDoorCards
import Derived.Test.YtpkdpgcpmeibpaaGreatDoorTie
import Derived.LaidMore
import Derived.LaidLaws
import Derived.SevenTiedAt
import Derived.OpenShut
import Derived.Lay
import Derived.MakeChecks
import Derived.Test.YtpkdpgcpmeibpaaGreatDoorL26
import Derived.Test.YtpkdpgcpmeibpaaGreatDoorL27
import Derived.Test.YtpkdpgcpmeibpaaGreatDoorL28
namespace Go.Proofs.YtpkdpgcpmeibpaaGreatDoor.masterAgrees
open Go Go.M Go.ChangeShapes Go.WideShapes Go.ChangeAt Go.RowKit

theorem laid : laidOutB Tryz.prog = true := U5
@[reducible] def x6 : List (String × DataW Unit) := [("catenary/letter.kinds", Rows.laid_catenary_letter_kinds)]
theorem QT : aa4 Tryz.prog x6 Gn = true := by kernel_rfl
theorem tables {W : World} (h : laidMetH Tryz.prog x6 W) : zG Gn W := by
  rw [MakeChecks.laidMetH_plain _ _ _ (by kernel_rfl)] at h;exact QS QT h

@[reducible] def shP : List Sh := [.int .i64, .int .i64, .bool, .bool, .int .i64, .int .i64, .int .u64, .int .i64]
@[reducible] def shs : List wM := [⟨false, [.int .i64]⟩, ⟨false, [.int .i64]⟩, ⟨false, [.sl shP]⟩]
theorem KS {α : Type} {enc : α → List TV} {P : α → Prop} {ss : List Sh} (h : ∀ r, Fits ss r → ∃ a, r = enc a ∧ P a) : ∀ {es : List (List TV)}, (∀ r ∈ es, Fits ss r) → ∃ l : List α, es = l.map enc ∧ ∀ a ∈ l, P a
  | [], _ => ⟨[], rfl, by simp⟩
  | r :: es, hr => by
    obtain ⟨a, rfl, ha⟩ := h r (hr r List.mem_cons_self);obtain ⟨l, rfl, hl⟩ := KS h (es := es) fun r ni => hr r (List.mem_cons_of_mem _ ni);exact ⟨a :: l, rfl, fun b hb => by rcases List.mem_cons.1 hb with rfl | hb; exact ha; exact hl b hb⟩
theorem ju {s : Sh} {ss : List Sh} {r : List TV} (h : Fits (s :: ss) r) : ∃ t r', r = t :: r' ∧ Fit s t ∧ Fits ss r' := by
  unfold Fits at h; exact h
theorem EA {r : List TV} (h : Fits [] r) : r = [] := by
  unfold Fits at h; exact h
theorem qN {k : IntKind} {t : TV} (h : Fit (.int k) t) : ∃ n, k.min ≤ n ∧ n ≤ k.max ∧ t = .s (.int k n) := by
  unfold Fit at h; exact h
theorem KT {t : TV} (h : Fit .bool t) : ∃ b, t = .s (.bool b) := by
  unfold Fit at h; exact h
theorem T7 {r : List TV} (h : Fits shP r) : ∃ o : Pk, r = Hm o ∧ 0 ≤ o.cmd.aq := by
  obtain ⟨_, _, rfl, q1, g1⟩ := ju h;obtain ⟨k, _, _, rfl⟩ := qN q1;obtain ⟨_, _, rfl, q2, g2⟩ := ju g1;obtain ⟨i, _, _, rfl⟩ := qN q2;obtain ⟨_, _, rfl, q3, g3⟩ := ju g2;obtain ⟨w, rfl⟩ := KT q3;obtain ⟨_, _, rfl, q4, g4⟩ := ju g3;obtain ⟨b, rfl⟩ := KT q4;obtain ⟨_, _, rfl, q7, g7⟩ := ju g4;obtain ⟨c1, _, _, rfl⟩ := qN q7;obtain ⟨_, _, rfl, q8, g8⟩ := ju g7;obtain ⟨c2, _, _, rfl⟩ := qN q8;obtain ⟨_, _, rfl, q9, g9⟩ := ju g8;obtain ⟨c3, b1, _, rfl⟩ := qN q9;obtain ⟨_, _, rfl, Q7, g10⟩ := ju g9;obtain ⟨c4, _, _, rfl⟩ := qN Q7;cases EA g10;exact ⟨⟨k, i, w, b, ⟨c1, c2, c3, c4⟩⟩, rfl, b1⟩
theorem QU (BW : List TV) (h : F8 shs BW) : VC E0 3 0 BW [] fun r _ _ => r = .s (.bool true) := by
  simp only [F8, Wh] at h;obtain ⟨t, _, rfl, h1, w, _, rfl, h2, u, _, rfl, h3, rfl⟩ := h;obtain ⟨_, _, e1, q1, n1⟩ := ju h1;obtain ⟨_, _, e2, q2, n2⟩ := ju h2;obtain ⟨_, _, e3, q3, n3⟩ := ju h3;cases EA n1; cases EA n2; cases EA n3;cases e1; cases e2; cases e3;obtain ⟨ms, _, _, rfl⟩ := qN q1;obtain ⟨ch, _, _, rfl⟩ := qN q2;unfold Fit at q3;obtain ⟨es, _, fT, rfl⟩ := q3;obtain ⟨l, rfl, hl⟩ := KS (P := fun o : Pk => 0 ≤ o.cmd.aq) (fun r => T7) fT;exact T5 ms ch l hl

set_option maxRecDepth 100000 in
theorem lifted (os : Os) (started : os.Started) (H : Type) (enc : TypeId × Value → H) :
    ReturnsInHanded {} Tryz.checked os 3 .any (fun w args => (Rows.masterAgreesSpec.pre enc Tryz.prog Tryz.f3 [] false w args ∧ laidMetH Tryz.prog x6 w) ∧ sizedMet enc Tryz.prog Tryz.f3 (OpenSpec.ofChange Rows.masterAgreesSpec) false w args)
      (Rows.masterAgreesSpec.post enc Tryz.prog Tryz.f3 false true false false) := by
  refine returnsInHanded_of_change_and (C := Tryz.checked) (X := fun w _ => laidMetH Tryz.prog x6 w) (fun _ _ _ hh h => h.of_heap hh) own started (by kernel_rfl) Tryz.func3
    (ChangeSpec.witness_shaped (enc := enc) (C := Tryz.checked) (os := os) (X := fun w _ => laidMetH Tryz.prog x6 w) false (World.laidAll Tryz.prog os x6) #[.int .i64 0, .int .i64 0, .slice none 0 0] 8 (World.laidAll_os _ _ _) (World.shaped_of_ZipB (by kernel_rfl) (by kernel_rfl)) (by kernel_rfl) (by kernel_rfl) (by kernel_rfl)
      (by rw [MakeChecks.laidMetH_plain _ _ _ (by kernel_rfl)]; exact laidMet_laidAll _ (by kernel_rfl) (by kernel_rfl))) ?_
  intro W base args ds gs before abe hW _ _ hL _;have SN : ∀ (j : Nat) t v, Tryz.f3.params[j]? = some t → args[j]? = some v → Value.okWide Tryz.prog W .any base t v := abe;rw [Tryz.params3] at SN;have hlen : ds.length = 3 ∧ args.size = 3 := by
    obtain ⟨p, q, hA, _⟩ := hW;have := p8 hA;rw [Tryz.params3] at this;exact ⟨this.1, by simpa using this.2⟩
  have walk : Calls Tryz.prog 3 args W fun e W' => e = .returned (.bool true) ∧ Below W.heap.size W W' := by
    obtain ⟨p, q, hA, _⟩ := hW;rw [Tryz.params3] at hA;exact Mb (E := E0) (Kl := shs) (Wv _ _ _) ad6 QP rfl QQ (tables hL) (by kernel_rfl) hA (fun j t v a b => SN j t v (by simpa using a) b) QU
  refine walk.mono fun e W' ⟨he, hb⟩ => ?_;subst he;refine ⟨_, rfl, Lg (tb := 4) hW rfl (by kernel_rfl) Tryz.underlying4 laid ?_ ?_ hb⟩
  · intro t ht
    rw [Tryz.params3] at ht;simp at ht;rcases ht with rfl | rfl
    · exact ⟨by kernel_rfl, of_decide_eq_true (by kernel_rfl)⟩
    · exact ⟨by kernel_rfl, of_decide_eq_true (by kernel_rfl)⟩
  · match ds, hlen.1 with
    | [d0, d1, d2], _ => rfl

theorem over : Rows.MasterAgreesSaid :=
  OpenClaim.holds_of_wide 3 Tryz.f3 rfl rfl rfl rfl rfl rfl rfl ⟨rfl, rfl, rfl, rfl, rfl⟩ rfl rfl rfl rfl rfl named Tryz.func3 closed
    (of_decide_eq_true (by kernel_rfl)) (by unfold Func.isWrapper; first | (rw [if_pos (by decide +kernel)]; kernel_rfl) | (rw [if_neg (by decide +kernel)]; exact ⟨rfl, rfl⟩))
    (fun os started H enc _ => lifted os started H enc)

theorem T8 : Tryz.pinned.checked.prog.mainIs = some (true, "4ccb4995a35aab018730f95c921deb7597ebb8cf501d286968b7ced0483d948c".toList) := by kernel_rfl
theorem QV : false = Tryz.prog.looks [] := by kernel_rfl
theorem T9 : false = Rows.masterAgreesRow.goesBy Tryz.pinned.checked.prog := by kernel_rfl
theorem Ua : Rows.masterAgreesRow.wfByText (OpenSpec.ofChange Rows.masterAgreesSpec) = true := by kernel_rfl
theorem QW : ([3, 3, 22].all fun u => !Tryz.prog.wantsStandIn u) = true := by kernel_rfl
theorem proved : Rows.MasterAgreesCardSaid :=
  Claim7.holds_tied_plain_at .later [] [.data] true (true, "4ccb4995a35aab018730f95c921deb7597ebb8cf501d286968b7ced0483d948c") false
    over (fun _ h => by cases h) Ua (fun _ h => by cases h) masterAgrees_row_tie rfl ⟨rfl, rfl⟩ T8 rfl
    (fun f fn hf YN => by
      obtain rfl : f = 3 := Option.some.inj (named.symm.trans hf) |>.symm;obtain rfl : fn = Tryz.f3 := (Option.some.inj (Tryz.func3.symm.trans YN)).symm;exact ⟨QV, fun j t ht => by
        rw [Tryz.params3] at ht;have hm : t ∈ [3, 3, 22] := by simpa using Array.mem_of_getElem? ht
        exact (show Tryz.prog.wantsStandIn t = false by simpa using List.all_eq_true.1 QW t hm)⟩)
    T9
end Go.Proofs.YtpkdpgcpmeibpaaGreatDoor.masterAgrees
