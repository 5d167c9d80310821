/-
  Whatever a view is told, and does, it knows the last value of each key: catenary/catenarylaw32.PlanViews returns true for every input, and the input reads behind the call as it read before. The card: the table that the row lists is tied to the program's text.
-/
import Derived.Test.YtjklkjjfnipcnaaGreatDoorRows
import Derived.Test.YtjklkjjfnipcnaaGreatDoorCards
import Derived.Test.YtjklkjjfnipcnaaGreatDoorTie
import Derived.LaidMore
import Derived.LaidLaws
import Derived.SevenTiedAt
import Derived.OpenShut
import Derived.Lay
import Derived.MakeChecks
import Derived.Test.YtjklkjjfnipcnaaGreatDoorL27
import Derived.Test.YtjklkjjfnipcnaaGreatDoorL26
import Derived.Test.YtjklkjjfnipcnaaGreatDoorL28
import Derived.Test.YtjklkjjfnipcnaaGreatDoorL29
namespace Go.Proofs.YtjklkjjfnipcnaaGreatDoor.planViews
open Go Go.M Go.ChangeShapes Go.WideShapes Go.ChangeAt Go.RowKit

theorem laid : laidOutB Tryz.prog = true := Mc
@[reducible] def vY : List (String × DataW Unit) := [("unicode/utf8.acceptRanges", Rows.laid_unicode_utf8_acceptRanges), ("unicode/utf8.first", Rows.laid_unicode_utf8_first)]
theorem tables {W : World} (hs : W.ShapedOpen Tryz.prog) : ∃ mx, xM (nj mx) W := by
  obtain ⟨mx, hm⟩ := BR.s1_3 W hs;refine ⟨mx, fun g cs hg => ?_⟩;have RA := vx hg;simp only [nj, List.mem_cons, List.not_mem_nil, or_false, Prod.mk.injEq] at RA;obtain ⟨rfl, rfl⟩ := RA;have hm : W.cell? ⟨0, 0, none⟩ = some (.int .i64 mx) := hm;unfold World.cell? at hm;split at hm
  · rename_i c t fr hc
    have hm : c[0]? = some (.int .i64 mx) := by simpa using hm
    refine ⟨c, t, fr, hc, (Array.getElem?_eq_some_iff.1 hm).1, fun i v hv => ?_⟩;cases i with
    | zero => cases hv; exact ⟨_, hm, .inl ⟨rfl, rfl⟩⟩
    | succ i => simp at hv
  · cases hm

@[reducible] def UE : List Sh := [.int .u32, .int .u64, .sl [.int .u8]]
@[reducible] def VD : List sw := [⟨false, [.sl UE]⟩, ⟨false, [.sl UE]⟩]
theorem tN {α : Type} {enc : α → List TV} {ss : List Sh} {P : α → Prop} (h : ∀ r, Fits ss r → ∃ a, r = enc a ∧ P a) : ∀ {es : List (List TV)}, (∀ r ∈ es, Fits ss r) → ∃ l : List α, es = l.map enc ∧ ∀ a ∈ l, P a
  | [], _ => ⟨[], rfl, fun _ h => (by cases h)⟩
  | r :: es, hr => by
    obtain ⟨a, rfl, ha⟩ := h r (hr r List.mem_cons_self);obtain ⟨l, rfl, hl⟩ := tN h (es := es) fun r jA => hr r (List.mem_cons_of_mem _ jA);exact ⟨a :: l, rfl, fun x hx => by
      rcases List.mem_cons.1 hx with rfl | hx
      · exact ha
      · exact hl x hx⟩
theorem OE {r : List TV} (h : Fits [.int .u8] r) : ∃ n : Int, r = [.s (.int .u8 n)] ∧ True := by
  simp only [Fits, Fit] at h;obtain ⟨_, _, rfl, ⟨a, _, _, rfl⟩, rfl⟩ := h;exact ⟨a, rfl, trivial⟩
theorem Jx {r : List TV} (h : Fits UE r) : ∃ v : Vl, r = cG v ∧ v.data.length ≤ 140737488355328 := by
  simp only [Fits, Fit] at h;obtain ⟨_, _, rfl, ⟨a, _, _, rfl⟩, _, _, rfl, ⟨b, _, _, rfl⟩, _, _, rfl, ⟨es, hl, hd, rfl⟩, rfl⟩ := h;obtain ⟨l, rfl, _⟩ := tN (enc := fun n : Int => [.s (.int .u8 n)]) (ss := [.int .u8]) (fun r h => OE h) (es := es) (fun r hr => by have := hd r hr; simp only [Fits, Fit]; exact this);refine ⟨⟨a, b, l⟩, rfl, ?_⟩;rw [List.length_map] at hl;exact Nat.le_trans hl (by decide)
theorem vX {mx : Int} (xC : List TV) (h : Bf VD xC) : VC (E0 mx) 4 0 xC [] fun r _ _ => r = .s (.bool true) := by
  simp only [Bf, Nr, Fits] at h;obtain ⟨t, _, rfl, ⟨_, _, e1, q1, n1⟩, u, _, rfl, ⟨_, _, e2, q2, n2⟩, rfl⟩ := h;cases n1; cases n2;cases e1; cases e2;unfold Fit at q1 q2;obtain ⟨es, _, zO, rfl⟩ := q1;obtain ⟨ks, _, pJ, rfl⟩ := q2;obtain ⟨l, rfl, hl⟩ := tN (fun r => Jx) zO;obtain ⟨p, rfl, hp⟩ := tN (fun r => Jx) pJ;exact VC.mono (Jw l p hl hp) fun _ _ _ h => h.1

set_option maxRecDepth 100000 in
theorem lifted (os : Os) (started : os.Started) (H : Type) (enc : TypeId × Value → H) :
    ReturnsInHanded {} Tryz.checked os 4 .any (fun w args => (Rows.planViewsSpec.pre enc Tryz.prog Tryz.f4 [] false w args ∧ laidMetH Tryz.prog vY w) ∧ sizedMet enc Tryz.prog Tryz.f4 (OpenSpec.ofChange Rows.planViewsSpec) false w args)
      (Rows.planViewsSpec.post enc Tryz.prog Tryz.f4 false true false false) := by
  refine vW (C := Tryz.checked) (X := fun w _ => laidMetH Tryz.prog vY w) (fun _ _ _ hh h => h.of_heap hh) own started (by kernel_rfl) Tryz.func4
    (ChangeSpec.witness_shaped (enc := enc) (C := Tryz.checked) (os := os) (X := fun w _ => laidMetH Tryz.prog vY w) false (World.laidAll Tryz.prog os vY) #[.slice none 0 0, .slice none 0 0] 8 (World.laidAll_os _ _ _) (World.shaped_of_ZipB (by kernel_rfl) (by kernel_rfl)) (by kernel_rfl) (by kernel_rfl) (by kernel_rfl)
      (by rw [MakeChecks.laidMetH_plain _ _ _ (by kernel_rfl)]; exact laidMet_laidAll _ (by kernel_rfl) (by kernel_rfl))) ?_
  intro W base args ds gs before XY Rx hW R3 hL;have FW : ∀ (j : Nat) t v, Tryz.f4.params[j]? = some t → args[j]? = some v → Value.okWide Tryz.prog W .any base t v := Rx;rw [Tryz.params4] at FW;have hlen : ds.length = 2 ∧ args.size = 2 := by
    obtain ⟨p, q, hA, _⟩ := hW;have := mP hA;rw [Tryz.params4] at this;exact ⟨this.1, by simpa using this.2⟩
  have walk : Calls Tryz.prog 4 args W fun e W' => e = .returned (.bool true) ∧ Below W.heap.size W W' := by
    obtain ⟨p, q, hA, hV, _⟩ := hW;have hg : gs = [] := by
      match gs, hV with
      | [], _ => rfl
    subst hg;have hz : ∀ x ∈ DataW.weightsEach Tryz.prog [31, 54] ds, x ≤ reachBytes := by
      have R3 : (DataW.weightsEach Tryz.prog (Tryz.f4.params.toList ++ []) (ds ++ [])).all (· ≤ reachBytes) = true := R3;rw [List.append_nil, List.append_nil, Tryz.params4] at R3;exact fun x hx => of_decide_eq_true (List.all_eq_true.1 R3 x hx)
    rw [Tryz.params4] at hA;obtain ⟨mx, hT⟩ := tables XY;exact FK (E := E0 mx) (D2 := VD) (vw _ _ _) (Uz mx) zz rfl (zA mx) hT (by kernel_rfl) hA (fun j t v a b => FW j t v (by simpa using a) b) hz vX
  refine walk.mono fun e W' ⟨he, hb⟩ => ?_;subst he;refine ⟨_, rfl, ET (tb := 4) hW rfl (by kernel_rfl) Tryz.underlying4 laid ?_ ?_ hb⟩
  · intro t ht
    rw [Tryz.params4] at ht;simp at ht;rcases ht with rfl | rfl
    · exact ⟨by kernel_rfl, of_decide_eq_true (by kernel_rfl)⟩
    · exact ⟨by kernel_rfl, of_decide_eq_true (by kernel_rfl)⟩
  · match ds, hlen.1 with
    | [d0, d1], _ => rfl

theorem over : Rows.PlanViewsSaid :=
  OpenClaim.holds_of_wide 4 Tryz.f4 rfl rfl rfl rfl rfl rfl rfl ⟨rfl, rfl, rfl, rfl, rfl⟩ rfl rfl rfl rfl rfl named Tryz.func4 closed
    (of_decide_eq_true (by kernel_rfl)) (by unfold Func.isWrapper; first | (rw [if_pos (by decide +kernel)]; kernel_rfl) | (rw [if_neg (by decide +kernel)]; exact ⟨rfl, rfl⟩))
    (fun os started H enc _ => lifted os started H enc)

theorem Lc : Tryz.pinned.checked.prog.mainIs = some (true, "8f85ccb9c2858c2cf4f9d637dac5016265a3c2ee4d4d1615a72ab9fa26b646fb".toList) := by kernel_rfl
theorem Jy : true = Tryz.prog.looks [] := by kernel_rfl
theorem Ld : false = Rows.planViewsRow.goesBy Tryz.pinned.checked.prog := by kernel_rfl
theorem Le : Rows.planViewsRow.wfByText (OpenSpec.ofChange Rows.planViewsSpec) = true := by kernel_rfl
theorem Jz : ([31, 54].all fun u => !Tryz.prog.wantsStandIn u) = true := by kernel_rfl
theorem proved : Rows.PlanViewsCardSaid :=
  Claim7.holds_tied_plain_at .later [] [.data, .pinned] true (true, "8f85ccb9c2858c2cf4f9d637dac5016265a3c2ee4d4d1615a72ab9fa26b646fb") true
    over (fun _ h => by cases h) Le (fun _ h => by cases h) planViews_row_tie rfl ⟨rfl, rfl⟩ Lc rfl
    (fun f fn hf Gn => by
      obtain rfl : f = 4 := Option.some.inj (named.symm.trans hf) |>.symm;obtain rfl : fn = Tryz.f4 := (Option.some.inj (Tryz.func4.symm.trans Gn)).symm;exact ⟨Jy, fun j t ht => by
        rw [Tryz.params4] at ht;have hm : t ∈ [31, 54] := by simpa using Array.mem_of_getElem? ht
        exact (show Tryz.prog.wantsStandIn t = false by simpa using List.all_eq_true.1 Jz t hm)⟩)
    Ld
end Go.Proofs.YtjklkjjfnipcnaaGreatDoor.planViews
