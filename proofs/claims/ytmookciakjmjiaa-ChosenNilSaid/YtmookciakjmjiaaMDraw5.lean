/-
  Regions that draw their order: the theorem.
-/
import Derived.Test.YtmookciakjmjiaaMDraw4
namespace Go.M
open Go

theorem tOk_of {E : Env} {base : Nat} {cf : CallF} {rf : RoundF} {all ops : List Oper} {fs : Nat → AF} {hs : Nat → AHeap} {vs : Nat → Value} {lg : Nat → LogE} (T : Trace E base cf rf all ops fs hs vs lg) {logs : List LogE}
    (hl : ∀ j, j < ops.length → logs[j]? = some (lg j)) (hp : allPass (befores ops []) 0 logs = true) : TOk ops hs lg := by
  obtain ⟨k1, k2⟩ := allPass_get hp
  refine ⟨fun j hj => ?_, fun i j hij hj => ?_⟩
  · have hg := k1 j _ (hl j hj)
    rcases T.run j _ (List.getElem?_eq_getElem hj) with ⟨_, hr⟩ | ⟨_, _, h1, h2⟩
    · rcases runOp_cases hr with ⟨_, h1, h2⟩ | ⟨q, _, _, h1, h2⟩ | ⟨md, hd, _, _, h1, h2⟩ | h2
      · exact .inl ⟨h2, h1⟩
      · simp only at h1 h2
        rw [h2] at hg
        exact .inr (.inl ⟨q, h2, h1, by simpa [growsL] using hg⟩)
      · exact .inr (.inr (.inl ⟨md, h2, h1⟩))
      · simp only at h2
        rw [h2] at hg
        exact .inr (.inr (.inr ⟨h2, by simpa [growsL] using hg⟩))
    · exact .inl ⟨h2, h1⟩
  · have := k2 i j _ _ hij (hl i (by omega)) (hl j hj)
    simpa using this

def lis (listed : Array Bool) : Nat → Bool := fun j => listed.getD j false

theorem lis_set {listed : Array Bool} {i : Nat} (hi : i < listed.size) : lis (listed.setIfInBounds i true) = setL (lis listed) i := by
  funext j
  unfold lis setL
  by_cases e : j = i
  · subst e; rw [if_pos rfl]; simp [hi]
  · rw [if_neg e]
    simp only [Array.getD_eq_getD_getElem?, Array.getElem?_setIfInBounds_ne (fun h => e h.symm)]

theorem mem_ready {ops : Array Oper} {listed : Array Bool} {i : Nat} (hi : i ∈ Region.ready .any ops listed) (hsz : listed.size = ops.size) :
    ∃ o, ops[i]? = some o ∧ i < listed.size ∧ lis listed i = false ∧ Ready ops.toList (lis listed) o := by
  unfold Region.ready at hi
  simp only [List.mem_filter, List.mem_range, Bool.and_eq_true, Bool.not_eq_true'] at hi
  obtain ⟨h1, h2, h3⟩ := hi
  have h4 := Array.getElem?_eq_getElem h1
  rw [h4] at h3
  simp only [Option.map_some, Option.getD_some, Array.all_eq_true_iff_forall_mem, Bool.or_eq_true, Bool.not_eq_true'] at h3
  refine ⟨_, h4, by omega, ?_, fun e he hb => ?_⟩
  · have hlt : i < listed.size := by omega
    unfold lis
    simp only [Array.getD, hlt, dif_pos] at h2 ⊢
    exact h2
  · rcases h3 e (by simpa using he) with h5 | h5
    · rw [hb] at h5; cases h5
    · exact h5

theorem ready_nil {ops : Array Oper} {listed : Array Bool} (X : TextOk ops.toList) (hsz : listed.size = ops.size) (h : Region.ready .any ops listed = []) : ∀ j, j < ops.size → lis listed j = true := by
  intro j
  induction j using Nat.strongRecOn with
  | ind j ih =>
    intro hj
    cases hl : lis listed j with
    | true => rfl
    | false =>
      have hm : j ∈ Region.ready .any ops listed := by
        unfold Region.ready
        simp only [List.mem_filter, List.mem_range, Bool.and_eq_true, Bool.not_eq_true']
        have h4 := Array.getElem?_eq_getElem hj
        refine ⟨hj, ?_, ?_⟩
        · have hlt : j < listed.size := by omega
          unfold lis at hl
          simp only [Array.getD, hlt, dif_pos] at hl ⊢
          exact hl
        · rw [h4]
          simp only [Option.map_some, Option.getD_some, Array.all_eq_true_iff_forall_mem, Bool.or_eq_true, Bool.not_eq_true']
          intro e he
          cases hb : Region.binds .any e with
          | false => exact .inl rfl
          | true =>
            have := X.edge j _ (by rw [Array.getElem?_toList]; exact h4) e (by simpa using he) hb
            exact .inr (ih e.on this (by omega))
      rw [h] at hm; cases hm

section
variable {P : Program} {E : Env} {base B : Nat} {cf : CallF} {rf : RoundF} {fs : Nat → AF} {hs : Nat → AHeap} {vs : Nat → Value} {lg : Nat → LogE}
variable {μ0 : Emb} {w0 : World} {a0 : Act}

theorem draw_all (hE : EnvOk P E) (hcf : CallOk P E base B cf) (hrf : RoundOk P E base B rf) (hcF : CallFun E cf) (hrF : RoundFun rf) {F : Fence} (hF : Wide F) {n : Nat} {ops : Array Oper}
    (X : TextOk ops.toList) (T : Trace E base cf rf ops.toList ops.toList fs hs vs lg) (K : TOk ops.toList hs lg) (hdst : dstsIn (fs 0).n ops.toList = true) (H0 : HRel E base B μ0 (hs 0) w0)
    {Q : Exit → Act → World → Prop} (hQ : ∀ L a w, (∀ j, j < ops.size → L j = true) → Inv E base B ops.toList fs hs vs lg μ0 w0 a0 L a w → Q .normal a w) :
    ∀ (fuel : Nat) (listed : Array Bool) (a : Act) (w : World), listed.size = ops.size → listed.toList.count false ≤ fuel → Closed ops.toList (lis listed) → Inv E base B ops.toList fs hs vs lg μ0 w0 a0 (lis listed) a w →
      wpAnyIn F n P .any ops Q fuel listed a w := by
  intro fuel
  induction fuel with
  | zero =>
    intro listed a w hsz hcnt hC I
    have hnil : Region.ready .any ops listed = [] := by
      apply List.eq_nil_iff_forall_not_mem.2
      intro i hi
      obtain ⟨o, _, h2, h3, _⟩ := mem_ready hi hsz
      have hmem : false ∈ listed.toList := by
        unfold lis at h3
        simp only [Array.getD, h2, dif_pos] at h3
        rw [← h3]; exact List.mem_of_getElem? (by rw [Array.getElem?_toList]; exact Array.getElem?_eq_getElem h2)
      have := List.count_pos_iff.2 hmem
      omega
    exact ⟨hnil, hQ _ _ _ (ready_nil X hsz hnil) I⟩
  | succ fuel ih =>
    intro listed a w hsz hcnt hC I
    refine ⟨fun hnil => hQ _ _ _ (ready_nil X hsz hnil) I, fun i hi => ?_⟩
    obtain ⟨o, h1, h2, h3, h4⟩ := mem_ready hi hsz
    have h1' : ops.toList[i]? = some o := by simpa using h1
    refine wpOpIn_step h1 fun K' hK' => ?_
    refine draw_op hE hcf hrf hcF hrF hF X T K hdst H0 I hC h1 h3 h4 fun a' w' I' => hK' _ _ (ih _ _ _ ?_ ?_ ?_ ?_)
    · rw [Array.size_setIfInBounds]; exact hsz
    · rw [Array.toList_setIfInBounds, List.count_set (by simpa using h2)]
      have hget : listed.toList[i]'(by simpa using h2) = false := by
        unfold lis at h3
        simp only [Array.getD, h2, dif_pos] at h3
        simpa using h3
      have hmem : false ∈ listed.toList := by rw [← hget]; exact List.getElem_mem _
      have hpos := List.count_pos_iff.2 hmem
      rw [hget]
      have e1 : (if (true == false) = true then 1 else 0) = 0 := rfl
      have e2 : (if (false == false) = true then 1 else 0) = 1 := rfl
      omega
    · rw [lis_set h2]; exact closed_set hC h1' h4
    · rw [lis_set h2]; exact I'

theorem drawSim (hE : EnvOk P E) (hm : P.follows .mixedOrders = true) : DrawSim P E base B := by
  intro cf rf hcf hrf hcF hrF ops f h f' h' logs hst hdst hrun hpass μ a w hf H F n id Q hF hQ
  obtain ⟨fs, hs, vs, lg, T, e1, e2, e3, e4, e5⟩ := trace_of hrun
  have X := textOk hst
  have K := tOk_of T e5 hpass
  refine wpIn_region_any hm ?_
  have H0 : HRel E base B μ (hs 0) { w with drawn := w.drawn + 1 } := by rw [e2]; exact H.congr rfl
  have hls : ∀ j, lis (Array.replicate ops.size false) j = false := by
    intro j
    unfold lis
    by_cases hj : j < ops.size
    · simp [hj]
    · simp [hj]
  have hcut : cut μ (hs 0).size = μ := by
    funext b
    unfold cut
    split
    · rfl
    · cases hb : μ b with
      | none => rfl
      | some m => have := H0.dom b m hb; omega
  have I0 : Inv E base B ops.toList fs hs vs lg μ { w with drawn := w.drawn + 1 } a (lis (Array.replicate ops.size false)) a { w with drawn := w.drawn + 1 } := by
    refine ⟨0, μ, ⟨Nat.zero_le _, ?_, by rw [hcut]; exact H0, μ.le_refl, .refl _ _ _, ?_, fun _ _ _ => rfl, ?_, ?_, ?_, ?_⟩, ⟨?_, rfl, ?_, ?_⟩⟩
    · intro j h h' _ _; rw [hls]; simp
    · intro b m h0 h1; rw [h0] at h1; cases h1
    · intro j md hj; omega
    · intro j md _ _ hl; rw [hls] at hl; cases hl
    · intro b m hb hm; have := H0.dom b m hm; omega
    · intro b1 b2 m1 m2 hb1 h1; have := H0.dom b1 m1 h1; omega
    · rw [e1]; exact hf.n.symm
    · intro j o d _ hl; rw [hls] at hl; cases hl
    · intro d _; rw [e1]; exact hf.get d
  refine draw_all hE hcf hrf hcF hrF hF X T K (by rw [e1]; exact hdst) H0 (a0 := a) ?_ ops.size _ a _ (by simp) ?_ ?_ I0
  · intro L a' w' hall I
    obtain ⟨c, μ', C, S⟩ := I.ex
    have hlen : ops.toList.length = ops.size := by simp
    have Cn := C.goTo K H0.low H0.bsz (ops.toList.length - c) (by have := C.cN; omega) (fun i h1 h2 g g' hl => by
      have h3 : i < ops.toList.length := by have := C.cN; omega
      have := (C.effs i _ _ h3 hl).1 (hall i (by omega))
      omega)
    have hcN := C.cN
    rw [show c + (ops.toList.length - c) = ops.toList.length by omega] at Cn
    have hle : μ.le (cut μ' (hs ops.toList.length).size) := le_cut Cn.le0 fun b m hb => by
      have h1 := H0.dom b m hb
      have h2 := K.mono (i := 0) (j := ops.toList.length) (Nat.zero_le _) (Nat.le_refl _)
      omega
    have St : Step E base B μ (hs 0) { w with drawn := w.drawn + 1 } (cut μ' (hs ops.toList.length).size) (hs ops.toList.length) w' :=
      ⟨Cn.rel, Cn.grow, hle, fun b m h0 h1 => Cn.new b m h0 (cut_some.1 h1).2, Cn.unt, K.mono (Nat.zero_le _) (Nat.le_refl _)⟩
    rw [e2, e4] at St
    refine hQ _ a' w' ?_ S.dfs ((Step.drawn H _).trans St)
    rw [← e3]
    refine ⟨by rw [T.fs_n _ (Nat.le_refl _), S.size], fun t => ?_⟩
    by_cases hex : ∃ (j : Nat) (o : Oper), ops.toList[j]? = some o ∧ o.dst = some t
    · obtain ⟨j, o, ho, hd⟩ := hex
      have hj : j < ops.toList.length := (List.getElem?_eq_some_iff.1 ho).1
      have htn : t < (fs 0).n := by
        rw [e1]
        unfold dstsIn at hdst
        have := List.all_eq_true.1 hdst o (List.mem_of_getElem? ho)
        rw [hd] at this
        simpa using this
      rw [T.fs_new X htn ho hd _ (Nat.le_refl _) hj]
      refine (S.w j o t ho (hall j (by omega)) hd).mono ?_
      rw [← e4]
      exact cut_mono μ'.le_refl (by
        have h1 := K.mono (i := j + 1) (j := ops.toList.length) (by omega) (Nat.le_refl _)
        have h2 := K.mono (i := c) (j := ops.toList.length) C.cN (Nat.le_refl _)
        omega)
    · rw [T.fs_old t _ (Nat.le_refl _) fun j o _ ho hd => hex ⟨j, o, ho, hd⟩, ← e4]
      exact (S.old t fun j o ho _ hd => hex ⟨j, o, ho, hd⟩).mono hle
  · simp [List.count_replicate]
  · intro j o ho hl; rw [hls] at hl; cases hl

end
end Go.M
