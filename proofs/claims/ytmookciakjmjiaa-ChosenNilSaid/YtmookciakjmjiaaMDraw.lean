/-
  Regions that draw their order.
-/
import Derived.Test.YtmookciakjmjiaaMTrace
import Derived.OrdersIn
namespace Go.M
open Go
section
variable {P : Program} {E : Env} {μ : Emb} {f : AF} {a : Act} {base B : Nat} {h : AHeap} {w : World} {cf : CallF} {rf : RoundF}

/-- One operation. -/
theorem op_simA (hE : EnvOk P E) (hcf : CallOk P E base B cf) (hrf : RoundOk P E base B rf) (hcF : CallFun E cf) (hrF : RoundFun rf) {F : Fence} (hF : Wide F) {n : Nat} (hf : FRel μ f a.tmps) (H : HRel E base B μ h w) {o : Oper} {r : OpR} (hr : runOp E base cf rf o f h = some r) {a1 : Act} (hex : execOp a1.eval o = execOp a.eval o)
    {next : Act → World → Prop} {Q : Exit → Act → World → Prop} (hn : ∀ μ' v' w', VRel μ' r.v v' → Step E base B μ h w μ' r.h w' → next (a1.put o.dst v') w') : o.wpIn F n P a1 w next Q := by
  have hg : GlobOk E μ := H.glob
  refine ⟨fun _ _ => hF.fn _, ?_⟩
  rw [Oper.semAt_eq _ _ _ (noDefer hr), hex]
  unfold runOp at hr
  split at hr
  · rename_i v hp
    simp only [Option.some.injEq] at hr; subst hr
    obtain ⟨v', q1, q2⟩ := apure_sim hE hg hf hp
    rw [q2 w]
    exact hn μ v' w q1 (.refl H)
  · split at hr
    · rename_i q hq
      simp only [Option.bind_eq_some_iff, Option.some.injEq] at hr
      obtain ⟨v, hv, rfl⟩ := hr
      obtain ⟨v', q1, q2⟩ := aread_sim hE hf H hq hv
      rw [q2]
      exact hn μ v' w q1 (.refl H)
    · split at hr
      · rename_i md hd hal
        simp only [Option.some.injEq] at hr; subst hr
        obtain ⟨o', k, hv, S⟩ := aalloc_sim hE hg hf hal
        rw [S.run w]
        have st := Step.alloc (o := md.obj h.size) H (Alc.mk' w o') k (fun cs f tip thr hh => by cases md <;> simp [Made.obj] at hh; exact ⟨hh.2.1.symm, hh.2.2.1.symm⟩) (S.obj _ _ _ _ _ (upd_le H.fresh))
        exact hn _ _ _ (S.val _ _ _ (upd_self _ _ _)) st
      · split at hr
        · rename_i v h' he
          simp only [Option.some.injEq] at hr; subst hr
          obtain ⟨μ', nx, v', w', q1, q2, q3, q4⟩ := aeff_val hE hf H he
          rw [q1]
          rcases q2 with rfl | ⟨rfl, rfl⟩
          · exact hn μ' v' w' q3 q4
          · exact hn μ' undef w' q3 q4
        · rename_i g args h' he
          simp only [Option.bind_eq_some_iff, Option.some.injEq] at hr
          obtain ⟨⟨v, h2⟩, hc, rfl⟩ := hr
          have hfun := hcF _ _ _ _ hc
          obtain ⟨args', e, q1, q2⟩ := aeff_enter hE hf H he hfun
          subst e
          rw [q2]
          refine ⟨hF.ok n, (hcf μ h' w g args args' v h2 hc q1 H F (n - 1) hF).mono ?_⟩
          rintro e w' ⟨v', μ', rfl, k1, k2⟩
          exact hn μ' v' w' k1 k2
        · rename_i l args h' he
          simp only [Option.bind_eq_some_iff, Option.some.injEq] at hr
          obtain ⟨⟨v, h2⟩, hc, rfl⟩ := hr
          obtain ⟨st, p, f0, ps, asg, body, hl, hlen⟩ := hrF _ _ _ _ hc
          have hh : h' = h := by
            obtain ⟨dst, op, type, pos, after, guard⟩ := o
            cases op <;> simp only [aeff] at he <;> first | cases he | skip
            all_goals simp only [Option.bind_eq_some_iff, Option.some.injEq, Prod.mk.injEq, grd_some, reduceCtorEq, false_and, and_false, exists_false] at he
            · obtain ⟨_, _, _, _, he⟩ := he
              split at he
              · split at he <;> simp at he
              · cases he
            · obtain ⟨_, _, he⟩ := he
              split at he
              · first | (simp at he; done) | (obtain ⟨_, _, he⟩ := he; simp at he; done) | (simp only [Option.bind_eq_some_iff] at he; obtain ⟨_, _, he⟩ := he; cases he)
              · try simp only [Option.bind_eq_some_iff] at he
                obtain ⟨_, _, he⟩ := he
                split at he
                · simp at he
                · simp only [Option.some.injEq, Prod.mk.injEq] at he; exact he.2.symm
                · cases he
              · cases he
          subst hh
          obtain ⟨m, args', lo, _, hb, hw, q1, q2, q3⟩ := aeff_round (P := P) hf H he hl hlen
          rw [q2]
          refine ⟨hF.ok n, (hrf μ h' w l args v h2 m f0 ps asg body st p lo.fn _ hc hl hb H (setAll_rel q3 q1) F (n - 1) hF).mono ?_⟩
          rintro e w' ⟨v', μ', rfl, k1, k2⟩
          exact hn μ' v' w' k1 k2
        · cases hr


/-! ### Embeddings, cut off -/
def cut (μ : Emb) (s : Nat) : Emb := fun b => if b < s then μ b else none
theorem cut_some {μ : Emb} {s b : Nat} {m : MT} : cut μ s b = some m ↔ b < s ∧ μ b = some m := by
  unfold cut; split <;> simp [*]
theorem cut_le (μ : Emb) (s : Nat) : (cut μ s).le μ := fun b m h => (cut_some.1 h).2
theorem cut_mono {μ μ' : Emb} (h : μ.le μ') {s t : Nat} (hs : s ≤ t) : (cut μ s).le (cut μ' t) := fun b m hb => by
  have := cut_some.1 hb
  exact cut_some.2 ⟨by omega, h _ _ this.2⟩
theorem le_cut {μ0 μ : Emb} (h : μ0.le μ) {s : Nat} (hd : ∀ b m, μ0 b = some m → b < s) : μ0.le (cut μ s) := fun b m hb => cut_some.2 ⟨hd b m hb, h b m hb⟩

/-! ### The relation, for a block that is known already -/
theorem HRel.pushA (H : HRel E base B μ h w) {o : AObj} (hself : ∀ cs f tip thr, o = .cells cs f tip thr → f = h.size ∧ tip = h.size) : HRel E base B μ (h.push o) w := by
  refine ⟨fun b m hb => ?_, fun c hc => ?_, fun c m hc => ?_, H.own, fun b1 b2 m1 m2 hb1 hb2 hr hne => ?_, fun c m r hc hr => ?_, H.glob, H.low, ?_, fun b cs f tip thr hb => ?_⟩
  · have := H.dom b m hb; simp only [AHeap.size_push]; omega
  · simp only [AHeap.size_push] at hc
    rw [AHeap.get_push, if_neg (by omega)]; exact H.high c (by omega)
  · have h1 := H.dom c m hc
    obtain ⟨p, p', k1, k2, k3⟩ := H.obj c m hc
    exact ⟨p, p', by rw [AHeap.get_push, if_neg (by omega)]; exact k1, k2, k3.mono μ.le_refl (by rw [rd_push H.wf o h1]; exact id)⟩
  · have h1 := H.dom _ _ hb1
    have k1 := H.dom _ _ hb2
    obtain ⟨r, q1, q2, q3⟩ := H.alias b1 b2 m1 m2 hb1 hb2 hr hne
    exact ⟨r, by rw [fam_push H.wf o h1]; exact q1, by rw [fam_push H.wf o k1]; exact q2, by rw [lenOf_push o h1, lenOf_push o k1]; exact q3⟩
  · rw [fam_push H.wf o (H.dom _ _ hc)] at hr
    exact H.fam c m r hc hr
  · have := H.bsz; simp only [AHeap.size_push]; omega
  · rw [AHeap.get_push] at hb
    by_cases e : b = h.size
    · rw [if_pos e, Option.some.injEq] at hb; have := hself _ _ _ _ hb; omega
    · rw [if_neg e] at hb; exact H.wf _ _ _ _ _ hb

theorem HRel.track (H : HRel E base B μ h w) {b : Nat} {o : AObj} {o' : Obj} {m : MT} (hb : b < h.size) (hg : h.get b = some o) (hn : μ b = none) (hbase : base ≤ b) (hB : B ≤ m.r) (hw : w.heap[m.r]? = some o')
    (hap : ∀ c mc, μ c = some mc → mc.r ≠ m.r) (hself : ∀ cs f tip thr, o = .cells cs f tip thr → f = b ∧ tip = b) (ho : ORel (upd μ b m) h base b m o o') : HRel E base B (upd μ b m) h w := by
  have hle : μ.le (upd μ b m) := upd_le hn
  have cas : ∀ {c : Nat} {mc : MT}, upd μ b m c = some mc → (c = b ∧ mc = m) ∨ (c ≠ b ∧ μ c = some mc) := by
    intro c mc hc
    by_cases e : c = b
    · subst e; rw [upd_self] at hc; cases hc; exact .inl ⟨rfl, rfl⟩
    · rw [upd_ne _ _ e] at hc; exact .inr ⟨e, hc⟩
  refine ⟨fun c mc hc => ?_, H.high, fun c mc hc => ?_, fun c mc hc hcb => ?_, fun b1 b2 m1 m2 hb1 hb2 hr hne => ?_, fun c mc r hc hr => ?_, fun g hgl => ?_, H.low, H.bsz, H.wf⟩
  · rcases cas hc with ⟨rfl, _⟩ | ⟨_, h2⟩
    · exact hb
    · exact H.dom _ _ h2
  · rcases cas hc with ⟨rfl, rfl⟩ | ⟨_, h2⟩
    · exact ⟨o, o', hg, hw, ho⟩
    · obtain ⟨p, p', k1, k2, k3⟩ := H.obj c mc h2
      exact ⟨p, p', k1, k2, k3.mono hle id⟩
  · rcases cas hc with ⟨rfl, rfl⟩ | ⟨_, h2⟩
    · exact hB
    · exact H.own c mc h2 hcb
  · rcases cas hb1 with ⟨rfl, rfl⟩ | ⟨_, h2⟩ <;> rcases cas hb2 with ⟨rfl, rfl⟩ | ⟨_, k2⟩
    · exact absurd rfl hne
    · exact absurd hr.symm (hap _ _ k2)
    · exact absurd hr (hap _ _ h2)
    · exact H.alias b1 b2 m1 m2 h2 k2 hr hne
  · rcases cas hc with ⟨rfl, rfl⟩ | ⟨_, h2⟩
    · obtain ⟨cs, t, th, h1⟩ := fam_cells hr
      obtain ⟨c0, h2⟩ := fam_root hr
      rw [hg, Option.some.injEq] at h1
      obtain ⟨e1, e2⟩ := hself _ _ _ _ h1
      rw [e1, hg, h1, Option.some.injEq, AObj.cells.injEq] at h2
      exact ⟨by omega, by omega, mc, by rw [e1, upd_self]⟩
    · obtain ⟨q1, q2, m', q3⟩ := H.fam c mc r h2 hr
      exact ⟨q1, q2, m', hle _ _ q3⟩
  · obtain ⟨mc, q1, q2⟩ := H.glob g hgl
    exact ⟨mc, hle _ _ q1, q2⟩

/-! ### What reads tell -/
theorem eqL1_eq {a b : Value} (h : eqL1 a b = true) : a = b := by
  unfold eqL1 at h
  split at h
  · simpa using h
  · simp only [Bool.and_eq_true, beq_iff_eq] at h; rw [h.1, h.2]
  · simp only [beq_iff_eq] at h
    exact congrArg _ (ByteArray.ext (Array.ext' h))
  · simp only [beq_iff_eq] at h; rw [h]
  · simp only [Bool.and_eq_true, beq_iff_eq, beq_iff] at h; rw [h.1.1, h.1.2, h.2]
  · simp only [beq_iff_eq] at h; rw [h]
  · rfl
  · rfl
  · simp only [Bool.and_eq_true, beq_iff_eq, beq_iff] at h; rw [h.1.1, h.1.2, h.2]
  · simp only [Bool.and_eq_true, beq_iff] at h
    obtain ⟨⟨⟨⟨h0, h1⟩, h2⟩, h3⟩, h4⟩ := h
    rw [h0, Array.eq_empty_of_size_eq_zero h1, Array.eq_empty_of_size_eq_zero h2, Array.eq_empty_of_size_eq_zero h3, Array.eq_empty_of_size_eq_zero h4]
  · cases h
theorem eqLs_eq : ∀ {a b : List Value}, eqLs a b = true → a = b
  | [], [], _ => rfl
  | x :: a, y :: b, h => by
    simp only [eqLs, Bool.and_eq_true] at h
    rw [eqL1_eq h.1, eqLs_eq h.2]
  | [], _ :: _, h => by simp [eqLs] at h
  | _ :: _, [], h => by simp [eqLs] at h
theorem eqL_eq {a b : Value} (h : eqL a b = true) : a = b := by
  unfold eqL at h
  split at h
  · rw [Array.ext' (eqLs_eq h)]
  · exact eqL1_eq h
theorem eqEs_eq : ∀ {a b : List MapEntry}, eqEs a b = true → a = b
  | [], [], _ => rfl
  | x :: a, y :: b, h => by
    simp only [eqEs, Bool.and_eq_true, beq_iff] at h
    obtain ⟨⟨⟨h1, h2⟩, h3⟩, h4⟩ := h
    rw [eqEs_eq h4]
    obtain ⟨k, v, n⟩ := x
    obtain ⟨k', v', n'⟩ := y
    simp only at h1 h2 h3
    rw [eqL_eq h1, eqL_eq h2, h3]
  | [], _ :: _, h => by simp [eqEs] at h
  | _ :: _, [], h => by simp [eqEs] at h

theorem sameRQ_run {h h' : AHeap} {q : RQ} (hs : sameRQ h h' q = true) (hb : q.blk < h.size) : q.run h' = q.run h := by
  unfold sameRQ at hs
  rw [blt_iff.2 hb] at hs
  cases q with
  | cells agg b o n =>
    simp only [cond_true] at hs
    simp only [RQ.run]
    split at hs
    · rename_i l l' h1 h2
      rw [h1, h2, eqLs_eq hs]
    · cases hs
  | look r kd k z ok =>
    simp only [cond_true] at hs
    simp only [RQ.run]
    split at hs
    · rename_i l l' h1 h2
      rw [h1, h2]
      simp only [Option.bind_some]
      rw [eqEs_eq hs]
    · cases hs
  | len r =>
    simp only [cond_true] at hs
    simp only [RQ.run]
    split at hs
    · rename_i l l' h1 h2
      rw [h1, h2]
      simp only [Option.bind_some]
      rw [eqEs_eq hs]
    · cases hs

end
end Go.M
