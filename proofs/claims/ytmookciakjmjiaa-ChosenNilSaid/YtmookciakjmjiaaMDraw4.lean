/-
  Regions that draw their order: the slots; the theorem.
-/
import Derived.Test.YtmookciakjmjiaaMDraw3
namespace Go.M
open Go
section
variable {P : Program} {E : Env} {base B : Nat} {cf : CallF} {rf : RoundF} {ops : List Oper} {fs : Nat → AF} {hs : Nat → AHeap} {vs : Nat → Value} {lg : Nat → LogE}
variable {μ0 : Emb} {w0 : World} {a0 : Act} {c : Nat} {L : Nat → Bool} {μ μ' : Emb} {w w' : World} {a : Act}

structure Slots (ops : List Oper) (fs : Nat → AF) (hs : Nat → AHeap) (vs : Nat → Value) (μ0 : Emb) (a0 : Act) (c : Nat) (L : Nat → Bool) (μ : Emb) (a : Act) : Prop where
  size : a.tmps.size = (fs 0).n
  dfs : a.defers = a0.defers
  w : ∀ (j : Nat) (o : Oper) (d : Tmp), ops[j]? = some o → L j = true → o.dst = some d → VRel (cut μ (max (hs (j + 1)).size (hs c).size)) (vs j) (a.tmps.getD d undef)
  old : ∀ d : Tmp, (∀ (j : Nat) (o : Oper), ops[j]? = some o → L j = true → o.dst ≠ some d) → VRel μ0 ((fs 0).get d) (a.tmps.getD d undef)

theorem Slots.mono (S : Slots ops fs hs vs μ0 a0 c L μ a) (hle : μ.le μ') {c' : Nat} (hc : (hs c).size ≤ (hs c').size) : Slots ops fs hs vs μ0 a0 c' L μ' a :=
  ⟨S.size, S.dfs, fun j o d ho hl hd => (S.w j o d ho hl hd).mono (cut_mono hle (by omega)), S.old⟩

theorem Slots.put (X : TextOk ops) (hd : dstsIn (fs 0).n ops = true) (S : Slots ops fs hs vs μ0 a0 c L μ a) {k : Nat} {o : Oper} (ho : ops[k]? = some o) (hk : L k = false) {v' : Value}
    (hv : VRel (cut μ (max (hs (k + 1)).size (hs c).size)) (vs k) v') : Slots ops fs hs vs μ0 a0 c (setL L k) μ (a.put o.dst v') := by
  have hget : ∀ t, o.dst ≠ some t → (a.put o.dst v').tmps.getD t undef = a.tmps.getD t undef := by
    intro t ht
    cases hd : o.dst with
    | none => rfl
    | some d =>
      rw [hd] at ht
      have hne : d ≠ t := fun h => ht (by rw [h])
      show (a.tmps.setIfInBounds d v').getD t undef = _
      simp only [Array.getD_eq_getD_getElem?, Array.getElem?_setIfInBounds_ne hne]
  refine ⟨?_, ?_, ?_, ?_⟩
  · rw [← S.size]; cases o.dst with
    | none => rfl
    | some d => exact Array.size_setIfInBounds
  · rw [← S.dfs]; cases o.dst <;> rfl
  · intro j p d hp hl hdj
    by_cases e : j = k
    · subst e
      rw [ho] at hp; cases hp
      have hlt : d < a.tmps.size := by
        rw [S.size]
        unfold dstsIn at hd
        have := List.all_eq_true.1 hd o (List.mem_of_getElem? ho)
        rw [hdj] at this
        simpa using this
      have : (a.put o.dst v').tmps.getD d undef = v' := by
        rw [hdj]
        show (a.tmps.setIfInBounds d v').getD d undef = v'
        simp [hlt]
      rw [this]; exact hv
    · rw [setL_ne e] at hl
      rw [hget d (X.one k j o p d ho hp (fun h => e h.symm) hdj)]
      exact S.w j p d hp hl hdj
  · intro d hno
    rw [hget d (hno k o ho (setL_self _ _))]
    exact S.old d fun j p hp hl => hno j p hp (setL_of hl)

theorem Slots.skip (S : Slots ops fs hs vs μ0 a0 c L μ a) {k : Nat} (hk : ∀ o, ops[k]? = some o → o.dst = none) : Slots ops fs hs vs μ0 a0 c (setL L k) μ a := by
  refine ⟨S.size, S.dfs, fun j o d ho hl hd => ?_, fun d hno => S.old d fun j p hp hl => hno j p hp (setL_of hl)⟩
  by_cases e : j = k
  · subst e; rw [hk o ho] at hd; cases hd
  · rw [setL_ne e] at hl; exact S.w j o d ho hl hd

/-- What an operation finds in the slots that it looks at. -/
theorem Slots.look (X : TextOk ops) (T : Trace E base cf rf ops ops fs hs vs lg) (K : TOk ops hs lg) (hdst : dstsIn (fs 0).n ops = true) (hμ : μ0.le μ) (hdom : ∀ b m, μ0 b = some m → b < (hs 0).size)
    (S : Slots ops fs hs vs μ0 a0 c L μ a) (hC : Closed ops L) {k : Nat} {o : Oper} (ho : ops[k]? = some o) (hk : L k = false) (hr : Ready ops L o) {t : Tmp} (ht : t ∈ looks ops o) :
    VRel (cut μ (max (hs k).size (hs c).size)) ((fs k).get t) (a.tmps.getD t undef) := by
  have hkN : k < ops.length := (List.getElem?_eq_some_iff.1 ho).1
  have h00 := K.mono (i := 0) (j := k) (Nat.zero_le _) (by omega)
  have hinit : (∀ (j : Nat) (p : Oper), j < k → ops[j]? = some p → p.dst ≠ some t) → (∀ (j : Nat) (p : Oper), ops[j]? = some p → L j = true → p.dst ≠ some t) → VRel (cut μ (max (hs k).size (hs c).size)) ((fs k).get t) (a.tmps.getD t undef) := by
    intro h1 h2
    rw [T.fs_old t k (by omega) fun j p hj hp => h1 j p hj hp]
    exact (S.old t h2).mono (le_cut hμ fun b m hb => by have := hdom b m hb; omega)
  by_cases hex : ∃ j p, ops[j]? = some p ∧ p.dst = some t ∧ j ≠ k
  · obtain ⟨j, p, hp, hd, hne⟩ := hex
    have hord := X.look k j o p t ho hp (fun h => hne h.symm) hd ht
    have huniq : ∀ (i : Nat) (q : Oper), ops[i]? = some q → q.dst = some t → i = j := fun i q hq hqd => by
      by_cases e : i = j
      · exact e
      · exact absurd hqd (X.one i j q p t hq hp e hd)
    rcases Nat.lt_trichotomy j k with hlt | he | hgt
    · have hl := ordered_listed X hC hlt ho hr (.inr hord)
      have htn : t < (fs 0).n := by
        unfold dstsIn at hdst
        have := List.all_eq_true.1 hdst p (List.mem_of_getElem? hp)
        rw [hd] at this
        simpa using this
      rw [T.fs_new X htn hp hd k (by omega) hlt]
      exact (S.w j p t hp hl hd).mono (cut_mono μ.le_refl (by have := K.mono (i := j + 1) (j := k) hlt (by omega); omega))
    · exact absurd he hne
    · have hnl : L j = false := by
        cases hl : L j with
        | false => rfl
        | true =>
          have := ordered_listed X hC hgt hp (hC j p hp hl) (.inl hord)
          rw [hk] at this; cases this
      refine hinit (fun i q hi hq hqd => ?_) (fun i q hq hl hqd => ?_)
      · have := huniq i q hq hqd; omega
      · have := huniq i q hq hqd
        subst this
        rw [hnl] at hl; cases hl
  · refine hinit (fun i q hi hq hqd => hex ⟨i, q, hq, hqd, by omega⟩) (fun i q hq hl hqd => ?_)
    by_cases e : i = k
    · subst e; rw [hk] at hl; cases hl
    · exact hex ⟨i, q, hq, hqd, e⟩

/-- All that holds between two operations. -/
structure Inv (E : Env) (base B : Nat) (ops : List Oper) (fs : Nat → AF) (hs : Nat → AHeap) (vs : Nat → Value) (lg : Nat → LogE) (μ0 : Emb) (w0 : World) (a0 : Act) (L : Nat → Bool) (a : Act) (w : World) : Prop where
  ex : ∃ c μ, Core E base B ops hs lg μ0 w0 c L μ w ∧ Slots ops fs hs vs μ0 a0 c L μ a

theorem closed_set {k : Nat} {o : Oper} (hC : Closed ops L) (ho : ops[k]? = some o) (hr : Ready ops L o) : Closed ops (setL L k) := by
  intro j p hp hl e he hb
  by_cases hjk : j = k
  · subst hjk
    rw [ho] at hp; cases hp
    exact setL_of (hr e he hb)
  · rw [setL_ne hjk] at hl
    exact setL_of (hC j p hp hl e he hb)

/-- One operation. -/
theorem draw_op (hE : EnvOk P E) (hcf : CallOk P E base B cf) (hrf : RoundOk P E base B rf) (hcF : CallFun E cf) (hrF : RoundFun rf) {F : Fence} (hF : Wide F) {n : Nat} {ops : Array Oper}
    (X : TextOk ops.toList) (T : Trace E base cf rf ops.toList ops.toList fs hs vs lg) (K : TOk ops.toList hs lg) (hdst : dstsIn (fs 0).n ops.toList = true) (H0 : HRel E base B μ0 (hs 0) w0)
    (I : Inv E base B ops.toList fs hs vs lg μ0 w0 a0 L a w) (hC : Closed ops.toList L) {k : Nat} {o : Oper} (ho : ops[k]? = some o) (hk : L k = false) (hr : Ready ops.toList L o)
    {next : Act → World → Prop} {Q : Exit → Act → World → Prop} (hn : ∀ a' w', Inv E base B ops.toList fs hs vs lg μ0 w0 a0 (setL L k) a' w' → next a' w') :
    if Region.wanted o (yielded ops a.tmps) = true then o.wpIn F n P a w next Q else (∀ f, o.about P w a.eval = some f → F.fn f) ∧ next (a.put o.dst undef) w := by
  obtain ⟨c, μ, C, S⟩ := I.ex
  have ho' : ops.toList[k]? = some o := by simpa using ho
  have hkN : k < ops.toList.length := (List.getElem?_eq_some_iff.1 ho').1
  have hB : B ≤ w0.heap.size := H0.low
  have hb0 : base ≤ (hs 0).size := H0.bsz
  have hg0 : ∀ s, (hs 0).size ≤ s → GlobOk E (cut μ s) := fun s hs' g hgl => by
    obtain ⟨m, q1, q2⟩ := H0.glob g hgl
    exact ⟨m, cut_some.2 ⟨by have := H0.dom g m q1; omega, C.le0 _ _ q1⟩, q2⟩
  have h0k := K.mono (i := 0) (j := k) (Nat.zero_le _) (by omega)
  have hf : FRel (cut μ (max (hs k).size (hs c).size)) ((fs k).only (looks ops.toList o)) (onlyA a (looks ops.toList o)).tmps :=
    only_rel (by rw [S.size, T.fs_n k (by omega)]) fun t ht => S.look X T K hdst C.le0 H0.dom hC ho' hk hr ht
  have hgk : GlobOk E (cut μ (max (hs k).size (hs c).size)) := hg0 _ (by omega)
  have hwant : Region.wanted o (yielded ops a.tmps) = wanted ops.toList o (fs k) := by
    rw [← only_yielded, wanted_rel hf o, only_wanted]
  have hkc : (hs k).size ≤ (hs (k + 1)).size := K.step hkN
  rcases T.run k o ho' with ⟨hw, hrun⟩ | ⟨hw, hv, hh, hlg⟩
  · rw [hwant, if_pos hw]
    have hsel := noSelect hrun
    have hdef := noDefer hrun
    have hrun' : runOp E base cf rf o ((fs k).only (looks ops.toList o)) (hs k) = some ⟨vs k, hs (k + 1), lg k⟩ := by rw [runOp_same (only_same _ _ _)]; exact hrun
    have hex : execOp a.eval o = execOp (onlyA a (looks ops.toList o)).eval o := only_exec hsel
    -- an operation that turns no memory
    have quiet : ∀ v', VRel (cut μ (max (hs k).size (hs c).size)) (vs k) v' → (∀ h h', lg k ≠ .eff h h') → (∀ h h', lg k ≠ .alloc h h') → next (a.put o.dst v') w := by
      intro v' hv h1 h2
      exact hn _ _ ⟨c, μ, C.setQuiet h1 h2, S.put X hdst ho' hk (hv.mono (cut_mono μ.le_refl (by omega)))⟩
    rcases runOp_cases hrun' with ⟨hp, hh, hlg⟩ | ⟨q, hq, hv, hh, hlg⟩ | ⟨md, hd, hal, hv, hh, hlg⟩ | hlg
    · -- plain
      obtain ⟨v', q1, q2⟩ := apure_sim hE hgk hf hp
      refine ⟨fun _ _ => hF.fn _, ?_⟩
      rw [Oper.semAt_eq _ _ _ hdef, hex, q2 w]
      exact quiet v' q1 (fun h h' e => by simp only at hlg; rw [hlg] at e; cases e) (fun h h' e => by simp only at hlg; rw [hlg] at e; cases e)
    · -- a read
      simp only at hv hh hlg
      have hqk : q.blk < (hs k).size := by
        rcases K.kind k hkN with ⟨h1, _⟩ | ⟨q', h1, _, h3⟩ | ⟨md, h1, _⟩ | ⟨h1, _⟩ <;> rw [hlg] at h1 <;> cases h1
        exact h3
      -- who may come between
      have hsame : ∀ i, i < ops.toList.length → i ≠ k → ((lg i = .eff (hs i) (hs (i + 1)) ∧ (c ≤ i ∧ i < k ∨ k < i ∧ i < c)) ∨ (lg i = .alloc (hs i) (hs (i + 1)))) → sameRQ (hs i) (hs (i + 1)) q = true := by
        intro i hi hne hcase
        rcases hcase with ⟨hie, hbtw⟩ | hia
        · have hL := C.effs i _ _ hi hie
          have hio := List.getElem?_eq_getElem (l := ops.toList) (i := i) hi
          rcases hbtw with ⟨h1, h2⟩ | ⟨h1, h2⟩
          · have hp := K.pass i k h2 hkN
            rw [hie, hlg] at hp
            simp only [mayPass, Bool.or_eq_true] at hp
            rcases hp with hp | hp
            · have := hL.1 (ordered_listed X hC h2 ho' hr (.inl hp)); omega
            · exact hp
          · have hp := K.pass k i h1 hi
            rw [hie, hlg] at hp
            simp only [mayPass, Bool.or_eq_true] at hp
            rcases hp with hp | hp
            · have hli := hL.2 h2
              have := ordered_listed X hC h1 hio (hC i _ hio hli) (.inl hp)
              rw [hk] at this; cases this
            · exact hp
        · rcases Nat.lt_or_ge i k with h1 | h1
          · have hp := K.pass i k h1 hkN
            rw [hia, hlg] at hp
            exact hp
          · have hp := K.pass k i (by omega) hi
            rw [hia, hlg] at hp
            exact hp
      obtain ⟨v', q1, q2⟩ := aread_loc (base := base) (w := w) hE hf hgk (v := vs k) hq (fun m hm => by
        have hmμ := (cut_some.1 hm).2
        by_cases hbc : q.blk < (hs c).size
        · refine ⟨hs c, ?_, ?_⟩
          · rcases Nat.le_total k c with hkc2 | hkc2
            · rw [K.chain hqk hkc2 C.cN fun i h1 h2 h3 => ?_]; · exact hv
              have hne : i ≠ k := fun e => by
                subst e; rw [hlg] at h3; rcases h3 with h3 | h3 <;> cases h3
              exact hsame i (by have := C.cN; omega) hne (h3.imp (fun h => ⟨h, .inr ⟨by omega, h2⟩⟩) id)
            · rw [← K.chain hbc hkc2 (by omega) fun i h1 h2 h3 => ?_]; · exact hv
              exact hsame i (by omega) (by omega) (h3.imp (fun h => ⟨h, .inl ⟨h1, h2⟩⟩) id)
          · obtain ⟨p, p', k1, k2, k3⟩ := C.rel.obj q.blk m (cut_some.2 ⟨hbc, hmμ⟩)
            exact ⟨p, p', k1, k2, k3.mono (cut_mono μ.le_refl (by omega)) id⟩
        · obtain ⟨j, md, o', k1, k2, k3, k4, k5, k6, k7⟩ := C.pend q.blk m (by omega) hmμ
          have hjk : j < k := by
            rcases Nat.lt_or_ge j k with h | h
            · exact h
            · have := K.mono h (by have := k3.1; omega); omega
          have hs1 := k3.size
          refine ⟨hs (j + 1), ?_, md.obj q.blk, o', ?_, k5, ?_⟩
          · rw [← K.chain (lo := j + 1) (hi := k) (by omega) hjk (by omega) fun i h1 h2 h3 => ?_]; · exact hv
            exact hsame i (by omega) (by omega) (h3.imp (fun h => ⟨h, .inl ⟨by omega, h2⟩⟩) id)
          · rw [k3.2.2, AHeap.get_push, if_pos k4, ← k4]
          · exact k7 _ _ _ (cut_mono μ.le_refl (by omega)))
      refine ⟨fun _ _ => hF.fn _, ?_⟩
      rw [Oper.semAt_eq _ _ _ hdef, hex, q2]
      exact quiet v' q1 (fun h h' e => by rw [hlg] at e; cases e) (fun h h' e => by rw [hlg] at e; cases e)
    · -- a block is made
      simp only at hv hh hlg
      obtain ⟨o', k', hvf, A⟩ := aalloc_sim hE hgk hf hal
      have ha : Al ops.toList hs lg k md := ⟨hkN, hlg, hh⟩
      refine ⟨fun _ _ => hF.fn _, ?_⟩
      rw [Oper.semAt_eq _ _ _ hdef, hex, A.run w]
      obtain ⟨hle, C'⟩ := C.alloc K hB hb0 ha hk (Alc.mk' w o') (n := k') fun μ' h b' hμ => A.obj μ' h base b' _ hμ
      refine hn _ _ ⟨c, _, C', (S.mono hle (Nat.le_refl _)).put X hdst ho' hk ?_⟩
      rw [hv]
      refine A.val _ _ _ (cut_some.2 ⟨?_, upd_self _ _ _⟩)
      have := ha.size; omega
    · -- memory is turned
      have hkk : lg k = .eff (hs k) (hs (k + 1)) := hlg
      have hck : c ≤ k := by
        have := C.effs k _ _ hkN hkk
        rw [hk] at this
        rcases Nat.lt_or_ge k c with h | h
        · exact absurd (this.2 h) (by simp)
        · exact h
      have hbetween : ∀ i, c ≤ i → i < k → ∀ h h', lg i ≠ .eff h h' := by
        intro i h1 h2 g g' e
        have hL := C.effs i _ _ (by omega) e
        have hp := K.pass i k h2 hkN
        rw [e, hkk] at hp
        simp only [mayPass] at hp
        have := hL.1 (ordered_listed X hC h2 ho' hr (.inl hp))
        omega
      have Ck := C.goTo K hB hb0 (k - c) (by omega) (fun i h1 h2 => hbetween i h1 (by omega))
      rw [show c + (k - c) = k by omega] at Ck
      have hmx : max (hs k).size (hs c).size = (hs k).size := Nat.max_eq_left (K.mono hck (by omega))
      rw [hmx] at hf
      have Sk : Slots ops.toList fs hs vs μ0 a0 k L μ a := S.mono μ.le_refl (K.mono hck (by omega))
      refine op_simA hE hcf hrf hcF hrF hF hf Ck.rel hrun' hex fun μ1 v' w1 q1 q2 => ?_
      obtain ⟨μ', e1, e2, C'⟩ := Ck.eff K hkN hkk q2
      refine hn _ _ ⟨k + 1, μ', C', (Sk.mono e1 (K.step hkN)).put X hdst ho' hk ?_⟩
      rw [Nat.max_self, e2]; exact q1
  · rw [hwant, if_neg (by rw [hw]; simp)]
    refine ⟨fun _ _ => hF.fn _, hn _ _ ⟨c, μ, C.setQuiet (fun h h' e => by rw [hlg] at e; cases e) (fun h h' e => by rw [hlg] at e; cases e), S.put X hdst ho' hk ?_⟩⟩
    rw [hv]; exact .undef _

end
end Go.M
