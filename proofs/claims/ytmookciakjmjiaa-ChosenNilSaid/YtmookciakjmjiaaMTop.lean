import Derived.Test.YtmookciakjmjiaaMCode
namespace Go.M
open Go
section
variable {P : Program} {E : Env} {base B : Nat}

theorem run_getLoop {w : World} {r : Nat} {lo : Loop} (h : w.heap[r]? = some (.loop lo)) : (Instr.getLoop r).run P w = .ok lo w := by
  unfold Instr.getLoop
  simp only [Sem.run_bind, run_getObj_map (P := P) h (fun _ _ _ => by simp), Result.andThen_ok, Sem.run_pure]

/-- A loop's record is turned, in both. -/
theorem loop_put {μ : Emb} {h : AHeap} {w : World} (H : HRel E base B μ h w) {l : Nat} {m : MT} (hb : μ l = some m) (hbase : base ≤ l) {st : LoopState} {p : Option Code} {f0 : AF} {ps : List Tmp} {asg body : Code} (hg : h.get l = some (.loop st p f0 ps asg body)) (st' : LoopState) (p' : Option Code) :
    ∃ lo : Loop, w.heap[m.r]? = some (.loop lo) ∧ lo.state = st ∧ lo.pending = p ∧ Step E base B μ h w μ (h.put l (.loop st' p' f0 ps asg body)) { w with heap := w.heap.setIfInBounds m.r (.loop { lo with state := st', pending := p' }) } := by
  obtain ⟨o1, o2, k1, k2, k3⟩ := H.obj l m hb
  rw [hg] at k1; cases k1
  cases k3 with
  | loop hf =>
    refine ⟨_, k2, rfl, rfl, ?_⟩
    exact Step.put H hb hbase hg rfl rfl (Upd.set w m.r _ (H.lt hb)) (.loop hf)

theorem roundOk {k : Nat} (hk : CodeOk P E base B k) : RoundOk P E base B (aroundB base (aeval E base k)) := by
  intro μ h w l args v h' m f0 ps asg body st p fn tmps hr hl hb H hf F n hF
  unfold aroundB at hr
  simp only [grd_some, ble_iff] at hr
  obtain ⟨hbase, hr⟩ := hr
  rw [hl] at hr
  cases st with
  | ready =>
    simp only [grd_some, Bool.and_eq_true, beq_iff] at hr
    obtain ⟨⟨⟨hlen, hna⟩, hnb⟩, hr⟩ := hr
    split at hr
    · rename_i f1 h1 hasg
      split at hr
      · rename_i p1 f01 ps1 asg1 body1 hl1
        simp only [Option.bind_eq_some_iff] at hr
        obtain ⟨⟨ex, f2, h2⟩, hbody, hr⟩ := hr
        simp only at hr
        split at hr
        · rename_i st2 p2 f02 ps2 asg2 body2 hl2
          refine roundIn_of_wpIn (hF.fn _) ?_
          refine hk asg _ h .normal f1 h1 hasg μ _ w w.heap.size [] hf H .nil (Nat.le_refl _) (F.inRound m.r) n _ (hF.inRound _) (.inr hna) ?_
          intro μ1 a1 w1 rs1 q1 q2 s1
          have hb1 := s1.le _ _ hb
          obtain ⟨lo1, e1, e2, e3, s2⟩ := loop_put s1.rel hb1 hbase hl1 .busy p1
          have s2' : Step E base B μ1 h1 w1 μ1 (h1.put l (.loop .busy p1 f01 ps1 asg1 body1)) { w1 with heap := w1.heap.setIfInBounds m.r (.loop { lo1 with state := .busy }) } := by
            rw [← e3] at s2 ⊢
            exact s2
          refine ⟨{ w1 with heap := w1.heap.setIfInBounds m.r (.loop { lo1 with state := .busy }) }, ?_, ?_⟩
          · unfold Instr.beginRound
            simp only [Sem.run_bind, run_getLoop (P := P) e1, Result.andThen_ok, run_setObj' (P := P) e1 (fun _ _ _ => by simp), e2, Sem.run_pure]
          refine hk body f1 _ ex f2 h2 hbody μ1 a1 _ w.heap.size rs1 q1 s2'.rel (q2.step s2') (by rw [Array.size_setIfInBounds]; exact s1.grow.size) (F.inRound m.r) n _ (hF.inRound _) (.inr hnb) ?_
          intro μ3 a3 w3 rs3 q3 q4 s3
          have sall := (s1.trans s2')
          have hb3 := s3.le _ _ hb1
          have key : ∀ (st' : LoopState) (jump : Option Code), (jump.isNone = true → st' = .ready) → (jump.isNone = false → st' = .done) → ∃ w4, (Instr.endRound m.r jump).run P w3 = .ok (.bool jump.isNone) w4 ∧ Step E base B μ3 h2 w3 μ3 (h2.put l (.loop st' jump f02 ps2 asg2 body2)) w4 := by
            intro st' jump hj1 hj2
            obtain ⟨lo3, d1, d2, d3, s4⟩ := loop_put s3.rel hb3 hbase hl2 st' jump
            refine ⟨_, ?_, s4⟩
            unfold Instr.endRound
            simp only [Sem.run_bind, run_getLoop (P := P) d1, Result.andThen_ok, run_setObj' (P := P) d1 (fun _ _ _ => by simp), Sem.run_pure]
            cases hj : jump.isNone with
            | true => rw [hj1 hj]; simp
            | false => rw [hj2 hj]; simp
          cases ex with
          | normal =>
            simp only [Option.some.injEq, Prod.mk.injEq] at hr
            obtain ⟨rfl, rfl⟩ := hr
            obtain ⟨w4, k1, k2⟩ := key .ready none (fun _ => rfl) (fun h => by simp at h)
            exact ⟨_, w4, k1, _, μ3, rfl, .bool _ _, (sall.trans s3).trans k2⟩
          | ret =>
            simp only [Option.some.injEq, Prod.mk.injEq] at hr
            obtain ⟨rfl, rfl⟩ := hr
            obtain ⟨w4, k1, k2⟩ := key .done (some .ret) (fun h => by simp at h) (fun _ => rfl)
            exact ⟨_, w4, k1, _, μ3, rfl, .bool _ _, (sall.trans s3).trans k2⟩
          | exit id =>
            simp only [Option.some.injEq, Prod.mk.injEq] at hr
            obtain ⟨rfl, rfl⟩ := hr
            obtain ⟨w4, k1, k2⟩ := key .done (some (.exit id)) (fun h => by simp at h) (fun _ => rfl)
            exact ⟨_, w4, k1, _, μ3, rfl, .bool _ _, (sall.trans s3).trans k2⟩
        · cases hr
      · cases hr
    · cases hr
  | busy => cases hr
  | done => cases hr
  | exhausted => cases hr


theorem inBlock_exit {Q : Exit → Act → World → Prop} {id : Nat} {ex : Ex} {a : Act} {w : World} (h : (match ex with
    | .exit id' => if id' = id then Q .normal a w else Q (.exit id') a w
    | e => Q (toExit e) a w)) : Exit.inBlock id Q (toExit ex) a w := by
  cases ex <;> exact h

theorem codeOk (hE : EnvOk P E) (hO : OrcOk P E base B) (hD : DrawSim P E base B) : ∀ k, CodeOk P E base B k ∧
    (∀ (b : Code) (f : AF) (h : AHeap) (ex : Ex) (f' : AF) (h' : AHeap), aeval E base k (.loop b) f h = some (ex, f', h') →
      ∀ (μ : Emb) (a : Act) (w : World) (W0 : Nat) (rs : List Nat), FRel μ f a.tmps → HRel E base B μ h w → MarksOk W0 μ w a.defers rs → W0 ≤ w.heap.size →
      ∀ (F : Fence) (n : Nat) (Q : Exit → Act → World → Prop), Wide F → (F.round = none ∨ noRange b = true) →
      (∀ μ' a' w' rs', FRel μ' f' a'.tmps → MarksOk W0 μ' w' a'.defers rs' → Step E base B μ h w μ' h' w' → Q (toExit ex) a' w') → Code.roundsIn F n P b Q k a w) := by
  intro k
  induction k with
  | zero => exact ⟨fun c f h ex f' h' hr => by simp [aeval] at hr, fun b f h ex f' h' hr => by simp [aeval] at hr⟩
  | succ k ih =>
    obtain ⟨hk, hloop⟩ := ih
    have hcall := callOk hE hO hk
    have hround := roundOk hk
    have loopk : ∀ (b : Code) (f : AF) (h : AHeap) (ex : Ex) (f' : AF) (h' : AHeap), aeval E base (k + 1) (.loop b) f h = some (ex, f', h') →
      ∀ (μ : Emb) (a : Act) (w : World) (W0 : Nat) (rs : List Nat), FRel μ f a.tmps → HRel E base B μ h w → MarksOk W0 μ w a.defers rs → W0 ≤ w.heap.size →
      ∀ (F : Fence) (n : Nat) (Q : Exit → Act → World → Prop), Wide F → (F.round = none ∨ noRange b = true) →
      (∀ μ' a' w' rs', FRel μ' f' a'.tmps → MarksOk W0 μ' w' a'.defers rs' → Step E base B μ h w μ' h' w' → Q (toExit ex) a' w') → Code.roundsIn F n P b Q (k + 1) a w := by
      intro b f h ex f' h' hr μ a w W0 rs hf H hm hW F n Q hF hrg hQ
      simp only [aeval] at hr
      rw [roundsIn_succ]
      split at hr
      · rename_i f1 h1 hb
        refine hk b f h .normal f1 h1 hb μ a w W0 rs hf H hm hW F n _ hF hrg fun μ1 a1 w1 rs1 q1 q2 s1 => ?_
        exact hloop b f1 h1 ex f' h' hr μ1 a1 w1 W0 rs1 q1 s1.rel q2 (Nat.le_trans hW s1.grow.size) F n Q hF hrg fun μ2 a2 w2 rs2 p1 p2 s2 => hQ μ2 a2 w2 rs2 p1 p2 (s1.trans s2)
      · rename_i hnn
        refine hk b f h ex f' h' hr μ a w W0 rs hf H hm hW F n _ hF hrg fun μ1 a1 w1 rs1 q1 q2 s1 => ?_
        have := hQ μ1 a1 w1 rs1 q1 q2 s1
        cases ex with
        | normal => exact (hnn _ _ hr).elim
        | exit id => exact this
        | ret => exact this
    refine ⟨?_, loopk⟩
    intro c f h ex f' h' hr μ a w W0 rs hf H hm hW F n Q hF hrg hQ
    cases c with
    | skip =>
      simp only [aeval, Option.some.injEq, Prod.mk.injEq] at hr
      obtain ⟨rfl, rfl, rfl⟩ := hr
      exact wpIn_skip (hQ μ a w rs hf hm (.refl H))
    | exit id =>
      simp only [aeval, Option.some.injEq, Prod.mk.injEq] at hr
      obtain ⟨rfl, rfl, rfl⟩ := hr
      exact wpIn_exit (hQ μ a w rs hf hm (.refl H))
    | ret =>
      simp only [aeval, Option.some.injEq, Prod.mk.injEq] at hr
      obtain ⟨rfl, rfl, rfl⟩ := hr
      exact wpIn_ret (hQ μ a w rs hf hm (.refl H))
    | seq x y =>
      simp only [aeval] at hr
      have hx : F.round = none ∨ noRange x = true := hrg.imp id fun h => by simp [noRange] at h; exact h.1
      have hy : F.round = none ∨ noRange y = true := hrg.imp id fun h => by simp [noRange] at h; exact h.2
      refine wpIn_seq ?_
      split at hr
      · rename_i f1 h1 hb
        refine hk x f h .normal f1 h1 hb μ a w W0 rs hf H hm hW F n _ hF hx fun μ1 a1 w1 rs1 q1 q2 s1 => ?_
        exact hk y f1 h1 ex f' h' hr μ1 a1 w1 W0 rs1 q1 s1.rel q2 (Nat.le_trans hW s1.grow.size) F n Q hF hy fun μ2 a2 w2 rs2 p1 p2 s2 => hQ μ2 a2 w2 rs2 p1 p2 (s1.trans s2)
      · rename_i hnn
        refine hk x f h ex f' h' hr μ a w W0 rs hf H hm hW F n _ hF hx fun μ1 a1 w1 rs1 q1 q2 s1 => ?_
        have := hQ μ1 a1 w1 rs1 q1 q2 s1
        cases ex with
        | normal => exact (hnn _ _ hr).elim
        | exit id => exact this
        | ret => exact this
    | cond cx x y =>
      simp only [aeval, Option.bind_eq_some_iff] at hr
      obtain ⟨v, h1, b, h2, h3⟩ := hr
      have e := asB_some h2; subst e
      have hc := (ev_rel H.glob hf h1).inv_scalar rfl
      have hx : F.round = none ∨ noRange x = true := hrg.imp id fun h => by simp [noRange] at h; exact h.1
      have hy : F.round = none ∨ noRange y = true := hrg.imp id fun h => by simp [noRange] at h; exact h.2
      cases b with
      | true => exact wpIn_cond_true hc (hk x f h ex f' h' h3 μ a w W0 rs hf H hm hW F n Q hF hx hQ)
      | false => exact wpIn_cond_false hc (hk y f h ex f' h' h3 μ a w W0 rs hf H hm hW F n Q hF hy hQ)
    | block id b =>
      simp only [aeval] at hr
      have hb' : F.round = none ∨ noRange b = true := hrg.imp (fun h => h) fun h => by simpa [noRange] using h
      refine wpIn_block ?_
      split at hr
      · rename_i id' f1 h1 hb
        refine hk b f h (.exit id') f1 h1 hb μ a w W0 rs hf H hm hW F n _ hF hb' fun μ1 a1 w1 rs1 q1 q2 s1 => ?_
        rw [bif_eq] at hr
        show (if id' = id then Q .normal a1 w1 else Q (.exit id') a1 w1)
        by_cases e : id' = id
        · rw [if_pos (beq_iff.2 e)] at hr
          simp only [Option.some.injEq, Prod.mk.injEq] at hr
          obtain ⟨rfl, rfl, rfl⟩ := hr
          rw [if_pos e]; exact hQ μ1 a1 w1 rs1 q1 q2 s1
        · rw [if_neg (fun hh => e (beq_iff.1 hh))] at hr
          simp only [Option.some.injEq, Prod.mk.injEq] at hr
          obtain ⟨rfl, rfl, rfl⟩ := hr
          rw [if_neg e]; exact hQ μ1 a1 w1 rs1 q1 q2 s1
      · rename_i hnn
        refine hk b f h ex f' h' hr μ a w W0 rs hf H hm hW F n _ hF hb' fun μ1 a1 w1 rs1 q1 q2 s1 => ?_
        have := hQ μ1 a1 w1 rs1 q1 q2 s1
        cases ex with
        | normal => exact this
        | exit id' => exact (hnn _ _ _ hr).elim
        | ret => exact this
    | loop b =>
      exact wpIn_loop_rounds (k + 1) (loopk b f h ex f' h' hr μ a w W0 rs hf H hm hW F n Q hF (hrg.imp id fun h => by simpa [noRange] using h) hQ)
    | region id ops draw =>
      simp only [aeval, aregion] at hr
      cases draw with
      | false =>
        simp only [Option.bind_eq_some_iff, Option.some.injEq, Prod.mk.injEq] at hr
        obtain ⟨⟨f1, h1⟩, hb, rfl, rfl, rfl⟩ := hr
        refine wpIn_region ?_
        have := ops_sim hE hcall hround (callFun _) (roundFun _) hF (n := n) (ops := ops) (Q := Q) ops.toList 0 μ f h a w f1 h1 (fun j => by simp) hb hf H fun μ1 a1 w1 q1 q2 s1 => hQ μ1 a1 w1 rs q1 (by rw [q2]; exact hm.step s1) s1
        rw [List.range_eq_range', ← Array.length_toList]
        exact this
      | true =>
        simp only [grd_some, Bool.and_eq_true, Option.bind_eq_some_iff, Option.some.injEq, Prod.mk.injEq] at hr
        obtain ⟨⟨hs, hd⟩, ⟨f1, h1, logs⟩, hb, hp, rfl, rfl, rfl⟩ := hr
        exact hD _ _ hcall hround (callFun _) (roundFun _) ops f h f1 h1 logs hs hd hb hp μ a w hf H F n id Q hF fun μ1 a1 w1 q1 q2 s1 => hQ μ1 a1 w1 rs q1 (by rw [q2]; exact hm.step s1) s1
    | rangeFunc g ps asg body =>
      have hro : F.round = none := hrg.resolve_right (by simp [noRange])
      simp only [aeval, Option.bind_eq_some_iff, grd_some, ble_iff] at hr
      obtain ⟨gv, h1, hbase, hr⟩ := hr
      split at hr
      · rename_i gid first captured
        simp only [Option.bind_eq_some_iff] at hr
        obtain ⟨⟨rv, h2⟩, hc, hr⟩ := hr
        simp only at hr
        have hgr := ev_rel H.glob hf h1
        generalize hq : a.eval g = q at hgr
        cases hgr with
        | lit hh => simp [plain1] at hh
        | func t1 t2 t3 t4 =>
          rename_i first' captured'
          refine wpIn_rangeFunc fun fn _ => ?_
          let wA : World := { w with heap := w.heap.push (.deferred (some [])) }
          let lo : Loop := { state := .ready, pending := none, fn := fn, tmps := a.tmps, params := ps, assign := asg, body := body, defers := w.heap.size }
          let wB : World := { wA with heap := wA.heap.push (.loop lo) }
          have sA : Step E base B μ h w μ h wA := Step.alcW H (Alc.mk' w _)
          have hszA : wA.heap.size = w.heap.size + 1 := by simp [wA]
          have sB := Step.alloc (o := .loop .ready none f ps.toList asg body) sA.rel (Alc.mk' wA (.loop lo)) 0 (fun _ _ _ _ hh => by cases hh) (by
            have := ORel.loop (μ := upd μ h.size ⟨wA.heap.size, 0, 0⟩) (h := h.push (.loop .ready none f ps.toList asg body)) (base := base) (b := h.size) (m := ⟨wA.heap.size, 0, 0⟩) (st := .ready) (p := none) (ps := ps.toList) (asg := asg) (body := body) (fn := fn) (d := w.heap.size) (hf.mono (upd_le H.fresh))
            simpa using this)
          let mk : Deferred := { target := .collected w.heap.size, args := #[] }
          have hmk : MarkOk W0 μ wA mk w.heap.size := ⟨rfl, by simp [wA], fun b m hb he => by have := H.lt hb; omega, hW⟩
          have hnr : w.heap.size ∉ rs := by
            have : ∀ {ds : List Deferred} {rs : List Nat}, MarksOk W0 μ w ds rs → ∀ r ∈ rs, r < w.heap.size := by
              intro ds rs k
              induction k with
              | nil => intro r hr; simp at hr
              | cons h1 _ _ ih => intro r hr; rcases List.mem_cons.1 hr with rfl | hr
                                  · exact (Array.getElem?_eq_some_iff.1 h1.obj).1
                                  · exact ih r hr
            intro hmem
            have := this hm _ hmem
            omega
          have hmarks : MarksOk W0 μ wA (mk :: a.defers) (w.heap.size :: rs) := .cons hmk hnr (hm.step sA)
          let args' : Array Value := first' ++ #[.func (.yield wA.heap.size) #[] #[]] ++ captured'
          have hfun := callFun (E := E) _ _ _ _ _ hc
          obtain ⟨fnr, hfnr⟩ := Option.isSome_iff_exists.1 hfun
          obtain ⟨g1, g2, g3⟩ := hE.func _ _ hfnr
          have hbn : fnr.body.isNone = false := by cases hx : fnr.body <;> simp_all
          have hargs : VRels (upd μ h.size ⟨wA.heap.size, 0, 0⟩) (first.toList ++ [.func (.yield h.size) #[] #[]] ++ captured.toList) args'.toList := by
            have hle : μ.le (upd μ h.size ⟨wA.heap.size, 0, 0⟩) := upd_le H.fresh
            have v1 := (VRels.of_arr t1 t2).mono hle
            have v3 := (VRels.of_arr t3 t4).mono hle
            have v2 := VRels.cons (VRel.yield (upd_self μ h.size ⟨wA.heap.size, 0, 0⟩)) .nil
            simpa [args'] using (v1.append v2).append v3
          refine ⟨wA.heap.size, [mk], wB, { target := .fn (.func gid) captured', args := first' ++ #[.func (.yield wA.heap.size) #[] #[]] }, wB, gid, args', wB, ?_, ?_, fun _ _ => hF.fn _, ?_, hF.ok n, ?_⟩
          · rw [hro]
            unfold Instr.enterLoop
            simp only [Sem.run_bind, run_newObj, Result.andThen_ok, Sem.run_pure]
            rfl
          · have hcv : ∀ v : Value, a.eval (.const v) = v := fun _ => rfl
            simp [resolve, rangeCall, hq, Deferred.ofValue, Sem.run_pure, hcv]
          · simp only [invoke, callFunc, Sem.run_bind, run_program, Result.andThen_ok, g1, g3, hbn, Bool.false_eq_true, if_false, Sem.run_pure]
            rfl
          · refine (hcall _ _ wB gid _ args' rv h2 hc hargs sB.rel F (n - 1) hF).mono ?_
            rintro e w3 ⟨v', μ3, rfl, k1, s3⟩
            have hb3 : μ3 h.size = some ⟨wA.heap.size, 0, 0⟩ := s3.le _ _ (upd_self _ _ _)
            split at hr
            · rename_i st p f0 ps0 asg0 body0 hl
              simp only [grd_some] at hr
              obtain ⟨hst, hr⟩ := hr
              obtain ⟨lo3, d1, d2, d3, s4⟩ := loop_put s3.rel hb3 hbase hl .exhausted p
              have s4' : Step E base B μ3 h2 w3 μ3 (h2.put h.size (.loop .exhausted p f0 ps0 asg0 body0)) { w3 with heap := w3.heap.setIfInBounds wA.heap.size (.loop { lo3 with state := .exhausted }) } := by
                rw [← d3] at s4 ⊢
                exact s4
              have sall := ((sA.trans sB).trans s3).trans s4'
              have hm4 : MarksOk W0 μ3 { w3 with heap := w3.heap.setIfInBounds wA.heap.size (.loop { lo3 with state := .exhausted }) } (mk :: a.defers) (w.heap.size :: rs) := ((hmarks.step sB).step s3).step s4'
              refine ⟨p, { w3 with heap := w3.heap.setIfInBounds wA.heap.size (.loop { lo3 with state := .exhausted }) }, ?_, ?_⟩
              · unfold Instr.endLoop
                simp only [Sem.run_bind, run_getLoop (P := P) d1, Result.andThen_ok]
                rw [if_neg (by rw [d2]; intro hh; rw [bne_iff_ne] at hst; exact hst (eq_of_beq hh))]
                simp only [Sem.run_bind, run_setObj' (P := P) d1 (fun _ _ _ => by simp), Result.andThen_ok, Sem.run_pure, d3]
              · cases p with
                | none =>
                  simp only [Option.some.injEq, Prod.mk.injEq] at hr
                  obtain ⟨rfl, rfl, rfl⟩ := hr
                  exact hQ μ3 _ _ _ (hf.mono sall.le) hm4 sall
                | some cj =>
                  simp only at hr
                  exact hk cj f _ ex f' h' hr μ3 { a with defers := mk :: a.defers } _ W0 _ (hf.mono sall.le) s4'.rel hm4 (Nat.le_trans hW sall.grow.size) F n Q hF (.inl hro) fun μ5 a5 w5 rs5 p1 p2 s5 => hQ μ5 a5 w5 rs5 p1 p2 (sall.trans s5)
            · cases hr
      · cases hr
    | scope b => simp only [aeval] at hr; cases hr
    | label l => simp only [aeval] at hr; cases hr
    | goto l => simp only [aeval] at hr; cases hr
    | refuse s => simp only [aeval] at hr; cases hr

end
end Go.M
