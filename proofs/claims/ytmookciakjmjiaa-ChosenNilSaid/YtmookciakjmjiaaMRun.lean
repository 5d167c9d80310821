import Derived.Test.YtmookciakjmjiaaMEff6
import Derived.RangeFuncLeaves
namespace Go.M
open Go

/-- A fence that shuts nobody out. -/
structure Wide (F : Fence) : Prop where
  fn : ∀ f, F.fn f
  depth : F.depth = none
theorem Wide.inRound {F : Fence} (h : Wide F) (l : Nat) : Wide (F.inRound l) := ⟨h.fn, h.depth⟩
theorem Wide.plain {F : Fence} (h : Wide F) : Wide F.plain := ⟨h.fn, h.depth⟩
theorem Wide.wide : Wide Fence.wide := ⟨fun _ => trivial, rfl⟩
theorem Wide.ok {F : Fence} (h : Wide F) (n : Nat) : F.depth.isSome = true → 1 ≤ n := by rw [h.depth]; intro h; simp at h

/-- What a call comes to. -/
def RetPost (E : Env) (base B : Nat) (μ : Emb) (h : AHeap) (w : World) (v : Value) (h' : AHeap) : Ending → World → Prop :=
  fun e w' => ∃ v' μ', e = .returned v' ∧ VRel μ' v v' ∧ Step E base B μ h w μ' h' w'

def CallOk (P : Program) (E : Env) (base B : Nat) (cf : CallF) : Prop :=
  ∀ (μ : Emb) (h : AHeap) (w : World) (g : FuncId) (args : List Value) (args' : Array Value) (v : Value) (h' : AHeap), cf g args h = some (v, h') → VRels μ args args'.toList → HRel E base B μ h w →
    ∀ (F : Fence) (n : Nat), Wide F → CallsIn F n P g args' w (RetPost E base B μ h w v h')

def RoundOk (P : Program) (E : Env) (base B : Nat) (rf : RoundF) : Prop :=
  ∀ (μ : Emb) (h : AHeap) (w : World) (l : Nat) (args : List Value) (v : Value) (h' : AHeap) (m : MT) (f0 : AF) (ps : List Tmp) (asg body : Code) (st : LoopState) (p : Option Code) (fn : FuncId) (tmps : Array Value),
    rf l args h = some (v, h') → h.get l = some (.loop st p f0 ps asg body) → μ l = some m → HRel E base B μ h w → FRel μ (AF.setAll (ps.zip args) f0) tmps →
    ∀ (F : Fence) (n : Nat), Wide F → RoundIn F n P m.r fn tmps asg body w (RetPost E base B μ h w v h')

/-- Whoever can be called. -/
def CallFun (E : Env) (cf : CallF) : Prop := ∀ g args h r, cf g args h = some r → (E.func g).isSome = true
/-- A loop's body is called with as many values as it has places. -/
def RoundFun (rf : RoundF) : Prop := ∀ l args h r, rf l args h = some r → ∃ st p f0 ps asg body, h.get l = some (.loop st p f0 ps asg body) ∧ ps.length = args.length

section
variable {P : Program} {E : Env} {μ : Emb} {f : AF} {a : Act} {base B : Nat} {h : AHeap} {w : World} {cf : CallF} {rf : RoundF}

theorem setAll_rel {μ : Emb} : ∀ {ps : List Tmp} {args args' : List Value} {f : AF} {tmps : Array Value}, FRel μ f tmps → VRels μ args args' → FRel μ (AF.setAll (ps.zip args) f) ((ps.zip args').foldl (fun tmps (t, a) => tmps.setIfInBounds t a) tmps)
  | [], args, args', f, tmps, hf, _ => by simpa [AF.setAll] using hf
  | p :: ps, _, _, f, tmps, hf, .nil => by simpa [AF.setAll] using hf
  | p :: ps, _, _, f, tmps, hf, .cons hv ht => by
    simp only [List.zip_cons_cons, AF.setAll, List.foldl_cons]
    exact setAll_rel (hf.set hv p) ht

theorem noDefer {o : Oper} {r : OpR} (h : runOp E base cf rf o f h = some r) : ∀ c, o.op ≠ .defer c := by
  intro c hc
  unfold runOp at h
  simp only [apure, aread, aalloc, aeff, hc] at h
  cases h

/-- One operation. -/
theorem op_sim (hE : EnvOk P E) (hcf : CallOk P E base B cf) (hrf : RoundOk P E base B rf) (hcF : CallFun E cf) (hrF : RoundFun rf) {F : Fence} (hF : Wide F) {n : Nat} (hf : FRel μ f a.tmps) (H : HRel E base B μ h w) {o : Oper} {r : OpR} (hr : runOp E base cf rf o f h = some r)
    {next : Act → World → Prop} {Q : Exit → Act → World → Prop} (hn : ∀ μ' v' w', VRel μ' r.v v' → Step E base B μ h w μ' r.h w' → next (a.put o.dst v') w') : o.wpIn F n P a w next Q := by
  have hg : GlobOk E μ := H.glob
  refine ⟨fun _ _ => hF.fn _, ?_⟩
  rw [Oper.semAt_eq _ _ _ (noDefer hr)]
  unfold runOp at hr
  split at hr
  · rename_i v hp
    simp only [Option.some.injEq] at hr; subst hr
    obtain ⟨v', q1, q2⟩ := apure_sim hE hg hf hp
    rw [q2 w]
    exact hn μ v' w q1 (.refl H)
  · split at hr
    · rename_i q hq
      simp only [Option.bind_eq_some_iff, Option.some.injEq] at hr
      obtain ⟨v, hv, rfl⟩ := hr
      obtain ⟨v', q1, q2⟩ := aread_sim hE hf H hq hv
      rw [q2]
      exact hn μ v' w q1 (.refl H)
    · split at hr
      · rename_i md hd hal
        simp only [Option.some.injEq] at hr; subst hr
        obtain ⟨o', k, hv, S⟩ := aalloc_sim hE hg hf hal
        rw [S.run w]
        have st := Step.alloc (o := md.obj h.size) H (Alc.mk' w o') k (fun cs f tip thr hh => by cases md <;> simp [Made.obj] at hh; exact ⟨hh.2.1.symm, hh.2.2.1.symm⟩) (S.obj _ _ _ _ _ (upd_le H.fresh))
        exact hn _ _ _ (S.val _ _ _ (upd_self _ _ _)) st
      · split at hr
        · rename_i v h' he
          simp only [Option.some.injEq] at hr; subst hr
          obtain ⟨μ', nx, v', w', q1, q2, q3, q4⟩ := aeff_val hE hf H he
          rw [q1]
          rcases q2 with rfl | ⟨rfl, rfl⟩
          · exact hn μ' v' w' q3 q4
          · exact hn μ' undef w' q3 q4
        · rename_i g args h' he
          simp only [Option.bind_eq_some_iff, Option.some.injEq] at hr
          obtain ⟨⟨v, h2⟩, hc, rfl⟩ := hr
          have hfun := hcF _ _ _ _ hc
          obtain ⟨args', e, q1, q2⟩ := aeff_enter hE hf H he hfun
          subst e
          rw [q2]
          refine ⟨hF.ok n, (hcf μ h' w g args args' v h2 hc q1 H F (n - 1) hF).mono ?_⟩
          rintro e w' ⟨v', μ', rfl, k1, k2⟩
          exact hn μ' v' w' k1 k2
        · rename_i l args h' he
          simp only [Option.bind_eq_some_iff, Option.some.injEq] at hr
          obtain ⟨⟨v, h2⟩, hc, rfl⟩ := hr
          obtain ⟨st, p, f0, ps, asg, body, hl, hlen⟩ := hrF _ _ _ _ hc
          have hh : h' = h := by
            obtain ⟨dst, op, type, pos, after, guard⟩ := o
            cases op <;> simp only [aeff] at he <;> first | cases he | skip
            all_goals simp only [Option.bind_eq_some_iff, Option.some.injEq, Prod.mk.injEq, grd_some, reduceCtorEq, false_and, and_false, exists_false] at he
            · obtain ⟨_, _, _, _, he⟩ := he
              split at he
              · split at he <;> simp at he
              · cases he
            · obtain ⟨_, _, he⟩ := he
              split at he
              · first | (simp at he; done) | (obtain ⟨_, _, he⟩ := he; simp at he; done) | (simp only [Option.bind_eq_some_iff] at he; obtain ⟨_, _, he⟩ := he; cases he)
              · try simp only [Option.bind_eq_some_iff] at he
                obtain ⟨_, _, he⟩ := he
                split at he
                · simp at he
                · simp only [Option.some.injEq, Prod.mk.injEq] at he; exact he.2.symm
                · cases he
              · cases he
          subst hh
          obtain ⟨m, args', lo, _, hb, hw, q1, q2, q3⟩ := aeff_round (P := P) hf H he hl hlen
          rw [q2]
          refine ⟨hF.ok n, (hrf μ h' w l args v h2 m f0 ps asg body st p lo.fn _ hc hl hb H (setAll_rel q3 q1) F (n - 1) hF).mono ?_⟩
          rintro e w' ⟨v', μ', rfl, k1, k2⟩
          exact hn μ' v' w' k1 k2
        · cases hr

theorem wanted_rel {ops : Array Oper} (hf : FRel μ f a.tmps) (o : Oper) : Region.wanted o (yielded ops a.tmps) = wanted ops.toList o f := by
  unfold Region.wanted wanted
  cases hgd : o.guard with
  | none => rfl
  | some jw =>
    obtain ⟨j, want⟩ := jw
    simp only
    unfold yielded
    have e : ops.toList[j]? = ops[j]? := by simp
    rw [e]
    cases ht : (ops[j]?).bind (·.dst) with
    | none => simp
    | some t =>
      simp only [Option.bind_some]
      have hv := hf.get t
      by_cases hlt : t < a.tmps.size
      · have e2 : a.tmps.getD t undef = a.tmps[t] := by simp [hlt]
        rw [e2] at hv
        rw [Array.getElem?_eq_getElem hlt]
        generalize a.tmps[t] = u at hv
        generalize f.get t = c at hv
        cases hv with
        | lit hh => cases u <;> simp
        | _ => rfl
      · have e2 : a.tmps.getD t undef = undef := by simp [hlt]
        rw [e2] at hv
        have e3 : a.tmps[t]? = none := Array.getElem?_eq_none (Nat.le_of_not_lt hlt)
        rw [e3]
        generalize f.get t = c at hv
        unfold undef at hv
        cases hv with
        | lit hh => simp [plain1] at hh
        | tuple _ _ => rfl

/-- The operations of a region, in the text's order. -/
theorem ops_sim (hE : EnvOk P E) (hcf : CallOk P E base B cf) (hrf : RoundOk P E base B rf) (hcF : CallFun E cf) (hrF : RoundFun rf) {F : Fence} (hF : Wide F) {n : Nat} {ops : Array Oper} {Q : Exit → Act → World → Prop} : ∀ (rest : List Oper) (k : Nat) (μ : Emb) (f : AF) (h : AHeap) (a : Act) (w : World) (f' : AF) (h' : AHeap),
    (∀ j, rest[j]? = ops[k + j]?) → aops E base cf rf ops.toList rest f h = some (f', h') → FRel μ f a.tmps → HRel E base B μ h w →
    (∀ μ' a' w', FRel μ' f' a'.tmps → a'.defers = a.defers → Step E base B μ h w μ' h' w' → Q .normal a' w') → wpOpsIn F n P ops Q (List.range' k rest.length) a w
  | [], k, μ, f, h, a, w, f', h', _, ha, hf, H, hQ => by
    simp only [aops, Option.some.injEq, Prod.mk.injEq] at ha
    obtain ⟨rfl, rfl⟩ := ha
    exact hQ μ a w hf rfl (.refl H)
  | o :: rest, k, μ, f, h, a, w, f', h', hk, ha, hf, H, hQ => by
    have h0 : ops[k]? = some o := by simpa using (hk 0).symm
    have hk' : ∀ j, rest[j]? = ops[k + 1 + j]? := fun j => by have := hk (j + 1); simpa [Nat.add_assoc, Nat.add_comm 1 j] using this
    simp only [List.length_cons, List.range'_succ, wpOpsIn, h0, wanted_rel hf]
    simp only [aops] at ha
    split at ha
    · rename_i hw
      rw [if_pos hw]
      simp only [Option.bind_eq_some_iff] at ha
      obtain ⟨r, hr, ha⟩ := ha
      refine op_sim hE hcf hrf hcF hrF hF hf H hr fun μ' v' w' q1 q2 => ?_
      refine ops_sim hE hcf hrf hcF hrF hF rest (k + 1) μ' (f.put o.dst r.v) r.h _ w' f' h' hk' ha ((hf.mono q2.le).put q1 o.dst) q2.rel fun μ2 a2 w2 p1 p2 p3 => ?_
      exact hQ μ2 a2 w2 p1 (by rw [p2]; cases o.dst <;> rfl) (q2.trans p3)
    · rename_i hw
      rw [if_neg (by rw [hw]; simp)]
      refine ⟨fun _ _ => hF.fn _, ?_⟩
      refine ops_sim hE hcf hrf hcF hrF hF rest (k + 1) μ (f.put o.dst undef) h _ w f' h' hk' ha (hf.put (.undef μ) o.dst) H fun μ2 a2 w2 p1 p2 p3 => ?_
      exact hQ μ2 a2 w2 p1 (by rw [p2]; cases o.dst <;> rfl) p3

end
end Go.M
