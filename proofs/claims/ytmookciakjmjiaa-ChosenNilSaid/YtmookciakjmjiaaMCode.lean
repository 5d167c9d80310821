import Derived.Test.YtmookciakjmjiaaMRun
import Derived.LoopNIn
import Derived.RangeFuncCalls
namespace Go.M
open Go

def toExit : Ex → Exit
  | .normal => .normal
  | .exit id => .exit id
  | .ret => .ret

/-- The marks that loops over functions left: their blocks are apart. -/
structure MarkOk (W0 : Nat) (μ : Emb) (w : World) (d : Deferred) (r : Nat) : Prop where
  tg : d.target = .collected r
  obj : w.heap[r]? = some (.deferred (some []))
  apart : ∀ b m, μ b = some m → m.r ≠ r
  new : W0 ≤ r
inductive MarksOk (W0 : Nat) (μ : Emb) (w : World) : List Deferred → List Nat → Prop
  | nil : MarksOk W0 μ w [] []
  | cons {d : Deferred} {r : Nat} {ds : List Deferred} {rs : List Nat} (h : MarkOk W0 μ w d r) (hn : r ∉ rs) (t : MarksOk W0 μ w ds rs) : MarksOk W0 μ w (d :: ds) (r :: rs)

section
variable {P : Program} {E : Env} {base B : Nat}

theorem MarkOk.step {W0 : Nat} {μ μ' : Emb} {h h' : AHeap} {w w' : World} {d : Deferred} {r : Nat} (k : MarkOk W0 μ w d r) (s : Step E base B μ h w μ' h' w') : MarkOk W0 μ' w' d r := by
  have hlt : r < w.heap.size := (Array.getElem?_eq_some_iff.1 k.obj).1
  refine ⟨k.tg, ?_, ?_, k.new⟩
  · rw [s.grow.keep r hlt (fun b m hb hr => absurd hr (k.apart b m hb))]; exact k.obj
  · intro b m hb hr
    cases h0 : μ b with
    | some m0 =>
      have := s.le b m0 h0
      rw [hb] at this; cases this
      exact k.apart b m h0 hr
    | none =>
      obtain ⟨_, _, h3⟩ := s.new b m h0 hb
      rcases h3 with h3 | ⟨b0, m0, _, h4, h5⟩
      · omega
      · exact k.apart b0 m0 h4 (h5.trans hr)
theorem MarksOk.step {W0 : Nat} {μ μ' : Emb} {h h' : AHeap} {w w' : World} {ds : List Deferred} {rs : List Nat} (k : MarksOk W0 μ w ds rs) (s : Step E base B μ h w μ' h' w') : MarksOk W0 μ' w' ds rs := by
  induction k with
  | nil => exact .nil
  | cons h hn _ ih => exact .cons (h.step s) hn ih

/-- An object that is in nobody's place is turned. -/
theorem HRel.apart {μ : Emb} {h : AHeap} {w w' : World} (H : HRel E base B μ h w) {r : Nat} {o : Obj} (hu : Upd w r o w') (ha : ∀ b m, μ b = some m → m.r ≠ r) : HRel E base B μ h w' :=
  ⟨H.dom, H.high, fun b m hb => by
    obtain ⟨p, p', k1, k2, k3⟩ := H.obj b m hb
    exact ⟨p, p', k1, by rw [hu.get, if_neg (ha b m hb)]; exact k2, k3⟩, H.own, H.alias, H.fam, H.glob, by rw [hu.size]; exact H.low, H.bsz, H.wf⟩
theorem Step.apart {μ μ' : Emb} {h h' : AHeap} {w w1 w2 : World} (s : Step E base B μ h w μ' h' w1) {r : Nat} {o : Obj} (hu : Upd w1 r o w2) (ha : ∀ b m, μ' b = some m → m.r ≠ r) (hn : w.heap.size ≤ r) : Step E base B μ h w μ' h' w2 :=
  ⟨s.rel.apart hu ha, ⟨hu.tape.trans s.grow.tape, hu.os.trans s.grow.os, hu.output.trans s.grow.output, by rw [hu.size]; exact s.grow.size, fun k hk hh => by rw [hu.get, if_neg (by omega)]; exact s.grow.keep k hk hh⟩, s.le, s.new, s.unt, s.hsz⟩
/-- One object more of the world's own. -/
theorem HRel.alc {μ : Emb} {h : AHeap} {w w' : World} (H : HRel E base B μ h w) {o : Obj} (ha : Alc w o w') : HRel E base B μ h w' :=
  ⟨H.dom, H.high, fun b m hb => by
    obtain ⟨p, p', k1, k2, k3⟩ := H.obj b m hb
    have := H.lt hb
    exact ⟨p, p', k1, by rw [ha.get, if_neg (by omega)]; exact k2, k3⟩, H.own, H.alias, H.fam, H.glob, by rw [ha.size]; have := H.low; omega, H.bsz, H.wf⟩
theorem Step.alcW {μ : Emb} {h : AHeap} {w w' : World} (H : HRel E base B μ h w) {o : Obj} (ha : Alc w o w') : Step E base B μ h w μ h w' :=
  ⟨H.alc ha, ⟨ha.tape, ha.os, ha.output, by rw [ha.size]; omega, fun r hr _ => by rw [ha.get, if_neg (by omega)]⟩, μ.le_refl, fun b m h0 h1 => by simp [h0] at h1, fun _ _ _ => rfl, Nat.le_refl _⟩

/-- What a function hands back. -/
theorem results_sim (hE : EnvOk P E) {μ : Emb} {f : AF} {h : AHeap} {w : World} {tmps : Array Value} {fn : Func} {vs : List Value} (hf : FRel μ f tmps) (H : HRel E base B μ h w) (hr : aresults E h f fn.results.toList = some vs) :
    ∃ v', (results fn tmps).run P w = .ok v' w ∧ VRel μ (oneOrTuple vs) v' := by
  have key : ∀ (l : List ResultVar) (vs : List Value), aresults E h f l = some vs → ∃ vs', VRels μ vs vs' ∧ (l.mapM (m := Sem) fun
      | .tmp t => pure (tmps.getD t undef)
      | .cell a t => do loadVar t (← asAddr (tmps.getD a undef))).run P w = .ok vs' w := by
    intro l
    induction l with
    | nil => intro vs hv; simp only [aresults, Option.some.injEq] at hv; subst hv; exact ⟨[], .nil, by simp⟩
    | cons x l ih =>
      intro vs hv
      cases x with
      | tmp t =>
        simp only [aresults, Option.bind_eq_some_iff, Option.some.injEq] at hv
        obtain ⟨vs1, h1, rfl⟩ := hv
        obtain ⟨vs', r1, r2⟩ := ih vs1 h1
        exact ⟨tmps.getD t undef :: vs', .cons (hf.get t) r1, by simp only [List.mapM_cons, Sem.run_bind, Sem.run_pure, Result.andThen_ok, r2]⟩
      | cell a t =>
        simp only [aresults, Option.bind_eq_some_iff, Option.some.injEq] at hv
        obtain ⟨p, h1, ⟨ag, n⟩, h2, c, h3, v, h4, vs1, h5, rfl⟩ := hv
        have ha := hf.get a
        rw [asPtr_some h1] at ha
        obtain ⟨m, hb, ex⟩ := ha.inv_ptr
        obtain ⟨l', r1, r2⟩ := H.readL hb h3
        obtain ⟨v', q1, q2⟩ := fromCells_rel h4 r1
        have hl : l'.length = n := by rw [← r1.length]; exact (H.readCells hb h3).1
        obtain ⟨vs', s1, s2⟩ := ih vs1 h5
        refine ⟨v' :: vs', .cons q2 s1, ?_⟩
        have lv := run_loadVar (P := P) hE h2 hl r2 q1
        have hadr : (asAddr (tmps.getD a undef)).run P w = .ok ⟨m.r, m.s + p.2, none⟩ w := by rw [ex]; rfl
        rw [List.mapM_cons]
        simp only [Sem.run_bind, hadr, Sem.run_pure, Result.andThen_ok, lv]
        rw [s2]
        rfl
  obtain ⟨vs', r1, r2⟩ := key _ _ hr
  have hm : (fn.results.mapM (m := Sem) fun
      | .tmp t => pure (tmps.getD t undef)
      | .cell a t => do loadVar t (← asAddr (tmps.getD a undef))).run P w = .ok vs'.toArray w := by
    rw [Array.mapM_eq_mapM_toList]
    simp only [Sem.run_map, r2, Result.andThen_ok]
  have hres : (results fn tmps).run P w = .ok (if h : vs'.toArray.size = 1 then vs'.toArray[0] else .tuple vs'.toArray) w := by
    show Sem.run P (do
      let us ← fn.results.mapM (m := Sem) fun
        | .tmp t => pure (tmps.getD t undef)
        | .cell a t => do loadVar t (← asAddr (tmps.getD a undef))
      pure (if h : us.size = 1 then us[0] else .tuple us)) w = _
    rw [Sem.run_bind, hm]
    rfl
  refine ⟨_, hres, ?_⟩
  cases r1 with
  | nil => exact .tuple_of (by simpa using VRels.nil)
  | cons hv ht => cases ht with
    | nil => simpa [oneOrTuple] using hv
    | cons hv2 ht => simp only [oneOrTuple]; exact .tuple_of (by simpa using VRels.cons hv (.cons hv2 ht))

/-- The marks are struck as the function is left. -/
theorem leaves_marks {F : Fence} {n : Nat} {fn : Func} {tmps : Array Value} {R : Ending → World → Prop} {μ0 μ : Emb} {h0 h : AHeap} {w0 : World} : ∀ (ds : List Deferred) (rs : List Nat) (w : World), MarksOk w0.heap.size μ w ds rs → Step E base B μ0 h0 w0 μ h w →
    (∀ w', Step E base B μ0 h0 w0 μ h w' → ∃ v, (results fn tmps).run P w' = .ok v w' ∧ R (.returned v) w') → LeavesInM F n P fn tmps R ds .returning w
  | [], _, w, _, s, hR => hR w s
  | d :: ds, _, w, .cons (r := r) (rs := rs) hk hn ht, s, hR => by
    refine ⟨by simp, .inl ⟨r, { w with heap := w.heap.setIfInBounds r (.deferred none) }, hk.tg, ?_, ?_⟩⟩
    · unfold Instr.takeDeferred
      simp only [Sem.run_bind, run_getObj_map (P := P) hk.obj (fun _ _ _ => by simp), Result.andThen_ok, run_setObj' (P := P) hk.obj (fun _ _ _ => by simp), Sem.run_pure]
    · have hlt : r < w.heap.size := (Array.getElem?_eq_some_iff.1 hk.obj).1
      have hu := Upd.set w r (.deferred none) hlt
      refine leaves_marks ds rs _ ?_ (s.apart hu hk.apart hk.new) hR
      have : ∀ {ds : List Deferred} {rs : List Nat}, MarksOk w0.heap.size μ w ds rs → r ∉ rs → MarksOk w0.heap.size μ { w with heap := w.heap.setIfInBounds r (.deferred none) } ds rs := by
        intro ds rs k
        induction k with
        | nil => intro _; exact .nil
        | cons h1 h2 _ ih =>
          intro hnr
          simp only [List.mem_cons, not_or] at hnr
          exact .cons ⟨h1.tg, by rw [hu.get, if_neg (fun e => hnr.1 e.symm)]; exact h1.obj, h1.apart, h1.new⟩ h2 (ih hnr.2)
      exact this ht hn

/-- Regions that draw their order (MDraw). -/
def DrawSim (P : Program) (E : Env) (base B : Nat) : Prop :=
  ∀ (cf : CallF) (rf : RoundF), CallOk P E base B cf → RoundOk P E base B rf → CallFun E cf → RoundFun rf → ∀ (ops : Array Oper) (f : AF) (h : AHeap) (f' : AF) (h' : AHeap) (logs : List LogE),
    staticOk ops.toList = true → dstsIn f.n ops.toList = true → aopsL E base cf rf ops.toList ops.toList f h = some (f', h', logs) → allPass (befores ops.toList []) 0 logs = true →
    ∀ (μ : Emb) (a : Act) (w : World), FRel μ f a.tmps → HRel E base B μ h w → ∀ (F : Fence) (n id : Nat) (Q : Exit → Act → World → Prop), Wide F →
    (∀ μ' a' w', FRel μ' f' a'.tmps → a'.defers = a.defers → Step E base B μ h w μ' h' w' → Q .normal a' w') → (Code.region id ops true).wpIn F n P Q a w

/-- What code comes to, in both. -/
def CodeOk (P : Program) (E : Env) (base B k : Nat) : Prop :=
  ∀ (c : Code) (f : AF) (h : AHeap) (ex : Ex) (f' : AF) (h' : AHeap), aeval E base k c f h = some (ex, f', h') →
    ∀ (μ : Emb) (a : Act) (w : World) (W0 : Nat) (rs : List Nat), FRel μ f a.tmps → HRel E base B μ h w → MarksOk W0 μ w a.defers rs → W0 ≤ w.heap.size →
    ∀ (F : Fence) (n : Nat) (Q : Exit → Act → World → Prop), Wide F → (F.round = none ∨ noRange c = true) →
    (∀ μ' a' w' rs', FRel μ' f' a'.tmps → MarksOk W0 μ' w' a'.defers rs' → Step E base B μ h w μ' h' w' → Q (toExit ex) a' w') → c.wpIn F n P Q a w

theorem enterL_rel {μ : Emb} : ∀ {args args' : List Value} {i : Nat} {f : AF} {tmps : Array Value}, VRels μ args args' → FRel μ f tmps → FRel μ (AF.enterL args i f) ((args'.zipIdx i).foldl (fun t p => t.setIfInBounds p.2 p.1) tmps)
  | _, _, i, f, tmps, .nil, hf => by simpa [AF.enterL] using hf
  | _, _, i, f, tmps, .cons hv ht, hf => by
    simp only [AF.enterL, List.zipIdx_cons, List.foldl_cons]
    exact enterL_rel ht (hf.set hv i)

theorem enter_rel {μ : Emb} {args : List Value} {args' : Array Value} {n : Nat} (hr : VRels μ args args'.toList) (hn : args.length ≤ n) : FRel μ (AF.enter args n) (args' ++ Array.replicate (n - args'.size) undef) := by
  have hl : args.length = args'.size := by simpa using hr.length
  have h0 : FRel μ ⟨.nil, n⟩ (Array.replicate n undef) := by
    refine ⟨by simp, fun t => ?_⟩
    have : (AF.get ⟨.nil, n⟩ t) = undef := rfl
    rw [this]
    by_cases h : t < n <;> simp [h] <;> exact .undef μ
  have := enterL_rel (i := 0) hr h0
  have e : ((args'.toList.zipIdx 0).foldl (fun t p => t.setIfInBounds p.2 p.1) (Array.replicate n undef)) = args' ++ Array.replicate (n - args'.size) undef := by
    have zf := zipFold args'.toList 0 0 (Array.replicate n undef) (by simp; omega)
    simp only [Nat.zero_add] at zf
    apply Array.ext
    · rw [zf.1]; simp; omega
    · intro i h1 h2
      have := zf.2 i
      rw [Array.getElem?_eq_getElem h1] at this
      rw [← Option.some.injEq, this]
      by_cases hi : i < args'.size
      · rw [if_pos (by simp; exact hi)]
        simp [hi, Array.getElem_append]
      · rw [if_neg (by simp; omega)]
        have hin : i < n := by
          rw [zf.1] at h1; simpa using h1
        simp [hi, hin, Array.getElem_append]
  rw [← e]; exact this

theorem callFun (run : RunF) : CallFun E (acallB E run) := by
  intro g args h r hr
  unfold acallB at hr
  simp only [Option.bind_eq_some_iff] at hr
  obtain ⟨fn, h1, _⟩ := hr
  simp [h1]
theorem roundFun (run : RunF) : RoundFun (aroundB base run) := by
  intro l args h r hr
  unfold aroundB at hr
  simp only [grd_some] at hr
  obtain ⟨_, hr⟩ := hr
  split at hr
  · rename_i p f ps asg body hg
    simp only [grd_some, Bool.and_eq_true, beq_iff] at hr
    exact ⟨_, _, _, _, _, _, hg, hr.1.1.1⟩
  · cases hr

/-- The answers that are given at once are true. -/
def OrcOk (P : Program) (E : Env) (base B : Nat) : Prop := CallOk P E base B E.orc

theorem callOk (hE : EnvOk P E) (hO : OrcOk P E base B) {k : Nat} (hk : CodeOk P E base B k) : CallOk P E base B (acallB E (aeval E base k)) := by
  intro μ h w g args args' v h' hc hr H F n hF
  unfold acallB at hc
  simp only [Option.bind_eq_some_iff] at hc
  obtain ⟨fn, h1, hc⟩ := hc
  split at hc
  · rename_i r ho
    simp only [Option.some.injEq] at hc; subst hc
    exact hO μ h w g args args' v h' ho hr H F n hF
  · simp only [Option.bind_eq_some_iff, grd_some, ble_iff] at hc
    obtain ⟨c, h2, hn, hc⟩ := hc
    obtain ⟨f1, f2, f3⟩ := hE.func _ _ h1
    have body : ∀ ex f1' h1', aeval E base k c (AF.enter args fn.ntmps) h = some (ex, f1', h1') → (toExit ex = .normal ∨ toExit ex = .ret) → (aresults E h1' f1' fn.results.toList).bind (fun vs => some (oneOrTuple vs, h1')) = some (v, h') →
        CallsIn F.plain n P g args' w (RetPost E base B μ h w v h') := by
      intro ex fe he hrun hex hres
      simp only [Option.bind_eq_some_iff, Option.some.injEq, Prod.mk.injEq] at hres
      obtain ⟨vs, h3, rfl, rfl⟩ := hres
      refine callsIn_of_wp_marks f1 h2 (hF.fn _) ?_ rfl
      refine hk c _ h ex fe he hrun μ _ w w.heap.size [] (enter_rel hr hn) H .nil (Nat.le_refl _) F.plain n _ hF.plain (.inl rfl) ?_
      intro μ' a' w' rs' q1 q2 q3
      have lv : LeavesInM F.plain n P fn a'.tmps (RetPost E base B μ h w (oneOrTuple vs) he) a'.defers .returning w' :=
        leaves_marks a'.defers rs' w' q2 q3 fun w2 s2 => by
          obtain ⟨v', p1, p2⟩ := results_sim (P := P) hE q1 s2.rel h3
          exact ⟨v', p1, v', μ', rfl, p2, s2⟩
      rcases hex with e | e <;> rw [e] <;> exact lv
    have fin : CallsIn F.plain n P g args' w (RetPost E base B μ h w v h') := by
      split at hc
      · rename_i fe he hrun; exact body _ _ _ hrun (.inl rfl) hc
      · rename_i fe he hrun; exact body _ _ _ hrun (.inr rfl) hc
      · cases hc
    exact fin

end
end Go.M
