/-
  Part 2 of the library that the proof leans on.
-/
import Derived.RangeFuncLeaves
import Derived.LoopNIn
import Derived.RangeFuncCalls
import Derived.OrdersIn
import Derived.Carry
import Derived.OpenShut
import Derived.KernelRfl
import Derived.WalkKit
import Derived.ProofKit
import Derived.Test.YtdgpoonbgkapaaaL1
namespace Go.M
open Go
section
variable {P : Program} {E : Env} {μ : Emb} {f : AF} {a : Act} {base B : Nat} {h : AHeap} {w : World}
theorem bytes_of_beq {a b : ByteArray} (h : (a == b) = true) : a = b := by
 rw [beq_toListBytes, ByteArray.toList_eq, ByteArray.toList_eq] at h
 have := eq_of_beq h
 obtain ⟨⟨x⟩⟩ := a
 obtain ⟨⟨y⟩⟩ := b
 simp at this
 rw [this]
def ValOr (nx : Next) (v' : Value) : Prop := nx = .value v' ∨ (nx = .skip ∧ v' = undef)
def IterAt (E : Env) (base B : Nat) (μ : Emb) (h : AHeap) (w : World) : Prop := HRel E base B μ h w
set_option maxHeartbeats 1000000 in
set_option maxHeartbeats 1000000 in
theorem aeff_val (hE : EnvOk P E) (hf : FRel μ f a.tmps) (H : HRel E base B μ h w) {o : Oper} {v : Value} {h' : AHeap} (ha : aeff E base f o h = some (.val v, h')) :
 ∃ μ' nx v' w', (execOp a.eval o).run P w = .ok nx w' ∧ ValOr nx v' ∧ VRel μ' v v' ∧ Step E base B μ h w μ' h' w' := by
 have hg : GlobOk E μ := H.glob
 obtain ⟨dst, op, type, pos, after, guard⟩ := o
 cases op
 case store t x y =>
  simp only [aeff, Option.bind_eq_some_iff, grd_some, Bool.and_eq_true, beq_iff, Option.some.injEq, Prod.mk.injEq, ARes.val.injEq] at ha
  obtain ⟨av, h1, v1, h2, n, h3, p, h4, ⟨h5, hone⟩, cs, hrd, cs', hset, h6, hwr, rfl, rfl⟩ := ha
  have e := asPtr_some h4; subst e
  obtain ⟨m, hb, ex⟩ := (ev_rel hg hf h1).inv_ptr
  have hv := ev_rel hg hf h2
  obtain ⟨w', q1, q2⟩ := store_sim (P := P) H hb hrd hset hwr hv.cells hone
  refine ⟨μ, .skip, undef, w', ?_, .inr ⟨rfl, rfl⟩, .undef μ, q2⟩
  have hsz : (a.eval y).cells.size = n := by rw [← hv.cells_size]; exact h5
  simp only [execOp, Instr.storeAt, Sem.run_bind, ex, Instr.sureAddr, Sem.run_pure, Result.andThen_ok, storeVar, g_size hE h3 w]
  rw [if_neg (by simpa using hsz)]
  simp only [q1, Result.andThen_ok]
 case mapUpdate t mm kk x | insert t mm kk x =>
  simp only [aeff, Option.bind_eq_some_iff, Option.some.injEq, Prod.mk.injEq, ARes.val.injEq] at ha
  obtain ⟨mv, h1, k, h2, v1, h3, h4, h5, rfl, rfl⟩ := ha
  unfold amapUpdate at h5
  simp only [Option.bind_eq_some_iff] at h5
  obtain ⟨d, hd, h5⟩ := h5
  split at h5
  ·rename_i kt et r
   simp only [Option.bind_eq_some_iff, grd_some, Bool.and_eq_true, ble_iff] at h5
   obtain ⟨kd, hkd, ⟨⟨hbase, hst⟩, hks⟩, h5⟩ := h5
   split at h5
   ·rename_i es clock hgm
    obtain ⟨m, hb, ex⟩ := (ev_rel hg hf h1).inv_map
    have ek := (ev_rel hg hf h2).inv_scalar hks
    have hv := ev_rel hg hf h3
    obtain ⟨o1, o2, k1, k2, k3⟩ := H.obj r m hb
    rw [hgm] at k1; cases k1
    cases k3 with
    | map hs =>
     rename_i es'
     simp only [Option.bind_eq_some_iff] at h5
     obtain ⟨fr, hfr, h5⟩ := h5
     obtain ⟨fr', q1, q2, q3⟩ := findNow_rel hs hfr
     have hfk : (Instr.findKey kt k es'.toList).run P w = .ok fr' w := by
      simp only [Instr.findKey, Sem.run_bind, g_under hE hkd w, Result.andThen_ok, q1, Sem.run_pure]
     have hck := g_checkKey (P := P) hE hkd hst false 9999 k w
     have hgo := run_getObj_map (P := P) k2 (fun _ _ _ => by simp)
     have hso := fun o => run_setObj' (P := P) (o := o) k2 (fun _ _ _ => by simp)
     have hkr : VRel μ k k := .of_scalar μ hks
     cases fr with
     | none =>
      have e := q2 rfl; subst e
      simp only [Option.some.injEq] at h5
      subst h5
      have st := Step.put (o := .map (es ++ [{ key := k, val := v1, born := clock }]) (clock + 1)) H hb hbase hgm rfl rfl (Upd.set w m.r (.map (es'.push { key := k, val := a.eval x, born := clock }) (clock + 1)) (H.lt hb)) (.map (by
       simpa using hs.append (ERels.cons (e := { key := k, val := v1, born := clock }) (e' := { key := k, val := a.eval x, born := clock }) hkr hv rfl .nil)))
      refine ⟨μ, .skip, undef, _, ?_, .inr ⟨rfl, rfl⟩, .undef μ, st⟩
      simp only [execOp, Instr.mapUpdate, Sem.run_bind, g_under hE hd w, Result.andThen_ok, ex, ek, hgo, hck, hfk, hso]
      rfl
     | some jv =>
      obtain ⟨v', e, hr⟩ := q3 jv.1 jv.2 rfl
      subst e
      simp only [Option.some.injEq] at h5
      subst h5
      have hsb : Instr.sameBits 10000 (((es'[jv.1]?).map (·.key)).getD k) k = true := by
       have hh : ∀ {es : List MapEntry} {i j : Nat} {v : Value}, Instr.findNow kd k es i = some (some (j, v)) → ∃ e, es[j - i]? = some e ∧ e.key = k ∧ i ≤ j := by
        intro es
        induction es with
        | nil => intro i j v hq; simp [Instr.findNow] at hq
        | cons e0 es0 ih =>
         intro i j v hq
         simp only [Instr.findNow] at hq
         split at hq
         ·rename_i hsn
          simp only [Option.some.injEq, Prod.mk.injEq] at hq
          obtain ⟨rfl, _⟩ := hq
          refine ⟨e0, by simp, ?_, Nat.le_refl _⟩
          unfold Instr.sameNow at hsn
          split at hsn
          ·rename_i z1
           split at hsn
           ·rename_i z2; subst z2; simp only [Option.some.injEq, beq_iff_eq] at hsn; rw [z1, hsn]
           ·cases hsn
          ·rename_i z1; simp only [Option.some.injEq] at hsn; rw [z1, bytes_of_beq hsn]
          ·rename_i z1; simp only [Option.some.injEq, beq_iff_eq] at hsn; rw [z1, hsn]
          ·cases hsn
         ·obtain ⟨e1, p1, p2, p3⟩ := ih hq
          refine ⟨e1, ?_, p2, by omega⟩
          have : j - i = (j - (i + 1)) + 1 := by omega
          rw [this]; simpa using p1
         ·cases hq
       obtain ⟨e1, p1, p2, _⟩ := hh q1
       have p1' : es'[jv.1]? = some e1 := by simpa using p1
       rw [p1']
       simp only [Option.map_some, Option.getD_some, p2]
       cases k <;> simp [scalar] at hks <;> first | (simp [Instr.sameBits]; done) | (simp only [Instr.sameBits]; rw [beq_toListBytes]; simp)
      have st := Step.put (o := .map (es.modify jv.1 fun e => { e with key := k, val := v1 }) clock) H hb hbase hgm rfl rfl (Upd.set w m.r (.map (es'.modify jv.1 fun e => { e with key := k, val := a.eval x }) clock) (H.lt hb)) (.map (by
       have := hs.modify (g := fun e => { e with key := k, val := v1 }) (g' := fun e => { e with key := k, val := a.eval x }) (fun e e' _ _ hb => ⟨hkr, hv, hb⟩) jv.1
       simpa using this))
      refine ⟨μ, .skip, undef, _, ?_, .inr ⟨rfl, rfl⟩, .undef μ, st⟩
      simp only [execOp, Instr.mapUpdate, Sem.run_bind, g_under hE hd w, Result.andThen_ok, ex, ek, hgo, hck, hfk]
      unfold Instr.keyThatStays
      rw [hsb]
      simp only [if_true, Sem.run_bind, Sem.run_pure, Result.andThen_ok, hso]
   ·cases h5
  ·cases h5
 case range t x =>
  simp only [aeff, Option.bind_eq_some_iff] at ha
  obtain ⟨d, hd, v1, h1, ha⟩ := ha
  split at ha
  ·rename_i kt et r
   split at ha
   ·rename_i es clock hgm
    simp only [Option.some.injEq, Prod.mk.injEq, ARes.val.injEq] at ha
    obtain ⟨rfl, rfl⟩ := ha
    obtain ⟨m, hb, ex⟩ := (ev_rel hg hf h1).inv_map
    obtain ⟨o1, o2, k1, k2, k3⟩ := H.obj r m hb
    rw [hgm] at k1; cases k1
    cases k3 with
    | map hs =>
     have hgo := run_getObj_map (P := P) k2 (fun _ _ _ => by simp)
     have hle : μ.le (upd μ h.size ⟨w.heap.size, 0, 0⟩) := upd_le H.fresh
     have st := Step.alloc (o := .miter (some r) clock [] clock) H (Alc.mk' w (.mapIter (some m.r) clock #[] clock)) 0 (fun _ _ _ _ hh => by cases hh) (by
      have := ORel.miter (μ := upd μ h.size ⟨w.heap.size, 0, 0⟩) (h := h.push (.miter (some r) clock [] clock)) (base := base) (b := h.size) (m := ⟨w.heap.size, 0, 0⟩) (since := clock) (last := clock) (seen := []) (hle _ _ hb) rfl
      simpa using this)
     refine ⟨_, _, .pointer (some ⟨w.heap.size, 0, none⟩), _, ?_, .inl rfl, ?_, st⟩
     ·simp only [execOp, Instr.range, Sem.run_bind, g_under hE hd w, Result.andThen_ok, ex, hgo, Sem.run_pure, run_newObj]
     ·have := VRel.ptr (o := 0) (upd_self μ h.size ⟨w.heap.size, 0, 0⟩); simpa using this
   ·cases ha
  ·cases ha
 case convert sT d x =>
  simp only [aeff, Option.bind_eq_some_iff, Option.some.injEq, Prod.mk.injEq, ARes.val.injEq] at ha
  obtain ⟨v1, h1, ⟨v2, h2'⟩, h3, rfl, rfl⟩ := ha
  obtain ⟨μ', v', w', q1, q2, q3⟩ := conv_sim (P := P) hE H h3 (ev_rel hg hf h1)
  refine ⟨μ', .value v', v', w', ?_, .inl rfl, q2, q3⟩
  simp only [execOp, Sem.run_bind, q1, Result.andThen_ok, Sem.run_pure]
 case next it isStr =>
  simp only [aeff, Option.bind_eq_some_iff, Option.some.injEq, Prod.mk.injEq, ARes.val.injEq] at ha
  obtain ⟨v1, h1, r, h2, ⟨v2, h2'⟩, h3, rfl, rfl⟩ := ha
  have e := asIter_some h2; subst e
  obtain ⟨m, hb, ex⟩ := (ev_rel hg hf h1).inv_ptr
  have hms : m.s = 0 := by
   obtain ⟨o1, o2, k1, k2, k3⟩ := H.obj r m hb
   unfold anext at h3
   simp only [grd_some] at h3
   cases k3 with
   | siter hs => exact hs
   | miter0 hs => exact hs
   | miter _ hs => exact hs
   | _ => rw [k1] at h3; simp at h3
  obtain ⟨μ', v', w', q1, q2, q3⟩ := next_sim (P := P) H type h3 hb
  refine ⟨μ', .value v', v', w', ?_, .inl rfl, q2, q3⟩
  rw [hms] at ex
  simp only [execOp, Sem.run_bind, ex, q1, Result.andThen_ok, Sem.run_pure]
 case entry it =>
  simp only [aeff, Option.bind_eq_some_iff, Option.some.injEq, Prod.mk.injEq, ARes.val.injEq] at ha
  obtain ⟨v1, h1, r, h2, v2, h3, rfl, rfl⟩ := ha
  have e := asIter_some h2; subst e
  obtain ⟨m, hb, ex⟩ := (ev_rel hg hf h1).inv_ptr
  have hms : m.s = 0 := by
   obtain ⟨o1, o2, k1, k2, k3⟩ := H.obj r m hb
   unfold aentry at h3
   cases k3 with
   | siter hs => exact hs
   | miter0 hs => exact hs
   | miter _ hs => exact hs
   | _ => rw [k1] at h3; simp at h3
  obtain ⟨v', q1, q2⟩ := entry_sim (P := P) H h3 hb
  refine ⟨μ, .value v', v', w, ?_, .inl rfl, q1, .refl H⟩
  rw [hms] at ex
  simp only [execOp, Sem.run_bind, ex, q2, Result.andThen_ok, Sem.run_pure]
 case call c =>
  simp only [aeff, Option.bind_eq_some_iff] at ha
  obtain ⟨args, h1, ha⟩ := ha
  have hr := evs_rel hg hf h1
  split at ha
  ·rename_i b hcal
   simp only [Option.bind_eq_some_iff, Option.some.injEq, Prod.mk.injEq, ARes.val.injEq] at ha
   obtain ⟨⟨v1, h1'⟩, h2, rfl, rfl⟩ := ha
   obtain ⟨s, ⟨μ', v', w', q1, q2, q3⟩, hs⟩ := builtE_sim hE H (ts := c.argTypes) (args' := c.args.map a.eval) type h2 (by simpa using hr)
   refine ⟨μ', .value v', v', w', ?_, .inl rfl, q2, q3⟩
   simp only [execOp, resolve, hcal, Sem.run_bind, Sem.run_pure, Result.andThen_ok, invoke]
   rw [hs _]
   simp only [Sem.run_bind, q1, Result.andThen_ok, Sem.run_pure]
  ·simp only [Option.bind_eq_some_iff] at ha
   obtain ⟨g, _, ha⟩ := ha
   split at ha <;> simp at ha
  ·cases ha
 all_goals (simp only [aeff] at ha; cases ha)
theorem aeff_enter (hE : EnvOk P E) (hf : FRel μ f a.tmps) (H : HRel E base B μ h w) {o : Oper} {g : FuncId} {args : List Value} {h' : AHeap} (ha : aeff E base f o h = some (.enter g args, h')) (hfun : (E.func g).isSome = true) :
 ∃ args' : Array Value, h' = h ∧ VRels μ args args'.toList ∧ (execOp a.eval o).run P w = .ok (.enter g args') w := by
 have hg : GlobOk E μ := H.glob
 obtain ⟨dst, op, type, pos, after, guard⟩ := o
 cases op
 case call c =>
  simp only [aeff, Option.bind_eq_some_iff] at ha
  obtain ⟨asv, h1, ha⟩ := ha
  have hr := evs_rel hg hf h1
  split at ha
  ·simp only [Option.bind_eq_some_iff, Option.some.injEq, Prod.mk.injEq] at ha
   obtain ⟨_, _, h2, _⟩ := ha; cases h2
  ·rename_i gx hcal
   simp only [Option.bind_eq_some_iff] at ha
   obtain ⟨gv, h2, ha⟩ := ha
   split at ha
   ·rename_i gid first captured
    simp only [Option.some.injEq, Prod.mk.injEq, ARes.enter.injEq] at ha
    obtain ⟨⟨rfl, rfl⟩, rfl⟩ := ha
    have hgr := ev_rel hg hf h2
    generalize hq : a.eval gx = q at hgr
    cases hgr with
    | lit hh => simp [plain1] at hh
    | func q1 q2 q3 q4 =>
     rename_i first' captured'
     refine ⟨first' ++ c.args.map a.eval ++ captured', rfl, ?_, ?_⟩
     ·simp only [Array.toList_append, Array.toList_map]
      exact ((VRels.of_arr q1 q2).append hr).append (VRels.of_arr q3 q4)
     ·obtain ⟨fn, hfn⟩ := Option.isSome_iff_exists.1 hfun
      obtain ⟨f1, f2, f3⟩ := hE.func _ _ hfn
      have hb : fn.body.isNone = false := by cases hx : fn.body <;> simp_all
      simp only [execOp, resolve, hcal, Sem.run_bind, Sem.run_pure, Result.andThen_ok, hq, Deferred.ofValue, invoke, callFunc, run_program, f1, f3, hb, Bool.false_eq_true, if_false]
   ·simp at ha
   ·cases ha
  ·cases ha
 all_goals (simp only [aeff] at ha; first | cases ha | (simp only [Option.bind_eq_some_iff, Option.some.injEq, Prod.mk.injEq, grd_some, reduceCtorEq, false_and, and_false, exists_false] at ha) | skip)
 case range t x =>
  obtain ⟨_, _, _, _, ha⟩ := ha
  split at ha
  ·split at ha <;> simp at ha
  ·cases ha
theorem aeff_round (hf : FRel μ f a.tmps) (H : HRel E base B μ h w) {o : Oper} {l : Nat} {args : List Value} {h' : AHeap} (ha : aeff E base f o h = some (.round l args, h')) {st : LoopState} {p : Option Code} {f0 : AF} {ps : List Tmp} {asg body : Code}
 (hl : h.get l = some (.loop st p f0 ps asg body)) (hlen : ps.length = args.length) :
 ∃ (m : MT) (args' : List Value) (lo : Loop), h' = h ∧ μ l = some m ∧ w.heap[m.r]? = some (.loop lo) ∧ VRels μ args args' ∧
  (execOp a.eval o).run P w = .ok (.round m.r lo.fn ((ps.zip args').foldl (fun tmps (t, a) => tmps.setIfInBounds t a) lo.tmps) asg body) w ∧ FRel μ f0 lo.tmps := by
 have hg : GlobOk E μ := H.glob
 obtain ⟨dst, op, type, pos, after, guard⟩ := o
 cases op
 case call c =>
  simp only [aeff, Option.bind_eq_some_iff] at ha
  obtain ⟨asv, h1, ha⟩ := ha
  have hr := evs_rel hg hf h1
  split at ha
  ·simp only [Option.bind_eq_some_iff, Option.some.injEq, Prod.mk.injEq] at ha
   obtain ⟨_, _, h2, _⟩ := ha; cases h2
  ·rename_i gx hcal
   simp only [Option.bind_eq_some_iff] at ha
   obtain ⟨gv, h2, ha⟩ := ha
   split at ha
   ·simp at ha
   ·rename_i l0 first captured
    simp only [Option.some.injEq, Prod.mk.injEq, ARes.round.injEq] at ha
    obtain ⟨⟨rfl, rfl⟩, rfl⟩ := ha
    have hgr := ev_rel hg hf h2
    generalize hq : a.eval gx = q at hgr
    cases hgr with
    | lit hh => simp [plain1] at hh
    | yield hb =>
     rename_i m
     obtain ⟨o1, o2, k1, k2, k3⟩ := H.obj l0 m hb
     rw [hl] at k1; cases k1
     cases k3 with
     | loop hfr =>
      rename_i fn tmps d
      have hgo := run_getObj_map (P := P) k2 (fun _ _ _ => by simp)
      refine ⟨m, c.args.toList.map a.eval, _, rfl, hb, k2, by simpa using hr, ?_, hfr⟩
      have hl2 := hr.length
      have hsz : (c.args.map a.eval).size = ps.toArray.size := by
       simp at hlen hl2 ⊢; omega
      simp only [execOp, resolve, hcal, Sem.run_bind, Sem.run_pure, Result.andThen_ok, hq, Deferred.ofValue, invoke, Instr.yield, Instr.getLoop, hgo]
      rw [if_neg (by simpa using hsz)]
      have ez : (ps.toArray.zip (#[] ++ c.args.map a.eval)) = (ps.zip (c.args.toList.map a.eval)).toArray := by
       apply Array.ext'; simp
      simp only [ez, Sem.run_pure, List.foldl_toArray]
   ·cases ha
  ·cases ha
 all_goals (simp only [aeff] at ha; first | cases ha | (simp only [Option.bind_eq_some_iff, Option.some.injEq, Prod.mk.injEq, grd_some, reduceCtorEq, false_and, and_false, exists_false] at ha) | skip)
 case range t x =>
  obtain ⟨_, _, _, _, ha⟩ := ha
  split at ha
  ·split at ha <;> simp at ha
  ·cases ha
end
end Go.M
namespace Go.M
open Go
structure Wide (F : Fence) : Prop where
 fn : ∀ f, F.fn f
 depth : F.depth = none
 dead : F.alive = false
theorem Wide.inRound {F : Fence} (h : Wide F) (l : Nat) : Wide (F.inRound l) := ⟨h.fn, h.depth, h.dead⟩
theorem Wide.plain {F : Fence} (h : Wide F) : Wide F.plain := ⟨h.fn, h.depth, h.dead⟩
theorem Wide.wide : Wide Fence.wide := ⟨fun _ => trivial, rfl, rfl⟩
theorem Wide.ok {F : Fence} (h : Wide F) (n : Nat) : F.depth.isSome = true → 1 ≤ n := by rw [h.depth]; intro h; simp at h
def RetPost (E : Env) (base B : Nat) (μ : Emb) (h : AHeap) (w : World) (v : Value) (h' : AHeap) : Ending → World → Prop :=
 fun e w' => ∃ v' μ', e = .returned v' ∧ VRel μ' v v' ∧ Step E base B μ h w μ' h' w'
def CallOk (P : Program) (E : Env) (base B : Nat) (cf : CallF) : Prop :=
 ∀ (μ : Emb) (h : AHeap) (w : World) (g : FuncId) (args : List Value) (args' : Array Value) (v : Value) (h' : AHeap), cf g args h = some (v, h') → VRels μ args args'.toList → HRel E base B μ h w →
  ∀ (F : Fence) (n : Nat), Wide F → CallsIn F n P g args' w (RetPost E base B μ h w v h')
def RoundOk (P : Program) (E : Env) (base B : Nat) (rf : RoundF) : Prop :=
 ∀ (μ : Emb) (h : AHeap) (w : World) (l : Nat) (args : List Value) (v : Value) (h' : AHeap) (m : MT) (f0 : AF) (ps : List Tmp) (asg body : Code) (st : LoopState) (p : Option Code) (fn : FuncId) (tmps : Array Value),
  rf l args h = some (v, h') → h.get l = some (.loop st p f0 ps asg body) → μ l = some m → HRel E base B μ h w → FRel μ (AF.setAll (ps.zip args) f0) tmps →
  ∀ (F : Fence) (n : Nat), Wide F → RoundIn F n P m.r fn tmps asg body w (RetPost E base B μ h w v h')
def CallFun (E : Env) (cf : CallF) : Prop := ∀ g args h r, cf g args h = some r → (E.func g).isSome = true
def RoundFun (rf : RoundF) : Prop := ∀ l args h r, rf l args h = some r → ∃ st p f0 ps asg body, h.get l = some (.loop st p f0 ps asg body) ∧ ps.length = args.length
section
variable {P : Program} {E : Env} {μ : Emb} {f : AF} {a : Act} {base B : Nat} {h : AHeap} {w : World} {cf : CallF} {rf : RoundF}
theorem setAll_rel {μ : Emb} : ∀ {ps : List Tmp} {args args' : List Value} {f : AF} {tmps : Array Value}, FRel μ f tmps → VRels μ args args' → FRel μ (AF.setAll (ps.zip args) f) ((ps.zip args').foldl (fun tmps (t, a) => tmps.setIfInBounds t a) tmps)
 | [], args, args', f, tmps, hf, _ => by simpa [AF.setAll] using hf
 | p :: ps, _, _, f, tmps, hf, .nil => by simpa [AF.setAll] using hf
 | p :: ps, _, _, f, tmps, hf, .cons hv ht => by
  simp only [List.zip_cons_cons, AF.setAll, List.foldl_cons]
  exact setAll_rel (hf.set hv p) ht
theorem noDefer {o : Oper} {r : OpR} (h : runOp E base cf rf o f h = some r) : ∀ c, o.op ≠ .defer c := by
 intro c hc
 unfold runOp at h
 simp only [apure, aread, aalloc, aeff, hc] at h
 cases h
theorem op_sim (hE : EnvOk P E) (hcf : CallOk P E base B cf) (hrf : RoundOk P E base B rf) (hcF : CallFun E cf) (hrF : RoundFun rf) {F : Fence} (hF : Wide F) {n : Nat} (hf : FRel μ f a.tmps) (H : HRel E base B μ h w) {o : Oper} {r : OpR} (hr : runOp E base cf rf o f h = some r)
 {next : Act → World → Prop} {Q : Exit → Act → World → Prop} (hn : ∀ μ' v' w', VRel μ' r.v v' → Step E base B μ h w μ' r.h w' → next (a.put o.dst v') w') : o.wpIn F n P a w next Q := by
 have hg : GlobOk E μ := H.glob
 refine ⟨fun _ _ => hF.fn _, ?_⟩
 rw [Oper.semAt_eq _ _ _ (noDefer hr)]
 unfold runOp at hr
 split at hr
 ·rename_i v hp
  simp only [Option.some.injEq] at hr; subst hr
  obtain ⟨v', q1, q2⟩ := apure_sim hE hg hf hp
  rw [q2 w]
  exact hn μ v' w q1 (.refl H)
 ·split at hr
  ·rename_i q hq
   simp only [Option.bind_eq_some_iff, Option.some.injEq] at hr
   obtain ⟨v, hv, rfl⟩ := hr
   obtain ⟨v', q1, q2⟩ := aread_sim hE hf H hq hv
   rw [q2]
   exact hn μ v' w q1 (.refl H)
  ·split at hr
   ·rename_i md hd hal
    simp only [Option.some.injEq] at hr; subst hr
    obtain ⟨o', k, hv, S⟩ := aalloc_sim hE hg hf hal
    rw [S.run w]
    have st := Step.alloc (o := md.obj h.size) H (Alc.mk' w o') k (fun cs f tip thr hh => by cases md <;> simp [Made.obj] at hh; exact ⟨hh.2.1.symm, hh.2.2.1.symm⟩) (S.obj _ _ _ _ _ (upd_le H.fresh))
    exact hn _ _ _ (S.val _ _ _ (upd_self _ _ _)) st
   ·split at hr
    ·rename_i v h' he
     simp only [Option.some.injEq] at hr; subst hr
     obtain ⟨μ', nx, v', w', q1, q2, q3, q4⟩ := aeff_val hE hf H he
     rw [q1]
     rcases q2 with rfl | ⟨rfl, rfl⟩
     ·exact hn μ' v' w' q3 q4
     ·exact hn μ' undef w' q3 q4
    ·rename_i g args h' he
     simp only [Option.bind_eq_some_iff, Option.some.injEq] at hr
     obtain ⟨⟨v, h2⟩, hc, rfl⟩ := hr
     have hfun := hcF _ _ _ _ hc
     obtain ⟨args', e, q1, q2⟩ := aeff_enter hE hf H he hfun
     subst e
     rw [q2]
     refine ⟨hF.ok n, (hcf μ h' w g args args' v h2 hc q1 H F (n - 1) hF).mono ?_⟩
     rintro e w' ⟨v', μ', rfl, k1, k2⟩
     exact hn μ' v' w' k1 k2
    ·rename_i l args h' he
     simp only [Option.bind_eq_some_iff, Option.some.injEq] at hr
     obtain ⟨⟨v, h2⟩, hc, rfl⟩ := hr
     obtain ⟨st, p, f0, ps, asg, body, hl, hlen⟩ := hrF _ _ _ _ hc
     have hh : h' = h := by
      obtain ⟨dst, op, type, pos, after, guard⟩ := o
      cases op <;> simp only [aeff] at he <;> first | cases he | skip
      all_goals simp only [Option.bind_eq_some_iff, Option.some.injEq, Prod.mk.injEq, grd_some, reduceCtorEq, false_and, and_false, exists_false] at he
      ·obtain ⟨_, _, _, _, he⟩ := he
       split at he
       ·split at he <;> simp at he
       ·cases he
      ·obtain ⟨_, _, he⟩ := he
       split at he
       ·first | (simp at he; done) | (obtain ⟨_, _, he⟩ := he; simp at he; done) | (simp only [Option.bind_eq_some_iff] at he; obtain ⟨_, _, he⟩ := he; cases he)
       ·try simp only [Option.bind_eq_some_iff] at he
        obtain ⟨_, _, he⟩ := he
        split at he
        ·simp at he
        ·simp only [Option.some.injEq, Prod.mk.injEq] at he; exact he.2.symm
        ·cases he
       ·cases he
     subst hh
     obtain ⟨m, args', lo, _, hb, hw, q1, q2, q3⟩ := aeff_round (P := P) hf H he hl hlen
     rw [q2]
     refine ⟨hF.ok n, (hrf μ h' w l args v h2 m f0 ps asg body st p lo.fn _ hc hl hb H (setAll_rel q3 q1) F (n - 1) hF).mono ?_⟩
     rintro e w' ⟨v', μ', rfl, k1, k2⟩
     exact hn μ' v' w' k1 k2
    ·cases hr
theorem wanted_rel {ops : Array Oper} (hf : FRel μ f a.tmps) (o : Oper) : Region.wanted o (yielded ops a.tmps) = wanted ops.toList o f := by
 unfold Region.wanted wanted
 cases hgd : o.guard with
 | none => rfl
 | some jw =>
  obtain ⟨j, want⟩ := jw
  simp only
  unfold yielded
  have e : ops.toList[j]? = ops[j]? := by simp
  rw [e]
  cases ht : (ops[j]?).bind (·.dst) with
  | none => simp
  | some t =>
   simp only [Option.bind_some]
   have hv := hf.get t
   by_cases hlt : t < a.tmps.size
   ·have e2 : a.tmps.getD t undef = a.tmps[t] := by simp [hlt]
    rw [e2] at hv
    rw [Array.getElem?_eq_getElem hlt]
    generalize a.tmps[t] = u at hv
    generalize f.get t = c at hv
    cases hv with
    | lit hh => cases u <;> simp
    | opq hh => rcases hh with rfl | ⟨_, _, rfl⟩ <;> rfl
    | _ => rfl
   ·have e2 : a.tmps.getD t undef = undef := by simp [hlt]
    rw [e2] at hv
    have e3 : a.tmps[t]? = none := Array.getElem?_eq_none (Nat.le_of_not_lt hlt)
    rw [e3]
    generalize f.get t = c at hv
    unfold undef at hv
    cases hv with
    | lit hh => simp [plain1] at hh
    | opq hh => rcases hh with hh | ⟨_, _, hh⟩ <;> cases hh
    | tuple _ _ => rfl
theorem ops_sim (hE : EnvOk P E) (hcf : CallOk P E base B cf) (hrf : RoundOk P E base B rf) (hcF : CallFun E cf) (hrF : RoundFun rf) {F : Fence} (hF : Wide F) {n : Nat} {ops : Array Oper} {Q : Exit → Act → World → Prop} : ∀ (rest : List Oper) (k : Nat) (μ : Emb) (f : AF) (h : AHeap) (a : Act) (w : World) (f' : AF) (h' : AHeap),
 (∀ j, rest[j]? = ops[k + j]?) → aops E base cf rf ops.toList rest f h = some (f', h') → FRel μ f a.tmps → HRel E base B μ h w →
 (∀ μ' a' w', FRel μ' f' a'.tmps → a'.defers = a.defers → Step E base B μ h w μ' h' w' → Q .normal a' w') → wpOpsIn F n P ops Q (List.range' k rest.length) a w
 | [], k, μ, f, h, a, w, f', h', _, ha, hf, H, hQ => by
  simp only [aops, Option.some.injEq, Prod.mk.injEq] at ha
  obtain ⟨rfl, rfl⟩ := ha
  exact hQ μ a w hf rfl (.refl H)
 | o :: rest, k, μ, f, h, a, w, f', h', hk, ha, hf, H, hQ => by
  have h0 : ops[k]? = some o := by simpa using (hk 0).symm
  have hk' : ∀ j, rest[j]? = ops[k + 1 + j]? := fun j => by have := hk (j + 1); simpa [Nat.add_assoc, Nat.add_comm 1 j] using this
  simp only [List.length_cons, List.range'_succ, wpOpsIn, h0, wanted_rel hf]
  simp only [aops] at ha
  split at ha
  ·rename_i hw
   rw [if_pos hw]
   simp only [Option.bind_eq_some_iff] at ha
   obtain ⟨r, hr, ha⟩ := ha
   refine op_sim hE hcf hrf hcF hrF hF hf H hr fun μ' v' w' q1 q2 => ?_
   refine ops_sim hE hcf hrf hcF hrF hF rest (k + 1) μ' (f.put o.dst r.v) r.h _ w' f' h' hk' ha ((hf.mono q2.le).put q1 o.dst) q2.rel fun μ2 a2 w2 p1 p2 p3 => ?_
   exact hQ μ2 a2 w2 p1 (by rw [p2]; cases o.dst <;> rfl) (q2.trans p3)
  ·rename_i hw
   rw [if_neg (by rw [hw]; simp)]
   refine ⟨fun _ _ => hF.fn _, ?_⟩
   refine ops_sim hE hcf hrf hcF hrF hF rest (k + 1) μ (f.put o.dst undef) h _ w f' h' hk' ha (hf.put (.undef μ) o.dst) H fun μ2 a2 w2 p1 p2 p3 => ?_
   exact hQ μ2 a2 w2 p1 (by rw [p2]; cases o.dst <;> rfl) p3
end
end Go.M
namespace Go.M
open Go
def toExit : Ex → Exit
 | .normal => .normal
 | .exit id => .exit id
 | .ret => .ret
structure MarkOk (W0 : Nat) (μ : Emb) (w : World) (d : Deferred) (r : Nat) : Prop where
 tg : d.target = .collected r
 obj : w.heap[r]? = some (.deferred (some []))
 apart : ∀ b m, μ b = some m → m.r ≠ r
 new : W0 ≤ r
inductive MarksOk (W0 : Nat) (μ : Emb) (w : World) : List Deferred → List Nat → Prop
 | nil : MarksOk W0 μ w [] []
 | cons {d : Deferred} {r : Nat} {ds : List Deferred} {rs : List Nat} (h : MarkOk W0 μ w d r) (hn : r ∉ rs) (t : MarksOk W0 μ w ds rs) : MarksOk W0 μ w (d :: ds) (r :: rs)
section
variable {P : Program} {E : Env} {base B : Nat}
theorem MarkOk.step {W0 : Nat} {μ μ' : Emb} {h h' : AHeap} {w w' : World} {d : Deferred} {r : Nat} (k : MarkOk W0 μ w d r) (s : Step E base B μ h w μ' h' w') : MarkOk W0 μ' w' d r := by
 have hlt : r < w.heap.size := (Array.getElem?_eq_some_iff.1 k.obj).1
 refine ⟨k.tg, ?_, ?_, k.new⟩
 ·rw [s.grow.keep r hlt (fun b m hb hr => absurd hr (k.apart b m hb))]; exact k.obj
 ·intro b m hb hr
  cases h0 : μ b with
  | some m0 =>
   have := s.le b m0 h0
   rw [hb] at this; cases this
   exact k.apart b m h0 hr
  | none =>
   obtain ⟨_, _, h3⟩ := s.new b m h0 hb
   rcases h3 with h3 | ⟨b0, m0, _, h4, h5⟩
   ·omega
   ·exact k.apart b0 m0 h4 (h5.trans hr)
theorem MarksOk.step {W0 : Nat} {μ μ' : Emb} {h h' : AHeap} {w w' : World} {ds : List Deferred} {rs : List Nat} (k : MarksOk W0 μ w ds rs) (s : Step E base B μ h w μ' h' w') : MarksOk W0 μ' w' ds rs := by
 induction k with
 | nil => exact .nil
 | cons h hn _ ih => exact .cons (h.step s) hn ih
theorem HRel.apart {μ : Emb} {h : AHeap} {w w' : World} (H : HRel E base B μ h w) {r : Nat} {o : Obj} (hu : Upd w r o w') (ha : ∀ b m, μ b = some m → m.r ≠ r) : HRel E base B μ h w' :=
 ⟨H.dom, H.high, fun b m hb => by
  obtain ⟨p, p', k1, k2, k3⟩ := H.obj b m hb
  exact ⟨p, p', k1, by rw [hu.get, if_neg (ha b m hb)]; exact k2, k3⟩, H.own, H.alias, H.fam, H.glob, by rw [hu.size]; exact H.low, H.bsz, H.wf, H.root⟩
theorem Step.apart {μ μ' : Emb} {h h' : AHeap} {w w1 w2 : World} (s : Step E base B μ h w μ' h' w1) {r : Nat} {o : Obj} (hu : Upd w1 r o w2) (ha : ∀ b m, μ' b = some m → m.r ≠ r) (hn : w.heap.size ≤ r) : Step E base B μ h w μ' h' w2 :=
 ⟨s.rel.apart hu ha, ⟨hu.tape.trans s.grow.tape, hu.os.trans s.grow.os, hu.output.trans s.grow.output, by rw [hu.size]; exact s.grow.size, fun k hk hh => by rw [hu.get, if_neg (by omega)]; exact s.grow.keep k hk hh⟩, s.le, s.new, s.unt, s.hsz⟩
theorem HRel.alc {μ : Emb} {h : AHeap} {w w' : World} (H : HRel E base B μ h w) {o : Obj} (ha : Alc w o w') : HRel E base B μ h w' :=
 ⟨H.dom, H.high, fun b m hb => by
  obtain ⟨p, p', k1, k2, k3⟩ := H.obj b m hb
  have := H.lt hb
  exact ⟨p, p', k1, by rw [ha.get, if_neg (by omega)]; exact k2, k3⟩, H.own, H.alias, H.fam, H.glob, by rw [ha.size]; have := H.low; omega, H.bsz, H.wf, H.root⟩
theorem Step.alcW {μ : Emb} {h : AHeap} {w w' : World} (H : HRel E base B μ h w) {o : Obj} (ha : Alc w o w') : Step E base B μ h w μ h w' :=
 ⟨H.alc ha, ⟨ha.tape, ha.os, ha.output, by rw [ha.size]; omega, fun r hr _ => by rw [ha.get, if_neg (by omega)]⟩, μ.le_refl, fun b m h0 h1 => by simp [h0] at h1, fun _ _ _ => rfl, Nat.le_refl _⟩
theorem results_sim (hE : EnvOk P E) {μ : Emb} {f : AF} {h : AHeap} {w : World} {tmps : Array Value} {fn : Func} {vs : List Value} (hf : FRel μ f tmps) (H : HRel E base B μ h w) (hr : aresults E h f fn.results.toList = some vs) :
 ∃ v', (results fn tmps).run P w = .ok v' w ∧ VRel μ (oneOrTuple vs) v' := by
 have key : ∀ (l : List ResultVar) (vs : List Value), aresults E h f l = some vs → ∃ vs', VRels μ vs vs' ∧ (l.mapM (m := Sem) fun
  | .tmp t => pure (tmps.getD t undef)
  | .cell a t => do loadVar t (← asAddr (tmps.getD a undef))).run P w = .ok vs' w := by
  intro l
  induction l with
  | nil => intro vs hv; simp only [aresults, Option.some.injEq] at hv; subst hv; exact ⟨[], .nil, by simp⟩
  | cons x l ih =>
   intro vs hv
   cases x with
   | tmp t =>
    simp only [aresults, Option.bind_eq_some_iff, Option.some.injEq] at hv
    obtain ⟨vs1, h1, rfl⟩ := hv
    obtain ⟨vs', r1, r2⟩ := ih vs1 h1
    exact ⟨tmps.getD t undef :: vs', .cons (hf.get t) r1, by simp only [List.mapM_cons, Sem.run_bind, Sem.run_pure, Result.andThen_ok, r2]⟩
   | cell a t =>
    simp only [aresults, Option.bind_eq_some_iff, Option.some.injEq] at hv
    obtain ⟨p, h1, ⟨ag, n⟩, h2, c, h3, v, h4, vs1, h5, rfl⟩ := hv
    have ha := hf.get a
    rw [asPtr_some h1] at ha
    obtain ⟨m, hb, ex⟩ := ha.inv_ptr
    obtain ⟨l', r1, r2⟩ := H.readL hb h3
    obtain ⟨v', q1, q2⟩ := fromCells_rel h4 r1
    have hl : l'.length = n := by rw [← r1.length]; exact (H.readCells hb h3).1
    obtain ⟨vs', s1, s2⟩ := ih vs1 h5
    refine ⟨v' :: vs', .cons q2 s1, ?_⟩
    have lv := run_loadVar (P := P) hE h2 hl r2 q1
    have hadr : (asAddr (tmps.getD a undef)).run P w = .ok ⟨m.r, m.s + p.2, none⟩ w := by rw [ex]; rfl
    rw [List.mapM_cons]
    simp only [Sem.run_bind, hadr, Sem.run_pure, Result.andThen_ok, lv]
    rw [s2]
    rfl
 obtain ⟨vs', r1, r2⟩ := key _ _ hr
 have hm : (fn.results.mapM (m := Sem) fun
  | .tmp t => pure (tmps.getD t undef)
  | .cell a t => do loadVar t (← asAddr (tmps.getD a undef))).run P w = .ok vs'.toArray w := by
  rw [Array.mapM_eq_mapM_toList]
  simp only [Sem.run_map, r2, Result.andThen_ok]
 have hres : (results fn tmps).run P w = .ok (if h : vs'.toArray.size = 1 then vs'.toArray[0] else .tuple vs'.toArray) w := by
  show Sem.run P (do
   let us ← fn.results.mapM (m := Sem) fun
    | .tmp t => pure (tmps.getD t undef)
    | .cell a t => do loadVar t (← asAddr (tmps.getD a undef))
   pure (if h : us.size = 1 then us[0] else .tuple us)) w = _
  rw [Sem.run_bind, hm]
  rfl
 refine ⟨_, hres, ?_⟩
 cases r1 with
 | nil => exact .tuple_of (by simpa using VRels.nil)
 | cons hv ht => cases ht with
  | nil => simpa [oneOrTuple] using hv
  | cons hv2 ht => simp only [oneOrTuple]; exact .tuple_of (by simpa using VRels.cons hv (.cons hv2 ht))
theorem leaves_marks {F : Fence} {n : Nat} {fn : Func} {tmps : Array Value} {R : Ending → World → Prop} {μ0 μ : Emb} {h0 h : AHeap} {w0 : World} : ∀ (ds : List Deferred) (rs : List Nat) (w : World), MarksOk w0.heap.size μ w ds rs → Step E base B μ0 h0 w0 μ h w →
 (∀ w', Step E base B μ0 h0 w0 μ h w' → ∃ v, (results fn tmps).run P w' = .ok v w' ∧ R (.returned v) w') → LeavesInM F n P fn tmps R ds .returning w
 | [], _, w, _, s, hR => hR w s
 | d :: ds, _, w, .cons (r := r) (rs := rs) hk hn ht, s, hR => by
  refine ⟨by simp, .inl ⟨r, { w with heap := w.heap.setIfInBounds r (.deferred none) }, hk.tg, ?_, ?_⟩⟩
  ·unfold Instr.takeDeferred
   simp only [Sem.run_bind, run_getObj_map (P := P) hk.obj (fun _ _ _ => by simp), Result.andThen_ok, run_setObj' (P := P) hk.obj (fun _ _ _ => by simp), Sem.run_pure]
  ·have hlt : r < w.heap.size := (Array.getElem?_eq_some_iff.1 hk.obj).1
   have hu := Upd.set w r (.deferred none) hlt
   refine leaves_marks ds rs _ ?_ (s.apart hu hk.apart hk.new) hR
   have : ∀ {ds : List Deferred} {rs : List Nat}, MarksOk w0.heap.size μ w ds rs → r ∉ rs → MarksOk w0.heap.size μ { w with heap := w.heap.setIfInBounds r (.deferred none) } ds rs := by
    intro ds rs k
    induction k with
    | nil => intro _; exact .nil
    | cons h1 h2 _ ih =>
     intro hnr
     simp only [List.mem_cons, not_or] at hnr
     exact .cons ⟨h1.tg, by rw [hu.get, if_neg (fun e => hnr.1 e.symm)]; exact h1.obj, h1.apart, h1.new⟩ h2 (ih hnr.2)
   exact this ht hn
def DrawSim (P : Program) (E : Env) (base B : Nat) : Prop :=
 ∀ (cf : CallF) (rf : RoundF), CallOk P E base B cf → RoundOk P E base B rf → CallFun E cf → RoundFun rf → ∀ (ops : Array Oper) (f : AF) (h : AHeap) (f' : AF) (h' : AHeap) (logs : List LogE),
  staticOk ops.toList = true → dstsIn f.n ops.toList = true → aopsL E base cf rf ops.toList ops.toList f h = some (f', h', logs) → allPass (befores ops.toList []) 0 logs = true →
  ∀ (μ : Emb) (a : Act) (w : World), FRel μ f a.tmps → HRel E base B μ h w → ∀ (F : Fence) (n id : Nat) (Q : Exit → Act → World → Prop), Wide F →
  (∀ μ' a' w', FRel μ' f' a'.tmps → a'.defers = a.defers → Step E base B μ h w μ' h' w' → Q .normal a' w') → (Code.region id ops true).wpIn F n P Q a w
def CodeOk (P : Program) (E : Env) (base B k : Nat) : Prop :=
 ∀ (c : Code) (f : AF) (h : AHeap) (ex : Ex) (f' : AF) (h' : AHeap), aeval E base k c f h = some (ex, f', h') →
  ∀ (μ : Emb) (a : Act) (w : World) (W0 : Nat) (rs : List Nat), FRel μ f a.tmps → HRel E base B μ h w → MarksOk W0 μ w a.defers rs → W0 ≤ w.heap.size →
  ∀ (F : Fence) (n : Nat) (Q : Exit → Act → World → Prop), Wide F → (F.round = none ∨ noRange c = true) →
  (∀ μ' a' w' rs', FRel μ' f' a'.tmps → MarksOk W0 μ' w' a'.defers rs' → Step E base B μ h w μ' h' w' → Q (toExit ex) a' w') → c.wpIn F n P Q a w
theorem enterL_rel {μ : Emb} : ∀ {args args' : List Value} {i : Nat} {f : AF} {tmps : Array Value}, VRels μ args args' → FRel μ f tmps → FRel μ (AF.enterL args i f) ((args'.zipIdx i).foldl (fun t p => t.setIfInBounds p.2 p.1) tmps)
 | _, _, i, f, tmps, .nil, hf => by simpa [AF.enterL] using hf
 | _, _, i, f, tmps, .cons hv ht, hf => by
  simp only [AF.enterL, List.zipIdx_cons, List.foldl_cons]
  exact enterL_rel ht (hf.set hv i)
theorem enter_rel {μ : Emb} {args : List Value} {args' : Array Value} {n : Nat} (hr : VRels μ args args'.toList) (hn : args.length ≤ n) : FRel μ (AF.enter args n) (args' ++ Array.replicate (n - args'.size) undef) := by
 have hl : args.length = args'.size := by simpa using hr.length
 have h0 : FRel μ ⟨.nil, n⟩ (Array.replicate n undef) := by
  refine ⟨by simp, fun t => ?_⟩
  have : (AF.get ⟨.nil, n⟩ t) = undef := rfl
  rw [this]
  by_cases h : t < n <;> simp [h] <;> exact .undef μ
 have := enterL_rel (i := 0) hr h0
 have e : ((args'.toList.zipIdx 0).foldl (fun t p => t.setIfInBounds p.2 p.1) (Array.replicate n undef)) = args' ++ Array.replicate (n - args'.size) undef := by
  have zf := zipFold args'.toList 0 0 (Array.replicate n undef) (by simp; omega)
  simp only [Nat.zero_add] at zf
  apply Array.ext
  ·rw [zf.1]; simp; omega
  ·intro i h1 h2
   have := zf.2 i
   rw [Array.getElem?_eq_getElem h1] at this
   rw [← Option.some.injEq, this]
   by_cases hi : i < args'.size
   ·rw [if_pos (by simp; exact hi)]
    simp [hi, Array.getElem_append]
   ·rw [if_neg (by simp; omega)]
    have hin : i < n := by
     rw [zf.1] at h1; simpa using h1
    simp [hi, hin, Array.getElem_append]
 rw [← e]; exact this
theorem callFun (run : RunF) : CallFun E (acallB E run) := by
 intro g args h r hr
 unfold acallB at hr
 simp only [Option.bind_eq_some_iff] at hr
 obtain ⟨fn, h1, _⟩ := hr
 simp [h1]
theorem roundFun (run : RunF) : RoundFun (aroundB base run) := by
 intro l args h r hr
 unfold aroundB at hr
 simp only [grd_some] at hr
 obtain ⟨_, hr⟩ := hr
 split at hr
 ·rename_i p f ps asg body hg
  simp only [grd_some, Bool.and_eq_true, beq_iff] at hr
  exact ⟨_, _, _, _, _, _, hg, hr.1.1.1⟩
 ·cases hr
def OrcOk (P : Program) (E : Env) (base B : Nat) : Prop := CallOk P E base B E.orc
theorem callOk (hE : EnvOk P E) (hO : OrcOk P E base B) {k : Nat} (hk : CodeOk P E base B k) : CallOk P E base B (acallB E (aeval E base k)) := by
 intro μ h w g args args' v h' hc hr H F n hF
 unfold acallB at hc
 simp only [Option.bind_eq_some_iff] at hc
 obtain ⟨fn, h1, hc⟩ := hc
 split at hc
 ·rename_i r ho
  simp only [Option.some.injEq] at hc; subst hc
  exact hO μ h w g args args' v h' ho hr H F n hF
 ·simp only [Option.bind_eq_some_iff, grd_some, ble_iff] at hc
  obtain ⟨c, h2, hn, hc⟩ := hc
  obtain ⟨f1, f2, f3⟩ := hE.func _ _ h1
  have body : ∀ ex f1' h1', aeval E base k c (AF.enter args fn.ntmps) h = some (ex, f1', h1') → (toExit ex = .normal ∨ toExit ex = .ret) → (aresults E h1' f1' fn.results.toList).bind (fun vs => some (oneOrTuple vs, h1')) = some (v, h') →
   CallsIn F.plain n P g args' w (RetPost E base B μ h w v h') := by
   intro ex fe he hrun hex hres
   simp only [Option.bind_eq_some_iff, Option.some.injEq, Prod.mk.injEq] at hres
   obtain ⟨vs, h3, rfl, rfl⟩ := hres
   refine callsIn_of_wp_marks f1 h2 (hF.fn _) ?_ rfl
   refine hk c _ h ex fe he hrun μ _ w w.heap.size [] (enter_rel hr hn) H .nil (Nat.le_refl _) F.plain n _ hF.plain (.inl rfl) ?_
   intro μ' a' w' rs' q1 q2 q3
   have lv : LeavesInM F.plain n P fn a'.tmps (RetPost E base B μ h w (oneOrTuple vs) he) a'.defers .returning w' :=
    leaves_marks a'.defers rs' w' q2 q3 fun w2 s2 => by
     obtain ⟨v', p1, p2⟩ := results_sim (P := P) hE q1 s2.rel h3
     exact ⟨v', p1, v', μ', rfl, p2, s2⟩
   rcases hex with e | e <;> rw [e] <;> exact lv
  have fin : CallsIn F.plain n P g args' w (RetPost E base B μ h w v h') := by
   split at hc
   ·rename_i fe he hrun; exact body _ _ _ hrun (.inl rfl) hc
   ·rename_i fe he hrun; exact body _ _ _ hrun (.inr rfl) hc
   ·cases hc
  exact fin
end
end Go.M
namespace Go.M
open Go
section
variable {P : Program} {E : Env} {base B : Nat}
theorem run_getLoop {w : World} {r : Nat} {lo : Loop} (h : w.heap[r]? = some (.loop lo)) : (Instr.getLoop r).run P w = .ok lo w := by
 unfold Instr.getLoop
 simp only [Sem.run_bind, run_getObj_map (P := P) h (fun _ _ _ => by simp), Result.andThen_ok, Sem.run_pure]
theorem loop_put {μ : Emb} {h : AHeap} {w : World} (H : HRel E base B μ h w) {l : Nat} {m : MT} (hb : μ l = some m) (hbase : base ≤ l) {st : LoopState} {p : Option Code} {f0 : AF} {ps : List Tmp} {asg body : Code} (hg : h.get l = some (.loop st p f0 ps asg body)) (st' : LoopState) (p' : Option Code) :
 ∃ lo : Loop, w.heap[m.r]? = some (.loop lo) ∧ lo.state = st ∧ lo.pending = p ∧ Step E base B μ h w μ (h.put l (.loop st' p' f0 ps asg body)) { w with heap := w.heap.setIfInBounds m.r (.loop { lo with state := st', pending := p' }) } := by
 obtain ⟨o1, o2, k1, k2, k3⟩ := H.obj l m hb
 rw [hg] at k1; cases k1
 cases k3 with
 | loop hf =>
  refine ⟨_, k2, rfl, rfl, ?_⟩
  exact Step.put H hb hbase hg rfl rfl (Upd.set w m.r _ (H.lt hb)) (.loop hf)
theorem roundOk {k : Nat} (hk : CodeOk P E base B k) : RoundOk P E base B (aroundB base (aeval E base k)) := by
 intro μ h w l args v h' m f0 ps asg body st p fn tmps hr hl hb H hf F n hF
 unfold aroundB at hr
 simp only [grd_some, ble_iff] at hr
 obtain ⟨hbase, hr⟩ := hr
 rw [hl] at hr
 cases st with
 | ready =>
  simp only [grd_some, Bool.and_eq_true, beq_iff] at hr
  obtain ⟨⟨⟨hlen, hna⟩, hnb⟩, hr⟩ := hr
  split at hr
  ·rename_i f1 h1 hasg
   split at hr
   ·rename_i p1 f01 ps1 asg1 body1 hl1
    simp only [Option.bind_eq_some_iff] at hr
    obtain ⟨⟨ex, f2, h2⟩, hbody, hr⟩ := hr
    simp only at hr
    split at hr
    ·rename_i st2 p2 f02 ps2 asg2 body2 hl2
     refine roundIn_of_wpIn (hF.fn _) ?_
     refine hk asg _ h .normal f1 h1 hasg μ _ w w.heap.size [] hf H .nil (Nat.le_refl _) (F.inRound m.r) n _ (hF.inRound _) (.inr hna) ?_
     intro μ1 a1 w1 rs1 q1 q2 s1
     have hb1 := s1.le _ _ hb
     obtain ⟨lo1, e1, e2, e3, s2⟩ := loop_put s1.rel hb1 hbase hl1 .busy p1
     have s2' : Step E base B μ1 h1 w1 μ1 (h1.put l (.loop .busy p1 f01 ps1 asg1 body1)) { w1 with heap := w1.heap.setIfInBounds m.r (.loop { lo1 with state := .busy }) } := by
      rw [← e3] at s2 ⊢
      exact s2
     refine ⟨{ w1 with heap := w1.heap.setIfInBounds m.r (.loop { lo1 with state := .busy }) }, ?_, ?_⟩
     ·unfold Instr.beginRound
      simp only [Sem.run_bind, run_getLoop (P := P) e1, Result.andThen_ok, run_setObj' (P := P) e1 (fun _ _ _ => by simp), e2, Sem.run_pure]
     refine hk body f1 _ ex f2 h2 hbody μ1 a1 _ w.heap.size rs1 q1 s2'.rel (q2.step s2') (by rw [Array.size_setIfInBounds]; exact s1.grow.size) (F.inRound m.r) n _ (hF.inRound _) (.inr hnb) ?_
     intro μ3 a3 w3 rs3 q3 q4 s3
     have sall := (s1.trans s2')
     have hb3 := s3.le _ _ hb1
     have key : ∀ (st' : LoopState) (jump : Option Code), (jump.isNone = true → st' = .ready) → (jump.isNone = false → st' = .done) → ∃ w4, (Instr.endRound m.r jump).run P w3 = .ok (.bool jump.isNone) w4 ∧ Step E base B μ3 h2 w3 μ3 (h2.put l (.loop st' jump f02 ps2 asg2 body2)) w4 := by
      intro st' jump hj1 hj2
      obtain ⟨lo3, d1, d2, d3, s4⟩ := loop_put s3.rel hb3 hbase hl2 st' jump
      refine ⟨_, ?_, s4⟩
      unfold Instr.endRound
      simp only [Sem.run_bind, run_getLoop (P := P) d1, Result.andThen_ok, run_setObj' (P := P) d1 (fun _ _ _ => by simp), Sem.run_pure]
      cases hj : jump.isNone with
      | true => rw [hj1 hj]; simp
      | false => rw [hj2 hj]; simp
     cases ex with
     | normal =>
      simp only [Option.some.injEq, Prod.mk.injEq] at hr
      obtain ⟨rfl, rfl⟩ := hr
      obtain ⟨w4, k1, k2⟩ := key .ready none (fun _ => rfl) (fun h => by simp at h)
      exact ⟨_, w4, k1, _, μ3, rfl, .bool _ _, (sall.trans s3).trans k2⟩
     | ret =>
      simp only [Option.some.injEq, Prod.mk.injEq] at hr
      obtain ⟨rfl, rfl⟩ := hr
      obtain ⟨w4, k1, k2⟩ := key .done (some .ret) (fun h => by simp at h) (fun _ => rfl)
      exact ⟨_, w4, k1, _, μ3, rfl, .bool _ _, (sall.trans s3).trans k2⟩
     | exit id =>
      simp only [Option.some.injEq, Prod.mk.injEq] at hr
      obtain ⟨rfl, rfl⟩ := hr
      obtain ⟨w4, k1, k2⟩ := key .done (some (.exit id)) (fun h => by simp at h) (fun _ => rfl)
      exact ⟨_, w4, k1, _, μ3, rfl, .bool _ _, (sall.trans s3).trans k2⟩
    ·cases hr
   ·cases hr
  ·cases hr
 | busy => cases hr
 | done => cases hr
 | exhausted => cases hr
theorem codeOk (hE : EnvOk P E) (hO : OrcOk P E base B) (hD : DrawSim P E base B) : ∀ k, CodeOk P E base B k ∧
 (∀ (b : Code) (f : AF) (h : AHeap) (ex : Ex) (f' : AF) (h' : AHeap), aeval E base k (.loop b) f h = some (ex, f', h') →
  ∀ (μ : Emb) (a : Act) (w : World) (W0 : Nat) (rs : List Nat), FRel μ f a.tmps → HRel E base B μ h w → MarksOk W0 μ w a.defers rs → W0 ≤ w.heap.size →
  ∀ (F : Fence) (n : Nat) (Q : Exit → Act → World → Prop), Wide F → (F.round = none ∨ noRange b = true) →
  (∀ μ' a' w' rs', FRel μ' f' a'.tmps → MarksOk W0 μ' w' a'.defers rs' → Step E base B μ h w μ' h' w' → Q (toExit ex) a' w') → Code.roundsIn F n P b Q k a w) := by
 intro k
 induction k with
 | zero => exact ⟨fun c f h ex f' h' hr => by simp [aeval] at hr, fun b f h ex f' h' hr => by simp [aeval] at hr⟩
 | succ k ih =>
  obtain ⟨hk, hloop⟩ := ih
  have hcall := callOk hE hO hk
  have hround := roundOk hk
  have loopk : ∀ (b : Code) (f : AF) (h : AHeap) (ex : Ex) (f' : AF) (h' : AHeap), aeval E base (k + 1) (.loop b) f h = some (ex, f', h') →
   ∀ (μ : Emb) (a : Act) (w : World) (W0 : Nat) (rs : List Nat), FRel μ f a.tmps → HRel E base B μ h w → MarksOk W0 μ w a.defers rs → W0 ≤ w.heap.size →
   ∀ (F : Fence) (n : Nat) (Q : Exit → Act → World → Prop), Wide F → (F.round = none ∨ noRange b = true) →
   (∀ μ' a' w' rs', FRel μ' f' a'.tmps → MarksOk W0 μ' w' a'.defers rs' → Step E base B μ h w μ' h' w' → Q (toExit ex) a' w') → Code.roundsIn F n P b Q (k + 1) a w := by
   intro b f h ex f' h' hr μ a w W0 rs hf H hm hW F n Q hF hrg hQ
   simp only [aeval] at hr
   rw [roundsIn_succ]
   split at hr
   ·rename_i f1 h1 hb
    refine hk b f h .normal f1 h1 hb μ a w W0 rs hf H hm hW F n _ hF hrg fun μ1 a1 w1 rs1 q1 q2 s1 => ?_
    exact hloop b f1 h1 ex f' h' hr μ1 a1 w1 W0 rs1 q1 s1.rel q2 (Nat.le_trans hW s1.grow.size) F n Q hF hrg fun μ2 a2 w2 rs2 p1 p2 s2 => hQ μ2 a2 w2 rs2 p1 p2 (s1.trans s2)
   ·rename_i hnn
    refine hk b f h ex f' h' hr μ a w W0 rs hf H hm hW F n _ hF hrg fun μ1 a1 w1 rs1 q1 q2 s1 => ?_
    have := hQ μ1 a1 w1 rs1 q1 q2 s1
    cases ex with
    | normal => exact (hnn _ _ hr).elim
    | exit id => exact this
    | ret => exact this
  refine ⟨?_, loopk⟩
  intro c f h ex f' h' hr μ a w W0 rs hf H hm hW F n Q hF hrg hQ
  cases c with
  | skip =>
   simp only [aeval, Option.some.injEq, Prod.mk.injEq] at hr
   obtain ⟨rfl, rfl, rfl⟩ := hr
   exact wpIn_skip (hQ μ a w rs hf hm (.refl H))
  | exit id =>
   simp only [aeval, Option.some.injEq, Prod.mk.injEq] at hr
   obtain ⟨rfl, rfl, rfl⟩ := hr
   exact wpIn_exit (hQ μ a w rs hf hm (.refl H))
  | ret =>
   simp only [aeval, Option.some.injEq, Prod.mk.injEq] at hr
   obtain ⟨rfl, rfl, rfl⟩ := hr
   exact wpIn_ret (hQ μ a w rs hf hm (.refl H))
  | seq x y =>
   simp only [aeval] at hr
   have hx : F.round = none ∨ noRange x = true := hrg.imp id fun h => by simp [noRange] at h; exact h.1
   have hy : F.round = none ∨ noRange y = true := hrg.imp id fun h => by simp [noRange] at h; exact h.2
   refine wpIn_seq ?_
   split at hr
   ·rename_i f1 h1 hb
    refine hk x f h .normal f1 h1 hb μ a w W0 rs hf H hm hW F n _ hF hx fun μ1 a1 w1 rs1 q1 q2 s1 => ?_
    exact hk y f1 h1 ex f' h' hr μ1 a1 w1 W0 rs1 q1 s1.rel q2 (Nat.le_trans hW s1.grow.size) F n Q hF hy fun μ2 a2 w2 rs2 p1 p2 s2 => hQ μ2 a2 w2 rs2 p1 p2 (s1.trans s2)
   ·rename_i hnn
    refine hk x f h ex f' h' hr μ a w W0 rs hf H hm hW F n _ hF hx fun μ1 a1 w1 rs1 q1 q2 s1 => ?_
    have := hQ μ1 a1 w1 rs1 q1 q2 s1
    cases ex with
    | normal => exact (hnn _ _ hr).elim
    | exit id => exact this
    | ret => exact this
  | cond cx x y =>
   simp only [aeval, Option.bind_eq_some_iff] at hr
   obtain ⟨v, h1, b, h2, h3⟩ := hr
   have e := asB_some h2; subst e
   have hc := (ev_rel H.glob hf h1).inv_scalar rfl
   have hx : F.round = none ∨ noRange x = true := hrg.imp id fun h => by simp [noRange] at h; exact h.1
   have hy : F.round = none ∨ noRange y = true := hrg.imp id fun h => by simp [noRange] at h; exact h.2
   cases b with
   | true => exact wpIn_cond_true hc (hk x f h ex f' h' h3 μ a w W0 rs hf H hm hW F n Q hF hx hQ)
   | false => exact wpIn_cond_false hc (hk y f h ex f' h' h3 μ a w W0 rs hf H hm hW F n Q hF hy hQ)
  | block id b =>
   simp only [aeval] at hr
   have hb' : F.round = none ∨ noRange b = true := hrg.imp (fun h => h) fun h => by simpa [noRange] using h
   refine wpIn_block ?_
   split at hr
   ·rename_i id' f1 h1 hb
    refine hk b f h (.exit id') f1 h1 hb μ a w W0 rs hf H hm hW F n _ hF hb' fun μ1 a1 w1 rs1 q1 q2 s1 => ?_
    rw [bif_eq] at hr
    show (if id' = id then Q .normal a1 w1 else Q (.exit id') a1 w1)
    by_cases e : id' = id
    ·rw [if_pos (beq_iff.2 e)] at hr
     simp only [Option.some.injEq, Prod.mk.injEq] at hr
     obtain ⟨rfl, rfl, rfl⟩ := hr
     rw [if_pos e]; exact hQ μ1 a1 w1 rs1 q1 q2 s1
    ·rw [if_neg (fun hh => e (beq_iff.1 hh))] at hr
     simp only [Option.some.injEq, Prod.mk.injEq] at hr
     obtain ⟨rfl, rfl, rfl⟩ := hr
     rw [if_neg e]; exact hQ μ1 a1 w1 rs1 q1 q2 s1
   ·rename_i hnn
    refine hk b f h ex f' h' hr μ a w W0 rs hf H hm hW F n _ hF hb' fun μ1 a1 w1 rs1 q1 q2 s1 => ?_
    have := hQ μ1 a1 w1 rs1 q1 q2 s1
    cases ex with
    | normal => exact this
    | exit id' => exact (hnn _ _ _ hr).elim
    | ret => exact this
  | loop b =>
   exact wpIn_loop_rounds (k + 1) (loopk b f h ex f' h' hr μ a w W0 rs hf H hm hW F n Q hF (hrg.imp id fun h => by simpa [noRange] using h) hQ)
  | region id ops draw =>
   simp only [aeval, aregion] at hr
   cases draw with
   | false =>
    simp only [Option.bind_eq_some_iff, Option.some.injEq, Prod.mk.injEq] at hr
    obtain ⟨⟨f1, h1⟩, hb, rfl, rfl, rfl⟩ := hr
    refine wpIn_region ?_
    have := ops_sim hE hcall hround (callFun _) (roundFun _) hF (n := n) (ops := ops) (Q := Q) ops.toList 0 μ f h a w f1 h1 (fun j => by simp) hb hf H fun μ1 a1 w1 q1 q2 s1 => hQ μ1 a1 w1 rs q1 (by rw [q2]; exact hm.step s1) s1
    rw [List.range_eq_range', ← Array.length_toList]
    exact this
   | true =>
    simp only [grd_some, Bool.and_eq_true, Option.bind_eq_some_iff, Option.some.injEq, Prod.mk.injEq] at hr
    obtain ⟨⟨hs, hd⟩, ⟨f1, h1, logs⟩, hb, hp, rfl, rfl, rfl⟩ := hr
    exact hD _ _ hcall hround (callFun _) (roundFun _) ops f h f1 h1 logs hs hd hb hp μ a w hf H F n id Q hF fun μ1 a1 w1 q1 q2 s1 => hQ μ1 a1 w1 rs q1 (by rw [q2]; exact hm.step s1) s1
  | rangeFunc g ps asg body =>
   have hro : F.round = none := hrg.resolve_right (by simp [noRange])
   simp only [aeval, Option.bind_eq_some_iff, grd_some, ble_iff] at hr
   obtain ⟨gv, h1, hbase, hr⟩ := hr
   split at hr
   ·rename_i gid first captured
    simp only [Option.bind_eq_some_iff] at hr
    obtain ⟨⟨rv, h2⟩, hc, hr⟩ := hr
    simp only at hr
    have hgr := ev_rel H.glob hf h1
    generalize hq : a.eval g = q at hgr
    cases hgr with
    | lit hh => simp [plain1] at hh
    | func t1 t2 t3 t4 =>
     rename_i first' captured'
     refine wpIn_rangeFunc fun fn _ => ?_
     let wA : World := { w with heap := w.heap.push (.deferred (some [])) }
     let lo : Loop := { state := .ready, pending := none, fn := fn, tmps := a.tmps, params := ps, assign := asg, body := body, defers := w.heap.size }
     let wB : World := { wA with heap := wA.heap.push (.loop lo) }
     have sA : Step E base B μ h w μ h wA := Step.alcW H (Alc.mk' w _)
     have hszA : wA.heap.size = w.heap.size + 1 := by simp [wA]
     have sB := Step.alloc (o := .loop .ready none f ps.toList asg body) sA.rel (Alc.mk' wA (.loop lo)) 0 (fun _ _ _ _ hh => by cases hh) (by
      have := ORel.loop (μ := upd μ h.size ⟨wA.heap.size, 0, 0⟩) (h := h.push (.loop .ready none f ps.toList asg body)) (base := base) (b := h.size) (m := ⟨wA.heap.size, 0, 0⟩) (st := .ready) (p := none) (ps := ps.toList) (asg := asg) (body := body) (fn := fn) (d := w.heap.size) (hf.mono (upd_le H.fresh))
      simpa using this)
     let mk : Deferred := { target := .collected w.heap.size, args := #[] }
     have hmk : MarkOk W0 μ wA mk w.heap.size := ⟨rfl, by simp [wA], fun b m hb he => by have := H.lt hb; omega, hW⟩
     have hnr : w.heap.size ∉ rs := by
      have : ∀ {ds : List Deferred} {rs : List Nat}, MarksOk W0 μ w ds rs → ∀ r ∈ rs, r < w.heap.size := by
       intro ds rs k
       induction k with
       | nil => intro r hr; simp at hr
       | cons h1 _ _ ih => intro r hr; rcases List.mem_cons.1 hr with rfl | hr
                           ·exact (Array.getElem?_eq_some_iff.1 h1.obj).1
                           ·exact ih r hr
      intro hmem
      have := this hm _ hmem
      omega
     have hmarks : MarksOk W0 μ wA (mk :: a.defers) (w.heap.size :: rs) := .cons hmk hnr (hm.step sA)
     let args' : Array Value := first' ++ #[.func (.yield wA.heap.size) #[] #[]] ++ captured'
     have hfun := callFun (E := E) _ _ _ _ _ hc
     obtain ⟨fnr, hfnr⟩ := Option.isSome_iff_exists.1 hfun
     obtain ⟨g1, g2, g3⟩ := hE.func _ _ hfnr
     have hbn : fnr.body.isNone = false := by cases hx : fnr.body <;> simp_all
     have hargs : VRels (upd μ h.size ⟨wA.heap.size, 0, 0⟩) (first.toList ++ [.func (.yield h.size) #[] #[]] ++ captured.toList) args'.toList := by
      have hle : μ.le (upd μ h.size ⟨wA.heap.size, 0, 0⟩) := upd_le H.fresh
      have v1 := (VRels.of_arr t1 t2).mono hle
      have v3 := (VRels.of_arr t3 t4).mono hle
      have v2 := VRels.cons (VRel.yield (upd_self μ h.size ⟨wA.heap.size, 0, 0⟩)) .nil
      simpa [args'] using (v1.append v2).append v3
     refine ⟨wA.heap.size, [mk], wB, { target := .fn (.func gid) captured', args := first' ++ #[.func (.yield wA.heap.size) #[] #[]] }, wB, gid, args', wB, ?_, ?_, fun _ _ => hF.fn _, ?_, hF.ok n, ?_⟩
     ·rw [hro]
      unfold Instr.enterLoop
      simp only [Sem.run_bind, run_newObj, Result.andThen_ok, Sem.run_pure]
      rfl
     ·have hcv : ∀ v : Value, a.eval (.const v) = v := fun _ => rfl
      simp [resolve, rangeCall, hq, Deferred.ofValue, Sem.run_pure, hcv]
     ·simp only [invoke, callFunc, Sem.run_bind, run_program, Result.andThen_ok, g1, g3, hbn, Bool.false_eq_true, if_false, Sem.run_pure]
      rfl
     ·refine (hcall _ _ wB gid _ args' rv h2 hc hargs sB.rel F (n - 1) hF).mono ?_
      rintro e w3 ⟨v', μ3, rfl, k1, s3⟩
      have hb3 : μ3 h.size = some ⟨wA.heap.size, 0, 0⟩ := s3.le _ _ (upd_self _ _ _)
      split at hr
      ·rename_i st p f0 ps0 asg0 body0 hl
       simp only [grd_some] at hr
       obtain ⟨hst, hr⟩ := hr
       obtain ⟨lo3, d1, d2, d3, s4⟩ := loop_put s3.rel hb3 hbase hl .exhausted p
       have s4' : Step E base B μ3 h2 w3 μ3 (h2.put h.size (.loop .exhausted p f0 ps0 asg0 body0)) { w3 with heap := w3.heap.setIfInBounds wA.heap.size (.loop { lo3 with state := .exhausted }) } := by
        rw [← d3] at s4 ⊢
        exact s4
       have sall := ((sA.trans sB).trans s3).trans s4'
       have hm4 : MarksOk W0 μ3 { w3 with heap := w3.heap.setIfInBounds wA.heap.size (.loop { lo3 with state := .exhausted }) } (mk :: a.defers) (w.heap.size :: rs) := ((hmarks.step sB).step s3).step s4'
       refine ⟨p, { w3 with heap := w3.heap.setIfInBounds wA.heap.size (.loop { lo3 with state := .exhausted }) }, ?_, ?_⟩
       ·unfold Instr.endLoop
        simp only [Sem.run_bind, run_getLoop (P := P) d1, Result.andThen_ok]
        rw [if_neg (by rw [d2]; intro hh; rw [bne_iff_ne] at hst; exact hst (eq_of_beq hh))]
        simp only [Sem.run_bind, run_setObj' (P := P) d1 (fun _ _ _ => by simp), Result.andThen_ok, Sem.run_pure, d3]
       ·cases p with
        | none =>
         simp only [Option.some.injEq, Prod.mk.injEq] at hr
         obtain ⟨rfl, rfl, rfl⟩ := hr
         exact hQ μ3 _ _ _ (hf.mono sall.le) hm4 sall
        | some cj =>
         simp only at hr
         exact hk cj f _ ex f' h' hr μ3 { a with defers := mk :: a.defers } _ W0 _ (hf.mono sall.le) s4'.rel hm4 (Nat.le_trans hW sall.grow.size) F n Q hF (.inl hro) fun μ5 a5 w5 rs5 p1 p2 s5 => hQ μ5 a5 w5 rs5 p1 p2 (sall.trans s5)
      ·cases hr
   ·cases hr
  | scope b => simp only [aeval] at hr; cases hr
  | label l => simp only [aeval] at hr; cases hr
  | goto l => simp only [aeval] at hr; cases hr
  | refuse s => simp only [aeval] at hr; cases hr
end
end Go.M
namespace Go.M
open Go
def ObjAt (base : Nat) (μ : Emb) (h : AHeap) (w : World) (b : Nat) (m : MT) : Prop := ∃ o o', h.get b = some o ∧ w.heap[m.r]? = some o' ∧ ORel μ h base b m o o'
theorem ObjAt.read {base : Nat} {μ : Emb} {h : AHeap} {w : World} {b : Nat} {m : MT} (H : ObjAt base μ h w b m) {cs : List Value} (hr : h.rd b = some cs) :
 ∃ c e fr, w.heap[m.r]? = some (.cells c e fr) ∧ c.size = m.n ∧ m.s + cs.length ≤ m.n ∧ (base ≤ b → NoFr fr m.n) ∧ ∀ (i : Nat) v, cs[i]? = some v → ∃ v', c[m.s + i]? = some v' ∧ VRel μ v v' := by
 obtain ⟨o, o', ho, ho', hrel⟩ := H
 obtain ⟨r, h1, h2, h3⟩ := rd_some hr
 obtain ⟨f, tip, thr, hg⟩ := cellsOf_some h3
 rw [hg] at ho; cases ho
 cases hrel with
 | cells hn hl hf hc => exact ⟨_, _, _, ho', hn, hl, hf, hc (by simp [hr])⟩
theorem ObjAt.readCells {base : Nat} {μ : Emb} {h : AHeap} {w : World} {b o n : Nat} {m : MT} (H : ObjAt base μ h w b m) {l : List Value} (hr : readCells h b o n = some l) :
 l.length = n ∧ ∀ (i : Nat) v, l[i]? = some v → ∃ v', w.cell? ⟨m.r, m.s + o + i, none⟩ = some v' ∧ VRel μ v v' := by
 unfold M.readCells at hr
 simp only [Option.bind_eq_some_iff, takeN_some] at hr
 obtain ⟨cs, h1, h2, rfl⟩ := hr
 refine ⟨by simp at h2 ⊢; omega, fun i v hv => ?_⟩
 obtain ⟨c, e, fr, hw, hn, hl, hf, hc⟩ := H.read h1
 have hi : i < n := by
  have := (List.getElem?_eq_some_iff.1 hv).1
  simp at this; omega
 rw [List.getElem?_take, if_pos hi, List.getElem?_drop] at hv
 obtain ⟨v', k1, k2⟩ := hc _ v hv
 refine ⟨v', ?_, k2⟩
 simp only [World.cell?, hw]
 simpa [Nat.add_assoc] using k1
section
variable {P : Program} {E : Env} {μ : Emb} {f : AF} {a : Act} {base B : Nat} {h : AHeap} {w : World}
theorem ObjAt.readL {b o n : Nat} {m : MT} (H : ObjAt base μ h w b m) {l : List Value} (hr : M.readCells h b o n = some l) :
 ∃ l', VRels μ l l' ∧ ∀ (i : Nat) v, l'[i]? = some v → w.cell? ⟨m.r, m.s + o + i, none⟩ = some v := by
 obtain ⟨h1, h2⟩ := H.readCells hr
 have key : ∀ (l : List Value) (k : Nat), (∀ (i : Nat) v, l[i]? = some v → ∃ v', w.cell? ⟨m.r, m.s + o + k + i, none⟩ = some v' ∧ VRel μ v v') → ∃ l', VRels μ l l' ∧ ∀ (i : Nat) v, l'[i]? = some v → w.cell? ⟨m.r, m.s + o + k + i, none⟩ = some v := by
  intro l
  induction l with
  | nil => intro k _; exact ⟨[], .nil, fun i v h => by simp at h⟩
  | cons v l ih =>
   intro k hl
   obtain ⟨v', q1, q2⟩ := hl 0 v rfl
   obtain ⟨l', r1, r2⟩ := ih (k + 1) fun i u hu => by
    obtain ⟨u', k1, k2⟩ := hl (i + 1) u (by simpa using hu)
    exact ⟨u', by rw [← k1]; congr 2; omega, k2⟩
   refine ⟨v' :: l', .cons q2 r1, fun i u hu => ?_⟩
   cases i with
   | zero => simp at hu; subst hu; simpa using q1
   | succ i =>
    simp at hu
    rw [← r2 i u hu]; congr 2; omega
 obtain ⟨l', r1, r2⟩ := key l 0 (by simpa using h2)
 exact ⟨l', r1, by simpa using r2⟩
theorem aread_loc (hE : EnvOk P E) (hf : FRel μ f a.tmps) (hg : GlobOk E μ) {o : Oper} {q : RQ} {v : Value} (hq : aread E f o = some q) (Hq : ∀ m, μ q.blk = some m → ∃ h, q.run h = some v ∧ ObjAt base μ h w q.blk m) :
 ∃ v', VRel μ v v' ∧ (execOp a.eval o).run P w = .ok (.value v') w := by
 obtain ⟨dst, op, type, pos, after, guard⟩ := o
 cases op
 case load t x =>
  simp only [aread, Option.bind_eq_some_iff, Option.some.injEq] at hq
  obtain ⟨u, h1, p, h2, ⟨agg, n⟩, h3, rfl⟩ := hq
  have e := asPtr_some h2; subst e
  obtain ⟨m, hb, ex⟩ := (ev_rel hg hf h1).inv_ptr
  obtain ⟨h, hv, H⟩ := Hq m hb
  simp only [RQ.run, Option.bind_eq_some_iff] at hv
  obtain ⟨l, h4, h5⟩ := hv
  obtain ⟨l', r1, r2⟩ := H.readL h4
  obtain ⟨v', q1, q2⟩ := fromCells_rel h5 r1
  refine ⟨v', q2, ?_⟩
  have hl : l'.length = n := by rw [← r1.length]; exact (H.readCells h4).1
  simp only [execOp, Instr.loadAt, Sem.run_bind, ex, Instr.sureAddr, Sem.run_pure, Result.andThen_ok]
  rw [run_loadVar hE h3 hl r2 q1]
  rfl
 case lookup t x ix ok =>
  simp only [aread, Option.bind_eq_some_iff] at hq
  obtain ⟨d, hd, mv, h1, k, h2, h3⟩ := hq
  split at h3
  ·rename_i kt elem r
   simp only [Option.bind_eq_some_iff, grd_some, Bool.and_eq_true, Option.some.injEq] at h3
   obtain ⟨kd, hkd, z, hz, ⟨⟨s1, s2⟩, s3⟩, rfl⟩ := h3
   obtain ⟨m, hb, ex⟩ := (ev_rel hg hf h1).inv_map
   have ek := (ev_rel hg hf h2).inv_scalar s2
   obtain ⟨h, hv, H⟩ := Hq m hb
   simp only [RQ.run, Option.bind_eq_some_iff] at hv
   obtain ⟨⟨es, clock⟩, h4, h5⟩ := hv
   obtain ⟨o1, o2, k1, k2, k3⟩ := H
   have hm : h.get r = some (.map es clock) := by
    unfold mapAt at h4; split at h4 <;> simp at h4
    obtain ⟨rfl, rfl⟩ := h4; assumption
   simp only [RQ.blk] at k1 k3; rw [hm] at k1; cases k1
   cases k3 with
   | map hs =>
    rename_i es'
    have hgo := run_getObj_map (P := P) k2 (fun _ _ _ => by simp)
    simp only [lookIn, Option.bind_eq_some_iff, Option.some.injEq] at h5
    obtain ⟨fr, h6, h7⟩ := h5
    obtain ⟨fr', q1, q2, q3⟩ := findNow_rel hs h6
    have hzr := VRel.refl_plain μ s3
    have hfk : (Instr.findKey kt k es'.toList).run P w = .ok fr' w := by
     simp only [Instr.findKey, Sem.run_bind, g_under hE hkd w, Result.andThen_ok, q1, Sem.run_pure]
    have hck := g_checkKey (P := P) hE hkd s1 es'.isEmpty 9999 k w
    have fin : ∀ (u u' : Value) (b : Bool), VRel μ u u' → VRel μ (bif ok then .tuple #[u, .bool b] else u) (if ok = true then .tuple #[u', .bool b] else u') := by
     intro u u' b hu
     cases ok with
     | true => simp only [cond_true, if_true]; exact .tuple_of (by simpa using VRels.cons hu (.cons (.bool μ b) .nil))
     | false => simpa using hu
    cases fr with
    | none =>
     have e := q2 rfl; subst e
     simp only at h7; subst h7
     refine ⟨_, fin z z false hzr, ?_⟩
     simp only [execOp, Instr.lookup, Sem.run_bind, g_under hE hd w, Result.andThen_ok, ex, ek, hgo, Sem.run_pure, hck, hfk, g_zero hE hz w]
    | some jv =>
     obtain ⟨v', e, hr⟩ := q3 jv.1 jv.2 rfl
     subst e
     simp only at h7; subst h7
     refine ⟨_, fin jv.2 v' true hr, ?_⟩
     simp only [execOp, Instr.lookup, Sem.run_bind, g_under hE hd w, Result.andThen_ok, ex, ek, hgo, Sem.run_pure, hck, hfk]
  ·cases h3
 case call c =>
  simp only [aread] at hq
  split at hq
  ·rename_i t ts hcal htys
   simp only [Option.bind_eq_some_iff] at hq
   obtain ⟨d, hd, args, h1, h2⟩ := hq
   split at h2
   ·rename_i kt et r rest
    simp only [Option.some.injEq] at h2; subst h2
    have hr := evs_rel hg hf h1
    cases hr' : c.args.toList.map a.eval with
    | nil => rw [hr'] at hr; cases hr
    | cons u us =>
     rw [hr'] at hr
     cases hr with
     | cons hx _ =>
      obtain ⟨m, hb, rfl⟩ := hx.inv_map
      obtain ⟨h, hv, H⟩ := Hq m hb
      simp only [RQ.run, Option.bind_eq_some_iff, Option.some.injEq] at hv
      obtain ⟨⟨es, clock⟩, h4, rfl⟩ := hv
      obtain ⟨o1, o2, k1, k2, k3⟩ := H
      have hm : h.get r = some (.map es clock) := by
       unfold mapAt at h4; split at h4 <;> simp at h4
       obtain ⟨rfl, rfl⟩ := h4; assumption
      simp only [RQ.blk] at k1 k3; rw [hm] at k1; cases k1
      cases k3 with
      | map hs =>
       rename_i es'
       have hgo := run_getObj_map (P := P) k2 (fun _ _ _ => by simp)
       have e0 : (c.args.map a.eval)[0]? = some (.map (some m.r)) := by
        have : (c.args.map a.eval).toList = .map (some m.r) :: us := by simpa using hr'
        rw [← Array.getElem?_toList, this]; rfl
       have e1 : c.argTypes[0]? = some t := by rw [← Array.getElem?_toList, htys]; rfl
       refine ⟨goInt es'.size, ?_, ?_⟩
       ·have := hs.length
        simp only [Array.length_toList] at this
        rw [this]; exact .int μ _ _
       ·simp only [execOp, resolve, hcal, Sem.run_bind, Sem.run_pure, Result.andThen_ok, invoke, builtin, Builtin.len_, e0, e1, g_under hE hd w, hgo]
   ·cases h2
  ·cases hq
 all_goals (simp only [aread] at hq; cases hq)
def Same (o : Oper) (f f' : AF) : Prop := ∀ t, Operand.tmp t ∈ o.op.operands → f.get t = f'.get t
theorem ev_same {f f' : AF} {x : Operand} (h : ∀ t, x = .tmp t → f.get t = f'.get t) : ev E f x = ev E f' x := by
 cases x <;> simp only [ev]
 rw [h _ rfl]
theorem evs_same {f f' : AF} : ∀ {xs : List Operand}, (∀ t, Operand.tmp t ∈ xs → f.get t = f'.get t) → evs E f xs = evs E f' xs
 | [], _ => rfl
 | x :: l, h => by
  simp only [evs]
  rw [ev_same (fun t e => h t (by rw [e]; exact List.mem_cons_self)), evs_same fun t ht => h t (List.mem_cons_of_mem _ ht)]
theorem evParts_same {f f' : AF} : ∀ {xs : List (Nat × Operand)}, (∀ t, Operand.tmp t ∈ xs.map (·.2) → f.get t = f'.get t) → evParts E f xs = evParts E f' xs
 | [], _ => rfl
 | (i, x) :: l, h => by
  simp only [evParts]
  rw [ev_same (fun t e => h t (by rw [e]; exact List.mem_cons_self)), evParts_same fun t ht => h t (List.mem_cons_of_mem _ ht)]
theorem evOpt_same {f f' : AF} {x : Option Operand} (h : ∀ t, x = some (.tmp t) → f.get t = f'.get t) : evOpt E f x = evOpt E f' x := by
 cases x <;> simp only [evOpt]
 rw [ev_same fun t e => h t (by rw [e])]
theorem apure_same {f f' : AF} {o : Oper} (h : Same o f f') : apure E f o = apure E f' o := by
 obtain ⟨dst, op, type, pos, after, guard⟩ := o
 unfold Same at h
 cases op <;> simp only [Op.operands] at h <;> simp only [apure]
 case call c =>
  have h2 : ∀ t, Operand.tmp t ∈ c.args.toList → f.get t = f'.get t := fun t ht => h t (by simp [Call.operands] at ht ⊢; exact .inr ht)
  rw [evs_same h2]
 case makeFunc fn first captured =>
  rw [evs_same (xs := first.toList) fun t ht => h t (by simp at ht ⊢; exact .inl ht), evs_same (xs := captured.toList) fun t ht => h t (by simp at ht ⊢; exact .inr ht)]
 case build t ps => rw [evParts_same fun t ht => h t (by simpa using ht)]
 case slice t x lo hi mx =>
  rw [ev_same fun t e => h t (by simp [e]), evOpt_same (x := lo) fun t e => h t (by simp [e]), evOpt_same (x := hi) fun t e => h t (by simp [e]), evOpt_same (x := mx) fun t e => h t (by simp [e])]
 case pick c x y => rw [ev_same (x := c) fun t e => h t (by simp [e]), ev_same (x := x) fun t e => h t (by simp [e]), ev_same (x := y) fun t e => h t (by simp [e])]
 case binOp op t x y z => rw [ev_same (x := x) fun t e => h t (by simp [e]), ev_same (x := y) fun t e => h t (by simp [e])]
 case indexAddr t x y => rw [ev_same (x := x) fun t e => h t (by simp [e]), ev_same (x := y) fun t e => h t (by simp [e])]
 case index t x y => rw [ev_same (x := x) fun t e => h t (by simp [e]), ev_same (x := y) fun t e => h t (by simp [e])]
 case lookup t x y k => rw [ev_same (x := x) fun t e => h t (by simp [e]), ev_same (x := y) fun t e => h t (by simp [e])]
 all_goals first | rfl | (rw [ev_same fun t e => h t (by simp [e])])
theorem aread_same {f f' : AF} {o : Oper} (h : Same o f f') : aread E f o = aread E f' o := by
 obtain ⟨dst, op, type, pos, after, guard⟩ := o
 unfold Same at h
 cases op <;> simp only [Op.operands] at h <;> simp only [aread]
 case call c =>
  have h2 : ∀ t, Operand.tmp t ∈ c.args.toList → f.get t = f'.get t := fun t ht => h t (by simp [Call.operands] at ht ⊢; exact .inr ht)
  rw [evs_same h2]
 case lookup t x y k => rw [ev_same (x := x) fun t e => h t (by simp [e]), ev_same (x := y) fun t e => h t (by simp [e])]
 all_goals first | rfl | (rw [ev_same fun t e => h t (by simp [e])])
theorem aalloc_same {f f' : AF} {o : Oper} (h : Same o f f') : aalloc E f o = aalloc E f' o := by
 obtain ⟨dst, op, type, pos, after, guard⟩ := o
 unfold Same at h
 cases op <;> simp only [Op.operands] at h <;> simp only [aalloc]
 case buildSlice t n ps => rw [evParts_same fun t ht => h t (by simpa using ht)]
 case makeMap t r => cases r <;> rfl
 case makeSlice t x y => rw [ev_same (x := x) fun t e => h t (by simp [e]), ev_same (x := y) fun t e => h t (by simp [e])]
 all_goals first | rfl | (rw [ev_same fun t e => h t (by simp [e])])
theorem aeff_same {f f' : AF} {o : Oper} (h : Same o f f') (k : AHeap) : aeff E base f o k = aeff E base f' o k := by
 obtain ⟨dst, op, type, pos, after, guard⟩ := o
 unfold Same at h
 cases op <;> simp only [Op.operands] at h <;> simp only [aeff]
 case call c =>
  have h2 : ∀ t, Operand.tmp t ∈ c.args.toList → f.get t = f'.get t := fun t ht => h t (by simp [Call.operands] at ht ⊢; exact .inr ht)
  rw [evs_same h2]
  cases hc : c.callee with
  | value g =>
   have h3 : ∀ t, g = .tmp t → f.get t = f'.get t := fun t ht => h t (by simp [Call.operands, hc, ht])
   simp only
   rw [ev_same h3]
  | builtin b => rfl
  | invoke r m => rfl
 case store t x y => rw [ev_same (x := x) fun t e => h t (by simp [e]), ev_same (x := y) fun t e => h t (by simp [e])]
 case mapUpdate t x y z | insert t x y z => rw [ev_same (x := x) fun t e => h t (by simp [e]), ev_same (x := y) fun t e => h t (by simp [e]), ev_same (x := z) fun t e => h t (by simp [e])]
 all_goals first | rfl | (rw [ev_same fun t e => h t (by simp [e])])
theorem runOp_same {f f' : AF} {o : Oper} (h : Same o f f') (k : AHeap) (cf : CallF) (rf : RoundF) : runOp E base cf rf o f k = runOp E base cf rf o f' k := by
 unfold runOp
 rw [apure_same h, aread_same h, aalloc_same h, aeff_same h]
def AF.only (f : AF) (l : List Nat) : AF := ⟨l.foldl (fun tr t => tr.set t (f.get t)) .nil, f.n⟩
theorem AF.get_only (f : AF) (l : List Nat) (t : Nat) : (f.only l).get t = if t ∈ l then f.get t else undef := by
 have key : ∀ (l : List Nat) (tr : Tr Value), (∀ t, tr.get t = none ∨ tr.get t = some (f.get t)) → ∀ t, (l.foldl (fun tr t => tr.set t (f.get t)) tr).get t = if t ∈ l then some (f.get t) else tr.get t := by
  intro l
  induction l with
  | nil => intro tr _ t; simp
  | cons x l ih =>
   intro tr htr t
   simp only [List.foldl_cons]
   have h0 : ∀ t, (tr.set x (f.get x)).get t = none ∨ (tr.set x (f.get x)).get t = some (f.get t) := fun t => by
    rw [Tr.get_set]
    by_cases e : t = x
    ·subst e; rw [if_pos rfl]; exact .inr rfl
    ·rw [if_neg e]; exact htr t
   rw [ih _ h0 t, Tr.get_set]
   by_cases h1 : t ∈ l
   ·simp [h1]
   ·by_cases h2 : t = x
    ·subst h2; simp
    ·simp [h1, h2]
 have e : (f.only l).get t = (match (l.foldl (fun (tr : Tr Value) t => tr.set t (f.get t)) Tr.nil).get t with | some v => v | none => undef) := rfl
 rw [e, key l .nil (fun _ => .inl rfl) t, Tr.get_nil]
 by_cases ht : t ∈ l
 ·rw [if_pos ht, if_pos ht]
 ·rw [if_neg ht, if_neg ht]
def onlyT (tmps : Array Value) (l : List Nat) : Array Value := (Array.range tmps.size).map fun t => if t ∈ l then tmps.getD t undef else undef
theorem onlyT_size (tmps : Array Value) (l : List Nat) : (onlyT tmps l).size = tmps.size := by simp [onlyT]
theorem onlyT_get (tmps : Array Value) (l : List Nat) (t : Nat) : (onlyT tmps l).getD t undef = if t ∈ l then tmps.getD t undef else undef := by
 by_cases ht : t < tmps.size
 ·simp [onlyT, ht]
 ·simp [onlyT, ht]
def onlyA (a : Act) (l : List Nat) : Act := { a with tmps := onlyT a.tmps l }
theorem only_rel {f : AF} {a : Act} {l : List Nat} (hn : a.tmps.size = f.n) (h : ∀ t ∈ l, VRel μ (f.get t) (a.tmps.getD t undef)) : FRel μ (f.only l) (onlyA a l).tmps := by
 refine ⟨?_, fun t => ?_⟩
 ·show f.n = (onlyT a.tmps l).size
  rw [onlyT_size]; exact hn.symm
 ·show VRel μ _ ((onlyT a.tmps l).getD t undef)
  rw [AF.get_only, onlyT_get]
  split
  ·exact h t ‹_›
  ·exact .undef μ
theorem mem_looks_tmp {ops : List Oper} {o : Oper} {t : Nat} (h : Operand.tmp t ∈ o.op.operands) : t ∈ looks ops o := by
 unfold looks
 exact List.mem_append_left _ (List.mem_filterMap.2 ⟨.tmp t, by simpa using h, rfl⟩)
theorem mem_looks_guard {ops : List Oper} {o : Oper} {g : Nat} {want : Bool} {t : Nat} (h : o.guard = some (g, want)) (h2 : (ops[g]?).bind (·.dst) = some t) : t ∈ looks ops o := by
 unfold looks
 rw [h]; simp [h2]
theorem only_same (ops : List Oper) (o : Oper) (f : AF) : Same o (f.only (looks ops o)) f := fun t ht => by
 rw [AF.get_only, if_pos (mem_looks_tmp ht)]
theorem only_wanted (ops : List Oper) (o : Oper) (f : AF) : wanted ops o (f.only (looks ops o)) = wanted ops o f := by
 unfold wanted
 cases hg : o.guard with
 | none => rfl
 | some gw =>
  obtain ⟨g, want⟩ := gw
  simp only
  cases hd : (ops[g]?).bind (·.dst) with
  | none => rfl
  | some t =>
   simp only
   rw [AF.get_only, if_pos (mem_looks_guard hg hd)]
theorem only_eval {ops : List Oper} {o : Oper} {a : Act} {x : Operand} (h : x ∈ o.op.operands) : a.eval x = (onlyA a (looks ops o)).eval x := by
 cases x with
 | tmp t =>
  have := onlyT_get a.tmps (looks ops o) t
  rw [if_pos (mem_looks_tmp h)] at this
  show a.tmps.getD t undef = (onlyT a.tmps (looks ops o)).getD t undef
  exact this.symm
 | _ => rfl
theorem only_exec {ops : List Oper} {o : Oper} {a : Act} (hs : ∀ cs b, o.op ≠ .select cs b) : execOp a.eval o = execOp (onlyA a (looks ops o)).eval o :=
 execOp_congr o hs fun x hx => only_eval hx
theorem only_yielded {ops : Array Oper} {o : Oper} {a : Act} : Region.wanted o (yielded ops (onlyA a (looks ops.toList o)).tmps) = Region.wanted o (yielded ops a.tmps) := by
 unfold Region.wanted
 cases hg : o.guard with
 | none => rfl
 | some gw =>
  obtain ⟨g, want⟩ := gw
  simp only
  congr 1
  unfold yielded
  cases hd : (ops[g]?).bind (·.dst) with
  | none => simp
  | some t =>
   simp only [Option.bind_some]
   have hm : t ∈ looks ops.toList o := mem_looks_guard hg (by simpa using hd)
   show (match (onlyT a.tmps (looks ops.toList o))[t]? with | some (.bool b) => some b | _ => none) = _
   by_cases ht : t < a.tmps.size
   ·have h1 : (onlyT a.tmps (looks ops.toList o))[t]? = a.tmps[t]? := by
     simp [onlyT, ht, hm]
    rw [h1]
    rfl
   ·have e1 : a.tmps[t]? = none := Array.getElem?_eq_none (Nat.le_of_not_lt ht)
    have e2 : (onlyT a.tmps (looks ops.toList o))[t]? = none := Array.getElem?_eq_none (by rw [onlyT_size]; exact Nat.le_of_not_lt ht)
    rw [e1, e2]
theorem noSelect {cf : CallF} {rf : RoundF} {o : Oper} {r : OpR} {k : AHeap} (h : runOp E base cf rf o f k = some r) : ∀ cs b, o.op ≠ .select cs b := by
 intro cs b hc
 unfold runOp at h
 simp only [apure, aread, aalloc, aeff, hc] at h
 cases h
end
end Go.M
namespace Go.M
open Go
section
variable {E : Env} {base : Nat} {cf : CallF} {rf : RoundF}
theorem runOp_cases {o : Oper} {f : AF} {h : AHeap} {r : OpR} (hr : runOp E base cf rf o f h = some r) :
 (apure E f o = some r.v ∧ r.h = h ∧ r.log = .pure) ∨
 (∃ q, aread E f o = some q ∧ q.run h = some r.v ∧ r.h = h ∧ r.log = .rd q h) ∨
 (∃ md hd, aalloc E f o = some (md, hd) ∧ r.v = hd.val h.size ∧ r.h = h.push (md.obj h.size) ∧ r.log = .alloc h r.h) ∨
 r.log = .eff h r.h := by
 unfold runOp at hr
 split at hr
 ·simp only [Option.some.injEq] at hr; subst hr
  exact .inl ⟨by assumption, rfl, rfl⟩
 ·split at hr
  ·simp only [Option.bind_eq_some_iff, Option.some.injEq] at hr
   obtain ⟨v, hv, rfl⟩ := hr
   exact .inr (.inl ⟨_, by assumption, hv, rfl, rfl⟩)
  ·split at hr
   ·simp only [Option.some.injEq] at hr; subst hr
    exact .inr (.inr (.inl ⟨_, _, by assumption, rfl, rfl, rfl⟩))
   ·split at hr
    ·simp only [Option.some.injEq] at hr; subst hr
     rename_i he
     refine .inr (.inr (.inr rfl))
    ·simp only [Option.bind_eq_some_iff, Option.some.injEq] at hr
     obtain ⟨x, _, rfl⟩ := hr
     exact .inr (.inr (.inr rfl))
    ·simp only [Option.bind_eq_some_iff, Option.some.injEq] at hr
     obtain ⟨x, _, rfl⟩ := hr
     exact .inr (.inr (.inr rfl))
    ·cases hr
structure Trace (E : Env) (base : Nat) (cf : CallF) (rf : RoundF) (all ops : List Oper) (fs : Nat → AF) (hs : Nat → AHeap) (vs : Nat → Value) (lg : Nat → LogE) : Prop where
 put : ∀ j o, ops[j]? = some o → fs (j + 1) = (fs j).put o.dst (vs j)
 run : ∀ j o, ops[j]? = some o → (wanted all o (fs j) = true ∧ runOp E base cf rf o (fs j) (hs j) = some ⟨vs j, hs (j + 1), lg j⟩) ∨ (wanted all o (fs j) = false ∧ vs j = undef ∧ hs (j + 1) = hs j ∧ lg j = .pure)
theorem trace_of {all : List Oper} : ∀ {ops : List Oper} {f : AF} {h : AHeap} {f' : AF} {h' : AHeap} {logs : List LogE}, aopsL E base cf rf all ops f h = some (f', h', logs) →
 ∃ fs hs vs lg, Trace E base cf rf all ops fs hs vs lg ∧ fs 0 = f ∧ hs 0 = h ∧ fs ops.length = f' ∧ hs ops.length = h' ∧ ∀ j, j < ops.length → logs[j]? = some (lg j)
 | [], f, h, f', h', logs, hr => by
  simp only [aopsL, Option.some.injEq, Prod.mk.injEq] at hr
  obtain ⟨rfl, rfl, rfl⟩ := hr
  exact ⟨fun _ => f, fun _ => h, fun _ => undef, fun _ => .pure, ⟨fun j o ho => by simp at ho, fun j o ho => by simp at ho⟩, rfl, rfl, rfl, rfl, fun j hj => by simp at hj⟩
 | o :: ops, f, h, f', h', logs, hr => by
  simp only [aopsL] at hr
  have fin : ∀ (v : Value) (h1 : AHeap) (l1 : LogE) (f1 : AF) (h2 : AHeap) (l2 : List LogE), aopsL E base cf rf all ops (f.put o.dst v) h1 = some (f1, h2, l2) →
   ((wanted all o f = true ∧ runOp E base cf rf o f h = some ⟨v, h1, l1⟩) ∨ (wanted all o f = false ∧ v = undef ∧ h1 = h ∧ l1 = .pure)) →
   ∃ fs hs vs lg, Trace E base cf rf all (o :: ops) fs hs vs lg ∧ fs 0 = f ∧ hs 0 = h ∧ fs (o :: ops).length = f1 ∧ hs (o :: ops).length = h2 ∧ ∀ j, j < (o :: ops).length → (l1 :: l2)[j]? = some (lg j) := by
   intro v h1 l1 f1 h2 l2 hrun hk
   obtain ⟨fs, hs, vs, lg, T, e1, e2, e3, e4, e5⟩ := trace_of hrun
   refine ⟨fun | 0 => f | j + 1 => fs j, fun | 0 => h | j + 1 => hs j, fun | 0 => v | j + 1 => vs j, fun | 0 => l1 | j + 1 => lg j, ⟨?_, ?_⟩, rfl, rfl, e3, e4, ?_⟩
   ·intro j p hp
    cases j with
    | zero => simp at hp; subst hp; exact e1
    | succ j => exact T.put j p (by simpa using hp)
   ·intro j p hp
    cases j with
    | zero => simp at hp; subst hp; simpa [e2] using hk
    | succ j => exact T.run j p (by simpa using hp)
   ·intro j hj
    cases j with
    | zero => rfl
    | succ j => simpa using e5 j (by simpa using hj)
  split at hr
  ·rename_i hw
   simp only [Option.bind_eq_some_iff, Option.some.injEq, Prod.mk.injEq] at hr
   obtain ⟨r, hr1, ⟨f1, h2, l2⟩, hr2, rfl, rfl, rfl⟩ := hr
   exact fin _ _ _ _ _ _ hr2 (.inl ⟨hw, by rw [hr1]⟩)
  ·rename_i hw
   simp only [Option.bind_eq_some_iff, Option.some.injEq, Prod.mk.injEq] at hr
   obtain ⟨⟨f1, h2, l2⟩, hr2, rfl, rfl, rfl⟩ := hr
   exact fin _ _ _ _ _ _ hr2 (.inr ⟨hw, rfl, rfl, rfl⟩)
def bitF (acc : List Nat) (s : Nat) (e : Edge) : Nat := match Region.binds .any e with | true => s ||| 2 ^ e.on ||| acc.getD e.on 0 | false => s
theorem befores_cons (p : Oper) (l : List Oper) (acc : List Nat) : befores (p :: l) acc = befores l (acc ++ [p.after.toList.foldl (bitF acc) 0]) := rfl
theorem foldl_bits (acc : List Nat) (b : Nat) : ∀ (es : List Edge) (s : Nat), (es.foldl (bitF acc) s).testBit b = true →
 s.testBit b = true ∨ ∃ e ∈ es, Region.binds .any e = true ∧ (b = e.on ∨ (acc.getD e.on 0).testBit b = true)
 | [], s, h => .inl h
 | e :: es, s, h => by
  simp only [List.foldl_cons] at h
  rcases foldl_bits acc b es _ h with h1 | ⟨e', h1, h2⟩
  ·unfold bitF at h1
   cases hb : Region.binds .any e with
   | false => rw [hb] at h1; exact .inl h1
   | true =>
    rw [hb] at h1
    simp only [Nat.testBit_or, Bool.or_eq_true, Nat.testBit_two_pow, decide_eq_true_eq] at h1
    rcases h1 with (h1 | h1) | h1
    ·exact .inl h1
    ·exact .inr ⟨e, List.mem_cons_self, hb, .inl h1.symm⟩
    ·exact .inr ⟨e, List.mem_cons_self, hb, .inr h1⟩
  ·exact .inr ⟨e', List.mem_cons_of_mem _ h1, h2⟩
theorem befores_spec : ∀ (l : List Oper) (acc : List Nat), ∃ ys, befores l acc = acc ++ ys ∧ ∀ i o, l[i]? = some o → ∀ b, ((acc ++ ys).getD (acc.length + i) 0).testBit b = true →
 ∃ e ∈ o.after.toList, Region.binds .any e = true ∧ (b = e.on ∨ (e.on < acc.length + i ∧ ((acc ++ ys).getD e.on 0).testBit b = true))
 | [], acc => ⟨[], by simp [befores], fun i o h => by simp at h⟩
 | p :: l, acc => by
  obtain ⟨ys, h1, h2⟩ := befores_spec l (acc ++ [p.after.toList.foldl (bitF acc) 0])
  refine ⟨(p.after.toList.foldl (bitF acc) 0) :: ys, by rw [befores_cons, h1]; simp, fun i o ho b hb => ?_⟩
  cases i with
  | zero =>
   simp at ho; subst ho
   have e0 : (acc ++ (p.after.toList.foldl (bitF acc) 0) :: ys).getD (acc.length + 0) 0 = (p.after.toList.foldl (bitF acc) 0) := by
    simp [List.getD]
   rw [e0] at hb
   rcases foldl_bits _ _ _ _ hb with hz | ⟨e, k1, k2, k3⟩
   ·simp at hz
   ·refine ⟨e, k1, k2, ?_⟩
    rcases k3 with k3 | k3
    ·exact .inl k3
    ·by_cases hlt : e.on < acc.length
     ·refine .inr ⟨by omega, ?_⟩
      rw [← k3]
      simp [List.getD, List.getElem?_append_left hlt]
     ·simp [List.getD, List.getElem?_eq_none (Nat.le_of_not_lt hlt)] at k3
  | succ i =>
   have := h2 i o (by simpa using ho) b (by simpa [Nat.add_assoc, Nat.add_comm 1 i] using hb)
   simpa [Nat.add_assoc, Nat.add_comm 1 i] using this
theorem befores_bit {ops : List Oper} {i : Nat} {o : Oper} (ho : ops[i]? = some o) {b : Nat} (hb : ((befores ops []).getD i 0).testBit b = true) :
 ∃ e ∈ o.after.toList, Region.binds .any e = true ∧ (b = e.on ∨ (e.on < i ∧ ((befores ops []).getD e.on 0).testBit b = true)) := by
 obtain ⟨ys, h1, h2⟩ := befores_spec ops []
 simp only [List.nil_append, List.length_nil, Nat.zero_add] at h1 h2
 rw [h1] at hb ⊢
 exact h2 i o ho b hb
theorem slotsOk1_get {ops : List Oper} {bs : List Nat} {i : Nat} {o : Oper} : ∀ {l : List Oper} {j0 : Nat}, slotsOk1 ops bs i o j0 l = true → ∀ k p, l[k]? = some p → i ≠ j0 + k → ∀ d, p.dst = some d → o.dst ≠ some d ∧ (d ∈ looks ops o → ordered bs i (j0 + k) = true)
 | [], j0, _, k, p, hp, _, d, _ => by simp at hp
 | q :: l, j0, h, k, p, hp, hne, d, hd => by
  simp only [slotsOk1, Bool.and_eq_true, Bool.or_eq_true, beq_iff] at h
  obtain ⟨h1, h2⟩ := h
  cases k with
  | zero =>
   simp at hp; subst hp
   rcases h1 with h1 | h1
   ·exact absurd h1 hne
   ·rw [hd] at h1
    simp only [Bool.and_eq_true, bne_iff_ne, Bool.or_eq_true, Bool.not_eq_true'] at h1
    refine ⟨h1.1, fun hm => ?_⟩
    rcases h1.2 with h3 | h3
    ·have : (looks ops o).contains d = true := by simpa using hm
     rw [this] at h3; cases h3
    ·exact h3
  | succ k =>
   have := slotsOk1_get h2 k p (by simpa using hp) (by omega) d hd
   rw [show j0 + (k + 1) = j0 + 1 + k by omega]; exact this
theorem slotsOk_get {ops : List Oper} {bs : List Nat} : ∀ {l : List Oper} {i0 : Nat}, slotsOk ops bs i0 l = true → ∀ k o, l[k]? = some o → slotsOk1 ops bs (i0 + k) o 0 ops = true ∧ ∀ e ∈ o.after.toList, Region.binds .any e = true → e.on < i0 + k
 | [], i0, _, k, o, ho => by simp at ho
 | q :: l, i0, h, k, o, ho => by
  simp only [slotsOk, Bool.and_eq_true, List.all_eq_true, Bool.or_eq_true, Bool.not_eq_true', blt_iff] at h
  obtain ⟨⟨h1, h2⟩, h3⟩ := h
  cases k with
  | zero =>
   simp at ho; subst ho
   refine ⟨h1, fun e he hb => ?_⟩
   rcases h2 e he with h4 | h4
   ·rw [hb] at h4; cases h4
   ·exact h4
  | succ k =>
   have := slotsOk_get h3 k o (by simpa using ho)
   rw [show i0 + (k + 1) = i0 + 1 + k by omega]; exact this
structure TextOk (ops : List Oper) : Prop where
 edge : ∀ (i : Nat) (o : Oper), ops[i]? = some o → ∀ e ∈ o.after.toList, Region.binds .any e = true → e.on < i
 one : ∀ (i j : Nat) (o p : Oper) (d : Tmp), ops[i]? = some o → ops[j]? = some p → i ≠ j → p.dst = some d → o.dst ≠ some d
 look : ∀ (i j : Nat) (o p : Oper) (d : Tmp), ops[i]? = some o → ops[j]? = some p → i ≠ j → p.dst = some d → d ∈ looks ops o → ordered (befores ops []) i j = true
theorem textOk {ops : List Oper} (h : staticOk ops = true) : TextOk ops := by
 have key := fun i o ho => slotsOk_get (l := ops) (i0 := 0) h i o ho
 simp only [Nat.zero_add] at key
 have k2 := fun i o ho j p (hp : ops[j]? = some p) => slotsOk1_get (l := ops) (j0 := 0) (key i o ho).1 j p hp
 simp only [Nat.zero_add] at k2
 exact ⟨fun i o ho => (key i o ho).2, fun i j o p d ho hp hne hd => (k2 i o ho j p hp hne d hd).1, fun i j o p d ho hp hne hd hm => (k2 i o ho j p hp hne d hd).2 hm⟩
theorem bit_lt {ops : List Oper} (T : TextOk ops) : ∀ (j : Nat) (o : Oper), ops[j]? = some o → ∀ b, ((befores ops []).getD j 0).testBit b = true → b < j := by
 intro j
 induction j using Nat.strongRecOn with
 | ind j ih =>
  intro o ho b hb
  obtain ⟨e, h1, h2, h3⟩ := befores_bit ho hb
  have hlt := T.edge j o ho e h1 h2
  rcases h3 with rfl | ⟨h3, h4⟩
  ·exact hlt
  ·have hlen : j < ops.length := (List.getElem?_eq_some_iff.1 ho).1
   have := ih e.on h3 _ (List.getElem?_eq_getElem (by omega)) b h4
   omega
def Ready (ops : List Oper) (L : Nat → Bool) (o : Oper) : Prop := ∀ e ∈ o.after.toList, Region.binds .any e = true → L e.on = true
def Closed (ops : List Oper) (L : Nat → Bool) : Prop := ∀ j o, ops[j]? = some o → L j = true → Ready ops L o
theorem bit_listed {ops : List Oper} {L : Nat → Bool} (C : Closed ops L) : ∀ (j : Nat) (o : Oper), ops[j]? = some o → Ready ops L o → ∀ b, ((befores ops []).getD j 0).testBit b = true → L b = true := by
 intro j
 induction j using Nat.strongRecOn with
 | ind j ih =>
  intro o ho hr b hb
  obtain ⟨e, h1, h2, h3⟩ := befores_bit ho hb
  have hl := hr e h1 h2
  rcases h3 with rfl | ⟨h3, h4⟩
  ·exact hl
  ·have hlen : j < ops.length := (List.getElem?_eq_some_iff.1 ho).1
   have h5 := List.getElem?_eq_getElem (l := ops) (i := e.on) (by omega)
   exact ih e.on h3 _ h5 (C _ _ h5 hl) b h4
theorem ordered_listed {ops : List Oper} (T : TextOk ops) {L : Nat → Bool} (C : Closed ops L) {i j : Nat} (hij : i < j) {o : Oper} (ho : ops[j]? = some o) (hr : Ready ops L o) (h : ordered (befores ops []) i j = true ∨ ordered (befores ops []) j i = true) : L i = true := by
 have hlen : j < ops.length := (List.getElem?_eq_some_iff.1 ho).1
 have h5 := List.getElem?_eq_getElem (l := ops) (i := i) (by omega)
 have : ((befores ops []).getD j 0).testBit i = true := by
  unfold ordered at h
  simp only [Bool.or_eq_true] at h
  rcases h with (h | h) | (h | h)
  ·exact h
  ·have := bit_lt T i _ h5 j h; omega
  ·have := bit_lt T i _ h5 j h; omega
  ·exact h
 exact bit_listed C j o ho hr i this
theorem allPass1_get {bs : List Nat} {i : Nat} {x : LogE} : ∀ {l : List LogE} {j0 : Nat}, allPass1 bs i x j0 l = true → ∀ k y, l[k]? = some y → mayPass bs i x (j0 + k) y = true
 | [], _, _, k, y, h => by simp at h
 | z :: l, j0, h, k, y, hy => by
  simp only [allPass1, Bool.and_eq_true] at h
  cases k with
  | zero => simp at hy; subst hy; exact h.1
  | succ k =>
   have := allPass1_get h.2 k y (by simpa using hy)
   rw [show j0 + (k + 1) = j0 + 1 + k by omega]; exact this
theorem allPass_get {bs : List Nat} : ∀ {l : List LogE} {i0 : Nat}, allPass bs i0 l = true → (∀ (i : Nat) (x : LogE), l[i]? = some x → growsL x = true) ∧ ∀ (i j : Nat) (x y : LogE), i < j → l[i]? = some x → l[j]? = some y → mayPass bs (i0 + i) x (i0 + j) y = true
 | [], _, _ => ⟨fun i x h => by simp at h, fun i j x y _ h => by simp at h⟩
 | z :: l, i0, h => by
  simp only [allPass, Bool.and_eq_true] at h
  obtain ⟨⟨h1, h2⟩, h3⟩ := h
  obtain ⟨k1, k2⟩ := allPass_get h3
  refine ⟨fun i x hx => ?_, fun i j x y hij hx hy => ?_⟩
  ·cases i with
   | zero => simp at hx; subst hx; exact h1
   | succ i => exact k1 i x (by simpa using hx)
  ·cases j with
   | zero => omega
   | succ j =>
    cases i with
    | zero =>
     simp at hx; subst hx
     have := allPass1_get h2 j y (by simpa using hy)
     rw [show i0 + (j + 1) = i0 + 1 + j by omega]; exact this
    | succ i =>
     have := k2 i j x y (by omega) (by simpa using hx) (by simpa using hy)
     rw [show i0 + (i + 1) = i0 + 1 + i by omega, show i0 + (j + 1) = i0 + 1 + j by omega]; exact this
variable {all ops : List Oper} {fs : Nat → AF} {hs : Nat → AHeap} {vs : Nat → Value} {lg : Nat → LogE}
theorem Trace.fs_n (T : Trace E base cf rf all ops fs hs vs lg) : ∀ k, k ≤ ops.length → (fs k).n = (fs 0).n := by
 intro k
 induction k with
 | zero => intro _; rfl
 | succ k ih =>
  intro hk
  rw [T.put k _ (List.getElem?_eq_getElem (by omega)), AF.n_put, ih (by omega)]
theorem AF.get_put (f : AF) (d : Option Tmp) (v : Value) (t : Nat) : (f.put d v).get t = if d = some t ∧ t < f.n then v else f.get t := by
 cases d with
 | none => simp [AF.put]
 | some d =>
  simp only [AF.put, AF.get_set, Option.some.injEq]
  by_cases e : t = d
  ·subst e; simp
  ·have : d ≠ t := fun h => e h.symm
   simp [e, this]
theorem Trace.fs_old (T : Trace E base cf rf all ops fs hs vs lg) (t : Nat) : ∀ k, k ≤ ops.length → (∀ j o, j < k → ops[j]? = some o → o.dst ≠ some t) → (fs k).get t = (fs 0).get t := by
 intro k
 induction k with
 | zero => intro _ _; rfl
 | succ k ih =>
  intro hk hno
  rw [T.put k _ (List.getElem?_eq_getElem (by omega)), AF.get_put, if_neg (fun h => hno k _ (by omega) (List.getElem?_eq_getElem (by omega)) h.1), ih (by omega) fun j o hj ho => hno j o (by omega) ho]
theorem Trace.fs_new (T : Trace E base cf rf all ops fs hs vs lg) (X : TextOk ops) {t : Nat} (ht : t < (fs 0).n) {j : Nat} {o : Oper} (ho : ops[j]? = some o) (hd : o.dst = some t) : ∀ k, k ≤ ops.length → j < k → (fs k).get t = vs j := by
 intro k
 induction k with
 | zero => intro _ h; omega
 | succ k ih =>
  intro hk hjk
  have hk0 := List.getElem?_eq_getElem (l := ops) (i := k) (by omega)
  rw [T.put k _ hk0, AF.get_put]
  by_cases e : j = k
  ·subst e
   rw [hk0] at ho; cases ho
   rw [if_pos ⟨hd, by rw [T.fs_n j (by omega)]; exact ht⟩]
  ·rw [if_neg (fun h => X.one k j _ o t hk0 ho (fun h => e h.symm) hd h.1), ih (by omega) (by omega)]
end
end Go.M
namespace Go.M
open Go
section
variable {P : Program} {E : Env} {μ : Emb} {f : AF} {a : Act} {base B : Nat} {h : AHeap} {w : World} {cf : CallF} {rf : RoundF}
theorem op_simA (hE : EnvOk P E) (hcf : CallOk P E base B cf) (hrf : RoundOk P E base B rf) (hcF : CallFun E cf) (hrF : RoundFun rf) {F : Fence} (hF : Wide F) {n : Nat} (hf : FRel μ f a.tmps) (H : HRel E base B μ h w) {o : Oper} {r : OpR} (hr : runOp E base cf rf o f h = some r) {a1 : Act} (hex : execOp a1.eval o = execOp a.eval o)
 {next : Act → World → Prop} {Q : Exit → Act → World → Prop} (hn : ∀ μ' v' w', VRel μ' r.v v' → Step E base B μ h w μ' r.h w' → next (a1.put o.dst v') w') : o.wpIn F n P a1 w next Q := by
 have hg : GlobOk E μ := H.glob
 refine ⟨fun _ _ => hF.fn _, ?_⟩
 rw [Oper.semAt_eq _ _ _ (noDefer hr), hex]
 unfold runOp at hr
 split at hr
 ·rename_i v hp
  simp only [Option.some.injEq] at hr; subst hr
  obtain ⟨v', q1, q2⟩ := apure_sim hE hg hf hp
  rw [q2 w]
  exact hn μ v' w q1 (.refl H)
 ·split at hr
  ·rename_i q hq
   simp only [Option.bind_eq_some_iff, Option.some.injEq] at hr
   obtain ⟨v, hv, rfl⟩ := hr
   obtain ⟨v', q1, q2⟩ := aread_sim hE hf H hq hv
   rw [q2]
   exact hn μ v' w q1 (.refl H)
  ·split at hr
   ·rename_i md hd hal
    simp only [Option.some.injEq] at hr; subst hr
    obtain ⟨o', k, hv, S⟩ := aalloc_sim hE hg hf hal
    rw [S.run w]
    have st := Step.alloc (o := md.obj h.size) H (Alc.mk' w o') k (fun cs f tip thr hh => by cases md <;> simp [Made.obj] at hh; exact ⟨hh.2.1.symm, hh.2.2.1.symm⟩) (S.obj _ _ _ _ _ (upd_le H.fresh))
    exact hn _ _ _ (S.val _ _ _ (upd_self _ _ _)) st
   ·split at hr
    ·rename_i v h' he
     simp only [Option.some.injEq] at hr; subst hr
     obtain ⟨μ', nx, v', w', q1, q2, q3, q4⟩ := aeff_val hE hf H he
     rw [q1]
     rcases q2 with rfl | ⟨rfl, rfl⟩
     ·exact hn μ' v' w' q3 q4
     ·exact hn μ' undef w' q3 q4
    ·rename_i g args h' he
     simp only [Option.bind_eq_some_iff, Option.some.injEq] at hr
     obtain ⟨⟨v, h2⟩, hc, rfl⟩ := hr
     have hfun := hcF _ _ _ _ hc
     obtain ⟨args', e, q1, q2⟩ := aeff_enter hE hf H he hfun
     subst e
     rw [q2]
     refine ⟨hF.ok n, (hcf μ h' w g args args' v h2 hc q1 H F (n - 1) hF).mono ?_⟩
     rintro e w' ⟨v', μ', rfl, k1, k2⟩
     exact hn μ' v' w' k1 k2
    ·rename_i l args h' he
     simp only [Option.bind_eq_some_iff, Option.some.injEq] at hr
     obtain ⟨⟨v, h2⟩, hc, rfl⟩ := hr
     obtain ⟨st, p, f0, ps, asg, body, hl, hlen⟩ := hrF _ _ _ _ hc
     have hh : h' = h := by
      obtain ⟨dst, op, type, pos, after, guard⟩ := o
      cases op <;> simp only [aeff] at he <;> first | cases he | skip
      all_goals simp only [Option.bind_eq_some_iff, Option.some.injEq, Prod.mk.injEq, grd_some, reduceCtorEq, false_and, and_false, exists_false] at he
      ·obtain ⟨_, _, _, _, he⟩ := he
       split at he
       ·split at he <;> simp at he
       ·cases he
      ·obtain ⟨_, _, he⟩ := he
       split at he
       ·first | (simp at he; done) | (obtain ⟨_, _, he⟩ := he; simp at he; done) | (simp only [Option.bind_eq_some_iff] at he; obtain ⟨_, _, he⟩ := he; cases he)
       ·try simp only [Option.bind_eq_some_iff] at he
        obtain ⟨_, _, he⟩ := he
        split at he
        ·simp at he
        ·simp only [Option.some.injEq, Prod.mk.injEq] at he; exact he.2.symm
        ·cases he
       ·cases he
     subst hh
     obtain ⟨m, args', lo, _, hb, hw, q1, q2, q3⟩ := aeff_round (P := P) hf H he hl hlen
     rw [q2]
     refine ⟨hF.ok n, (hrf μ h' w l args v h2 m f0 ps asg body st p lo.fn _ hc hl hb H (setAll_rel q3 q1) F (n - 1) hF).mono ?_⟩
     rintro e w' ⟨v', μ', rfl, k1, k2⟩
     exact hn μ' v' w' k1 k2
    ·cases hr
def cut (μ : Emb) (s : Nat) : Emb := fun b => if b < s then μ b else none
theorem cut_some {μ : Emb} {s b : Nat} {m : MT} : cut μ s b = some m ↔ b < s ∧ μ b = some m := by
 unfold cut; split <;> simp [*]
theorem cut_mono {μ μ' : Emb} (h : μ.le μ') {s t : Nat} (hs : s ≤ t) : (cut μ s).le (cut μ' t) := fun b m hb => by
 have := cut_some.1 hb
 exact cut_some.2 ⟨by omega, h _ _ this.2⟩
theorem le_cut {μ0 μ : Emb} (h : μ0.le μ) {s : Nat} (hd : ∀ b m, μ0 b = some m → b < s) : μ0.le (cut μ s) := fun b m hb => cut_some.2 ⟨hd b m hb, h b m hb⟩
theorem HRel.pushA (H : HRel E base B μ h w) {o : AObj} (hself : ∀ cs f tip thr, o = .cells cs f tip thr → f = h.size) : HRel E base B μ (h.push o) w := by
 refine ⟨fun b m hb => ?_, fun c hc => ?_, fun c m hc => ?_, H.own, fun b1 b2 m1 m2 hb1 hb2 hr hne hbb => ?_, fun c m r hc hr => ?_, H.glob, H.low, ?_, fun b cs f tip thr hb => ?_, fun c m cs thr hc hg => ?_⟩
 ·have := H.dom b m hb; simp only [AHeap.size_push]; omega
 ·simp only [AHeap.size_push] at hc
  rw [AHeap.get_push, if_neg (by omega)]; exact H.high c (by omega)
 ·have h1 := H.dom c m hc
  obtain ⟨p, p', k1, k2, k3⟩ := H.obj c m hc
  exact ⟨p, p', by rw [AHeap.get_push, if_neg (by omega)]; exact k1, k2, k3.mono μ.le_refl (by rw [rd_push H.wf o h1]; exact id)⟩
 ·have h1 := H.dom _ _ hb1
  have k1 := H.dom _ _ hb2
  obtain ⟨r, q1, q2, q3⟩ := H.alias b1 b2 m1 m2 hb1 hb2 hr hne hbb
  exact ⟨r, by rw [fam_push H.wf o h1]; exact q1, by rw [fam_push H.wf o k1]; exact q2, by rw [lenOf_push o h1, lenOf_push o k1]; exact q3⟩
 ·rw [fam_push H.wf o (H.dom _ _ hc)] at hr
  exact H.fam c m r hc hr
 ·have := H.bsz; simp only [AHeap.size_push]; omega
 ·rw [AHeap.get_push] at hb
  by_cases e : b = h.size
  ·rw [if_pos e, Option.some.injEq] at hb; have := hself _ _ _ _ hb; omega
  ·rw [if_neg e] at hb; exact H.wf _ _ _ _ _ hb
 ·have := H.dom c m hc
  rw [AHeap.get_push, if_neg (by omega)] at hg
  exact H.root c m cs thr hc hg
theorem HRel.track (H : HRel E base B μ h w) {b : Nat} {o : AObj} {o' : Obj} {m : MT} (hb : b < h.size) (hg : h.get b = some o) (hn : μ b = none) (hbase : base ≤ b) (hB : B ≤ m.r) (hw : w.heap[m.r]? = some o')
 (hap : ∀ c mc, μ c = some mc → mc.r ≠ m.r) (hself : ∀ cs f tip thr, o = .cells cs f tip thr → f = b ∧ b ≤ tip) (hrt : ∀ cs thr, o = .cells cs b b thr → m.s = 0) (ho : ORel (upd μ b m) h base b m o o') : HRel E base B (upd μ b m) h w := by
 have hle : μ.le (upd μ b m) := upd_le hn
 have cas : ∀ {c : Nat} {mc : MT}, upd μ b m c = some mc → (c = b ∧ mc = m) ∨ (c ≠ b ∧ μ c = some mc) := by
  intro c mc hc
  by_cases e : c = b
  ·subst e; rw [upd_self] at hc; cases hc; exact .inl ⟨rfl, rfl⟩
  ·rw [upd_ne _ _ e] at hc; exact .inr ⟨e, hc⟩
 refine ⟨fun c mc hc => ?_, H.high, fun c mc hc => ?_, fun c mc hc hcb => ?_, fun b1 b2 m1 m2 hb1 hb2 hr hne hbb => ?_, fun c mc r hc hr => ?_, fun g hgl => ?_, H.low, H.bsz, H.wf, fun c mc cs thr hc hgc => ?_⟩
 ·rcases cas hc with ⟨rfl, _⟩ | ⟨_, h2⟩
  ·exact hb
  ·exact H.dom _ _ h2
 ·rcases cas hc with ⟨rfl, rfl⟩ | ⟨_, h2⟩
  ·exact ⟨o, o', hg, hw, ho⟩
  ·obtain ⟨p, p', k1, k2, k3⟩ := H.obj c mc h2
   exact ⟨p, p', k1, k2, k3.mono hle id⟩
 ·rcases cas hc with ⟨rfl, rfl⟩ | ⟨_, h2⟩
  ·exact hB
  ·exact H.own c mc h2 hcb
 ·rcases cas hb1 with ⟨rfl, rfl⟩ | ⟨_, h2⟩ <;> rcases cas hb2 with ⟨rfl, rfl⟩ | ⟨_, k2⟩
  ·exact absurd rfl hne
  ·exact absurd hr.symm (hap _ _ k2)
  ·exact absurd hr (hap _ _ h2)
  ·exact H.alias b1 b2 m1 m2 h2 k2 hr hne hbb
 ·rcases cas hc with ⟨rfl, rfl⟩ | ⟨_, h2⟩
  ·obtain ⟨cs, t, th, h1⟩ := fam_cells hr
   obtain ⟨c0, h2⟩ := fam_root hr
   rw [hg, Option.some.injEq] at h1
   obtain ⟨e1, e2⟩ := hself _ _ _ _ h1
   rw [e1, hg, h1, Option.some.injEq, AObj.cells.injEq] at h2
   exact ⟨by omega, by omega, mc, by rw [e1, upd_self]⟩
  ·obtain ⟨q1, q2, m', q3⟩ := H.fam c mc r h2 hr
   exact ⟨q1, q2, m', hle _ _ q3⟩
 ·obtain ⟨mc, q1, q2⟩ := H.glob g hgl
  exact ⟨mc, hle _ _ q1, q2⟩
 ·rcases cas hc with ⟨rfl, rfl⟩ | ⟨_, h2⟩
  ·rw [hg, Option.some.injEq] at hgc; exact hrt cs thr hgc
  ·exact H.root c mc cs thr h2 hgc
theorem eqL1_eq {a b : Value} (h : eqL1 a b = true) : a = b := by
 unfold eqL1 at h
 split at h
 ·simpa using h
 ·simp only [Bool.and_eq_true, beq_iff_eq] at h; rw [h.1, h.2]
 ·simp only [beq_iff_eq] at h
  exact congrArg _ (ByteArray.ext (Array.ext' h))
 ·simp only [beq_iff_eq] at h; rw [h]
 ·simp only [Bool.and_eq_true, beq_iff_eq, beq_iff] at h; rw [h.1.1, h.1.2, h.2]
 ·simp only [beq_iff_eq] at h; rw [h]
 ·simp only [beq_iff_eq] at h; rw [h]
 ·rfl
 ·rfl
 ·simp only [Bool.and_eq_true, beq_iff_eq, beq_iff] at h; rw [h.1.1, h.1.2, h.2]
 ·simp only [Bool.and_eq_true, beq_iff] at h
  obtain ⟨⟨⟨⟨h0, h1⟩, h2⟩, h3⟩, h4⟩ := h
  rw [h0, Array.eq_empty_of_size_eq_zero h1, Array.eq_empty_of_size_eq_zero h2, Array.eq_empty_of_size_eq_zero h3, Array.eq_empty_of_size_eq_zero h4]
 ·cases h
theorem eqLs_eq : ∀ {a b : List Value}, eqLs a b = true → a = b
 | [], [], _ => rfl
 | x :: a, y :: b, h => by
  simp only [eqLs, Bool.and_eq_true] at h
  rw [eqL1_eq h.1, eqLs_eq h.2]
 | [], _ :: _, h => by simp [eqLs] at h
 | _ :: _, [], h => by simp [eqLs] at h
theorem eqL_eq {a b : Value} (h : eqL a b = true) : a = b := by
 unfold eqL at h
 split at h
 ·rw [Array.ext' (eqLs_eq h)]
 ·exact eqL1_eq h
theorem eqEs_eq : ∀ {a b : List MapEntry}, eqEs a b = true → a = b
 | [], [], _ => rfl
 | x :: a, y :: b, h => by
  simp only [eqEs, Bool.and_eq_true, beq_iff] at h
  obtain ⟨⟨⟨h1, h2⟩, h3⟩, h4⟩ := h
  rw [eqEs_eq h4]
  obtain ⟨k, v, n⟩ := x
  obtain ⟨k', v', n'⟩ := y
  simp only at h1 h2 h3
  rw [eqL_eq h1, eqL_eq h2, h3]
 | [], _ :: _, h => by simp [eqEs] at h
 | _ :: _, [], h => by simp [eqEs] at h
theorem sameRQ_run {h h' : AHeap} {q : RQ} (hs : sameRQ h h' q = true) (hb : q.blk < h.size) : q.run h' = q.run h := by
 unfold sameRQ at hs
 rw [Bool.or_eq_true] at hs
 rcases hs with hs | hs
 rotate_left
 ·have : h = h' := of_decide_eq_true (inst := Classical.propDecidable _) hs
  rw [this]
 unfold sameRQ0 at hs
 rw [blt_iff.2 hb] at hs
 cases q with
 | cells agg b o n =>
  simp only [cond_true] at hs
  simp only [RQ.run]
  split at hs
  ·rename_i l l' h1 h2
   rw [h1, h2, eqLs_eq hs]
  ·cases hs
 | look r kd k z ok =>
  simp only [cond_true] at hs
  simp only [RQ.run]
  split at hs
  ·rename_i l l' h1 h2
   rw [h1, h2]
   simp only [Option.bind_some]
   rw [eqEs_eq hs]
  ·cases hs
 | len r =>
  simp only [cond_true] at hs
  simp only [RQ.run]
  split at hs
  ·rename_i l l' h1 h2
   rw [h1, h2]
   simp only [Option.bind_some]
   rw [eqEs_eq hs]
  ·cases hs
theorem stay_run {h : AHeap} {q : RQ} {o : AObj} (hs : stayRQ h q = true) (hb : q.blk < h.size) : q.run (h.push o) = q.run h := by
 unfold stayRQ at hs
 rw [blt_iff.2 hb] at hs
 simp only [cond_true] at hs
 have hg : (h.push o).get q.blk = h.get q.blk := by rw [AHeap.get_push, if_neg (by omega)]
 cases q with
 | cells agg b o' n =>
  simp only [RQ.blk] at hs hb hg
  have hf : (h.push o).fam b = h.fam b := by
   unfold AHeap.fam
   rw [hg]
   split
   ·rename_i cs f tip thr he
    rw [he] at hs
    simp only [blt_iff] at hs
    rw [AHeap.get_push, if_neg (by omega)]
   ·rfl
  simp only [RQ.run, readCells, AHeap.rd, hf, AHeap.cellsOf, hg]
 | look r kd k z ok =>
  simp only [RQ.blk] at hg
  simp only [RQ.run, mapAt, hg]
 | len r =>
  simp only [RQ.blk] at hg
  simp only [RQ.run, mapAt, hg]
end
end Go.M
namespace Go.M
open Go
structure TOk (ops : List Oper) (hs : Nat → AHeap) (lg : Nat → LogE) : Prop where
 kind : ∀ j, j < ops.length → (lg j = .pure ∧ hs (j + 1) = hs j) ∨ (∃ q, lg j = .rd q (hs j) ∧ hs (j + 1) = hs j ∧ q.blk < (hs j).size) ∨
  (∃ md : Made, lg j = .alloc (hs j) (hs (j + 1)) ∧ hs (j + 1) = (hs j).push (md.obj (hs j).size)) ∨ (lg j = .eff (hs j) (hs (j + 1)) ∧ (hs j).size ≤ (hs (j + 1)).size)
 pass : ∀ i j, i < j → j < ops.length → mayPass (befores ops []) i (lg i) j (lg j) = true
def Al (ops : List Oper) (hs : Nat → AHeap) (lg : Nat → LogE) (j : Nat) (md : Made) : Prop :=
 j < ops.length ∧ lg j = .alloc (hs j) (hs (j + 1)) ∧ hs (j + 1) = (hs j).push (md.obj (hs j).size)
section
variable {E : Env} {base B : Nat} {ops : List Oper} {hs : Nat → AHeap} {lg : Nat → LogE}
theorem TOk.step (X : TOk ops hs lg) {j : Nat} (hj : j < ops.length) : (hs j).size ≤ (hs (j + 1)).size := by
 rcases X.kind j hj with ⟨_, h⟩ | ⟨q, _, h, _⟩ | ⟨md, _, h⟩ | ⟨_, h⟩
 ·rw [h]; exact Nat.le_refl _
 ·rw [h]; exact Nat.le_refl _
 ·rw [h, AHeap.size_push]; omega
 ·exact h
theorem TOk.mono (X : TOk ops hs lg) {i : Nat} : ∀ {j : Nat}, i ≤ j → j ≤ ops.length → (hs i).size ≤ (hs j).size := by
 intro j
 induction j with
 | zero => intro h _; rw [Nat.le_zero.1 h]; exact Nat.le_refl _
 | succ j ih =>
  intro h hj
  by_cases e : i = j + 1
  ·subst e; exact Nat.le_refl _
  ·exact Nat.le_trans (ih (by omega) (by omega)) (X.step (by omega))
theorem Al.size {j : Nat} {md : Made} (h : Al ops hs lg j md) : (hs (j + 1)).size = (hs j).size + 1 := by rw [h.2.2]; rfl
theorem Al.inj (X : TOk ops hs lg) {i j : Nat} {md md' : Made} (h : Al ops hs lg i md) (k : Al ops hs lg j md') (e : (hs i).size = (hs j).size) : i = j := by
 rcases Nat.lt_trichotomy i j with hl | hl | hl
 ·have := X.mono (i := i + 1) (j := j) hl (by have := k.1; omega)
  rw [h.size] at this; omega
 ·exact hl
 ·have := X.mono (i := j + 1) (j := i) hl (by have := h.1; omega)
  rw [k.size] at this; omega
theorem made_self (md : Made) (b : Nat) : ∀ cs f tip thr, md.obj b = .cells cs f tip thr → f = b ∧ tip = b := by
 intro cs f tip thr h
 cases md <;> simp [Made.obj] at h
 exact ⟨h.2.1.symm, h.2.2.1.symm⟩
theorem TOk.chain (X : TOk ops hs lg) {q : RQ} {lo : Nat} (hb : q.blk < (hs lo).size) : ∀ {hi : Nat}, lo ≤ hi → hi ≤ ops.length →
 (∀ i, lo ≤ i → i < hi → ((lg i = .eff (hs i) (hs (i + 1))) → sameRQ (hs i) (hs (i + 1)) q = true) ∧ ((lg i = .alloc (hs i) (hs (i + 1))) → stayRQ (hs i) q = true)) → q.run (hs hi) = q.run (hs lo) := by
 intro hi
 induction hi with
 | zero => intro h _ _; rw [Nat.le_zero.1 h]
 | succ k ih =>
  intro h hk hsame
  by_cases e : lo = k + 1
  ·subst e; rfl
  ·have h1 := ih (by omega) (by omega) fun i hi1 hi2 => hsame i hi1 (by omega)
   rw [← h1]
   have hbk : q.blk < (hs k).size := Nat.lt_of_lt_of_le hb (X.mono (by omega) (by omega))
   rcases X.kind k (by omega) with ⟨_, h⟩ | ⟨q', _, h, _⟩ | ⟨md, h, h'⟩ | ⟨h, _⟩
   ·rw [h]
   ·rw [h]
   ·rw [h']; exact stay_run ((hsame k (by omega) (by omega)).2 h) hbk
   ·exact sameRQ_run ((hsame k (by omega) (by omega)).1 h) hbk
structure Core (E : Env) (base B : Nat) (ops : List Oper) (hs : Nat → AHeap) (lg : Nat → LogE) (μ0 : Emb) (w0 : World) (c : Nat) (L : Nat → Bool) (μ : Emb) (w : World) : Prop where
 cN : c ≤ ops.length
 effs : ∀ j h h', j < ops.length → lg j = .eff h h' → (L j = true ↔ j < c)
 rel : HRel E base B (cut μ (hs c).size) (hs c) w
 le0 : μ0.le μ
 grow : Grow base μ0 w0 w
 new : ∀ b m, μ0 b = none → μ b = some m → (hs 0).size ≤ b ∧ base ≤ b ∧ (w0.heap.size ≤ m.r ∨ ∃ b0 m0, base ≤ b0 ∧ μ0 b0 = some m0 ∧ m0.r = m.r)
 unt : ∀ b, b < (hs 0).size → μ0 b = none → (hs c).get b = (hs 0).get b
 late : ∀ j md, j < c → Al ops hs lg j md → L j = false → μ (hs j).size = none ∧ (hs c).get (hs j).size = some (md.obj (hs j).size)
 got : ∀ j md, c ≤ j → Al ops hs lg j md → L j = true → ∃ m, μ (hs j).size = some m
 pend : ∀ b m, (hs c).size ≤ b → μ b = some m → ∃ j md o', c ≤ j ∧ L j = true ∧ Al ops hs lg j md ∧ b = (hs j).size ∧ w.heap[m.r]? = some o' ∧ (w0.heap.size ≤ m.r ∧ m.s = 0) ∧
  ∀ μ' h b', (cut μ (hs j).size).le μ' → ORel μ' h base b' m (md.obj b') o'
 apart : ∀ b1 b2 m1 m2, (hs c).size ≤ b1 → μ b1 = some m1 → μ b2 = some m2 → m1.r = m2.r → b1 = b2
def setL (L : Nat → Bool) (k : Nat) : Nat → Bool := fun j => if j = k then true else L j
theorem setL_self (L : Nat → Bool) (k : Nat) : setL L k k = true := by simp [setL]
theorem setL_ne {L : Nat → Bool} {k j : Nat} (h : j ≠ k) : setL L k j = L j := by simp [setL, h]
theorem setL_of {L : Nat → Bool} {k j : Nat} (h : L j = true) : setL L k j = true := by unfold setL; split <;> simp [h]
variable {μ0 : Emb} {w0 : World} {c : Nat} {L : Nat → Bool} {μ : Emb} {w : World}
theorem Core.go (X : TOk ops hs lg) (C : Core E base B ops hs lg μ0 w0 c L μ w) (hc : c < ops.length) (hne : ∀ h h', lg c ≠ .eff h h') (hB : B ≤ w0.heap.size) (hb0 : base ≤ (hs 0).size) : Core E base B ops hs lg μ0 w0 (c + 1) L μ w := by
 have heff : ∀ j h h', j < ops.length → lg j = .eff h h' → (L j = true ↔ j < c + 1) := fun j h h' hj hl => by
  rw [C.effs j h h' hj hl]
  constructor
  ·intro h; omega
  ·intro h1
   have : j ≠ c := fun e => by subst e; exact hne _ _ hl
   omega
 have same : hs (c + 1) = hs c → (∀ md, ¬ Al ops hs lg c md) → Core E base B ops hs lg μ0 w0 (c + 1) L μ w := by
  intro e hna
  refine ⟨hc, heff, by rw [e]; exact C.rel, C.le0, C.grow, C.new, by rw [e]; exact C.unt, ?_, ?_, ?_, by rw [e]; exact C.apart⟩
  ·intro j md hj hal hl
   rw [e]
   have : j ≠ c := fun h => by subst h; exact hna _ hal
   exact C.late j md (by omega) hal hl
  ·intro j md hj; exact C.got j md (by omega)
  ·rw [e]; intro b m hb hm
   obtain ⟨j, md, o', k1, k2, k3, k4⟩ := C.pend b m hb hm
   have : j ≠ c := fun h => by subst h; exact hna _ k3
   exact ⟨j, md, o', by omega, k2, k3, k4⟩
 rcases X.kind c hc with ⟨h1, h2⟩ | ⟨q, h1, h2, _⟩ | ⟨md, h1, h2⟩ | ⟨h1, _⟩
 ·exact same h2 fun md ha => by have := ha.2.1; rw [h1] at this; cases this
 ·exact same h2 fun md ha => by have := ha.2.1; rw [h1] at this; cases this
 ·have hal : Al ops hs lg c md := ⟨hc, h1, h2⟩
  have hsz := hal.size
  have h00 := X.mono (i := 0) (j := c) (Nat.zero_le _) C.cN
  have hself := made_self md (hs c).size
  have Hp : HRel E base B (cut μ (hs c).size) (hs (c + 1)) w := by rw [h2]; exact C.rel.pushA fun cs f tip thr e => (hself cs f tip thr e).1
  have hget : (hs (c + 1)).get (hs c).size = some (md.obj (hs c).size) := by rw [h2, AHeap.get_push, if_pos rfl]
  have hold : ∀ b, b < (hs c).size → (hs (c + 1)).get b = (hs c).get b := fun b hb => by rw [h2, AHeap.get_push, if_neg (by omega)]
  have hrel : HRel E base B (cut μ (hs (c + 1)).size) (hs (c + 1)) w := by
   cases hm : μ (hs c).size with
   | none =>
    have e : cut μ (hs (c + 1)).size = cut μ (hs c).size := by
     funext b
     unfold cut
     by_cases e1 : b < (hs c).size
     ·rw [if_pos e1, if_pos (by omega)]
     ·rw [if_neg e1]
      split
      ·have : b = (hs c).size := by omega
       rw [this]; exact hm
      ·rfl
    rw [e]; exact Hp
   | some m =>
    have e : cut μ (hs (c + 1)).size = upd (cut μ (hs c).size) (hs c).size m := by
     funext b
     unfold cut upd
     by_cases e1 : b = (hs c).size
     ·subst e1; rw [if_pos (by omega), if_pos rfl, hm]
     ·rw [if_neg e1]
      show _ = if b < (hs c).size then μ b else none
      by_cases e2 : b < (hs c).size
      ·rw [if_pos e2, if_pos (by omega)]
      ·rw [if_neg e2, if_neg (by omega)]
    obtain ⟨j, md', o', k1, k2, k3, k4, k5, k6, k7⟩ := C.pend _ m (Nat.le_refl _) hm
    have hjc : j = c := (Al.inj X hal k3 k4).symm
    subst hjc
    have hmd : md'.obj (hs j).size = md.obj (hs j).size := by
     have h3 := k3.2.2
     have : (hs (j + 1)).get (hs j).size = some (md'.obj (hs j).size) := by rw [h3, AHeap.get_push, if_pos rfl]
     rw [hget] at this; exact (Option.some.inj this).symm
    rw [e]
    refine Hp.track (by omega) hget (by unfold cut; rw [if_neg (by omega)]) (by omega) (by omega) k5 ?_ (fun cs f tip thr e => ⟨(hself cs f tip thr e).1, Nat.le_of_eq (hself cs f tip thr e).2.symm⟩) (fun _ _ _ => k6.2) ?_
    ·intro d md2 hd he
     have hd2 := cut_some.1 hd
     have := C.apart _ _ _ _ (Nat.le_refl _) hm hd2.2 he.symm
     omega
    ·rw [← hmd]
     exact k7 _ _ _ (by
      rw [← e]; exact cut_mono μ.le_refl (by omega))
  refine ⟨hc, heff, hrel, C.le0, C.grow, C.new, ?_, ?_, ?_, ?_, ?_⟩
  ·intro b hb h0
   rw [hold b (by omega)]; exact C.unt b hb h0
  ·intro j md' hj ha hl
   by_cases e : j = c
   ·subst e
    have hmd : md'.obj (hs j).size = md.obj (hs j).size := by
     have h3 := ha.2.2
     have : (hs (j + 1)).get (hs j).size = some (md'.obj (hs j).size) := by rw [h3, AHeap.get_push, if_pos rfl]
     rw [hget] at this; exact (Option.some.inj this).symm
    refine ⟨?_, by rw [hmd]; exact hget⟩
    cases hm : μ (hs j).size with
    | none => rfl
    | some m =>
     obtain ⟨j', md2, o', k1, k2, k3, k4, _⟩ := C.pend _ m (Nat.le_refl _) hm
     have : j' = j := (Al.inj X hal k3 k4).symm
     subst this
     rw [hl] at k2; cases k2
   ·obtain ⟨q1, q2⟩ := C.late j md' (by omega) ha hl
    have hjs : (hs j).size < (hs c).size := by
     have := X.mono (i := j + 1) (j := c) (by omega) C.cN
     rw [ha.size] at this; omega
    exact ⟨q1, by rw [hold _ hjs]; exact q2⟩
  ·intro j md' hj; exact C.got j md' (by omega)
  ·intro b m hb hm
   obtain ⟨j, md', o', k1, k2, k3, k4, k5⟩ := C.pend b m (by omega) hm
   have : j ≠ c := fun h => by subst h; omega
   exact ⟨j, md', o', by omega, k2, k3, k4, k5⟩
  ·intro b1 b2 m1 m2 hb1; exact C.apart b1 b2 m1 m2 (by omega)
 ·exact absurd h1 (hne _ _)
theorem Core.goTo (X : TOk ops hs lg) (hB : B ≤ w0.heap.size) (hb0 : base ≤ (hs 0).size) : ∀ (n : Nat) {c : Nat}, Core E base B ops hs lg μ0 w0 c L μ w → c + n ≤ ops.length → (∀ i, c ≤ i → i < c + n → ∀ h h', lg i ≠ .eff h h') → Core E base B ops hs lg μ0 w0 (c + n) L μ w
 | 0, c, C, _, _ => C
 | n + 1, c, C, hn, hne => by
  have := Core.goTo X hB hb0 n (c := c + 1) (C.go X (by omega) (hne c (Nat.le_refl _) (by omega)) hB hb0) (by omega) (fun i h1 h2 => hne i (by omega) (by omega))
  rw [show c + (n + 1) = c + 1 + n by omega]; exact this
theorem Core.setQuiet (C : Core E base B ops hs lg μ0 w0 c L μ w) {k : Nat} (h1 : ∀ h h', lg k ≠ .eff h h') (h2 : ∀ h h', lg k ≠ .alloc h h') : Core E base B ops hs lg μ0 w0 c (setL L k) μ w := by
 have hal : ∀ {j md}, Al ops hs lg j md → j ≠ k := fun ha e => by subst e; exact h2 _ _ ha.2.1
 refine ⟨C.cN, ?_, C.rel, C.le0, C.grow, C.new, C.unt, ?_, ?_, ?_, C.apart⟩
 ·intro j h h' hj hl
  rw [setL_ne (fun e => by subst e; exact h1 _ _ hl)]; exact C.effs j h h' hj hl
 ·intro j md hj ha hl
  rw [setL_ne (hal ha)] at hl; exact C.late j md hj ha hl
 ·intro j md hj ha hl
  rw [setL_ne (hal ha)] at hl; exact C.got j md hj ha hl
 ·intro b m hb hm
  obtain ⟨j, md, o', k1, k2, k3⟩ := C.pend b m hb hm
  exact ⟨j, md, o', k1, setL_of k2, k3⟩
end
end Go.M
namespace Go.M
open Go
section
variable {E : Env} {base B : Nat} {ops : List Oper} {hs : Nat → AHeap} {lg : Nat → LogE}
variable {μ0 : Emb} {w0 : World} {c : Nat} {L : Nat → Bool} {μ : Emb} {w w' : World}
theorem Core.lt (C : Core E base B ops hs lg μ0 w0 c L μ w) {b : Nat} {m : MT} (hm : μ b = some m) : m.r < w.heap.size := by
 by_cases hb : b < (hs c).size
 ·exact C.rel.lt (cut_some.2 ⟨hb, hm⟩)
 ·obtain ⟨j, md, o', _, _, _, _, k5, _⟩ := C.pend b m (by omega) hm
  exact (Array.getElem?_eq_some_iff.1 k5).1
theorem Core.alloc (X : TOk ops hs lg) (C : Core E base B ops hs lg μ0 w0 c L μ w) (hB : B ≤ w0.heap.size) (hb0 : base ≤ (hs 0).size) {k : Nat} {md : Made} (ha : Al ops hs lg k md) (hk : L k = false) {o' : Obj} (hw : Alc w o' w') {n : Nat}
 (hobj : ∀ μ' h b', (cut μ (max (hs k).size (hs c).size)).le μ' → ORel μ' h base b' ⟨w.heap.size, 0, n⟩ (md.obj b') o') :
 μ.le (upd μ (hs k).size ⟨w.heap.size, 0, n⟩) ∧ Core E base B ops hs lg μ0 w0 c (setL L k) (upd μ (hs k).size ⟨w.heap.size, 0, n⟩) w' := by
 have hsz := ha.size
 have h00 := X.mono (i := 0) (j := k) (Nat.zero_le _) (by have := ha.1; omega)
 have hge : ∀ {j : Nat} {md' : Made}, Al ops hs lg j md' → (hs c).size ≤ (hs j).size → c ≤ j := by
  intro j md' hj hle
  by_cases h : c ≤ j
  ·exact h
  ·have := X.mono (i := j + 1) (j := c) (by omega) C.cN
   rw [hj.size] at this; omega
 have hnone : μ (hs k).size = none := by
  by_cases hkc : k < c
  ·exact (C.late k md hkc ha hk).1
  ·cases hm : μ (hs k).size with
   | none => rfl
   | some m =>
    obtain ⟨j, md', o2, k1, k2, k3, k4, _⟩ := C.pend _ m (X.mono (by omega) (by have := ha.1; omega)) hm
    have : k = j := Al.inj X ha k3 k4
    subst this
    rw [hk] at k2; cases k2
 have hle : μ.le (upd μ (hs k).size ⟨w.heap.size, 0, n⟩) := upd_le hnone
 have cas : ∀ {d : Nat} {md : MT}, upd μ (hs k).size ⟨w.heap.size, 0, n⟩ d = some md → (d = (hs k).size ∧ md = ⟨w.heap.size, 0, n⟩) ∨ (d ≠ (hs k).size ∧ μ d = some md) := by
  intro d md hd
  by_cases e : d = (hs k).size
  ·subst e; rw [upd_self] at hd; cases hd; exact .inl ⟨rfl, rfl⟩
  ·rw [upd_ne _ _ e] at hd; exact .inr ⟨e, hd⟩
 have hgw := C.grow.size
 have hkeep : ∀ r, r < w.heap.size → w'.heap[r]? = w.heap[r]? := fun r hr => by rw [hw.get, if_neg (by omega)]
 have hself : w'.heap[w.heap.size]? = some o' := by rw [hw.get, if_pos rfl]
 refine ⟨hle, C.cN, ?_, ?_, Emb.le_trans C.le0 hle, ?_, ?_, C.unt, ?_, ?_, ?_, ?_⟩
 ·intro j h h' hj hl
  rw [setL_ne (fun e => by subst e; have := ha.2.1; rw [hl] at this; cases this)]; exact C.effs j h h' hj hl
 ·by_cases hkc : k < c
  ·have hks : (hs k).size < (hs c).size := by
    have := X.mono (i := k + 1) (j := c) (by omega) C.cN
    omega
   have e : cut (upd μ (hs k).size ⟨w.heap.size, 0, n⟩) (hs c).size = upd (cut μ (hs c).size) (hs k).size ⟨w.heap.size, 0, n⟩ := by
    funext b
    unfold cut upd
    by_cases e1 : b = (hs k).size
    ·subst e1; rw [if_pos hks]; simp
    ·rw [if_neg e1]
     rw [if_neg e1]
   obtain ⟨q1, q2⟩ := C.late k md hkc ha hk
   have hmx : max (hs k).size (hs c).size = (hs c).size := Nat.max_eq_right (by omega)
   rw [e]
   refine (C.rel.alc hw).track hks q2 (by unfold cut; rw [if_pos hks]; exact q1) (by omega) (by show B ≤ w.heap.size; omega) hself ?_ (fun cs f tip thr e => ⟨(made_self md _ cs f tip thr e).1, Nat.le_of_eq (made_self md _ cs f tip thr e).2.symm⟩) (fun _ _ _ => rfl) ?_
   ·intro d md2 hd he
    have := C.lt (cut_some.1 hd).2
    simp only at he; omega
   ·refine hobj _ _ _ ?_
    rw [hmx]
    exact upd_le (by unfold cut; rw [if_pos hks]; exact q1)
  ·have hks : (hs c).size ≤ (hs k).size := X.mono (by omega) (by have := ha.1; omega)
   have e : cut (upd μ (hs k).size ⟨w.heap.size, 0, n⟩) (hs c).size = cut μ (hs c).size := by
    funext b
    unfold cut upd
    by_cases e1 : b < (hs c).size
    ·rw [if_pos e1, if_pos e1, if_neg (by omega)]
    ·rw [if_neg e1, if_neg e1]
   rw [e]; exact C.rel.alc hw
 ·refine ⟨hw.tape.trans C.grow.tape, hw.os.trans C.grow.os, hw.output.trans C.grow.output, by rw [hw.size]; omega, fun r hr hk => ?_⟩
  rw [hkeep r (by omega)]; exact C.grow.keep r hr hk
 ·intro b m h0 hm
  rcases cas hm with ⟨rfl, rfl⟩ | ⟨_, h2⟩
  ·exact ⟨h00, by omega, .inl hgw⟩
  ·exact C.new b m h0 h2
 ·intro j md' hj hj2 hl
  have hne : j ≠ k := fun e => by subst e; rw [setL_self] at hl; cases hl
  rw [setL_ne hne] at hl
  obtain ⟨q1, q2⟩ := C.late j md' hj hj2 hl
  exact ⟨by rw [upd_ne _ _ (fun e => hne (Al.inj X hj2 ha e))]; exact q1, q2⟩
 ·intro j md' hj hj2 hl
  by_cases e : j = k
  ·subst e; exact ⟨_, upd_self _ _ _⟩
  ·rw [setL_ne e] at hl
   obtain ⟨m, hm⟩ := C.got j md' hj hj2 hl
   exact ⟨m, hle _ _ hm⟩
 ·intro b m hb hm
  rcases cas hm with ⟨rfl, rfl⟩ | ⟨_, h2⟩
  ·have hck := hge ha hb
   have hmx : max (hs k).size (hs c).size = (hs k).size := Nat.max_eq_left hb
   exact ⟨k, md, o', hck, setL_self _ _, ha, rfl, hself, ⟨hgw, rfl⟩, fun μ' h b' hμ => hobj μ' h b' (by rw [hmx]; exact Emb.le_trans (cut_mono hle (Nat.le_refl _)) hμ)⟩
  ·obtain ⟨j, md', o2, k1, k2, k3, k4, k5, k6, k7⟩ := C.pend b m hb h2
   exact ⟨j, md', o2, k1, setL_of k2, k3, k4, by rw [hkeep _ (C.lt h2)]; exact k5, k6, fun μ' h b' hμ => k7 μ' h b' (Emb.le_trans (cut_mono hle (Nat.le_refl _)) hμ)⟩
 ·intro b1 b2 m1 m2 hb1 h1 h2 he
  rcases cas h1 with ⟨rfl, rfl⟩ | ⟨_, h1⟩ <;> rcases cas h2 with ⟨rfl, rfl⟩ | ⟨_, h2⟩
  ·rfl
  ·have := C.lt h2; simp only at he; omega
  ·have := C.lt h1; simp only at he; omega
  ·exact C.apart b1 b2 m1 m2 hb1 h1 h2 he
theorem Core.eff (X : TOk ops hs lg) (C : Core E base B ops hs lg μ0 w0 c L μ w) (hc : c < ops.length) (he : lg c = .eff (hs c) (hs (c + 1))) {μ1 : Emb} {w1 : World} (S : Step E base B (cut μ (hs c).size) (hs c) w μ1 (hs (c + 1)) w1) :
 ∃ μ', μ.le μ' ∧ cut μ' (hs (c + 1)).size = μ1 ∧ Core E base B ops hs lg μ0 w0 (c + 1) (setL L c) μ' w1 := by
 have hst := X.step hc
 have hnal : ∀ {j md}, Al ops hs lg j md → j ≠ c := fun ha e => by subst e; have := ha.2.1; rw [he] at this; cases this
 -- whoever is made early stands behind
 have hpend : ∀ b m, (hs c).size ≤ b → μ b = some m → (hs (c + 1)).size ≤ b := by
  intro b m hb hm
  obtain ⟨j, md, o', k1, k2, k3, k4, _⟩ := C.pend b m hb hm
  have := hnal k3
  rw [k4]; exact X.mono (by omega) (by have := k3.1; omega)
 let μ' : Emb := fun b => if b < (hs (c + 1)).size then μ1 b else μ b
 have hlt : ∀ b, b < (hs (c + 1)).size → μ' b = μ1 b := fun b hb => if_pos hb
 have hge : ∀ b, (hs (c + 1)).size ≤ b → μ' b = μ b := fun b hb => if_neg (by omega)
 have hle : μ.le μ' := by
  intro b m hm
  by_cases hb : b < (hs (c + 1)).size
  ·rw [hlt b hb]
   refine S.le b m (cut_some.2 ⟨?_, hm⟩)
   by_cases h2 : b < (hs c).size
   ·exact h2
   ·have := hpend b m (by omega) hm; omega
  ·rw [hge b (by omega)]; exact hm
 have hcut : cut μ' (hs (c + 1)).size = μ1 := by
  funext b
  unfold cut
  by_cases hb : b < (hs (c + 1)).size
  ·rw [if_pos hb, hlt b hb]
  ·rw [if_neg hb]
   cases hm : μ1 b with
   | none => rfl
   | some m => have := S.rel.dom b m hm; omega
 have hkeep : ∀ b m, (hs c).size ≤ b → μ b = some m → w1.heap[m.r]? = w.heap[m.r]? := by
  intro b m hb hm
  refine S.grow.keep m.r (C.lt hm) fun b2 m2 hb2 he2 => ?_
  have h2 := cut_some.1 hb2
  have := C.apart b b2 m m2 hb hm h2.2 he2.symm
  omega
 have cas : ∀ {b : Nat} {m : MT}, μ' b = some m → (μ b = some m) ∨ (μ b = none ∧ b < (hs (c + 1)).size ∧ (hs c).size ≤ b ∧ base ≤ b ∧ (w.heap.size ≤ m.r ∨ ∃ b0 m0, base ≤ b0 ∧ b0 < (hs c).size ∧ μ b0 = some m0 ∧ m0.r = m.r)) := by
  intro b m hm
  cases h0 : μ b with
  | some m0 => have := hle b m0 h0; rw [hm] at this; cases this; exact .inl rfl
  | none =>
   by_cases hb : b < (hs (c + 1)).size
   ·rw [hlt b hb] at hm
    have hn : cut μ (hs c).size b = none := by unfold cut; split <;> first | exact h0 | rfl
    obtain ⟨q1, q2, q3⟩ := S.new b m hn hm
    refine .inr ⟨rfl, hb, q1, q2, ?_⟩
    rcases q3 with q3 | ⟨b0, m0, q3, q4, q5⟩
    ·exact .inl q3
    ·have := cut_some.1 q4
     exact .inr ⟨b0, m0, q3, this.1, this.2, q5⟩
   ·rw [hge b (by omega), h0] at hm; cases hm
 refine ⟨μ', hle, hcut, hc, ?_, by rw [hcut]; exact S.rel, Emb.le_trans C.le0 hle, ?_, ?_, ?_, ?_, ?_, ?_, ?_⟩
 ·intro j h h' hj hl
  by_cases e : j = c
  ·subst e; rw [setL_self]; simp
  ·rw [setL_ne e, C.effs j h h' hj hl]; omega
 ·refine ⟨S.grow.tape.trans C.grow.tape, S.grow.os.trans C.grow.os, S.grow.output.trans C.grow.output, Nat.le_trans C.grow.size S.grow.size, fun r hr hk => ?_⟩
  rw [S.grow.keep r (Nat.lt_of_lt_of_le hr C.grow.size) ?_, C.grow.keep r hr hk]
  intro b m hb hmr
  have hm := (cut_some.1 hb).2
  cases h0 : μ0 b with
  | some m0 =>
   have := C.le0 b m0 h0
   rw [hm] at this; cases this
   exact hk b m h0 hmr
  | none =>
   obtain ⟨_, _, h3⟩ := C.new b m h0 hm
   rcases h3 with h3 | ⟨b0, m0, hb0, hm0, hr0⟩
   ·omega
   ·have := hk b0 m0 hm0 (hr0.trans hmr); omega
 ·intro b m h0 hm
  rcases cas hm with hm | ⟨hn, hb1, hb2, hb3, hb4⟩
  ·exact C.new b m h0 hm
  ·have h00 := X.mono (i := 0) (j := c) (Nat.zero_le _) C.cN
   refine ⟨by omega, hb3, ?_⟩
   rcases hb4 with hb4 | ⟨b0, m0, q1, q2, q3, q4⟩
   ·exact .inl (Nat.le_trans C.grow.size hb4)
   ·cases h00 : μ0 b0 with
    | some m00 =>
     have := C.le0 b0 m00 h00
     rw [q3] at this; cases this
     exact .inr ⟨b0, m0, q1, h00, q4⟩
    | none =>
     obtain ⟨_, _, hx⟩ := C.new b0 m0 h00 q3
     rcases hx with hx | ⟨b1, m1, r1, r2, r3⟩
     ·exact .inl (by omega)
     ·exact .inr ⟨b1, m1, r1, r2, r3.trans q4⟩
 ·intro b hb h0
  have h00 := X.mono (i := 0) (j := c) (Nat.zero_le _) C.cN
  rw [S.unt b (by omega) ?_, C.unt b hb h0]
  cases hm : cut μ (hs c).size b with
  | none => rfl
  | some m => have := (C.new b m h0 (cut_some.1 hm).2).1; omega
 ·intro j md hj ha hl
  have hne := hnal ha
  rw [setL_ne hne] at hl
  obtain ⟨q1, q2⟩ := C.late j md (by omega) ha hl
  have hjs : (hs j).size < (hs c).size := by
   have := X.mono (i := j + 1) (j := c) (by omega) C.cN
   rw [ha.size] at this; omega
  have hn : cut μ (hs c).size (hs j).size = none := by unfold cut; split <;> first | exact q1 | rfl
  refine ⟨?_, by rw [S.unt _ hjs hn]; exact q2⟩
  rw [hlt _ (by omega)]
  cases hm : μ1 (hs j).size with
  | none => rfl
  | some m => have := (S.new _ m hn hm).1; omega
 ·intro j md hj ha hl
  rw [setL_ne (hnal ha)] at hl
  obtain ⟨m, hm⟩ := C.got j md (by omega) ha hl
  exact ⟨m, hle _ _ hm⟩
 ·intro b m hb hm
  rw [hge b hb] at hm
  obtain ⟨j, md, o', k1, k2, k3, k4, k5, k6, k7⟩ := C.pend b m (by omega) hm
  have := hnal k3
  exact ⟨j, md, o', by omega, setL_of k2, k3, k4, by rw [hkeep b m (by omega) hm]; exact k5, k6, fun μ2 h b' hμ => k7 μ2 h b' (Emb.le_trans (cut_mono hle (Nat.le_refl _)) hμ)⟩
 ·intro b1 b2 m1 m2 hb1 h1 h2 hr
  rw [hge b1 hb1] at h1
  rcases cas h2 with h2 | ⟨hn, _, hb2, _, hb4⟩
  ·exact C.apart b1 b2 m1 m2 (by omega) h1 h2 hr
  ·have hlt1 := C.lt h1
   rcases hb4 with hb4 | ⟨b0, m0, q1, q2, q3, q4⟩
   ·omega
   ·have := C.apart b1 b0 m1 m0 (by omega) h1 q3 (hr.trans q4.symm)
    omega
end
end Go.M
namespace Go.M
open Go
section
variable {P : Program} {E : Env} {base B : Nat} {cf : CallF} {rf : RoundF} {ops : List Oper} {fs : Nat → AF} {hs : Nat → AHeap} {vs : Nat → Value} {lg : Nat → LogE}
variable {μ0 : Emb} {w0 : World} {a0 : Act} {c : Nat} {L : Nat → Bool} {μ μ' : Emb} {w w' : World} {a : Act}
structure Slots (ops : List Oper) (fs : Nat → AF) (hs : Nat → AHeap) (vs : Nat → Value) (μ0 : Emb) (a0 : Act) (c : Nat) (L : Nat → Bool) (μ : Emb) (a : Act) : Prop where
 size : a.tmps.size = (fs 0).n
 dfs : a.defers = a0.defers
 w : ∀ (j : Nat) (o : Oper) (d : Tmp), ops[j]? = some o → L j = true → o.dst = some d → VRel (cut μ (max (hs (j + 1)).size (hs c).size)) (vs j) (a.tmps.getD d undef)
 old : ∀ d : Tmp, (∀ (j : Nat) (o : Oper), ops[j]? = some o → L j = true → o.dst ≠ some d) → VRel μ0 ((fs 0).get d) (a.tmps.getD d undef)
theorem Slots.mono (S : Slots ops fs hs vs μ0 a0 c L μ a) (hle : μ.le μ') {c' : Nat} (hc : (hs c).size ≤ (hs c').size) : Slots ops fs hs vs μ0 a0 c' L μ' a :=
 ⟨S.size, S.dfs, fun j o d ho hl hd => (S.w j o d ho hl hd).mono (cut_mono hle (by omega)), S.old⟩
theorem Slots.put (X : TextOk ops) (hd : dstsIn (fs 0).n ops = true) (S : Slots ops fs hs vs μ0 a0 c L μ a) {k : Nat} {o : Oper} (ho : ops[k]? = some o) (hk : L k = false) {v' : Value}
 (hv : VRel (cut μ (max (hs (k + 1)).size (hs c).size)) (vs k) v') : Slots ops fs hs vs μ0 a0 c (setL L k) μ (a.put o.dst v') := by
 have hget : ∀ t, o.dst ≠ some t → (a.put o.dst v').tmps.getD t undef = a.tmps.getD t undef := by
  intro t ht
  cases hd : o.dst with
  | none => rfl
  | some d =>
   rw [hd] at ht
   have hne : d ≠ t := fun h => ht (by rw [h])
   show (a.tmps.setIfInBounds d v').getD t undef = _
   simp only [Array.getD_eq_getD_getElem?, Array.getElem?_setIfInBounds_ne hne]
 refine ⟨?_, ?_, ?_, ?_⟩
 ·rw [← S.size]; cases o.dst with
  | none => rfl
  | some d => exact Array.size_setIfInBounds
 ·rw [← S.dfs]; cases o.dst <;> rfl
 ·intro j p d hp hl hdj
  by_cases e : j = k
  ·subst e
   rw [ho] at hp; cases hp
   have hlt : d < a.tmps.size := by
    rw [S.size]
    unfold dstsIn at hd
    have := List.all_eq_true.1 hd o (List.mem_of_getElem? ho)
    rw [hdj] at this
    simpa using this
   have : (a.put o.dst v').tmps.getD d undef = v' := by
    rw [hdj]
    show (a.tmps.setIfInBounds d v').getD d undef = v'
    simp [hlt]
   rw [this]; exact hv
  ·rw [setL_ne e] at hl
   rw [hget d (X.one k j o p d ho hp (fun h => e h.symm) hdj)]
   exact S.w j p d hp hl hdj
 ·intro d hno
  rw [hget d (hno k o ho (setL_self _ _))]
  exact S.old d fun j p hp hl => hno j p hp (setL_of hl)
theorem Slots.skip (S : Slots ops fs hs vs μ0 a0 c L μ a) {k : Nat} (hk : ∀ o, ops[k]? = some o → o.dst = none) : Slots ops fs hs vs μ0 a0 c (setL L k) μ a := by
 refine ⟨S.size, S.dfs, fun j o d ho hl hd => ?_, fun d hno => S.old d fun j p hp hl => hno j p hp (setL_of hl)⟩
 by_cases e : j = k
 ·subst e; rw [hk o ho] at hd; cases hd
 ·rw [setL_ne e] at hl; exact S.w j o d ho hl hd
theorem Slots.look (X : TextOk ops) (T : Trace E base cf rf ops ops fs hs vs lg) (K : TOk ops hs lg) (hdst : dstsIn (fs 0).n ops = true) (hμ : μ0.le μ) (hdom : ∀ b m, μ0 b = some m → b < (hs 0).size)
 (S : Slots ops fs hs vs μ0 a0 c L μ a) (hC : Closed ops L) {k : Nat} {o : Oper} (ho : ops[k]? = some o) (hk : L k = false) (hr : Ready ops L o) {t : Tmp} (ht : t ∈ looks ops o) :
 VRel (cut μ (max (hs k).size (hs c).size)) ((fs k).get t) (a.tmps.getD t undef) := by
 have hkN : k < ops.length := (List.getElem?_eq_some_iff.1 ho).1
 have h00 := K.mono (i := 0) (j := k) (Nat.zero_le _) (by omega)
 have hinit : (∀ (j : Nat) (p : Oper), j < k → ops[j]? = some p → p.dst ≠ some t) → (∀ (j : Nat) (p : Oper), ops[j]? = some p → L j = true → p.dst ≠ some t) → VRel (cut μ (max (hs k).size (hs c).size)) ((fs k).get t) (a.tmps.getD t undef) := by
  intro h1 h2
  rw [T.fs_old t k (by omega) fun j p hj hp => h1 j p hj hp]
  exact (S.old t h2).mono (le_cut hμ fun b m hb => by have := hdom b m hb; omega)
 by_cases hex : ∃ j p, ops[j]? = some p ∧ p.dst = some t ∧ j ≠ k
 ·obtain ⟨j, p, hp, hd, hne⟩ := hex
  have hord := X.look k j o p t ho hp (fun h => hne h.symm) hd ht
  have huniq : ∀ (i : Nat) (q : Oper), ops[i]? = some q → q.dst = some t → i = j := fun i q hq hqd => by
   by_cases e : i = j
   ·exact e
   ·exact absurd hqd (X.one i j q p t hq hp e hd)
  rcases Nat.lt_trichotomy j k with hlt | he | hgt
  ·have hl := ordered_listed X hC hlt ho hr (.inr hord)
   have htn : t < (fs 0).n := by
    unfold dstsIn at hdst
    have := List.all_eq_true.1 hdst p (List.mem_of_getElem? hp)
    rw [hd] at this
    simpa using this
   rw [T.fs_new X htn hp hd k (by omega) hlt]
   exact (S.w j p t hp hl hd).mono (cut_mono μ.le_refl (by have := K.mono (i := j + 1) (j := k) hlt (by omega); omega))
  ·exact absurd he hne
  ·have hnl : L j = false := by
    cases hl : L j with
    | false => rfl
    | true =>
     have := ordered_listed X hC hgt hp (hC j p hp hl) (.inl hord)
     rw [hk] at this; cases this
   refine hinit (fun i q hi hq hqd => ?_) (fun i q hq hl hqd => ?_)
   ·have := huniq i q hq hqd; omega
   ·have := huniq i q hq hqd
    subst this
    rw [hnl] at hl; cases hl
 ·refine hinit (fun i q hi hq hqd => hex ⟨i, q, hq, hqd, by omega⟩) (fun i q hq hl hqd => ?_)
  by_cases e : i = k
  ·subst e; rw [hk] at hl; cases hl
  ·exact hex ⟨i, q, hq, hqd, e⟩
structure Inv (E : Env) (base B : Nat) (ops : List Oper) (fs : Nat → AF) (hs : Nat → AHeap) (vs : Nat → Value) (lg : Nat → LogE) (μ0 : Emb) (w0 : World) (a0 : Act) (L : Nat → Bool) (a : Act) (w : World) : Prop where
 ex : ∃ c μ, Core E base B ops hs lg μ0 w0 c L μ w ∧ Slots ops fs hs vs μ0 a0 c L μ a
theorem closed_set {k : Nat} {o : Oper} (hC : Closed ops L) (ho : ops[k]? = some o) (hr : Ready ops L o) : Closed ops (setL L k) := by
 intro j p hp hl e he hb
 by_cases hjk : j = k
 ·subst hjk
  rw [ho] at hp; cases hp
  exact setL_of (hr e he hb)
 ·rw [setL_ne hjk] at hl
  exact setL_of (hC j p hp hl e he hb)
theorem draw_op (hE : EnvOk P E) (hcf : CallOk P E base B cf) (hrf : RoundOk P E base B rf) (hcF : CallFun E cf) (hrF : RoundFun rf) {F : Fence} (hF : Wide F) {n : Nat} {ops : Array Oper}
 (X : TextOk ops.toList) (T : Trace E base cf rf ops.toList ops.toList fs hs vs lg) (K : TOk ops.toList hs lg) (hdst : dstsIn (fs 0).n ops.toList = true) (H0 : HRel E base B μ0 (hs 0) w0)
 (I : Inv E base B ops.toList fs hs vs lg μ0 w0 a0 L a w) (hC : Closed ops.toList L) {k : Nat} {o : Oper} (ho : ops[k]? = some o) (hk : L k = false) (hr : Ready ops.toList L o)
 {next : Act → World → Prop} {Q : Exit → Act → World → Prop} (hn : ∀ a' w', Inv E base B ops.toList fs hs vs lg μ0 w0 a0 (setL L k) a' w' → next a' w') :
 if Region.wanted o (yielded ops a.tmps) = true then o.wpIn F n P a w next Q else (∀ f, o.about P w a.eval = some f → F.fn f) ∧ next (a.put o.dst undef) w := by
 obtain ⟨c, μ, C, S⟩ := I.ex
 have ho' : ops.toList[k]? = some o := by simpa using ho
 have hkN : k < ops.toList.length := (List.getElem?_eq_some_iff.1 ho').1
 have hB : B ≤ w0.heap.size := H0.low
 have hb0 : base ≤ (hs 0).size := H0.bsz
 have hg0 : ∀ s, (hs 0).size ≤ s → GlobOk E (cut μ s) := fun s hs' g hgl => by
  obtain ⟨m, q1, q2⟩ := H0.glob g hgl
  exact ⟨m, cut_some.2 ⟨by have := H0.dom g m q1; omega, C.le0 _ _ q1⟩, q2⟩
 have h0k := K.mono (i := 0) (j := k) (Nat.zero_le _) (by omega)
 have hf : FRel (cut μ (max (hs k).size (hs c).size)) ((fs k).only (looks ops.toList o)) (onlyA a (looks ops.toList o)).tmps :=
  only_rel (by rw [S.size, T.fs_n k (by omega)]) fun t ht => S.look X T K hdst C.le0 H0.dom hC ho' hk hr ht
 have hgk : GlobOk E (cut μ (max (hs k).size (hs c).size)) := hg0 _ (by omega)
 have hwant : Region.wanted o (yielded ops a.tmps) = wanted ops.toList o (fs k) := by
  rw [← only_yielded, wanted_rel hf o, only_wanted]
 have hkc : (hs k).size ≤ (hs (k + 1)).size := K.step hkN
 rcases T.run k o ho' with ⟨hw, hrun⟩ | ⟨hw, hv, hh, hlg⟩
 ·rw [hwant, if_pos hw]
  have hsel := noSelect hrun
  have hdef := noDefer hrun
  have hrun' : runOp E base cf rf o ((fs k).only (looks ops.toList o)) (hs k) = some ⟨vs k, hs (k + 1), lg k⟩ := by rw [runOp_same (only_same _ _ _)]; exact hrun
  have hex : execOp a.eval o = execOp (onlyA a (looks ops.toList o)).eval o := only_exec hsel
  -- an operation that turns no memory
  have quiet : ∀ v', VRel (cut μ (max (hs k).size (hs c).size)) (vs k) v' → (∀ h h', lg k ≠ .eff h h') → (∀ h h', lg k ≠ .alloc h h') → next (a.put o.dst v') w := by
   intro v' hv h1 h2
   exact hn _ _ ⟨c, μ, C.setQuiet h1 h2, S.put X hdst ho' hk (hv.mono (cut_mono μ.le_refl (by omega)))⟩
  rcases runOp_cases hrun' with ⟨hp, hh, hlg⟩ | ⟨q, hq, hv, hh, hlg⟩ | ⟨md, hd, hal, hv, hh, hlg⟩ | hlg
  ·-- plain
   obtain ⟨v', q1, q2⟩ := apure_sim hE hgk hf hp
   refine ⟨fun _ _ => hF.fn _, ?_⟩
   rw [Oper.semAt_eq _ _ _ hdef, hex, q2 w]
   exact quiet v' q1 (fun h h' e => by simp only at hlg; rw [hlg] at e; cases e) (fun h h' e => by simp only at hlg; rw [hlg] at e; cases e)
  ·-- a read
   simp only at hv hh hlg
   have hqk : q.blk < (hs k).size := by
    rcases K.kind k hkN with ⟨h1, _⟩ | ⟨q', h1, _, h3⟩ | ⟨md, h1, _⟩ | ⟨h1, _⟩ <;> rw [hlg] at h1 <;> cases h1
    exact h3
   -- who may come between
   have hstay : ∀ i, i < ops.toList.length → i ≠ k → lg i = .alloc (hs i) (hs (i + 1)) → stayRQ (hs i) q = true := by
    intro i hi hne hia
    rcases Nat.lt_or_ge i k with h1 | h1
    ·have hp := K.pass i k h1 hkN
     rw [hia, hlg] at hp
     exact hp
    ·have hp := K.pass k i (by omega) hi
     rw [hia, hlg] at hp
     exact hp
   have hsame : ∀ i, i < ops.toList.length → i ≠ k → (lg i = .eff (hs i) (hs (i + 1)) ∧ (c ≤ i ∧ i < k ∨ k < i ∧ i < c)) → sameRQ (hs i) (hs (i + 1)) q = true := by
    intro i hi hne hcase
    ·obtain ⟨hie, hbtw⟩ := hcase
     have hL := C.effs i _ _ hi hie
     have hio := List.getElem?_eq_getElem (l := ops.toList) (i := i) hi
     rcases hbtw with ⟨h1, h2⟩ | ⟨h1, h2⟩
     ·have hp := K.pass i k h2 hkN
      rw [hie, hlg] at hp
      simp only [mayPass, Bool.or_eq_true] at hp
      rcases hp with hp | hp
      ·have := hL.1 (ordered_listed X hC h2 ho' hr (.inl hp)); omega
      ·exact hp
     ·have hp := K.pass k i h1 hi
      rw [hie, hlg] at hp
      simp only [mayPass, Bool.or_eq_true] at hp
      rcases hp with hp | hp
      ·have hli := hL.2 h2
       have := ordered_listed X hC h1 hio (hC i _ hio hli) (.inl hp)
       rw [hk] at this; cases this
      ·exact hp
   obtain ⟨v', q1, q2⟩ := aread_loc (base := base) (w := w) hE hf hgk (v := vs k) hq (fun m hm => by
    have hmμ := (cut_some.1 hm).2
    by_cases hbc : q.blk < (hs c).size
    ·refine ⟨hs c, ?_, ?_⟩
     ·rcases Nat.le_total k c with hkc2 | hkc2
      ·rw [K.chain hqk hkc2 C.cN fun i h1 h2 => ⟨fun h3 => ?_, fun h3 => ?_⟩]; · exact hv
       ·have hne : i ≠ k := fun e => by
         subst e; rw [hlg] at h3; cases h3
        exact hsame i (by have := C.cN; omega) hne ⟨h3, .inr ⟨by omega, h2⟩⟩
       ·have hne : i ≠ k := fun e => by
         subst e; rw [hlg] at h3; cases h3
        exact hstay i (by have := C.cN; omega) hne h3
      ·rw [← K.chain hbc hkc2 (by omega) fun i h1 h2 => ⟨fun h3 => ?_, fun h3 => ?_⟩]; · exact hv
       ·exact hsame i (by omega) (by omega) ⟨h3, .inl ⟨h1, h2⟩⟩
       ·exact hstay i (by omega) (by omega) h3
     ·obtain ⟨p, p', k1, k2, k3⟩ := C.rel.obj q.blk m (cut_some.2 ⟨hbc, hmμ⟩)
      exact ⟨p, p', k1, k2, k3.mono (cut_mono μ.le_refl (by omega)) id⟩
    ·obtain ⟨j, md, o', k1, k2, k3, k4, k5, k6, k7⟩ := C.pend q.blk m (by omega) hmμ
     have hjk : j < k := by
      rcases Nat.lt_or_ge j k with h | h
      ·exact h
      ·have := K.mono h (by have := k3.1; omega); omega
     have hs1 := k3.size
     refine ⟨hs (j + 1), ?_, md.obj q.blk, o', ?_, k5, ?_⟩
     ·rw [← K.chain (lo := j + 1) (hi := k) (by omega) hjk (by omega) fun i h1 h2 => ⟨fun h3 => ?_, fun h3 => ?_⟩]; · exact hv
      ·exact hsame i (by omega) (by omega) ⟨h3, .inl ⟨by omega, h2⟩⟩
      ·exact hstay i (by omega) (by omega) h3
     ·rw [k3.2.2, AHeap.get_push, if_pos k4, ← k4]
     ·exact k7 _ _ _ (cut_mono μ.le_refl (by omega)))
   refine ⟨fun _ _ => hF.fn _, ?_⟩
   rw [Oper.semAt_eq _ _ _ hdef, hex, q2]
   exact quiet v' q1 (fun h h' e => by rw [hlg] at e; cases e) (fun h h' e => by rw [hlg] at e; cases e)
  ·-- a block is made
   simp only at hv hh hlg
   obtain ⟨o', k', hvf, A⟩ := aalloc_sim hE hgk hf hal
   have ha : Al ops.toList hs lg k md := ⟨hkN, hlg, hh⟩
   refine ⟨fun _ _ => hF.fn _, ?_⟩
   rw [Oper.semAt_eq _ _ _ hdef, hex, A.run w]
   obtain ⟨hle, C'⟩ := C.alloc K hB hb0 ha hk (Alc.mk' w o') (n := k') fun μ' h b' hμ => A.obj μ' h base b' _ hμ
   refine hn _ _ ⟨c, _, C', (S.mono hle (Nat.le_refl _)).put X hdst ho' hk ?_⟩
   rw [hv]
   refine A.val _ _ _ (cut_some.2 ⟨?_, upd_self _ _ _⟩)
   have := ha.size; omega
  ·-- memory is turned
   have hkk : lg k = .eff (hs k) (hs (k + 1)) := hlg
   have hck : c ≤ k := by
    have := C.effs k _ _ hkN hkk
    rw [hk] at this
    rcases Nat.lt_or_ge k c with h | h
    ·exact absurd (this.2 h) (by simp)
    ·exact h
   have hbetween : ∀ i, c ≤ i → i < k → ∀ h h', lg i ≠ .eff h h' := by
    intro i h1 h2 g g' e
    have hL := C.effs i _ _ (by omega) e
    have hp := K.pass i k h2 hkN
    rw [e, hkk] at hp
    simp only [mayPass] at hp
    have := hL.1 (ordered_listed X hC h2 ho' hr (.inl hp))
    omega
   have Ck := C.goTo K hB hb0 (k - c) (by omega) (fun i h1 h2 => hbetween i h1 (by omega))
   rw [show c + (k - c) = k by omega] at Ck
   have hmx : max (hs k).size (hs c).size = (hs k).size := Nat.max_eq_left (K.mono hck (by omega))
   rw [hmx] at hf
   have Sk : Slots ops.toList fs hs vs μ0 a0 k L μ a := S.mono μ.le_refl (K.mono hck (by omega))
   refine op_simA hE hcf hrf hcF hrF hF hf Ck.rel hrun' hex fun μ1 v' w1 q1 q2 => ?_
   obtain ⟨μ', e1, e2, C'⟩ := Ck.eff K hkN hkk q2
   refine hn _ _ ⟨k + 1, μ', C', (Sk.mono e1 (K.step hkN)).put X hdst ho' hk ?_⟩
   rw [Nat.max_self, e2]; exact q1
 ·rw [hwant, if_neg (by rw [hw]; simp)]
  refine ⟨fun _ _ => hF.fn _, hn _ _ ⟨c, μ, C.setQuiet (fun h h' e => by rw [hlg] at e; cases e) (fun h h' e => by rw [hlg] at e; cases e), S.put X hdst ho' hk ?_⟩⟩
  rw [hv]; exact .undef _
end
end Go.M
namespace Go.M
open Go
theorem tOk_of {E : Env} {base : Nat} {cf : CallF} {rf : RoundF} {all ops : List Oper} {fs : Nat → AF} {hs : Nat → AHeap} {vs : Nat → Value} {lg : Nat → LogE} (T : Trace E base cf rf all ops fs hs vs lg) {logs : List LogE}
 (hl : ∀ j, j < ops.length → logs[j]? = some (lg j)) (hp : allPass (befores ops []) 0 logs = true) : TOk ops hs lg := by
 obtain ⟨k1, k2⟩ := allPass_get hp
 refine ⟨fun j hj => ?_, fun i j hij hj => ?_⟩
 ·have hg := k1 j _ (hl j hj)
  rcases T.run j _ (List.getElem?_eq_getElem hj) with ⟨_, hr⟩ | ⟨_, _, h1, h2⟩
  ·rcases runOp_cases hr with ⟨_, h1, h2⟩ | ⟨q, _, _, h1, h2⟩ | ⟨md, hd, _, _, h1, h2⟩ | h2
   ·exact .inl ⟨h2, h1⟩
   ·simp only at h1 h2
    rw [h2] at hg
    exact .inr (.inl ⟨q, h2, h1, by simpa [growsL] using hg⟩)
   ·exact .inr (.inr (.inl ⟨md, h2, h1⟩))
   ·simp only at h2
    rw [h2] at hg
    exact .inr (.inr (.inr ⟨h2, by simpa [growsL] using hg⟩))
  ·exact .inl ⟨h2, h1⟩
 ·have := k2 i j _ _ hij (hl i (by omega)) (hl j hj)
  simpa using this
def lis (listed : Array Bool) : Nat → Bool := fun j => listed.getD j false
theorem lis_set {listed : Array Bool} {i : Nat} (hi : i < listed.size) : lis (listed.setIfInBounds i true) = setL (lis listed) i := by
 funext j
 unfold lis setL
 by_cases e : j = i
 ·subst e; rw [if_pos rfl]; simp [hi]
 ·rw [if_neg e]
  simp only [Array.getD_eq_getD_getElem?, Array.getElem?_setIfInBounds_ne (fun h => e h.symm)]
theorem mem_ready {ops : Array Oper} {listed : Array Bool} {i : Nat} (hi : i ∈ Region.ready .any ops listed) (hsz : listed.size = ops.size) :
 ∃ o, ops[i]? = some o ∧ i < listed.size ∧ lis listed i = false ∧ Ready ops.toList (lis listed) o := by
 unfold Region.ready at hi
 simp only [List.mem_filter, List.mem_range, Bool.and_eq_true, Bool.not_eq_true'] at hi
 obtain ⟨h1, h2, h3⟩ := hi
 have h4 := Array.getElem?_eq_getElem h1
 rw [h4] at h3
 simp only [Option.map_some, Option.getD_some, Array.all_eq_true_iff_forall_mem, Bool.or_eq_true, Bool.not_eq_true'] at h3
 refine ⟨_, h4, by omega, ?_, fun e he hb => ?_⟩
 ·have hlt : i < listed.size := by omega
  unfold lis
  simp only [Array.getD, hlt, dif_pos] at h2 ⊢
  exact h2
 ·rcases h3 e (by simpa using he) with h5 | h5
  ·rw [hb] at h5; cases h5
  ·exact h5
theorem ready_nil {ops : Array Oper} {listed : Array Bool} (X : TextOk ops.toList) (hsz : listed.size = ops.size) (h : Region.ready .any ops listed = []) : ∀ j, j < ops.size → lis listed j = true := by
 intro j
 induction j using Nat.strongRecOn with
 | ind j ih =>
  intro hj
  cases hl : lis listed j with
  | true => rfl
  | false =>
   have hm : j ∈ Region.ready .any ops listed := by
    unfold Region.ready
    simp only [List.mem_filter, List.mem_range, Bool.and_eq_true, Bool.not_eq_true']
    have h4 := Array.getElem?_eq_getElem hj
    refine ⟨hj, ?_, ?_⟩
    ·have hlt : j < listed.size := by omega
     unfold lis at hl
     simp only [Array.getD, hlt, dif_pos] at hl ⊢
     exact hl
    ·rw [h4]
     simp only [Option.map_some, Option.getD_some, Array.all_eq_true_iff_forall_mem, Bool.or_eq_true, Bool.not_eq_true']
     intro e he
     cases hb : Region.binds .any e with
     | false => exact .inl rfl
     | true =>
      have := X.edge j _ (by rw [Array.getElem?_toList]; exact h4) e (by simpa using he) hb
      exact .inr (ih e.on this (by omega))
   rw [h] at hm; cases hm
section
variable {P : Program} {E : Env} {base B : Nat} {cf : CallF} {rf : RoundF} {fs : Nat → AF} {hs : Nat → AHeap} {vs : Nat → Value} {lg : Nat → LogE}
variable {μ0 : Emb} {w0 : World} {a0 : Act}
theorem draw_all (hE : EnvOk P E) (hcf : CallOk P E base B cf) (hrf : RoundOk P E base B rf) (hcF : CallFun E cf) (hrF : RoundFun rf) {F : Fence} (hF : Wide F) {n : Nat} {ops : Array Oper}
 (X : TextOk ops.toList) (T : Trace E base cf rf ops.toList ops.toList fs hs vs lg) (K : TOk ops.toList hs lg) (hdst : dstsIn (fs 0).n ops.toList = true) (H0 : HRel E base B μ0 (hs 0) w0)
 {Q : Exit → Act → World → Prop} (hQ : ∀ L a w, (∀ j, j < ops.size → L j = true) → Inv E base B ops.toList fs hs vs lg μ0 w0 a0 L a w → Q .normal a w) :
 ∀ (fuel : Nat) (listed : Array Bool) (a : Act) (w : World), listed.size = ops.size → listed.toList.count false ≤ fuel → Closed ops.toList (lis listed) → Inv E base B ops.toList fs hs vs lg μ0 w0 a0 (lis listed) a w →
  wpAnyIn F n P .any ops Q fuel listed a w := by
 intro fuel
 induction fuel with
 | zero =>
  intro listed a w hsz hcnt hC I
  have hnil : Region.ready .any ops listed = [] := by
   apply List.eq_nil_iff_forall_not_mem.2
   intro i hi
   obtain ⟨o, _, h2, h3, _⟩ := mem_ready hi hsz
   have hmem : false ∈ listed.toList := by
    unfold lis at h3
    simp only [Array.getD, h2, dif_pos] at h3
    rw [← h3]; exact List.mem_of_getElem? (by rw [Array.getElem?_toList]; exact Array.getElem?_eq_getElem h2)
   have := List.count_pos_iff.2 hmem
   omega
  exact ⟨hnil, hQ _ _ _ (ready_nil X hsz hnil) I⟩
 | succ fuel ih =>
  intro listed a w hsz hcnt hC I
  refine ⟨fun hnil => hQ _ _ _ (ready_nil X hsz hnil) I, fun i hi => ?_⟩
  obtain ⟨o, h1, h2, h3, h4⟩ := mem_ready hi hsz
  have h1' : ops.toList[i]? = some o := by simpa using h1
  refine wpOpIn_step h1 fun K' hK' => ?_
  refine draw_op hE hcf hrf hcF hrF hF X T K hdst H0 I hC h1 h3 h4 fun a' w' I' => hK' _ _ (ih _ _ _ ?_ ?_ ?_ ?_)
  ·rw [Array.size_setIfInBounds]; exact hsz
  ·rw [Array.toList_setIfInBounds, List.count_set (by simpa using h2)]
   have hget : listed.toList[i]'(by simpa using h2) = false := by
    unfold lis at h3
    simp only [Array.getD, h2, dif_pos] at h3
    simpa using h3
   have hmem : false ∈ listed.toList := by rw [← hget]; exact List.getElem_mem _
   have hpos := List.count_pos_iff.2 hmem
   rw [hget]
   have e1 : (if (true == false) = true then 1 else 0) = 0 := rfl
   have e2 : (if (false == false) = true then 1 else 0) = 1 := rfl
   omega
  ·rw [lis_set h2]; exact closed_set hC h1' h4
  ·rw [lis_set h2]; exact I'
theorem drawSim (hE : EnvOk P E) (hm : P.follows .mixedOrders = true) : DrawSim P E base B := by
 intro cf rf hcf hrf hcF hrF ops f h f' h' logs hst hdst hrun hpass μ a w hf H F n id Q hF hQ
 obtain ⟨fs, hs, vs, lg, T, e1, e2, e3, e4, e5⟩ := trace_of hrun
 have X := textOk hst
 have K := tOk_of T e5 hpass
 refine wpIn_region_any hm ?_
 have H0 : HRel E base B μ (hs 0) { w with drawn := w.drawn + 1 } := by rw [e2]; exact H.congr rfl
 have hls : ∀ j, lis (Array.replicate ops.size false) j = false := by
  intro j
  unfold lis
  by_cases hj : j < ops.size
  ·simp [hj]
  ·simp [hj]
 have hcut : cut μ (hs 0).size = μ := by
  funext b
  unfold cut
  split
  ·rfl
  ·cases hb : μ b with
   | none => rfl
   | some m => have := H0.dom b m hb; omega
 have I0 : Inv E base B ops.toList fs hs vs lg μ { w with drawn := w.drawn + 1 } a (lis (Array.replicate ops.size false)) a { w with drawn := w.drawn + 1 } := by
  refine ⟨0, μ, ⟨Nat.zero_le _, ?_, by rw [hcut]; exact H0, μ.le_refl, .refl _ _ _, ?_, fun _ _ _ => rfl, ?_, ?_, ?_, ?_⟩, ⟨?_, rfl, ?_, ?_⟩⟩
  ·intro j h h' _ _; rw [hls]; simp
  ·intro b m h0 h1; rw [h0] at h1; cases h1
  ·intro j md hj; omega
  ·intro j md _ _ hl; rw [hls] at hl; cases hl
  ·intro b m hb hm; have := H0.dom b m hm; omega
  ·intro b1 b2 m1 m2 hb1 h1; have := H0.dom b1 m1 h1; omega
  ·rw [e1]; exact hf.n.symm
  ·intro j o d _ hl; rw [hls] at hl; cases hl
  ·intro d _; rw [e1]; exact hf.get d
 refine draw_all hE hcf hrf hcF hrF hF X T K (by rw [e1]; exact hdst) H0 (a0 := a) ?_ ops.size _ a _ (by simp) ?_ ?_ I0
 ·intro L a' w' hall I
  obtain ⟨c, μ', C, S⟩ := I.ex
  have hlen : ops.toList.length = ops.size := by simp
  have Cn := C.goTo K H0.low H0.bsz (ops.toList.length - c) (by have := C.cN; omega) (fun i h1 h2 g g' hl => by
   have h3 : i < ops.toList.length := by have := C.cN; omega
   have := (C.effs i _ _ h3 hl).1 (hall i (by omega))
   omega)
  have hcN := C.cN
  rw [show c + (ops.toList.length - c) = ops.toList.length by omega] at Cn
  have hle : μ.le (cut μ' (hs ops.toList.length).size) := le_cut Cn.le0 fun b m hb => by
   have h1 := H0.dom b m hb
   have h2 := K.mono (i := 0) (j := ops.toList.length) (Nat.zero_le _) (Nat.le_refl _)
   omega
  have St : Step E base B μ (hs 0) { w with drawn := w.drawn + 1 } (cut μ' (hs ops.toList.length).size) (hs ops.toList.length) w' :=
   ⟨Cn.rel, Cn.grow, hle, fun b m h0 h1 => Cn.new b m h0 (cut_some.1 h1).2, Cn.unt, K.mono (Nat.zero_le _) (Nat.le_refl _)⟩
  rw [e2, e4] at St
  refine hQ _ a' w' ?_ S.dfs ((Step.drawn H _).trans St)
  rw [← e3]
  refine ⟨by rw [T.fs_n _ (Nat.le_refl _), S.size], fun t => ?_⟩
  by_cases hex : ∃ (j : Nat) (o : Oper), ops.toList[j]? = some o ∧ o.dst = some t
  ·obtain ⟨j, o, ho, hd⟩ := hex
   have hj : j < ops.toList.length := (List.getElem?_eq_some_iff.1 ho).1
   have htn : t < (fs 0).n := by
    rw [e1]
    unfold dstsIn at hdst
    have := List.all_eq_true.1 hdst o (List.mem_of_getElem? ho)
    rw [hd] at this
    simpa using this
   rw [T.fs_new X htn ho hd _ (Nat.le_refl _) hj]
   refine (S.w j o t ho (hall j (by omega)) hd).mono ?_
   rw [← e4]
   exact cut_mono μ'.le_refl (by
    have h1 := K.mono (i := j + 1) (j := ops.toList.length) (by omega) (Nat.le_refl _)
    have h2 := K.mono (i := c) (j := ops.toList.length) C.cN (Nat.le_refl _)
    omega)
  ·rw [T.fs_old t _ (Nat.le_refl _) fun j o _ ho hd => hex ⟨j, o, ho, hd⟩, ← e4]
   exact (S.old t fun j o ho _ hd => hex ⟨j, o, ho, hd⟩).mono hle
 ·simp [List.count_replicate]
 ·intro j o ho hl; rw [hls] at hl; cases hl
end
end Go.M
namespace Go.M
open Go
def envOf (P : Program) (orc : FuncId → List Value → AHeap → Option (Value × AHeap)) : Env where
 desc := fun t => P.underlying t
 size := fun t => (P.info? t).map (·.size)
 bytes := fun t => (P.info? t).map (·.bytes)
 zero := fun t => (P.info? t).bind fun i => i.zero.bind fun z => grd (plainV z) (some z)
 eqOk := fun t => !P.eqGuardType P.depth t && !P.stoodInHeld t
 func := fun g => (P.funcs[g]?).bind fun fn => grd (fn.body.isSome && !(fn.name == "runtime.NumGoroutine")) (some fn)
 tab := fun _ => none
 still := fun _ => false
 orc := orc
theorem envOk (P : Program) (orc : FuncId → List Value → AHeap → Option (Value × AHeap)) : EnvOk P (envOf P orc) := by
 refine ⟨fun t d h => h, fun t n h => ?_, fun t n h => ?_, fun t z h => ?_, fun t h => ?_, fun f fn h => ?_⟩
 ·simp only [envOf, Option.map_eq_some_iff] at h
  obtain ⟨i, h1, h2⟩ := h
  exact ⟨i, h1, h2⟩
 ·simp only [envOf, Option.map_eq_some_iff] at h
  obtain ⟨i, h1, h2⟩ := h
  exact ⟨i, h1, h2⟩
 ·simp only [envOf, Option.bind_eq_some_iff, grd_some, Option.some.injEq] at h
  obtain ⟨i, h1, z', h2, h3, rfl⟩ := h
  exact ⟨⟨i, h1, h2⟩, h3⟩
 ·simp only [envOf, Bool.and_eq_true, Bool.not_eq_true'] at h
  exact h
 ·simp only [envOf, Option.bind_eq_some_iff, grd_some, Option.some.injEq, Bool.and_eq_true, Bool.not_eq_true'] at h
  obtain ⟨i, h1, ⟨h2, h3⟩, rfl⟩ := h
  exact ⟨h1, h2, h3⟩
section
variable {P : Program} {E : Env} {base B : Nat}
theorem acall_ok (hE : EnvOk P E) (hO : OrcOk P E base B) (hm : P.follows .mixedOrders = true) (n : Nat) : CallOk P E base B (acall E base n) :=
 callOk hE hO (codeOk hE hO (drawSim hE hm) n).1
def noOrc : FuncId → List Value → AHeap → Option (Value × AHeap) := fun _ _ _ => none
theorem noOrc_ok : OrcOk P (envOf P noOrc) base B := fun μ h w g args args' v h' hr => by
 have : (none : Option (Value × AHeap)) = some (v, h') := hr
 cases this
def h00 : AHeap := ⟨.nil, 0⟩
def μ00 : Emb := fun _ => none
theorem rel00 (hg : ∀ g, E.glob g = false) (W : World) : HRel E 0 W.heap.size μ00 h00 W := by
 have no : ∀ {b : Nat} {m : MT}, μ00 b = some m → False := fun {b m} h => by
  have : (none : Option MT) = some m := h
  cases this
 refine ⟨fun b m h => (no h).elim, fun b _ => rfl, fun b m h => (no h).elim, fun b m h => (no h).elim, fun b1 b2 m1 m2 h => (no h).elim, fun b m r h => (no h).elim, fun g h => ?_, Nat.le_refl _, Nat.le_refl _, fun b cs f tip thr h => ?_, fun b m cs thr h => (no h).elim⟩
 ·rw [hg g] at h; cases h
 ·have : (none : Option AObj) = some (.cells cs f tip thr) := h
  cases this
theorem below_of_step {W W' : World} {μ' : Emb} {h' : AHeap} (S : Step E 0 W.heap.size μ00 h00 W μ' h' W') : Go.RowKit.Below W.heap.size W W' :=
 ⟨S.grow.os, S.grow.tape, S.grow.output, S.grow.size, fun k hk => S.grow.keep k hk fun b m h => by
  have : (none : Option MT) = some m := h
  cases this⟩
def gaveTrue : Option (Value × AHeap) → Bool
 | some (.bool b, _) => b
 | _ => false
theorem gaveTrue_some {x : Option (Value × AHeap)} (h : gaveTrue x = true) : ∃ h', x = some (.bool true, h') := by
 unfold gaveTrue at h
 split at h
 ·subst h; exact ⟨_, rfl⟩
 ·cases h
end
end Go.M
namespace Go.M
open Go Go.ChangeShapes Go.WideShapes Go.ChangeAt Go.RowKit
section
variable {H : Type} {enc : TypeId × Value → H} {P : Program}
theorem trodAll_stays (hl : laidOutB P = true) {W W' : World} {sp : Nat → Bool} : ∀ {ts : List TypeId} {vs : List Value} {ds : List (DataW H)} {ps : List MemPlace}, (∀ t ∈ ts, P.readableRec t = true ∧ t < P.types.size) →
 DataW.TrodAll enc P W 0 (fun _ => true) true ts vs ds ps → (∀ p ∈ ps, W.sameAt W' p) → (∀ p ∈ ps, sp p.block = true) → DataW.TrodAll enc P W' 0 sp true ts vs ds ps
 | [], [], [], ps, _, h, _, _ => h
 | t :: ts, v :: vs, d :: ds, ps, hr, h, hs, hp => by
  obtain ⟨p, q, h1, h2, rfl⟩ := h
  refine ⟨p, q, ?_, ?_, rfl⟩
  ·exact WideElems.Trod_stays hl (hr t List.mem_cons_self).1 (hr t List.mem_cons_self).2 h1 (fun x hx => hs x (List.mem_append_left _ hx)) (fun x hx => hp x (List.mem_append_left _ hx))
  ·exact trodAll_stays hl (fun u hu => hr u (List.mem_cons_of_mem _ hu)) h2 (fun x hx => hs x (List.mem_append_right _ hx)) (fun x hx => hp x (List.mem_append_right _ hx))
 | [], [], _ :: _, _, _, h, _, _ => by simp [DataW.TrodAll] at h
 | [], _ :: _, _, _, _, h, _, _ => by simp [DataW.TrodAll] at h
 | _ :: _, [], _, _, _, h, _, _ => by simp [DataW.TrodAll] at h
 | _ :: _, _ :: _, [], _, _, h, _, _ => by simp [DataW.TrodAll] at h
theorem trodAll_length {W : World} {base : Nat} {sp : Nat → Bool} {held : Bool} : ∀ {ts : List TypeId} {vs : List Value} {ds : List (DataW H)} {ps : List MemPlace}, DataW.TrodAll enc P W base sp held ts vs ds ps → ds.length = ts.length ∧ vs.length = ts.length
 | [], [], [], _, _ => ⟨rfl, rfl⟩
 | t :: ts, v :: vs, d :: ds, ps, h => by
  obtain ⟨p, q, _, h2, _⟩ := h
  have := trodAll_length h2
  simp [this.1, this.2]
 | [], [], _ :: _, _, h => by simp [DataW.TrodAll] at h
 | [], _ :: _, _, _, h => by simp [DataW.TrodAll] at h
 | _ :: _, [], _, _, h => by simp [DataW.TrodAll] at h
 | _ :: _, _ :: _, [], _, h => by simp [DataW.TrodAll] at h
theorem post_true {f : Func} {s : ChangeSpec} {apart fresh : Bool} {W W' : World} {args : Array Value} {ds gs : List (DataW H)} {before : List MemPlace} {tb : TypeId}
 (hW : DataW.Whole enc P f.params.toList s.vars apart W args.toList ds gs before) (hvars : s.vars = []) (hres : f.resultTypes = #[tb]) (hb : P.underlying tb = some .bool)
 (hl : laidOutB P = true) (hp : ∀ t ∈ f.params.toList, P.readableRec t = true ∧ t < P.types.size) (hs : s.fn H ds = { results := [.lit (.bool true)], args := ds }) (hbel : Below W.heap.size W W') :
 s.post enc P f apart fresh false false W args (.bool true) W' := by
 have hW' := hW
 have hlt : ∀ p ∈ before, p.block < W.heap.size := fun p hp => hW.lt p hp
 have hold : ∀ p ∈ before, (fun b => decide (b < W.heap.size)) p.block = true := fun p hp => by simpa using hlt p hp
 obtain ⟨p, q, hA, hV, rfl, hz, hn⟩ := hW
 rw [hvars] at hV
 obtain ⟨rfl, rfl⟩ := trodVars_none hV
 simp only [List.append_nil] at *
 have hargs : ∀ sp : Nat → Bool, (∀ x ∈ p, sp x.block = true) → DataW.TrodAll enc P W' 0 sp true f.params.toList args.toList (s.fn H ds).args p := fun sp hsp => by
  rw [hs]; exact trodAll_stays hl hp hA (fun x hx => hbel.same (hlt x hx)) hsp
 have hvs : ∀ sp : Nat → Bool, DataW.TrodVars enc P W' sp s.vars (s.fn H ds).vars [] := fun sp => by rw [hs, hvars]; rfl
 have hr : ∀ (b : Nat) (sp : Nat → Bool) (hd : Bool), DataW.TrodAll enc P W' b sp hd f.resultTypes.toList ((Value.bool true).resultList f.resultTypes.size) (s.fn H ds).results [] := fun b sp hd => by
  rw [hs, hres]; exact trodAll_mk1 (shut_bool hb true)
 have hok := ok_one (W' := W') (v := .bool true) hres rfl (okWide_bool_mk hb true)
 refine ⟨ds, [], p, [], p, [], hW', by simpa using hr _ _ _, by simpa using hargs _ hold, by simpa using hvs _, World.keptBut_mono (fun x hx => ⟨hx, ?_⟩) (hbel.frame _), fun _ => ?_⟩
 ·exact Or.inr (by simpa using hx)
 ·refine ⟨hok, _, _, ([] ++ p) ++ [], ⟨[] ++ p, [], trodAll_append (by simpa using hargs _ (fun _ _ => rfl)) (by simpa using hr _ _ _), by simpa using hvs _, rfl, ?_, ?_⟩, ?_⟩
  ·intro b off hb2
   have hb3 : MemPlace.cell b off ∈ p := by simpa using hb2
   have := hlt _ hb3
   rw [hbel.frozen (p := ⟨b, off, none⟩) this]
   exact hz b off (by simpa using hb3)
  ·intro ha
   have := hn ha
   simpa using this
  ·intro x hx _
   simpa using hx
def kindsB (P : Program) : List TypeId → List IntKind → Bool
 | [], [] => true
 | t :: ts, k :: ks => (match P.underlying t with | some (.int k') => decide (k' = k) | _ => false) && kindsB P ts ks
 | _, _ => false
def intsB (P : Program) (t : TypeId) (ks : List IntKind) : Bool :=
 match P.underlying t, P.cellTypes P.depth t with
 | some (.struct _), some ts => Nat.beq (P.cellsOf t) ts.length && kindsB P ts ks
 | _, _ => false
def intsOf : List IntKind → List Int → List Value
 | k :: ks, n :: ns => .int k n :: intsOf ks ns
 | _, _ => []
end
end Go.M
namespace Go.M
open Go
mutual
inductive TV where
 | j
 | s (v : Value)
 | sl (z : Nat) (es : List (List TV)) (full : Bool)
 | tk (n : Nat)
 | ptr (n o : Nat)
 | ep (e : List TV) (o : Nat)
 | wp (n i o : Nat)
 | mp (n : Nat)
 | bg (n len : Nat)
 | sv (n i : Nat)
 | agg (cs : List TV)
 | tup (cs : List TV)
 | ifc (t : TypeId) (v : TV)
 | clo (g : FuncId) (first cap : List TV)
 | own (y : TO)
inductive TO where
 | cells (cs : List TV)
 | map (kd : Nat) (es : List (Value × TV))
 | arr (z : Nat) (own : Bool) (es : List (List TV))
 | arq (z : Nat) (es : List (List TV)) (op : List (Nat × List TV))
 | maq (kd : Nat) (es : List (Value × TV)) (op : List (Value × TV))
 | bag (ks : List Int)
end
abbrev Fr := List (Nat × TV)
abbrev Ob := List (Nat × TO)
def look {α : Type} : List (Nat × α) → Nat → Option α
 | [], _ => none
 | p :: l, n => match Nat.beq p.1 n with
  | true => some p.2
  | false => look l n
def drop1 {α : Type} : List (Nat × α) → Nat → List (Nat × α)
 | [], _ => []
 | p :: l, n => match Nat.beq p.1 n with
  | true => drop1 l n
  | false => p :: drop1 l n
def upd1 {α : Type} : List (Nat × α) → Nat → α → List (Nat × α)
 | [], _, _ => []
 | p :: l, n, y => match Nat.beq p.1 n with
  | true => (p.1, y) :: upd1 l n y
  | false => p :: upd1 l n y
def fget : Fr → Nat → TV
 | [], _ => .j
 | p :: l, n => match Nat.beq p.1 n with
  | true => p.2
  | false => fget l n
def plainE : Value → Bool
 | .bool _ | .int _ _ | .string _ | .pointer none | .map none | .nilFunc | .nilIface => true
 | _ => false
def fz : TV → Bool
 | .s v => plainE v
 | .sl _ _ _ => true
 | .ifc _ (.s (.int _ _)) => true
 | .clo _ [] [] => true
 | _ => false
def fzV : TV → Bool
 | .agg cs => cs.all fz
 | v => fz v
def frz (o : Ob) : TV → Option TV
 | .s v => match plainE v with | true => some (.s v) | false => none
 | .sl z es _ => some (.sl z es false)
 | .tk n => match look o n with | some (.arr z _ es) => some (.sl z es false) | _ => none
 | .ifc t (.s (.int k n)) => some (.ifc t (.s (.int k n)))
 | .clo g [] [] => some (.clo g [] [])
 | _ => none
def frzs (o : Ob) : List TV → Option (List TV)
 | [] => some []
 | v :: l => match frz o v with
  | some v' => match frzs o l with
   | some l' => some (v' :: l')
   | none => none
  | none => none
def frzV (o : Ob) : TV → Option TV
 | .agg cs => match frzs o cs with | some cs' => some (.agg cs') | none => none
 | v => frz o v
def shareO (o : Ob) (n : Nat) : Ob := match look o n with
 | some (.arr z _ es) => upd1 o n (.arr z false es)
 | _ => o
def share1 (o : Ob) : TV → Ob
 | .tk n => shareO o n
 | _ => o
def shares (o : Ob) : List TV → Ob
 | [] => o
 | v :: l => shares (share1 o v) l
def cellsT : TV → List TV
 | .agg cs => cs
 | v => [v]
def ofCells (agg : Bool) (l : List TV) : Option TV :=
 match agg, l with
 | true, l => some (.agg l)
 | false, [v] => some v
 | false, _ => none
def clT : TV → Bool
 | .own _ => true
 | v => fz v
def isAggT : TV → Bool
 | .agg _ => true
 | _ => false
def plainC : TV → Bool
 | .own _ => false
 | _ => true
def refT : TO → Nat → TV
 | .cells _, n => .ptr n 0
 | .map _ _, n => .mp n
 | .maq _ _ _, n => .mp n
 | .bag ks, n => .bg n ks.length
 | .arr _ _ _, n => .tk n
 | .arq _ _ _, n => .tk n
def openL : List TV → Nat → List TV × List (Nat × TO)
 | [], _ => ([], [])
 | .own y :: l, c => (refT y c :: (openL l (c + 1)).1, (c, y) :: (openL l (c + 1)).2)
 | t :: l, c => (t :: (openL l c).1, (openL l c).2)
def apOp (es : List (List TV)) : List (Nat × List TV) → List (List TV)
 | [] => es
 | p :: l => (apOp es l).set p.1 p.2
def cT1 : Value → TV
 | .slice none 0 0 => .sl 0 [] true
 | .iface t v => .ifc t (.s v)
 | v => .s v
def cTs : List Value → List TV
 | [] => []
 | v :: l => cT1 v :: cTs l
def cT : Value → TV
 | .agg cs => .agg (cTs cs.toList)
 | .tuple cs => .tup (cTs cs.toList)
 | v => cT1 v
def zcells : Value → Option (List TV)
 | .agg cs => some (cTs cs.toList)
 | .tuple _ | .iface _ _ => none
 | v => some [cT1 v]
def evT (E : Env) (f : Fr) : Operand → TV
 | .tmp t => fget f t
 | .const v => cT v
 | .func g => .clo g [] []
 | .global g => match E.tab g with | some cs => .ep (cTs cs) 0 | none => .j
def evTs (E : Env) (f : Fr) : List Operand → List TV
 | [] => []
 | x :: l => evT E f x :: evTs E f l
def evTO (E : Env) (f : Fr) : Option Operand → Option TV
 | none => none
 | some x => some (evT E f x)
def tabV (v : Value) : Bool := plain1 v && fz (cT1 v)
def opqV : Value → Bool
 | .chan (some _) => true
 | _ => false
def encB (s : ByteArray) : List (List TV) := s.data.toList.map fun b => [.s (.int .u8 b.toNat)]
def encU8 (l : List Int) : List (List TV) := l.map fun n => [.s (.int .u8 n)]
def kIdx : IntKind → Nat
 | .i8 => 3 | .i16 => 4 | .i32 => 5 | .i64 => 6 | .u8 => 7 | .u16 => 8 | .u32 => 9 | .u64 => 10
def kcode : TypeDesc → Nat
 | .bool => 1
 | .string => 2
 | .int k => kIdx k
 | _ => 0
def kcodeV : Value → Nat
 | .bool _ => 1
 | .string _ => 2
 | .int k _ => kIdx k
 | _ => 0
def sameK (k k' : IntKind) (v : Value) : Option Value := match k, k' with
 | .i64, .i64 | .u64, .u64 | .i32, .i32 | .u32, .u32 | .u8, .u8 | .i8, .i8 | .i16, .i16 | .u16, .u16 => some v
 | _, _ => none
def vint (op : BinOp) (k k' : IntKind) (x y : Int) : Option Value :=
 match op with
 | .add => sameK k k' (.int k (k.wrap (x + y)))
 | .sub => sameK k k' (.int k (k.wrap (x - y)))
 | .mul => sameK k k' (.int k (k.wrap (x * y)))
 | .eql => sameK k k' (.bool (x == y))
 | .neq => sameK k k' (.bool (x != y))
 | .lss => sameK k k' (.bool (decide (x < y)))
 | .leq => sameK k k' (.bool (decide (x ≤ y)))
 | .gtr => sameK k k' (.bool (decide (x > y)))
 | .geq => sameK k k' (.bool (decide (x ≥ y)))
 | op => pureV (binOp op 0 (.int k x) (.int k' y))
def veq1 : Value → Value → Bool
 | .int _ a, .int _ b => a == b
 | .bool a, .bool b => a == b
 | .string a, .string b => a.data.toList == b.data.toList
 | _, _ => false
def veqK : List Value → List TV → List TV → Option Bool
 | [], [], [] => some true
 | z :: zs, .s v :: l, .s w :: m => (match Nat.blt 0 (kcodeV z) && Nat.beq (kcodeV v) (kcodeV z) && Nat.beq (kcodeV w) (kcodeV z) with
  | true => (match veqK zs l m with | some r => some (veq1 v w && r) | none => none)
  | false => none)
 | _, _, _ => none
def nilK : TV → Option (Nat × Bool)
 | .s (.pointer none) => some (0, true)
 | .ptr _ _ | .ep _ _ => some (0, false)
 | .s (.map none) => some (1, true)
 | .mp _ => some (1, false)
 | .s .nilFunc => some (2, true)
 | .clo _ _ _ => some (2, false)
 | .s .nilIface => some (3, true)
 | .ifc _ _ => some (3, false)
 | .sl _ (_ :: _) _ => some (4, false)
 | .sl 0 [] _ => some (4, true)
 | _ => none
def nilQ : TV → TV → Option (List (List TV))
 | .sl (_ + 1) es _, .sl 0 [] _ => some es
 | _, _ => none
def descK : TypeDesc → Option Nat
 | .pointer _ => some 0
 | .map _ _ => some 1
 | .func _ _ _ => some 2
 | .interface _ => some 3
 | .slice _ => some 4
 | _ => none
end Go.M
namespace Go.M
open Go
inductive VL where
 | pure | alloc | rdF
 | rdO (n : Nat)
 | rdN (n p : Nat) (v : TV)
 | eff (ns : List Nat)
 | effI (ns : List Nat)
 | effG
 | bad
abbrev OK := TV → Ob → Nat → VL → Prop
abbrev VCs := FuncId → Nat → List TV → Ob → (TV → Ob → Nat → Prop) → Prop
def force (v : TV) (K : TV → Prop) : Prop := match v with
 | .j => False
 | .s v => K (.s v)
 | .sl z es fl => K (.sl z es fl)
 | .tk n => K (.tk n)
 | .ptr n o => K (.ptr n o)
 | .ep e o => K (.ep e o)
 | .wp n i o => K (.wp n i o)
 | .mp n => K (.mp n)
 | .bg n len => K (.bg n len)
 | .sv n i => K (.sv n i)
 | .agg cs => K (.agg cs)
 | .tup cs => K (.tup cs)
 | .ifc t v => K (.ifc t v)
 | .clo g a c => K (.clo g a c)
 | .own _ => False
def asIT : TV → Option Int
 | .s (.int _ n) => some n
 | _ => none
def pure1 (v : Option Value) (o : Ob) (c : Nat) (K : OK) : Prop := match v with
 | some v => (match plain1 v with
  | true => K (.s v) o c .pure
  | false => False)
 | none => False
def okC : TV → Bool
 | .j | .agg _ | .tup _ | .sv _ _ => false
 | _ => true
def okV : TV → Bool
 | .agg _ => true
 | v => okC v
def eqE : TV → Bool
 | .s (.chan _) => false
 | .s _ | .sl _ _ _ | .tk _ | .ptr _ _ | .ep _ _ | .wp _ _ _ | .mp _ => true
 | .ifc _ (.s (.int _ _)) => true
 | .clo _ [] [] => true
 | _ => false
def rdL (l : List TV) (v : VL) : VL := match l.all eqE with | true => v | false => .bad
def nmL (v : TV) : VL → VL
 | .rdN m p _ => (match v with
  | .mp k => .rdN m p (.mp k)
  | .ptr k q => .rdN m p (.ptr k q)
  | _ => .rdO m)
 | l => l
def offL : VL → VL
 | .rdN m _ _ => .rdO m
 | l => l
def wopen (agg : Bool) (n p : Nat) (e : List TV) (o : Ob) (c : Nat) (lg : VL) (put : List TV → TO) (m : Nat) (K : OK) : Prop :=
 match takeN n (e.drop p) with
 | none => False
 | some l => (match (openL l c).2 with
  | [] => (match ofCells agg l with
   | some v => force v fun v => K v o c (rdL l (nmL v lg))
   | none => False)
  | q :: new => (match setN e p (openL l c).1, ofCells agg (openL l c).1 with
   | some e', some v => force v fun v => K v ((q :: new) ++ upd1 o m (put e')) (c + (new.length + 1)) (rdL (openL l c).1 (offL lg))
   | _, _ => False))
def welem (es : List (List TV)) (op : List (Nat × List TV)) (i : Nat) (K : List TV → Prop) (K0 : List TV → Prop) : Prop :=
 match op with
 | [] => ∃ e, es[i]? = some e ∧ K e
 | [(j, e)] => (i = j → K e) ∧ (i ≠ j → ∃ e, es[i]? = some e ∧ K0 e)
 | _ => False
def wload (E : Env) (t : TypeId) (a : TV) (o : Ob) (c : Nat) (K : OK) : Prop :=
 match shapeT E t with
 | none => False
 | some (agg, n) =>
  match a with
  | .ptr m p => (match look o m with
   | some (.cells cs) => wopen agg n p cs o c (.rdN m p .j) (fun cs' => .cells cs') m K
   | _ => False)
  | .ep e p => (match takeN n (e.drop p) with
   | some l => (match ofCells agg l with
    | some v => force v fun v => K v o c (rdL l .rdF)
    | none => False)
   | none => False)
  | .wp m i p => (match look o m with
   | some (.arr _ _ es) => ∃ e, es[i]? = some e ∧ (match takeN n (e.drop p) with
    | some l => (match ofCells agg l with
     | some v => force v fun v => K v o c (rdL l (.rdO m))
     | none => False)
    | none => False)
   | some (.arq z es op) => welem es op i (fun e => wopen agg n p e o c (.rdO m) (fun e' => .arq z es [(i, e')]) m K) (fun e => (match takeN n (e.drop p) with
    | some l => (match ofCells agg l, l.all plainC with
     | some v, true => force v fun v => K v o c (rdL l (.rdO m))
     | _, _ => False)
    | none => False))
   | _ => False)
  | _ => False
def wstore (E : Env) (t : TypeId) (a v : TV) (o : Ob) (c : Nat) (K : OK) : Prop :=
 match E.size t with
 | none => False
 | some n => match okV v && Nat.beq (cellsT v).length n && (cellsT v).all okC with
  | false => False
  | true =>
   match a with
   | .ptr m p => (match look o m with
    | some (.cells cs) => (match setN cs p (cellsT v) with
     | some cs' => K .j (upd1 o m (.cells cs')) c (.eff [m])
     | none => False)
    | _ => False)
   | .wp m i p => (match look o m, frzs o (cellsT v) with
    | some (.arr _ _ _), some l => (match look (shares o (cellsT v)) m with
     | some (.arr z true es) => ∃ e, es[i]? = some e ∧ (match setN e p l with
      | some e' => K .j (upd1 (shares o (cellsT v)) m (.arr z true (es.set i e'))) c (.eff [m])
      | none => False)
     | _ => False)
    | some (.arr z true es), none => ∃ e, es[i]? = some e ∧ (match setN e p (cellsT v) with
     | some e' => K .j (upd1 o m (.arq z es [(i, e')])) c (.eff [m])
     | none => False)
    | some (.arq z es op), _ => welem es op i (fun e => (match setN e p (cellsT v) with
          | some e' => K .j (upd1 o m (.arq z es [(i, e')])) c (.eff [m])
          | none => False)) (fun _ => False)
    | _, _ => False)
   | _ => False
def ask (p : Prop) (o : Ob) (c : Nat) (K : OK) : Prop := (p → K (.s (.bool true)) o c .pure) ∧ (¬ p → K (.s (.bool false)) o c .pure)
def askK (k k' : IntKind) (p : Prop) (o : Ob) (c : Nat) (K : OK) : Prop := match sameK k k' (.bool true) with
 | some _ => ask p o c K
 | none => False
def wbin (E : Env) (op : BinOp) (t : TypeId) (x y : Operand) (a b : TV) (o : Ob) (c : Nat) (K : OK) : Prop :=
 match a, b with
 | .s (.int k n), .s (.int k' m) => (match op with
  | .eql => askK k k' (n = m) o c K
  | .neq => askK k k' (n ≠ m) o c K
  | .lss => askK k k' (n < m) o c K
  | .leq => askK k k' (n ≤ m) o c K
  | .gtr => askK k k' (n > m) o c K
  | .geq => askK k k' (n ≥ m) o c K
  | op => pure1 (vint op k k' n m) o c K)
 | .s (.string s), .s (.string r) => (match op with
  | .eql => ask (s.data.toList = r.data.toList) o c K
  | .neq => ask (s.data.toList ≠ r.data.toList) o c K
  | .lss => ask (Op.bytesLess s.data.toList r.data.toList = true) o c K
  | .add => s.size + r.size ≤ 9223372036854775807 ∧ K (.s (.string (s ++ r))) o c .pure
  | op => pure1 (abin E op t x y (.string s) (.string r)) o c K)
 | .s (.bool p), .s (.bool q) => (match E.desc t with
  | some .bool => (match op with
   | .eql => K (.s (.bool (p == q))) o c .pure
   | .neq => K (.s (.bool (!(p == q)))) o c .pure
   | _ => False)
  | _ => False)
 | .agg xs, .agg ys => (match E.eqOk t, E.zero t with
  | true, some z => (match veqK z.cells.toList xs ys with
   | some r => (match op with
    | .eql => ask (r = true) o c K
    | .neq => ask (r = false) o c K
    | _ => False)
   | none => False)
  | _, _ => False)
 | a, b => (match nilQ a b with
  | some es => (match op, (E.desc t).bind descK with
   | .eql, some 4 => (es = [] → K (.s (.bool true)) o c .pure) ∧ K (.s (.bool false)) o c .pure
   | .neq, some 4 => (es = [] → K (.s (.bool false)) o c .pure) ∧ K (.s (.bool true)) o c .pure
   | _, _ => False)
  | none => (match (E.desc t).bind descK, nilK a, nilK b with
  | some d, some (d1, p), some (d2, q) => (match Nat.beq d1 d && Nat.beq d2 d && (p || q) && (!(Nat.beq d 3 && p && q) || isConstO x || isConstO y) with
   | true => (match op with
    | .eql => K (.s (.bool (p && q))) o c .pure
    | .neq => K (.s (.bool (!(p && q)))) o c .pure
    | _ => False)
   | false => False)
  | _, _, _ => False))
def wfieldAddr (E : Env) (s : TypeId) (x : TV) (fd : Nat) (o : Ob) (c : Nat) (K : OK) : Prop :=
 match E.desc s with
 | some (.struct fields) => (match fields[fd]? with
  | some fl => (match E.size fl.type with
   | some n => (match Nat.blt 0 n with
    | true => (match x with
     | .ptr m p => K (.ptr m (p + fl.offset)) o c .pure
     | .ep e p => K (.ep e (p + fl.offset)) o c .pure
     | .wp m i p => (match look o m with
      | some (.arr _ _ _) => K (.wp m i (p + fl.offset)) o c .pure
      | some (.arq _ _ _) => K (.wp m i (p + fl.offset)) o c .pure
      | _ => False)
     | _ => False)
    | false => False)
   | none => False)
  | none => False)
 | _ => False
def wfield (E : Env) (t : TypeId) (x : TV) (fd : Nat) (o : Ob) (c : Nat) (K : OK) : Prop :=
 match E.desc t with
 | some (.struct fields) => (match fields[fd]?, x with
  | some fl, .agg cs => (match shapeT E fl.type with
   | some (agg, n) => (match takeN n (cs.drop fl.offset) with
    | some l => (match ofCells agg l with
     | some v => force v fun v => K v o c .pure
     | none => False)
    | none => False)
   | none => False)
  | _, _ => False)
 | _ => False
def windexAddr (E : Env) (t : TypeId) (x i : TV) (o : Ob) (c : Nat) (K : OK) : Prop :=
 match E.desc t, asIT i with
 | some (.slice elem), some i => (match E.size elem with
  | some n => (match x with
   | .sl z es _ => (match Nat.beq z n with
    | true => ∃ e, (0 ≤ i ∧ es[i.toNat]? = some e) ∧ K (.ep e 0) o c .pure
    | false => False)
   | .tk m => (match look o m with
    | some (.arr z _ es) => (match Nat.beq z n with
     | true => (0 ≤ i ∧ i < es.length) ∧ K (.wp m i.toNat 0) o c .pure
     | false => False)
    | some (.arq z es _) => (match Nat.beq z n with
     | true => (0 ≤ i ∧ i < es.length) ∧ K (.wp m i.toNat 0) o c .pure
     | false => False)
    | _ => False)
   | _ => False)
  | none => False)
 | some (.array len elem), some i => (match E.size elem with
  | some n => (0 ≤ i ∧ i < len) ∧ (match x with
   | .ptr m p => K (.ptr m (p + i.toNat * n)) o c .pure
   | .ep e p => K (.ep e (p + i.toNat * n)) o c .pure
   | _ => False)
  | none => False)
 | _, _ => False
def windex (E : Env) (t : TypeId) (x i : TV) (o : Ob) (c : Nat) (K : OK) : Prop :=
 match E.desc t, asIT i with
 | some .string, some i => (match x with
  | .s (.string s) => ∃ b : UInt8, (0 ≤ i ∧ s.data.toList[i.toNat]? = some b) ∧ K (.s (.int .u8 b.toNat)) o c .pure
  | _ => False)
 | some (.array len elem), some i => (match E.size elem, shapeT E elem, x with
  | some z, some (agg, n), .agg cs => (0 ≤ i ∧ i < len) ∧ (match takeN n (cs.drop (i.toNat * z)) with
   | some l => (match ofCells agg l with
    | some v => force v fun v => K v o c .pure
    | none => False)
   | none => False)
  | _, _, _ => False)
 | _, _ => False
def esOf (o : Ob) : TV → Option (Nat × List (List TV))
 | .sl z es _ => some (z, es)
 | .tk n => match look o n with | some (.arr z _ es) => some (z, es) | _ => none
 | _ => none
def svQ : TV → Option TV → Option TV → Option Nat
 | .tk n, some _, none => some n
 | _, _, _ => none
def bnd (dflt : Nat) : Option TV → Option Int
 | none => some dflt
 | some (.s (.int _ i)) => some i
 | some _ => none
def wslice (E : Env) (t : TypeId) (x : TV) (lo hi mx : Option TV) (o : Ob) (c : Nat) (K : OK) : Prop :=
 match E.desc t with
 | some .string => (match x, mx with
  | .s (.string s), none => (match bnd s.size hi, bnd 0 lo with
   | some h, some l => (0 ≤ l ∧ l ≤ h ∧ h ≤ s.size) ∧ K (.s (.string (s.extract l.toNat h.toNat))) o c .pure
   | _, _ => False)
  | _, _ => False)
 | some (.slice elem) => (match E.size elem, esOf o x with
  | some n, some (z, es) => (match Nat.beq z n || Nat.beq z 0 with
   | true => (match mx with
    | none => (match bnd es.length hi, bnd 0 lo with
     | some h, some l => (match svQ x lo hi with
      | none => (0 ≤ l ∧ l ≤ h ∧ h ≤ es.length) ∧ K (.sl z ((es.take h.toNat).drop l.toNat) false) (share1 o x) c .pure
      | some n => (0 ≤ l ∧ l ≤ h ∧ h ≤ es.length) ∧ (K (.sl z ((es.take h.toNat).drop l.toNat) false) (share1 o x) c .pure ∨ K (.sv n l.toNat) o c .pure))
     | _, _ => False)
    | some m => (match hi, bnd 0 lo, asIT m with
     | some (.s (.int _ h)), some l, some m => (0 ≤ l ∧ l ≤ h ∧ h = m ∧ m ≤ es.length) ∧ K (.sl z ((es.take h.toNat).drop l.toNat) true) (share1 o x) c .pure
     | _, _, _ => False))
   | false => False)
  | _, _ => False)
 | _ => False
def esQ (o : Ob) : TV → Option (Nat × List (List TV) × List (Nat × List TV))
 | .tk n => match look o n with
  | some (.arr z _ es) => some (z, es, [])
  | some (.arq z es op) => (match es.all (fun e => e.all fz) with | true => some (z, es, op) | false => none)
  | _ => none
 | .sl z es _ => some (z, es, [])
 | _ => none
def shiftOp (k : Nat) : List (Nat × List TV) → List (Nat × List TV)
 | [] => []
 | p :: l => (k + p.1, p.2) :: shiftOp k l
def wappend (E : Env) (st xt : TypeId) (s x : TV) (o : Ob) (c : Nat) (K : OK) : Prop :=
 match E.desc st, E.desc xt with
 | some (.slice elem), some (.slice _) => (match E.size elem, E.bytes elem, E.zero elem, esQ o x with
  | some n, some bytes, some z0, some (zx, xs, []) => (match Nat.beq z0.cells.size n && Nat.blt 0 n && (Nat.beq zx n || Nat.beq zx 0) && Nat.blt bytes 1048576 with
   | true => (match s with
    | .sl z [] true => (match Nat.beq z n || Nat.beq z 0 with
     | true => (xs.length < 1048576) ∧ K (.tk c) ((c, .arr n true xs) :: o) (c + 1) (.eff [])
     | false => False)
    | .tk m => (match look o m with
     | some (.arr z w es) => (match Nat.beq z n with
      | true => (es.length + xs.length < 1048576) ∧ K (.tk c) ((c, .arr n w (es ++ xs)) :: drop1 o m) (c + 1) (.eff [m])
      | false => False)
     | some (.arq z es []) => (match Nat.beq z n with
      | true => (es.length + xs.length < 1048576) ∧ K (.tk c) ((c, .arq n (es ++ xs) []) :: drop1 o m) (c + 1) (.eff [m])
      | false => False)
     | _ => False)
    | _ => False)
   | false => False)
  | some n, some bytes, some z0, some (zx, xs, [q]) => (match Nat.beq z0.cells.size n && Nat.blt 0 n && Nat.beq zx n && Nat.blt bytes 1048576 && (q.2.all plainC && q.2.all okC) with
   | true => (match s with
    | .sl z [] true => (match Nat.beq z n || Nat.beq z 0 with
     | true => (xs.length < 1048576) ∧ K (.tk c) ((c, .arq n xs [q]) :: o) (c + 1) (.eff [])
     | false => False)
    | .tk m => (match look o m with
     | some (.arr z true es) => (match Nat.beq z n with
      | true => (es.length + xs.length < 1048576) ∧ K (.tk c) ((c, .arq n (es ++ xs) (shiftOp es.length [q])) :: drop1 o m) (c + 1) (.eff [m])
      | false => False)
     | some (.arq z es []) => (match Nat.beq z n with
      | true => (es.length + xs.length < 1048576) ∧ K (.tk c) ((c, .arq n (es ++ xs) (shiftOp es.length [q])) :: drop1 o m) (c + 1) (.eff [m])
      | false => False)
     | _ => False)
    | _ => False)
   | false => False)
  | _, _, _, _ => False)
 | _, _ => False
def keq : Value → Value → Bool
 | .int _ a, .int _ b => a == b
 | .bool a, .bool b => a == b
 | .string a, .string b => a == b
 | _, _ => false
def kindOk (kd : TypeDesc) (k : Value) (n : Nat) : Bool := Nat.blt 0 n && Nat.beq (kcode kd) n && Nat.beq (kcodeV k) n
def lookM : List (Value × TV) → Value → Option TV
 | [], _ => none
 | e :: es, k => match keq k e.1 with
  | true => some e.2
  | false => lookM es k
def putM : List (Value × TV) → Value → TV → List (Value × TV)
 | [], k, v => [(k, v)]
 | e :: es, k, v => match keq k e.1 with
  | true => (k, v) :: es
  | false => e :: putM es k v
def delM : List (Value × TV) → Value → List (Value × TV)
 | [], _ => []
 | e :: es, k => match keq k e.1 with
  | true => es
  | false => e :: delM es k
def okT (ok : Bool) (v : TV) (b : Bool) : TV := match ok with | true => .tup [v, .s (.bool b)] | false => v
def wopenV (v : TV) (o : Ob) (c : Nat) (lg : VL) (put : TV → TO) (m : Nat) (K : TV → Ob → Nat → VL → Prop) : Prop :=
 match (openL (cellsT v) c).2 with
 | [] => K v o c lg
 | q :: new => (match ofCells (isAggT v) (openL (cellsT v) c).1 with
  | some v' => K v' ((q :: new) ++ upd1 o m (put v')) (c + (new.length + 1)) lg
  | none => False)
def wlookup (E : Env) (t : TypeId) (m k : TV) (ok : Bool) (o : Ob) (c : Nat) (K : OK) : Prop :=
 match E.desc t with
 | some (.map kt elem) => (match E.desc kt, E.zero elem, k with
  | some kd, some z, .s kv => (match m with
   | .mp n => (match look o n with
    | some (.map kn es) => (match kindOk kd kv kn with
     | true => ∃ r, lookM es kv = r ∧ (match r with
      | some v => K (okT ok v true) o c (.rdO n)
      | none => K (okT ok (cT z) false) o c (.rdO n))
     | false => False)
    | some (.maq kn es op) => (match kindOk kd kv kn with
     | true => (match op with
      | [] => ∃ r, lookM es kv = r ∧ (match r with
       | some v => wopenV v o c (.rdO n) (fun v' => .maq kn es [(kv, v')]) n fun v o c lg => K (okT ok v true) o c lg
       | none => K (okT ok (cT z) false) o c (.rdO n))
      | [(k', v)] => (kv = k' → (cellsT v).all plainC = true ∧ K (okT ok v true) o c (rdL (cellsT v) (.rdO n))) ∧ (kv ≠ k' → ∃ r, lookM es kv = r ∧ (match r with
       | some w => (cellsT w).all plainC = true ∧ K (okT ok w true) o c (rdL (cellsT v) (.rdO n))
       | none => K (okT ok (cT z) false) o c (rdL (cellsT v) (.rdO n))))
      | _ => False)
     | false => False)
    | _ => False)
   | .s (.map none) => (match kindOk kd kv (kcode kd) with
    | true => K (okT ok (cT z) false) o c .pure
    | false => False)
   | _ => False)
  | _, _, _ => False)
 | _ => False
def wmapUpdate (E : Env) (t : TypeId) (m k v : TV) (o : Ob) (c : Nat) (K : OK) : Prop :=
 match E.desc t with
 | some (.map kt _) => (match E.desc kt, k with
  | some kd, .s kv => (match m with
   | .mp n => (match look o n, frzV o v with
    | some (.map kn es), some v' => (match kindOk kd kv kn with
     | true => K .j (upd1 (shares o (cellsT v)) n (.map kn (putM es kv v'))) c (.eff [n])
     | false => False)
    | some (.map kn es), none => (match kindOk kd kv kn && okV v with
     | true => K .j (upd1 o n (.maq kn es [(kv, v)])) c (.eff [n])
     | false => False)
    | some (.maq kn es []), _ => (match kindOk kd kv kn && okV v with
     | true => K .j (upd1 o n (.maq kn es [(kv, v)])) c (.eff [n])
     | false => False)
    | some (.maq kn es [(k', _)]), _ => (match kindOk kd kv kn && okV v with
     | true => kv = k' ∧ K .j (upd1 o n (.maq kn es [(kv, v)])) c (.eff [n])
     | false => False)
    | _, _ => False)
   | _ => False)
  | _, _ => False)
 | _ => False
def wlen (E : Env) (t : TypeId) (x : TV) (o : Ob) (c : Nat) (K : OK) : Prop :=
 match E.desc t with
 | some .string => (match x with
  | .s (.string s) => K (.s (goInt s.size)) o c .pure
  | _ => False)
 | some (.array n _) => K (.s (goInt n)) o c .pure
 | some (.slice _) => (match x with
  | .bg _ len => K (.s (goInt len)) o c .pure
  | .tk n => (match look o n with
   | some (.arr _ _ es) => K (.s (goInt es.length)) o c .pure
   | some (.arq _ es _) => K (.s (goInt es.length)) o c .pure
   | _ => False)
  | .sl _ es _ => K (.s (goInt es.length)) o c .pure
  | _ => False)
 | some (.map _ _) => (match x with
  | .s (.map none) => K (.s (goInt 0)) o c .pure
  | .mp n => (match look o n with
   | some (.map _ es) => K (.s (goInt es.length)) o c (.rdO n)
   | some (.maq _ es []) => K (.s (goInt es.length)) o c (.rdO n)
   | _ => False)
  | _ => False)
 | _ => False
def wdelete (E : Env) (t : TypeId) (m k : TV) (o : Ob) (c : Nat) (K : OK) : Prop :=
 match E.desc t with
 | some (.map kt _) => (match E.desc kt, k, m with
  | some kd, .s kv, .mp n => (match look o n with
   | some (.map kn es) => (match kindOk kd kv kn with
    | true => K (.tup []) (upd1 o n (.map kn (delM es kv))) c (.eff [n])
    | false => False)
   | some (.maq kn es []) => (match kindOk kd kv kn with
    | true => K (.tup []) (upd1 o n (.maq kn (delM es kv) [])) c (.eff [n])
    | false => False)
   | _ => False)
  | _, _, _ => False)
 | _ => False
def wbuiltin (E : Env) (b : Builtin) (ts : List TypeId) (args : List TV) (o : Ob) (c : Nat) (K : OK) : Prop :=
 match b, ts, args with
 | .len, t :: _, x :: _ => wlen E t x o c K
 | .append, [st, xt], [s, x] => wappend E st xt s x o c K
 | .max, _, [.s (.int k x), .s (.int _ y)] => K (.s (.int k (if y > x then y else x))) o c .pure
 | .min, _, [.s (.int k x), .s (.int _ y)] => K (.s (.int k (if y < x then y else x))) o c .pure
 | .delete, t :: _, [m, k] => wdelete E t m k o c K
 | .clear, t :: _, .sv m i :: _ => (match E.desc t with
  | some (.slice elem) => (match E.zero elem, look o m with
   | some zv, some (.arr z true es) => (match zcells zv with
    | some zs => (match zs.all fz && Nat.beq zs.length z && zs.all okC with
     | true => (es.length ≤ i → K (.tup []) o c (.eff [m])) ∧ (i < es.length → K (.tup []) (upd1 o m (.arr z true (es.take i ++ List.replicate (es.length - i) zs))) c (.eff [m]))
     | false => False)
    | none => False)
   | _, _ => False)
  | _ => False)
 | .clear, t :: _, .mp n :: _ => (match E.desc t, look o n with
  | some _, some (.map kn _) => K (.tup []) (upd1 o n (.map kn [])) c (.eff [n])
  | some _, some (.maq kn _ _) => K (.tup []) (upd1 o n (.map kn [])) c (.eff [n])
  | _, _ => False)
 | _, _, _ => False
def vfill (place : Nat → Option (Nat × Nat)) : List TV → List (Nat × TV) → Option (List TV)
 | cells, [] => some cells
 | cells, p :: rest => match place p.1 with
  | some (q, n) => (match okV p.2 && Nat.beq (cellsT p.2).length n with
   | true => (match setN cells q (cellsT p.2) with
    | some cs => vfill place cs rest
    | none => none)
   | false => none)
  | none => none
def evParT (E : Env) (f : Fr) : List (Nat × Operand) → List (Nat × TV)
 | [] => []
 | p :: l => (p.1, evT E f p.2) :: evParT E f l
def wbuild (E : Env) (t : TypeId) (ps : List (Nat × TV)) (o : Ob) (c : Nat) (K : OK) : Prop :=
 match E.desc t, E.zero t with
 | some (.struct fields), some z => (match fields.toList.all (fun fd => (E.size fd.type).isSome), zcells z with
  | true, some zs => (match vfill (placeF E fields) zs ps with
   | some cs => K (.agg cs) o c .pure
   | none => False)
  | _, _ => False)
 | some (.array _ elem), some z => (match E.size elem, zcells z with
  | some n, some zs => (match vfill (fun i => some (i * n, n)) zs ps with
   | some cs => K (.agg cs) o c .pure
   | none => False)
  | _, _ => False)
 | _, _ => False
def setAt {α : Type} : List α → Nat → α → Option (List α)
 | [], _, _ => none
 | _ :: l, 0, x => some (x :: l)
 | y :: l, n + 1, x => match setAt l n x with | some l' => some (y :: l') | none => none
def fillS (o : Ob) (n : Nat) : List (List TV) → List (Nat × TV) → Option (List (List TV))
 | es, [] => some es
 | es, p :: rest => match okV p.2 && Nat.beq (cellsT p.2).length n, frzs o (cellsT p.2) with
  | true, some l => (match setAt es p.1 l with
   | some es' => fillS o n es' rest
   | none => none)
  | _, _ => none
def sharesP (o : Ob) : List (Nat × TV) → Ob
 | [] => o
 | p :: l => sharesP (shares o (cellsT p.2)) l
def wbuildSlice (E : Env) (t : TypeId) (len : Nat) (ps : List (Nat × TV)) (o : Ob) (c : Nat) (K : OK) : Prop :=
 match E.desc t with
 | some (.slice elem) => (match E.size elem, E.zero elem with
  | some n, some z => (match Nat.ble (len * n) 16777216 && Nat.beq z.cells.size n && Nat.blt 0 n, zcells z with
   | true, some zs => (match zs.all fz, fillS o n (List.replicate len zs) ps with
    | true, some es => K (.tk c) ((c, .arr n true es) :: sharesP o ps) (c + 1) .alloc
    | true, none => (match ps with
     | [p] => (match okV p.2 && Nat.beq (cellsT p.2).length n && Nat.blt p.1 len with
      | true => K (.tk c) ((c, .arq n (List.replicate len zs) [(p.1, cellsT p.2)]) :: o) (c + 1) .alloc
      | false => False)
     | _ => False)
    | _, _ => False)
   | _, _ => False)
  | _, _ => False)
 | _ => False
def wmakeSlice (E : Env) (t : TypeId) (l k : TV) (o : Ob) (c : Nat) (K : OK) : Prop :=
 match E.desc t, asIT l, asIT k with
 | some (.slice elem), some l, some k => (match E.size elem, E.bytes elem, E.zero elem with
  | some n, some bytes, some z => (match Nat.beq z.cells.size n && Nat.blt 0 n && Nat.blt bytes 1048576, zcells z with
   | true, some zs => (match zs.all fz with
    | true => (0 ≤ l ∧ l ≤ k ∧ k < 1048576) ∧ K (.tk c) ((c, .arr n true (List.replicate l.toNat zs)) :: o) (c + 1) .alloc
    | false => False)
   | _, _ => False)
  | _, _, _ => False)
 | _, _, _ => False
def apM (es : List (Value × TV)) : List (Value × TV) → List (Value × TV)
 | [] => es
 | p :: l => putM (apM es l) p.1 p.2
def Lz {α : Type} (a b : α) : Prop := ∀ p : α → Prop, p a → p b
def Lw {α : Type} (a b : α) : Prop := ∀ p : α → Prop, p a → p b
theorem Lz.rfl {α : Type} {a : α} : Lz a a := fun _ h => h
theorem Lw.rfl {α : Type} {a : α} : Lw a a := fun _ h => h
theorem Lz.eq {α : Type} {a b : α} (h : Lz a b) : a = b := h (a = ·) (Eq.refl a)
theorem Lw.eq {α : Type} {a b : α} (h : Lw a b) : a = b := h (a = ·) (Eq.refl a)
theorem Lz.of {α : Type} {a b : α} (h : a = b) : Lz a b := fun _ k => h ▸ k
theorem Lw.of {α : Type} {a b : α} (h : a = b) : Lw a b := fun _ k => h ▸ k
inductive Tx where
 | v (t : TV)
 | l (ts : List TV)
inductive LeV (ids : List (Option Nat)) (o : Ob) : Tx → Tx → Prop
 | s {v v' : Value} (h : Lz v v') : LeV ids o (.v (.s v)) (.v (.s v'))
 | sl {z z' : Nat} {es es' : List (List TV)} {fl fl' : Bool} (hz : (Nat.beq z z' || Nat.beq z 0) = true) (hf : (!fl' || fl) = true) (he : Lz es es') : LeV ids o (.v (.sl z es fl)) (.v (.sl z' es' fl'))
 | new {n : Nat} {fl : Bool} (hi : ids[n]? = some none) : LeV ids o (.v (.sl 0 [] fl)) (.v (.tk n))
 | tk {m n : Nat} (hi : ids[n]? = some (some m)) : LeV ids o (.v (.tk m)) (.v (.tk n))
 | look {m z : Nat} {es es' : List (List TV)} (hl : look o m = some (.arr z false es)) (he : Lz es es') : LeV ids o (.v (.tk m)) (.v (.sl z es' false))
 | ptr {m n p : Nat} (hi : ids[n]? = some (some m)) : LeV ids o (.v (.ptr m p)) (.v (.ptr n p))
 | ep {e e' : List TV} {p : Nat} (he : Lz e e') : LeV ids o (.v (.ep e p)) (.v (.ep e' p))
 | mp {m n : Nat} (hi : ids[n]? = some (some m)) : LeV ids o (.v (.mp m)) (.v (.mp n))
 | bg {m n len len' : Nat} (hi : ids[n]? = some (some m)) (h : Lz len len') : LeV ids o (.v (.bg m len)) (.v (.bg n len'))
 | agg {a b : List TV} (h : LeV ids o (.l a) (.l b)) : LeV ids o (.v (.agg a)) (.v (.agg b))
 | tup {a b : List TV} (h : LeV ids o (.l a) (.l b)) : LeV ids o (.v (.tup a)) (.v (.tup b))
 | ifc {t : TypeId} {v v' : TV} (h : LeV ids o (.v v) (.v v')) : LeV ids o (.v (.ifc t v)) (.v (.ifc t v'))
 | clo {g : FuncId} {a b a' b' : List TV} (h : LeV ids o (.l a) (.l a')) (k : LeV ids o (.l b) (.l b')) : LeV ids o (.v (.clo g a b)) (.v (.clo g a' b'))
 | j {v : TV} : LeV ids o (.v v) (.v .j)
 | nil : LeV ids o (.l []) (.l [])
 | cons {a b : TV} {l m : List TV} (h : LeV ids o (.v a) (.v b)) (k : LeV ids o (.l l) (.l m)) : LeV ids o (.l (a :: l)) (.l (b :: m))
abbrev leV (ids : List (Option Nat)) (o : Ob) (a b : TV) : Prop := LeV ids o (.v a) (.v b)
abbrev leVs (ids : List (Option Nat)) (o : Ob) (a b : List TV) : Prop := LeV ids o (.l a) (.l b)
inductive Li where
 | c (t : TV) (y : TO)
 | k (l m : List TV)
 | b (q : Option TO) (y : TO)
 | q (l m : List (Nat × List TV))
 | m (l m : List (Value × TV))
inductive Sk {α β γ : Type} : List (α × β) → List (α × γ) → Prop
 | nil : Sk [] []
 | one {a : α} {x : β} {y : γ} : Sk [(a, x)] [(a, y)]
inductive Zl : List TV → List TV → Prop
 | nil : Zl [] []
 | same {t : TV} {l m : List TV} (h : Zl l m) : Zl (t :: l) (t :: m)
 | zero {fl : Bool} {z : Nat} {l m : List TV} (h : Zl l m) : Zl (.sl 0 [] fl :: l) (.sl z [] false :: m)
inductive LeC (o : Ob) : List Nat → Li → Prop
 | same {y y' : TO} (h : Lz y y') : LeC o [] (.c (.own y) y')
 | ptr {U : List Nat} {m : Nat} {cs : List TV} (h : LeC o U (.b (look o m) (.cells cs))) : LeC o (m :: U) (.c (.ptr m 0) (.cells cs))
 | mp {U : List Nat} {m kd : Nat} {es : List (Value × TV)} (h : LeC o U (.b (look o m) (.map kd es))) : LeC o (m :: U) (.c (.mp m) (.map kd es))
 | mpq {U : List Nat} {m kd : Nat} {es op : List (Value × TV)} (h : LeC o U (.b (look o m) (.maq kd es op))) : LeC o (m :: U) (.c (.mp m) (.maq kd es op))
 | tk {U : List Nat} {m z : Nat} {w : Bool} {es : List (List TV)} (h : LeC o U (.b (look o m) (.arr z w es))) : LeC o (m :: U) (.c (.tk m) (.arr z w es))
 | tkq {U : List Nat} {m z : Nat} {es : List (List TV)} {op : List (Nat × List TV)} (h : LeC o U (.b (look o m) (.arq z es op))) : LeC o (m :: U) (.c (.tk m) (.arq z es op))
 | bg {U : List Nat} {m len : Nat} {ks : List Int} (hl : Lz len ks.length) (h : LeC o U (.b (look o m) (.bag ks))) : LeC o (m :: U) (.c (.bg m len) (.bag ks))
 | anil {z' : Nat} {fl w : Bool} (h0 : Nat.blt 0 z' = true) : LeC o [] (.c (.sl 0 [] fl) (.arr z' w []))
 | qnil {z' : Nat} {fl : Bool} (h0 : Nat.blt 0 z' = true) : LeC o [] (.c (.sl 0 [] fl) (.arq z' [] []))
 | cells {U : List Nat} {a b : List TV} (h : LeC o U (.k a b)) : LeC o U (.b (some (.cells a)) (.cells b))
 | map {kd : Nat} {a b : List (Value × TV)} (h : Lz a b) : LeC o [] (.b (some (.map kd a)) (.map kd b))
 | mapq {kd : Nat} {a b : List (Value × TV)} (h : Lz a b) : LeC o [] (.b (some (.map kd a)) (.maq kd b []))
 | arr {z : Nat} {w : Bool} {a b : List (List TV)} (h : Lz a b) : LeC o [] (.b (some (.arr z w a)) (.arr z w b))
 | arrz {z : Nat} {w : Bool} {a b l : List (List TV)} {x y : List TV} (ha : Lz a (l ++ [x])) (hb : Lz (l ++ [y]) b) (h : Zl x y) : LeC o [] (.b (some (.arr z w a)) (.arr z w b))
 | arrq {z : Nat} {a b : List (List TV)} (h : Lz a b) : LeC o [] (.b (some (.arr z true a)) (.arq z b []))
 | arq {U : List Nat} {z : Nat} {a b : List (List TV)} {op opc : List (Nat × List TV)} (hs : Sk op opc) (he : Lw (apOp a opc) b) (h : LeC o U (.q op opc)) : LeC o U (.b (some (.arq z a op)) (.arq z b []))
 | qarr {U : List Nat} {z : Nat} {a b : List (List TV)} {op opc : List (Nat × List TV)} (hs : Sk op opc) (he : Lw (apOp a opc) b) (hf : ∀ e ∈ b, ∀ t ∈ e, fz t = true) (h : LeC o U (.q op opc)) : LeC o U (.b (some (.arq z a op)) (.arr z true b))
 | maq {U : List Nat} {kd : Nat} {a b : List (Value × TV)} {op opc : List (Value × TV)} (hs : Sk op opc) (he : Lw (apM a opc) b) (h : LeC o U (.m op opc)) : LeC o U (.b (some (.maq kd a op)) (.maq kd b []))
 | bag {a b : List Int} (h : Lz a b) : LeC o [] (.b (some (.bag a)) (.bag b))
 | knil : LeC o [] (.k [] [])
 | kown {U U' : List Nat} {a : TV} {y : TO} {l m : List TV} (h : LeC o U (.c a y)) (r : LeC o U' (.k l m)) : LeC o (U ++ U') (.k (a :: l) (.own y :: m))
 | kfz {U : List Nat} {a b : TV} {l m : List TV} (h : LeV [] o (.v a) (.v b)) (hf : fz b = true) (r : LeC o U (.k l m)) : LeC o U (.k (a :: l) (b :: m))
 | q0 : LeC o [] (.q [] [])
 | q1 {U : List Nat} {i : Nat} {a b : List TV} (h : LeC o U (.k a b)) : LeC o U (.q [(i, a)] [(i, b)])
 | m0 : LeC o [] (.m [] [])
 | m1 {U : List Nat} {k : Value} {a b : TV} (ha : isAggT a = isAggT b) (h : LeC o U (.k (cellsT a) (cellsT b))) : LeC o U (.m [(k, a)] [(k, b)])
inductive LeN (ids : List (Option Nat)) (o : Ob) : List Nat → List TV → List TV → Prop
 | nil : LeN ids o [] [] []
 | own {U U' : List Nat} {a : TV} {y : TO} {l m : List TV} (h : LeC o U (.c a y)) (r : LeN ids o U' l m) : LeN ids o (U ++ U') (a :: l) (.own y :: m)
 | v {U : List Nat} {a b : TV} {l m : List TV} (h : LeV ids o (.v a) (.v b)) (hp : plainC a = true) (r : LeN ids o U l m) : LeN ids o U (a :: l) (b :: m)
def srcO (ids : List (Option Nat)) (o : Ob) (n : Nat) : Option (Option TO) := match ids[n]? with
 | some (some m) => (match look o m with | some y => some (some y) | none => none)
 | some none => some none
 | none => none
inductive LeT (ids : List (Option Nat)) (o : Ob) : List Nat → Option (Option TO) → TO → Prop
 | cells {U : List Nat} {a b : List TV} (h : LeN ids o U a b) : LeT ids o U (some (some (.cells a))) (.cells b)
 | map {kd : Nat} {a b : List (Value × TV)} (h : Lz a b) : LeT ids o [] (some (some (.map kd a))) (.map kd b)
 | mapq {kd : Nat} {a b : List (Value × TV)} (h : Lz a b) : LeT ids o [] (some (some (.map kd a))) (.maq kd b [])
 | arr {z : Nat} {w : Bool} {a b : List (List TV)} (h : Lz a b) : LeT ids o [] (some (some (.arr z w a))) (.arr z w b)
 | arrq {z : Nat} {a b : List (List TV)} (h : Lz a b) : LeT ids o [] (some (some (.arr z true a))) (.arq z b [])
 | arq {U : List Nat} {z : Nat} {a b : List (List TV)} {op opc : List (Nat × List TV)} (hs : Sk op opc) (he : Lw (apOp a opc) b) (h : LeC o U (.q op opc)) : LeT ids o U (some (some (.arq z a op))) (.arq z b [])
 | arqn {U : List Nat} {z : Nat} {a b : List (List TV)} {i j : Nat} {x y : List TV} (he : Lz a b) (hi : Lz i j) (h : LeN ids o U x y) : LeT ids o U (some (some (.arq z a [(i, x)]))) (.arq z b [(j, y)])
 | qarr {U : List Nat} {z : Nat} {a b : List (List TV)} {op opc : List (Nat × List TV)} (hs : Sk op opc) (he : Lw (apOp a opc) b) (hf : ∀ e ∈ b, ∀ t ∈ e, fz t = true) (h : LeC o U (.q op opc)) : LeT ids o U (some (some (.arq z a op))) (.arr z true b)
 | maq {U : List Nat} {kd : Nat} {a b : List (Value × TV)} {op opc : List (Value × TV)} (hs : Sk op opc) (he : Lw (apM a opc) b) (h : LeC o U (.m op opc)) : LeT ids o U (some (some (.maq kd a op))) (.maq kd b [])
 | maqn {U : List Nat} {kd : Nat} {a b : List (Value × TV)} {k k' : Value} {x y : TV} (he : Lz a b) (hk : Lz k k') (ha : isAggT x = isAggT y) (h : LeN ids o U (cellsT x) (cellsT y)) : LeT ids o U (some (some (.maq kd a [(k, x)]))) (.maq kd b [(k', y)])
 | bag {a b : List Int} (h : Lz a b) : LeT ids o [] (some (some (.bag a))) (.bag b)
 | new {z : Nat} {w : Bool} (hz : Nat.blt 0 z = true) : LeT ids o [] (some none) (.arr z w [])
 | newq {z : Nat} (hz : Nat.blt 0 z = true) : LeT ids o [] (some none) (.arq z [] [])
inductive LeO (ids : List (Option Nat)) (o : Ob) : List Nat → Ob → Prop
 | nil : LeO ids o [] []
 | cons {U U' : List Nat} {n : Nat} {y : TO} {l : Ob} (h : LeT ids o U (srcO ids o n) y) (k : LeO ids o U' l) : LeO ids o (U ++ U') ((n, y) :: l)
inductive LeF (ids : List (Option Nat)) (o : Ob) (f : Fr) : Fr → Prop
 | nil : LeF ids o f []
 | cons {t : Nat} {y : TV} {l : Fr} (h : LeV ids o (.v (fget f t)) (.v y)) (k : LeF ids o f l) : LeF ids o f ((t, y) :: l)
def nodupN : List Nat → Bool
 | [] => true
 | n :: l => !(l.contains n) && nodupN l
def idsOk (c : Nat) : List (Option Nat) → Bool
 | [] => true
 | none :: l => idsOk c l
 | some m :: l => Nat.blt m c && !(l.contains (some m)) && idsOk c l
def idPre : Nat → Nat → List (Option Nat) → Bool
 | 0, _, _ => true
 | n + 1, k, some m :: l => Nat.beq m k && idPre n (k + 1) l
 | _ + 1, _, _ => false
def shareAll : List Nat → Ob → Ob
 | [], o => o
 | n :: l, o => shareAll l (shareO o n)
def back (ids : List (Option Nat)) (c n : Nat) : Nat := match ids[n]? with
 | some (some m) => m
 | _ => c + n
mutual
def TV.ren (β : Nat → Nat) : TV → TV
 | .tk n => .tk (β n)
 | .ptr n o => .ptr (β n) o
 | .wp n i o => .wp (β n) i o
 | .mp n => .mp (β n)
 | .bg n len => .bg (β n) len
 | .sv n i => .sv (β n) i
 | .agg cs => .agg (TV.rens β cs)
 | .tup cs => .tup (TV.rens β cs)
 | .ifc t v => .ifc t (v.ren β)
 | .clo g a c => .clo g (TV.rens β a) (TV.rens β c)
 | v => v
def TV.rens (β : Nat → Nat) : List TV → List TV
 | [] => []
 | v :: l => v.ren β :: TV.rens β l
end
def opRen (β : Nat → Nat) : List (Nat × List TV) → List (Nat × List TV)
 | [] => []
 | p :: l => (p.1, TV.rens β p.2) :: opRen β l
def omRen (β : Nat → Nat) : List (Value × TV) → List (Value × TV)
 | [] => []
 | p :: l => (p.1, p.2.ren β) :: omRen β l
def TO.ren (β : Nat → Nat) : TO → TO
 | .cells cs => .cells (TV.rens β cs)
 | .arq z es op => .arq z es (opRen β op)
 | .maq kd es op => .maq kd es (omRen β op)
 | x => x
def renO (β : Nat → Nat) : Ob → Ob
 | [] => []
 | p :: l => (β p.1, p.2.ren β) :: renO β l
def giveOk (ids : List (Option Nat)) (U : List Nat) : Bool := nodupN U && U.all fun n => !(ids.contains (some n))
def dropU : List Nat → Ob → Ob
 | [], o => o
 | n :: l, o => dropU l (drop1 o n)
def dropIds : List (Option Nat) → Ob → Ob
 | [], o => o
 | some m :: l, o => dropIds l (drop1 o m)
 | none :: l, o => dropIds l o
def namesOf : List (Option Nat) → List Nat
 | [] => []
 | some m :: l => m :: namesOf l
 | none :: l => namesOf l
def labC (st : Bool) (o0 : Ob) (ns : List Nat) : VL := match st with
 | true => .effI ns
 | false => (match o0, ns with
  | [], [] => .effG
  | _, _ => .eff ns)
def wcall (st : Bool) (vc : VCs) (g : FuncId) (args : List TV) (o : Ob) (c : Nat) (K : OK) : Prop :=
 ∃ (sh : List Nat) (ids : List (Option Nat)) (U : List Nat) (args0 : List TV) (o0 : Ob) (R : TV → Ob → Nat → Prop), vc g ids.length args0 o0 R ∧
  (leVs ids (shareAll sh o) args args0 ∧ LeO ids (shareAll sh o) U o0 ∧ (idsOk c ids && giveOk ids U) = true) ∧
  ∀ r o' c', R r o' c' → K (r.ren (back ids c)) (renO (back ids c) o' ++ dropU U (dropIds ids (shareAll sh o))) (c + c') (labC st o0 (namesOf ids ++ U))
def evOk (E : Env) : Operand → Bool
 | .tmp _ | .func _ => true
 | .const v => plainV v
 | .global g => match E.tab g with | some cs => cs.all tabV | none => false
def wconvert (E : Env) (s d : TypeId) (x : TV) (o : Ob) (c : Nat) (K : OK) : Prop :=
 match x with
 | .s v => (match v, E.desc d with
  | .string str, some (.slice e) => (match E.desc s, E.desc e with
   | some _, some ed => (match isU8 ed with
    | true => K (.tk c) ((c, .arr 1 true (encB str)) :: o) (c + 1) (.eff [])
    | false => False)
   | _, _ => False)
  | _, _ => pure1 (aconv E s d v) o c K)
 | x => (match esQ o x with
  | some (z, es, []) => (match E.desc d, E.desc s with
   | some .string, some (.slice e) => (match E.desc e with
    | some ed => (match isU8 ed && (Nat.beq z 1 || Nat.beq z 0) with
     | true => ∃ ns : List Int, es = encU8 ns ∧ K (.s (.string (strOf ns))) o c (.eff [])
     | false => False)
    | none => False)
   | _, _ => False)
  | _ => False)
def wop (E : Env) (vc : VCs) (op : Op) (f : Fr) (o : Ob) (c : Nat) (K : OK) : Prop :=
 match op.operands.toList.all (evOk E) with
 | false => False
 | true =>
 match op with
 | .move x | .assign x => force (evT E f x) fun v => K v o c .pure
 | .pick q a b => (match evT E f q with
  | .s (.bool q) => (match q with
   | true => force (evT E f a) fun v => K v o c .pure
   | false => force (evT E f b) fun v => K v o c .pure)
  | _ => False)
 | .alloc t => (match E.zero t with
  | some z => (match zcells z with
   | some zs => K (.ptr c 0) ((c, .cells zs) :: o) (c + 1) .alloc
   | none => False)
  | none => False)
 | .box _ x => force (evT E f x) fun v => (match v with
  | .j | .tup _ | .sv _ _ => False
  | .agg cs => K (.ptr c 0) ((c, .cells cs) :: o) (c + 1) .alloc
  | v => K (.ptr c 0) ((c, .cells [v]) :: o) (c + 1) .alloc)
 | .build t ps => wbuild E t (evParT E f ps.toList) o c K
 | .buildSlice t len ps => wbuildSlice E t len (evParT E f ps.toList) o c K
 | .load t a => wload E t (evT E f a) o c K
 | .store t a v => wstore E t (evT E f a) (evT E f v) o c K
 | .nilCheck x => (match evT E f x with
  | .ptr n p => K (.ptr n p) o c .pure
  | .ep e p => K (.ep e p) o c .pure
  | .clo g a b => K (.clo g a b) o c .pure
  | _ => False)
 | .binOp op t x y _ => wbin E op t x y (evT E f x) (evT E f y) o c K
 | .unOp op _ x => (match evT E f x with
  | .s v => (match scalar v with
   | true => pure1 (pureV (Op.unary op v)) o c K
   | false => False)
  | _ => False)
 | .convert s d x => wconvert E s d (evT E f x) o c K
 | .makeInterface t x => (match E.desc t with
  | some (.interface _) | none => False
  | some _ => (match evT E f x with
   | .j => False
   | v => K (.ifc t v) o c .pure))
 | .makeFunc fn first captured => (match fn with
  | .func g => K (.clo g (evTs E f first.toList) (evTs E f captured.toList)) o c .pure
  | _ => False)
 | .makeMap t none => (match E.desc t with
  | some (.map kt _) => (match E.desc kt with
   | some kd => (match Nat.blt 0 (kcode kd) with
    | true => K (.mp c) ((c, .map (kcode kd) []) :: o) (c + 1) .alloc
    | false => False)
   | none => False)
  | _ => False)
 | .makeSlice t l k => wmakeSlice E t (evT E f l) (evT E f k) o c K
 | .slice t x lo hi mx => wslice E t (evT E f x) (evTO E f lo) (evTO E f hi) (evTO E f mx) o c K
 | .fieldAddr s x fd => wfieldAddr E s (evT E f x) fd o c K
 | .field t x fd => wfield E t (evT E f x) fd o c K
 | .indexAddr t x i => windexAddr E t (evT E f x) (evT E f i) o c K
 | .index t x i => windex E t (evT E f x) (evT E f i) o c K
 | .lookup t x i ok => wlookup E t (evT E f x) (evT E f i) ok o c K
 | .mapUpdate t m k v => wmapUpdate E t (evT E f m) (evT E f k) (evT E f v) o c K
 | .extract t i => (match evT E f t with
  | .tup vs => (match vs[i]? with
   | some v => force v fun v => K v o c .pure
   | none => False)
  | _ => False)
 | .call q => (match q.callee with
  | .builtin b => wbuiltin E b q.argTypes.toList (evTs E f q.args.toList) o c K
  | .value g => (match evT E f g with
   | .clo g a b => wcall (E.still g) vc g (a ++ evTs E f q.args.toList ++ b) o c K
   | _ => False)
  | .invoke _ _ => False)
 | _ => False
abbrev VN := VL × Ob
def nmO : Ob → List Nat
 | [] => []
 | p :: o => p.1 :: nmO o
def passR (bs : List Nat) (i n : Nat) : Nat → List VN → Bool → Bool
 | _, [], _ => true
 | j, (.eff ns, _) :: l, dirty => (match dirty || ns.contains n with
  | true => ordered bs i j && passR bs i n (j + 1) l true
  | false => passR bs i n (j + 1) l false)
 | j, (.effI ns, _) :: l, dirty => passR bs i n (j + 1) l (dirty || ns.contains n)
 | j, (.effG, _) :: l, dirty => (match dirty with
  | true => ordered bs i j && passR bs i n (j + 1) l true
  | false => passR bs i n (j + 1) l false)
 | j, _ :: l, dirty => passR bs i n (j + 1) l dirty
def sameNm : TV → TV → Bool
 | .mp a, .mp b => Nat.beq a b
 | .ptr a p, .ptr b q => Nat.beq a b && Nat.beq p q
 | _, _ => false
def cellNm (o : Ob) (n p : Nat) (v : TV) : Bool := match look o n with
 | some (.cells cs) => (match cs[p]? with
  | some w => sameNm v w
  | none => false)
 | _ => false
def nextO (oF : Ob) : List VN → Ob
 | [] => oF
 | x :: _ => x.2
def passN (bs : List Nat) (i n p : Nat) (v : TV) (oF : Ob) : Nat → List VN → Bool → Bool
 | _, [], _ => true
 | j, (.eff ns, _) :: l, dirty => (match dirty with
  | true => ordered bs i j && passN bs i n p v oF (j + 1) l true
  | false => (match ns.contains n with
   | false => passN bs i n p v oF (j + 1) l false
   | true => (match cellNm (nextO oF l) n p v with
    | true => passN bs i n p v oF (j + 1) l false
    | false => ordered bs i j && passN bs i n p v oF (j + 1) l true)))
 | j, (.effI ns, _) :: l, dirty => passN bs i n p v oF (j + 1) l (dirty || ns.contains n)
 | j, (.effG, _) :: l, dirty => (match dirty with
  | true => ordered bs i j && passN bs i n p v oF (j + 1) l true
  | false => passN bs i n p v oF (j + 1) l false)
 | j, _ :: l, dirty => passN bs i n p v oF (j + 1) l dirty
def passE (bs : List Nat) (i : Nat) (nm : List Nat) : List Nat → Nat → List VN → Bool
 | _, _, [] => true
 | tch, j, (.eff ms, _) :: l => ordered bs i j && passE bs i nm (tch ++ ms) (j + 1) l
 | tch, j, (.effI ms, _) :: l => ordered bs i j && passE bs i nm (tch ++ ms) (j + 1) l
 | tch, j, (.effG, _) :: l => ordered bs i j && passE bs i nm tch (j + 1) l
 | tch, j, (.rdF, _) :: l => ordered bs i j && passE bs i nm tch (j + 1) l
 | tch, j, (.rdO m, _) :: l => (ordered bs i j || (nm.contains m && !tch.contains m)) && passE bs i nm tch (j + 1) l
 | tch, j, (.rdN m _ _, _) :: l => (ordered bs i j || (nm.contains m && !tch.contains m)) && passE bs i nm tch (j + 1) l
 | tch, j, _ :: l => passE bs i nm tch (j + 1) l
def passI (bs : List Nat) (i : Nat) : Nat → List VN → Bool
 | _, [] => true
 | j, (.eff _, _) :: l => ordered bs i j && passI bs i (j + 1) l
 | j, (.effI _, _) :: l => ordered bs i j && passI bs i (j + 1) l
 | j, (.effG, _) :: l => ordered bs i j && passI bs i (j + 1) l
 | j, _ :: l => passI bs i (j + 1) l
def passG (bs : List Nat) (i : Nat) : Bool → Nat → List VN → Bool
 | _, _, [] => true
 | _, j, (.eff _, _) :: l => ordered bs i j && passG bs i false (j + 1) l
 | q, j, (.effI _, _) :: l => ordered bs i j && passG bs i q (j + 1) l
 | q, j, (.effG, _) :: l => ordered bs i j && passG bs i q (j + 1) l
 | q, j, (.rdF, _) :: l => (q || ordered bs i j) && passG bs i q (j + 1) l
 | q, j, (.rdO _, _) :: l => (q || ordered bs i j) && passG bs i q (j + 1) l
 | q, j, (.rdN _ _ _, _) :: l => (q || ordered bs i j) && passG bs i q (j + 1) l
 | _, j, (.alloc, _) :: l => passG bs i false (j + 1) l
 | q, j, (.pure, _) :: l => passG bs i q (j + 1) l
 | q, j, (.bad, _) :: l => passG bs i q (j + 1) l
def drawOk (bs : List Nat) (oF : Ob) : Nat → List VN → Bool
 | _, [] => true
 | i, (.eff ns, o) :: l => passE bs i (nmO o) ns (i + 1) l && drawOk bs oF (i + 1) l
 | i, (.effI _, _) :: l => passI bs i (i + 1) l && drawOk bs oF (i + 1) l
 | i, (.effG, o) :: l => (passG bs i true (i + 1) l || passE bs i (nmO o) [] (i + 1) l) && drawOk bs oF (i + 1) l
 | i, (.rdO n, _) :: l => passR bs i n (i + 1) l false && drawOk bs oF (i + 1) l
 | i, (.rdN n p v, _) :: l => passN bs i n p v oF (i + 1) l false && drawOk bs oF (i + 1) l
 | _, (.bad, _) :: _ => false
 | i, _ :: l => drawOk bs oF (i + 1) l
abbrev RK := Fr → Ob → Nat → Prop
def wput (d : Option Tmp) (n : Nat) (v : TV) (f : Fr) (K : Fr → Prop) : Prop := match d with
 | none => K f
 | some t => match Nat.blt t n with
  | true => K ((t, v) :: f)
  | false => False
def wguard (ops : List Oper) (o : Oper) (f : Fr) (K1 K2 : Prop) : Prop :=
 match o.guard with
 | none => K1
 | some (j, want) => match ops[j]? with
  | none => False
  | some p => match p.dst with
   | none => False
   | some t => match fget f t with
    | .s (.bool b) => (match b with
     | true => (match want with | true => K1 | false => K2)
     | false => (match want with | true => K2 | false => K1))
    | .tup [] => K2
    | _ => False
def wops (E : Env) (vc : VCs) (n : Nat) (ops : List Oper) : List Oper → Fr → Ob → Nat → RK → Prop
 | [], f, o, c, K => K f o c
 | p :: rest, f, o, c, K =>
  wguard ops p f
   (wop E vc p.op f o c fun v o' c' _ => wput p.dst n v f fun f' => wops E vc n ops rest f' o' c' K)
   (wput p.dst n (.tup []) f fun f' => wops E vc n ops rest f' o c K)
def wopsL (E : Env) (vc : VCs) (n : Nat) (ops : List Oper) : List Oper → Fr → Ob → Nat → List VN → (List VN → RK) → Prop
 | [], f, o, c, lg, K => K lg f o c
 | p :: rest, f, o, c, lg, K =>
  wguard ops p f
   (wop E vc p.op f o c fun v o' c' l => wput p.dst n v f fun f' => wopsL E vc n ops rest f' o' c' (lg ++ [(l, o)]) K)
   (wput p.dst n (.tup []) f fun f' => wopsL E vc n ops rest f' o c (lg ++ [(.pure, o)]) K)
abbrev CK := Ex → Fr → Ob → Nat → Prop
def toldAs (c0 : Nat) (f : Fr) (o : Ob) (c : Nat) (K : RK) : Prop :=
 ∃ sh ids U f1 o1, (LeF ids (shareAll sh o) f f1 ∧ LeO ids (shareAll sh o) U o1 ∧ (idsOk c ids && idPre c0 0 ids && giveOk ids U) = true) ∧ K f1 o1 ids.length
def memN (n : Nat) : List Nat → Bool
 | [] => false
 | m :: l => match Nat.beq m n with | true => true | false => memN n l
def wp (E : Env) (vc : VCs) (n c0 : Nat) (cuts : List Nat) : Code → Fr → Ob → Nat → CK → Prop
 | .skip, f, o, c, Q => Q .normal f o c
 | .region _ ops draw, f, o, c, Q => (match draw with
  | false => wops E vc n ops.toList ops.toList f o c fun f' o' c' => Q .normal f' o' c'
  | true => (match staticOk ops.toList && dstsIn n ops.toList with
   | true => wopsL E vc n ops.toList ops.toList f o c [] fun lg f' o' c' => (match drawOk (befores ops.toList []) o' 0 lg with
    | true => Q .normal f' o' c'
    | false => False)
   | false => False))
 | .seq a b, f, o, c, Q => wp E vc n c0 cuts a f o c fun ex f' o' c' => (match ex with
  | .normal => wp E vc n c0 cuts b f' o' c' Q
  | .exit id => Q (.exit id) f' o' c'
  | .ret => Q .ret f' o' c')
 | .cond q t e, f, o, c, Q => (match evOk E q with
  | false => False
  | true => (match evT E f q with
   | .s (.bool b) => (match b with
    | true => wp E vc n c0 cuts t f o c Q
    | false => wp E vc n c0 cuts e f o c Q)
   | _ => False))
 | .block id b, f, o, c, Q => (match memN id cuts with
  | false => wp E vc n c0 cuts b f o c fun ex f' o' c' => (match ex with
   | .exit id' => (match Nat.beq id' id with
    | true => Q .normal f' o' c'
    | false => Q (.exit id') f' o' c')
   | .normal => Q .normal f' o' c'
   | .ret => Q .ret f' o' c')
  | true => ∃ Mid : RK, (wp E vc n c0 cuts b f o c fun ex f' o' c' => (match ex with
   | .exit id' => (match Nat.beq id' id with
    | true => toldAs c0 f' o' c' Mid
    | false => Q (.exit id') f' o' c')
   | .normal => toldAs c0 f' o' c' Mid
   | .ret => Q .ret f' o' c')) ∧ ∀ f' o' c', Mid f' o' c' → Q .normal f' o' c')
 | .loop b, f, o, c, Q => ∃ Inv : Nat → Fr → Ob → Nat → Prop, (∃ k, toldAs c0 f o c (Inv k)) ∧
  ∀ k f1 o1 c1, Inv k f1 o1 c1 → wp E vc n c0 cuts b f1 o1 c1 fun ex f' o' c' => (match ex with
   | .normal => ∃ k', toldAs c0 f' o' c' (Inv k') ∧ k' < k
   | .exit id => Q (.exit id) f' o' c'
   | .ret => Q .ret f' o' c')
 | .exit id, f, o, c, Q => Q (.exit id) f o c
 | .ret, f, o, c, Q => Q .ret f o c
 | _, _, _, _, _ => False
def vres (E : Env) (f : Fr) (o : Ob) : List ResultVar → Option (List TV)
 | [] => some []
 | .tmp t :: l => (match vres E f o l with | some vs => some (fget f t :: vs) | none => none)
 | .cell a t :: l => (match fget f a, shapeT E t with
  | .ptr m p, some (agg, n) => (match look o m with
   | some (.cells cs) => (match takeN n (cs.drop p) with
    | some q => (match ofCells agg q, vres E f o l, q.all plainC with
     | some v, some vs, true => some (v :: vs)
     | _, _, _ => none)
    | none => none)
   | _ => none)
  | _, _ => none)
def one1 : List TV → TV
 | [v] => v
 | vs => .tup vs
def argsF : Nat → List TV → Fr
 | _, [] => []
 | i, v :: l => (i, v) :: argsF (i + 1) l
def wret (E : Env) (c0 : Nat) (rs : List ResultVar) (R : TV → Ob → Nat → Prop) : CK := fun ex f o c => match ex with
 | .exit _ => False
 | _ => (match vres E f o rs with
  | some vs => ∃ (sh : List Nat) (ids : List (Option Nat)) (U : List Nat) (r : TV) (o' : Ob), (leV ids (shareAll sh o) (one1 vs) r ∧ LeO ids (shareAll sh o) U o' ∧ (idsOk c ids && idPre c0 0 ids && giveOk ids U) = true) ∧ R r o' ids.length
  | none => False)
end Go.M
namespace Go.M
open Go
inductive Loc where
 | blk (b : Nat)
 | arr (b z len : Nat)
 | nil (z : Nat)
abbrev Gh := Nat → Option Loc
def slV : Value → Bool
 | .slice _ _ _ => true
 | _ => false
def ptV : Value → Bool
 | .pointer _ => true
 | _ => false
inductive VR (c : Nat) (ρ : Gh) (F : Nat → Prop) (h : AHeap) : TV → Value → Prop
 | j (v : Value) : VR c ρ F h .j v
 | s {v : Value} (hp : plain1 v = true) : VR c ρ F h (.s v) v
 | nil {z : Nat} {es : List (List TV)} {fl : Bool} (he : es = []) : VR c ρ F h (.sl z es fl) (.slice none 0 0)
 | sl {z : Nat} {es : List (List TV)} {fl : Bool} {b o len cap : Nat} {cs : List Value} (hF : F b) (hr : h.rd b = some cs) (hz : 0 < z) (hl : es.length = len) (hcap : len ≤ cap) (hfl : fl = true → cap = len)
  (hle : o + len * z ≤ cs.length) (he : ∀ e ∈ es, e.length = z) (hfz : ∀ e ∈ es, ∀ t ∈ e, fz t = true)
  (hc : ∀ (i j : Nat) e t v, es[i]? = some e → e[j]? = some t → cs[o + i * z + j]? = some v → VR c ρ F h t v) : VR c ρ F h (.sl z es fl) (.slice (some ⟨b, o, some z⟩) len cap)
 | tk {n : Nat} {v : Value} (hn : n < c) (h1 : slV v = true) (ha : ∀ b z len, ρ n = some (.arr b z len) → ∃ cap, len ≤ cap ∧ v = .slice (some ⟨b, 0, some z⟩) len cap)
  (h0 : ∀ z, ρ n = some (.nil z) → v = .slice none 0 0 ∨ ∃ b o cs, F b ∧ h.rd b = some cs ∧ 0 < z ∧ o ≤ cs.length ∧ v = .slice (some ⟨b, o, some z⟩) 0 0) : VR c ρ F h (.tk n) v
 | ptr {n o b : Nat} (hb : ρ n = some (.blk b)) : VR c ρ F h (.ptr n o) (.pointer (some ⟨b, o, none⟩))
 | ep {e : List TV} {o b q : Nat} {cs : List Value} (hF : F b) (hr : h.rd b = some cs) (hle : q + e.length ≤ cs.length) (hfz : ∀ t ∈ e, fz t = true)
  (hc : ∀ (j : Nat) t v, e[j]? = some t → cs[q + j]? = some v → VR c ρ F h t v) : VR c ρ F h (.ep e o) (.pointer (some ⟨b, q + o, none⟩))
 | wp {n i o : Nat} {v : Value} (hn : n < c) (h1 : ptV v = true) (ha : ∀ b z len, ρ n = some (.arr b z len) → v = .pointer (some ⟨b, i * z + o, none⟩)) (h0 : ∀ z, ρ n ≠ some (.nil z)) : VR c ρ F h (.wp n i o) v
 | mp {n b : Nat} (hb : ρ n = some (.blk b)) : VR c ρ F h (.mp n) (.map (some b))
 | sv {n i : Nat} {v : Value} (hn : n < c) (h1 : slV v = true) (ha : ∀ b z len, ρ n = some (.arr b z len) → ∃ p cap, v = .slice (some ⟨b, p, some z⟩) (len - i) cap ∧ (i < len → p = i * z))
  (h0 : ∀ z, ρ n = some (.nil z) → v = .slice none 0 0 ∨ ∃ b o z' cap, v = .slice (some ⟨b, o, some z'⟩) 0 cap) : VR c ρ F h (.sv n i) v
 | bg {n len b : Nat} (hb : ρ n = some (.blk b)) : VR c ρ F h (.bg n len) (.slice (some ⟨b, 0, some 1⟩) len (len + 1))
 | agg {cs : List TV} {a : Array Value} (hs : cs.length = a.size) (ha : ∀ (i : Nat) t v, cs[i]? = some t → a[i]? = some v → VR c ρ F h t v) : VR c ρ F h (.agg cs) (.agg a)
 | tup {cs : List TV} {a : Array Value} (hs : cs.length = a.size) (ha : ∀ (i : Nat) t v, cs[i]? = some t → a[i]? = some v → VR c ρ F h t v) : VR c ρ F h (.tup cs) (.tuple a)
 | ifc {t : TypeId} {v : TV} {v' : Value} (hv : VR c ρ F h v v') : VR c ρ F h (.ifc t v) (.iface t v')
 | clo {g : FuncId} {x y : List TV} {a k : Array Value} (hs : x.length = a.size) (ha : ∀ (i : Nat) t v, x[i]? = some t → a[i]? = some v → VR c ρ F h t v)
  (ht : y.length = k.size) (hk : ∀ (i : Nat) t v, y[i]? = some t → k[i]? = some v → VR c ρ F h t v) : VR c ρ F h (.clo g x y) (.func (.func g) a k)
theorem VR.mono {c c' : Nat} {ρ ρ' : Gh} {F F' : Nat → Prop} {h h' : AHeap} (hcc : c ≤ c') (hA : ∀ n l, n < c → ρ' n = some l → ρ n = some l) (hB : ∀ n b, ρ n = some (.blk b) → ρ' n = some (.blk b))
 (hF : ∀ b, F b → F' b) (hh : ∀ b cs, F b → h.rd b = some cs → h'.rd b = some cs) {v : TV} {x : Value} (H : VR c ρ F h v x) : VR c' ρ' F' h' v x := by
 induction H with
 | j v => exact .j v
 | s hp => exact .s hp
 | nil he => exact .nil he
 | sl h1 h2 h3 h4 h5 h6 h7 h8 h9 _ ih => exact .sl (hF _ h1) (hh _ _ h1 h2) h3 h4 h5 h6 h7 h8 h9 ih
 | tk hn h1 ha h0 =>
  refine .tk (by omega) h1 (fun b z len hx => ha b z len (hA _ _ hn hx)) (fun z hx => (h0 z (hA _ _ hn hx)).imp id ?_)
  rintro ⟨b, o, cs, q1, q2, q3, q4, q5⟩
  exact ⟨b, o, cs, hF _ q1, hh _ _ q1 q2, q3, q4, q5⟩
 | ptr hb => exact .ptr (hB _ _ hb)
 | ep h1 h2 h3 h4 _ ih => exact .ep (hF _ h1) (hh _ _ h1 h2) h3 h4 ih
 | wp hn h1 ha h0 => exact .wp (by omega) h1 (fun b z len hx => ha b z len (hA _ _ hn hx)) (fun z hx => h0 z (hA _ _ hn hx))
 | mp hb => exact .mp (hB _ _ hb)
 | bg hb => exact .bg (hB _ _ hb)
 | sv hn h1 ha h0 => exact .sv (by omega) h1 (fun b z len hx => ha b z len (hA _ _ hn hx)) (fun z hx => h0 z (hA _ _ hn hx))
 | agg hs _ ih => exact .agg hs ih
 | tup hs _ ih => exact .tup hs ih
 | ifc _ ih => exact .ifc ih
 | clo hs _ ht _ ih1 ih2 => exact .clo hs ih1 ht ih2
def VRs (c : Nat) (ρ : Gh) (F : Nat → Prop) (h : AHeap) (l : List TV) (m : List Value) : Prop :=
 l.length = m.length ∧ ∀ (i : Nat) t v, l[i]? = some t → m[i]? = some v → VR c ρ F h t v
section
variable {c : Nat} {ρ : Gh} {F : Nat → Prop} {h : AHeap}
theorem VRs.nil : VRs c ρ F h [] [] := ⟨rfl, fun i t v h => by simp at h⟩
theorem VRs.cons {t : TV} {v : Value} {l : List TV} {m : List Value} (hv : VR c ρ F h t v) (hl : VRs c ρ F h l m) : VRs c ρ F h (t :: l) (v :: m) :=
 ⟨by simp [hl.1], fun i t' v' h1 h2 => by
  cases i with
  | zero => simp at h1 h2; subst h1; subst h2; exact hv
  | succ i => exact hl.2 i _ _ (by simpa using h1) (by simpa using h2)⟩
theorem VRs.head {t : TV} {v : Value} {l : List TV} {m : List Value} (H : VRs c ρ F h (t :: l) (v :: m)) : VR c ρ F h t v := H.2 0 _ _ rfl rfl
theorem VRs.tail {t : TV} {v : Value} {l : List TV} {m : List Value} (H : VRs c ρ F h (t :: l) (v :: m)) : VRs c ρ F h l m :=
 ⟨by simpa using H.1, fun i t' v' h1 h2 => H.2 (i + 1) _ _ (by simpa using h1) (by simpa using h2)⟩
theorem VRs.inv_cons {t : TV} {l : List TV} {m : List Value} (H : VRs c ρ F h (t :: l) m) : ∃ v m', m = v :: m' ∧ VR c ρ F h t v ∧ VRs c ρ F h l m' := by
 match m, H with
 | [], H => have := H.1; simp at this
 | v :: m', H => exact ⟨v, m', rfl, H.head, H.tail⟩
theorem VRs.inv_nil {m : List Value} (H : VRs c ρ F h [] m) : m = [] := by
 have := H.1; cases m <;> simp_all
theorem VRs.append {l l' : List TV} {m m' : List Value} (H : VRs c ρ F h l m) (K : VRs c ρ F h l' m') : VRs c ρ F h (l ++ l') (m ++ m') := by
 induction l generalizing m with
 | nil => rw [H.inv_nil]; exact K
 | cons t l ih =>
  obtain ⟨v, m1, rfl, h1, h2⟩ := H.inv_cons
  exact .cons h1 (ih h2)
theorem VRs.take {l : List TV} {m : List Value} (H : VRs c ρ F h l m) (n : Nat) : VRs c ρ F h (l.take n) (m.take n) :=
 ⟨by simp [H.1], fun i t v h1 h2 => by
  rw [List.getElem?_take] at h1 h2
  split at h1
  ·rename_i hlt; rw [if_pos hlt] at h2; exact H.2 i _ _ h1 h2
  ·cases h1⟩
theorem VRs.drop {l : List TV} {m : List Value} (H : VRs c ρ F h l m) (n : Nat) : VRs c ρ F h (l.drop n) (m.drop n) :=
 ⟨by simp [H.1], fun i t v h1 h2 => by
  rw [List.getElem?_drop] at h1 h2; exact H.2 _ _ _ h1 h2⟩
theorem VRs.mono' {c' : Nat} {ρ' : Gh} {F' : Nat → Prop} {h' : AHeap} (hm : ∀ t v, VR c ρ F h t v → VR c' ρ' F' h' t v) {l : List TV} {m : List Value} (H : VRs c ρ F h l m) : VRs c' ρ' F' h' l m :=
 ⟨H.1, fun i t v h1 h2 => hm _ _ (H.2 i t v h1 h2)⟩
theorem VR.agg_of {cs : List TV} {a : Array Value} (H : VRs c ρ F h cs a.toList) : VR c ρ F h (.agg cs) (.agg a) := .agg (by simpa using H.1) fun i t v h1 h2 => H.2 i t v h1 (by simpa using h2)
theorem VR.tup_of {cs : List TV} {a : Array Value} (H : VRs c ρ F h cs a.toList) : VR c ρ F h (.tup cs) (.tuple a) := .tup (by simpa using H.1) fun i t v h1 h2 => H.2 i t v h1 (by simpa using h2)
theorem VR.inv_agg {cs : List TV} {v : Value} (H : VR c ρ F h (.agg cs) v) : ∃ a, v = .agg a ∧ VRs c ρ F h cs a.toList := by
 cases H with
 | agg hs ha => exact ⟨_, rfl, by simpa using hs, fun i t v h1 h2 => ha i t v h1 (by simpa using h2)⟩
theorem VR.inv_tup {cs : List TV} {v : Value} (H : VR c ρ F h (.tup cs) v) : ∃ a, v = .tuple a ∧ VRs c ρ F h cs a.toList := by
 cases H with
 | tup hs ha => exact ⟨_, rfl, by simpa using hs, fun i t v h1 h2 => ha i t v h1 (by simpa using h2)⟩
theorem VR.inv_s {w v : Value} (H : VR c ρ F h (.s w) v) : v = w ∧ plain1 w = true := by
 cases H with
 | s hp => exact ⟨rfl, hp⟩
theorem cT1_rel {v : Value} (hp : plain1 v = true) : VR c ρ F h (cT1 v) v := by
 unfold cT1
 split
 ·exact .nil rfl
 ·simp [plain1] at hp
 ·exact .s hp
theorem cTs_rel : ∀ {l : List Value}, l.all plain1 = true → VRs c ρ F h (cTs l) l
 | [], _ => .nil
 | v :: l, hp => by
  simp only [List.all_cons, Bool.and_eq_true] at hp
  exact .cons (cT1_rel hp.1) (cTs_rel hp.2)
theorem cT_rel {v : Value} (hp : plainV v = true) : VR c ρ F h (cT v) v := by
 unfold cT
 split
 ·exact .agg_of (cTs_rel hp)
 ·exact .tup_of (cTs_rel hp)
 ·unfold plainV at hp
  split at hp
  ·simp_all
  ·simp_all
  ·rename_i t v' _ _; exact .ifc (.s hp)
  ·exact cT1_rel hp
theorem zcells_rel {z : Value} (hp : plainV z = true) {zs : List TV} (hz : zcells z = some zs) : VRs c ρ F h zs z.cells.toList := by
 unfold zcells at hz
 split at hz
 ·cases hz; exact cTs_rel hp
 ·cases hz
 ·cases hz
 ·cases hz
  have h1 : z.cells.toList = [z] := by cases z <;> first | rfl | simp_all
  rw [h1]
  refine .cons (cT1_rel ?_) .nil
  unfold plainV at hp
  split at hp <;> simp_all
end
theorem VR.fzmono {c c' : Nat} {ρ ρ' : Gh} {F : Nat → Prop} {h : AHeap} {v : TV} {x : Value} (H : VR c ρ F h v x) : fz v = true → VR c' ρ' F h v x := by
 induction H with
 | j v => intro hf; simp [fz] at hf
 | s hp => intro _; exact .s hp
 | nil he => intro _; exact .nil he
 | sl h1 h2 h3 h4 h5 h6 h7 h8 h9 _ ih => intro _; exact .sl h1 h2 h3 h4 h5 h6 h7 h8 h9 fun i j e t v q1 q2 q3 => ih i j e t v q1 q2 q3 (h9 e (List.mem_of_getElem? q1) t (List.mem_of_getElem? q2))
 | tk => intro hf; simp [fz] at hf
 | ptr => intro hf; simp [fz] at hf
 | ep => intro hf; simp [fz] at hf
 | wp => intro hf; simp [fz] at hf
 | mp => intro hf; simp [fz] at hf
 | bg => intro hf; simp [fz] at hf
 | sv => intro hf; simp [fz] at hf
 | agg => intro hf; simp [fz] at hf
 | tup => intro hf; simp [fz] at hf
 | ifc hv ih =>
  intro hf
  rename_i t v v'
  cases v <;> simp [fz] at hf
  cases hv with
  | s hp => exact .ifc (.s hp)
 | clo hs ha ht hk ih1 ih2 =>
  intro hf
  rename_i g x y a k
  cases x <;> cases y <;> simp [fz] at hf
  exact .clo hs (fun i t v q => by simp at q) ht (fun i t v q => by simp at q)
theorem VR.fzVmono {c c' : Nat} {ρ ρ' : Gh} {F : Nat → Prop} {h : AHeap} {v : TV} {x : Value} (H : VR c ρ F h v x) (hf : fzV v = true) : VR c' ρ' F h v x := by
 unfold fzV at hf
 split at hf
 ·obtain ⟨a, rfl, h1⟩ := H.inv_agg
  exact .agg_of ⟨h1.1, fun i t v q1 q2 => (h1.2 i t v q1 q2).fzmono (List.all_eq_true.1 hf t (List.mem_of_getElem? q1))⟩
 ·exact H.fzmono hf
end Go.M
