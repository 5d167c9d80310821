/-
  Part 5 of the library that the proof leans on.
-/
import Derived.Shelf.SlIterI.Nil
import Derived.Shelf.Strings.OnBuilder
import Derived.Shelf.Strings.Split
import Derived.Shelf.Pu.ParseUintPublic10
import Derived.Lib.AtoiErrMem
import Derived.KernelRfl
import Derived.Test.YtmbeekloaidcmaaDoorChecked
import Derived.Lib.ItoaNum
import Derived.Lib.ParseIntB
import Derived.Lib.ItoaLen
import Derived.Lib.SplitLaws
import Derived.Lib.Join
import Derived.Test.YtmbeekloaidcmaaDoorL4
namespace Go.M
open Go
def outK (base : Nat) : KV := fun v h' => match v with
 | .slice (some ⟨b, o, some z⟩) len _ => (readCells h' b o (len * z)).bind fun cs => grd (Nat.ble base b && Nat.blt 0 len && cs.all scalar) (some (.bool false :: goInt len :: goInt z :: cs))
 | v => grd (plain1 v) (some [.bool true, v])
def ansOf (h : AHeap) : Out → Option (Value × AHeap)
 | [.bool true, v] => grd (plain1 v) (some (v, h))
 | .bool false :: .int _ (.ofNat len) :: .int _ (.ofNat z) :: cs => some (.slice (some ⟨h.size, 0, some z⟩) len (len + 1), h.push (.cells cs h.size (h.size + 1) 0))
 | _ => none
noncomputable def confl (E : Env) (n : Nat) : CallF := fun g args h => (callK E h.size n g args h (outK h.size)).bind (ansOf h)
theorem HRel.ext {E : Env} {base B : Nat} {μ : Emb} {h : AHeap} {w w' : World} (H : HRel E base B μ h w) (hs : w.heap.size ≤ w'.heap.size) (hk : ∀ r, r < w.heap.size → w'.heap[r]? = w.heap[r]?) : HRel E base B μ h w' :=
 ⟨H.dom, H.high, fun b m hb => by
  obtain ⟨p, p', k1, k2, k3⟩ := H.obj b m hb
  exact ⟨p, p', k1, by rw [hk _ (H.lt hb)]; exact k2, k3⟩, H.own, H.alias, H.fam, H.glob, Nat.le_trans H.low hs, H.bsz, H.wf, H.root⟩
section
variable {P : Program} {E E0 : Env} {base B : Nat}
end
end Go.M
namespace Go.M
open Go
noncomputable def orcOf (P : Program) (fs : List Nat) (n : Nat) : FuncId → List Value → AHeap → Option (Value × AHeap) := fun g args h =>
 match fs.contains g with
 | true => confl (envOf P noOrc) n g args h
 | false => none
end Go.M
namespace Go.M
open Go
def insI (x : Int) : List Int → List Int
 | [] => [x]
 | y :: l => bif Int.blt' x y then x :: y :: l else y :: insI x l
where Int.blt' (x y : Int) : Bool := decide (x < y)
def sortI : List Int → List Int
 | [] => []
 | x :: l => insI x (sortI l)
def intsV : List Value → Option (List Int)
 | [] => some []
 | .int .i64 x :: l => (intsV l).bind fun r => some (x :: r)
 | _ => none
def outB (base : Nat) : KV := fun v h' => match v with
 | .slice (some ⟨b, o, some 1⟩) len _ => (readCells h' b o len).bind fun cs => (intsV cs).bind fun xs => grd (Nat.ble base b && Nat.blt 0 len) (some (.bool false :: goInt len :: (sortI xs).map (.int .i64)))
 | v => grd (plain1 v) (some [.bool true, v])
def ansB (h : AHeap) : Out → Option (Value × AHeap)
 | [.bool true, v] => grd (plain1 v) (some (v, h))
 | .bool false :: .int _ (.ofNat len) :: cs => (intsV cs).bind fun xs => some (.slice (some ⟨h.size, 0, some 1⟩) len (len + 1), h.push (.bag xs))
 | _ => none
noncomputable def conflB (E : Env) (n : Nat) : CallF := fun g args h => (callK E h.size n g args h (outB h.size)).bind (ansB h)
section
variable {P : Program} {E E0 : Env} {base B : Nat}
end
end Go.M
namespace Go.M
open Go
def insAll (x : Int) : List Int → List (List Int)
 | [] => [[x]]
 | y :: l => (x :: y :: l) :: (insAll x l).map (y :: ·)
def perms : List Int → List (List Int)
 | [] => [[]]
 | x :: l => (perms l).flatMap (insAll x)
def bagOf (h : AHeap) : List Value → Option (Nat × List Int)
 | [] => none
 | .slice (some ⟨b, _, some _⟩) _ cap :: l => (match Nat.beq cap 0, h.get b with
  | false, some (.bag cs) => some (b, cs)
  | _, _ => bagOf h l)
 | _ :: l => bagOf h l
def noRoot (h : AHeap) (b : Nat) : Bool := (List.range h.size).all fun c => match h.get c with
 | some (.cells _ f _ _) => !Nat.beq f b
 | _ => true
noncomputable def conflP (E : Env) (n : Nat) : CallF := fun g args h => (bagOf h args).bind fun r => grd (Nat.blt r.1 h.size && noRoot h r.1) <|
 (meet ((perms r.2).map fun l => callK E h.size n g args (h.put r.1 (.cells (l.map (.int .i64)) r.1 h.size 0)) (outK h.size))).bind (ansOf h)
section
variable {P : Program} {E E0 : Env} {base B : Nat}
end
end Go.M
namespace Go.M
open Go
noncomputable def orcAll (P : Program) (fs bs ps : List Nat) (n : Nat) : FuncId → List Value → AHeap → Option (Value × AHeap) := fun g args h =>
 match fs.contains g with
 | true => confl (envOf P noOrc) n g args h
 | false => match bs.contains g with
  | true => conflB (envOf P noOrc) n g args h
  | false => match ps.contains g with
   | true => conflP (envOf P noOrc) n g args h
   | false => none
end Go.M
namespace Go.M
open Go
def orcT (l : List Nat) : FuncId → List Value → AHeap → Option (Value × AHeap) := fun g args h => match memN g l, args with
 | true, [] => some (.bool true, h)
 | _, _ => none
def Awake (P : Program) (g : FuncId) : Prop := ∀ (W : World) (F : Fence) (n : Nat), Wide F → CallsIn F n P g #[] W fun e W' => e = .returned (.bool true) ∧ Go.RowKit.Below W.heap.size W W'
theorem orcT_ok {P : Program} {l : List Nat} (hl : ∀ g ∈ l, Awake P g) (base B : Nat) : OrcOk P (envOf P (orcT l)) base B := by
 intro μ h w g args args' v h' hc hr H F n hF
 have hc' : orcT l g args h = some (v, h') := hc
 unfold orcT at hc'
 split at hc'
 ·rename_i hg
  cases hc'
  have : args' = #[] := by
   have := hr.length
   simpa using this.symm
  subst this
  refine (hl g (memN_mem hg) w F n hF).mono ?_
  rintro e W' ⟨rfl, hb⟩
  exact ⟨_, μ, rfl, .lit rfl, ⟨H.ext hb.size fun r hr => hb.block r hr, ⟨hb.tape, hb.os, hb.output, hb.size, fun r hr _ => hb.block r hr⟩, μ.le_refl, fun b m h0 h1 => (by rw [h0] at h1; cases h1), fun _ _ _ => rfl, Nat.le_refl _⟩⟩
 ·cases hc'
end Go.M
namespace Go.M
open Go Go.RowKit Go.Maps Go.Sort Go.Shelf Go.Proofs
def SortsKeys (P : Program) (g k : FuncId) : Prop := ∀ (W : World) (Bm : Nat) (mb : Option Nat) (ks : List Int), W.cell? ⟨Bm, 0, none⟩ = some (.map mb) → ks.length ≤ 1099511627776 → (∀ x ∈ ks, IntKind.i64.min ≤ x ∧ x ≤ IntKind.i64.max) → ks.Nodup →
 (mb = none ∧ ks = [] ∨ ∃ (r : Nat) (es : Array MapEntry) (clock : Nat), mb = some r ∧ W.heap[r]? = some (.map es clock) ∧ StL es.toList clock ∧ es.toList.map (·.key) = ks.map (.int .i64)) →
 Calls P g #[.func (.func k) #[] #[.pointer (some ⟨Bm, 0, none⟩)]] W fun e w' => ∃ (v : Value) (t : TypeId), e = .returned v ∧ w'.ownsRow W.heap.size t 1 v ks.length ((ks.mergeSort fun x y => decide (x ≤ y)).map (.int .i64)) ∧ (v = .slice none 0 0 ↔ ks = []) ∧ Below W.heap.size W w'
end Go.M
namespace Go.M
open Go Go.RowKit
theorem calls_any {P : Program} {F : Fence} (hF : Wide F) {n : Nat} {f : FuncId} {args : Array Value} {w : World} {R : Ending → World → Prop} (h : Calls P f args w R) : CallsIn F n P f args w R := by
 have e : Machine.fenced P F = Machine.fenced P Fence.wide := funext fun m => propext ⟨fun _ => fenced_wide P m, fun _ g hg => ⟨fun ha => (by rw [hF.dead] at ha; cases ha), Or.inl (hF.fn _), fun f _ => hF.fn f, fun d hd => (by rw [hF.depth] at hd; cases hd)⟩⟩
 have h2 := callsIn_wide (n := n).2 h
 refine ⟨hF.fn f, fun cs _ => ?_⟩
 rw [e]
 exact h2.2 cs (room_wide _)
def intKs : List MapEntry → Option (List Int)
 | [] => some []
 | e :: l => match e.key, intKs l with
  | .int .i64 n, some ks => some (n :: ks)
  | _, _ => none
def boxMap (h : AHeap) (b : Nat) : Option (Option Nat) := match h.get b with
 | some (.cells [.map mb] f tip thr) => grd (Nat.beq f b && Nat.beq tip b && Nat.ble thr b) (some mb)
 | _ => none
instance (ev : List MapEntry) (clock : Nat) : Decidable (StL ev clock) := inferInstanceAs (Decidable (_ ∧ _))
def ksOk (ks : List Int) : Prop := ks.length ≤ 1099511627776 ∧ (∀ x ∈ ks, IntKind.i64.min ≤ x ∧ x ≤ IntKind.i64.max) ∧ ks.Nodup
instance (ks : List Int) : Decidable (ksOk ks) := inferInstanceAs (Decidable (_ ∧ _ ∧ _))
def keysAt (h : AHeap) : Option Nat → Option (List Int)
 | none => some []
 | some r => match h.get r with
  | some (.map ev clock) => (intKs ev).bind fun ks => grd (decide (StL ev clock) && decide (ksOk ks)) (some ks)
  | _ => none
def sortZ (ks : List Int) : List Int := ks.mergeSort fun x y => decide (x ≤ y)
def ansKs (h : AHeap) (ks : List Int) : Value × AHeap := match ks with
 | [] => (.slice none 0 0, h)
 | _ :: _ => (.slice (some ⟨h.size, 0, some 1⟩) ks.length (ks.length + 1), h.push (.cells ((sortZ ks).map (.int .i64)) h.size h.size 0))
def sortedK (its : List Nat) (args : List Value) (h : AHeap) : Option (Value × AHeap) := match args with
 | [.func (.func k) a c] => (match a.toList, c.toList with
  | [], [.pointer (some ⟨b, 0, none⟩)] => grd (memN k its) ((boxMap h b).bind fun mb => (keysAt h mb).bind fun ks => some (ansKs h ks))
  | _, _ => none)
 | _ => none
theorem boxMap_some {h : AHeap} {b : Nat} {mb : Option Nat} (hb : boxMap h b = some mb) : ∃ thr, h.get b = some (.cells [.map mb] b b thr) ∧ thr ≤ b := by
 unfold boxMap at hb
 split at hb
 ·rename_i mb' f tip thr hg
  simp only [grd_some, Bool.and_eq_true, beq_iff, ble_iff, Option.some.injEq] at hb
  obtain ⟨⟨⟨rfl, rfl⟩, ht⟩, rfl⟩ := hb
  exact ⟨thr, hg, ht⟩
 ·cases hb
theorem keysAt_some {h : AHeap} {r : Nat} {ks : List Int} (hk : keysAt h (some r) = some ks) : ∃ ev clock, h.get r = some (.map ev clock) ∧ intKs ev = some ks ∧ StL ev clock ∧ ksOk ks := by
 simp only [keysAt] at hk
 split at hk
 ·rename_i ev clock hg
  simp only [Option.bind_eq_some_iff, grd_some, Bool.and_eq_true, decide_eq_true_eq, Option.some.injEq] at hk
  obtain ⟨ks', hks, ⟨hst, hok⟩, rfl⟩ := hk
  exact ⟨ev, clock, hg, hks, hst, hok⟩
 ·cases hk
theorem ERels.born {μ : Emb} {ev ev' : List MapEntry} (h : ERels μ ev ev') : ev'.map (·.born) = ev.map (·.born) := by
 induction h with
 | nil => rfl
 | cons _ _ hb _ ih => simp [hb, ih]
theorem StL.iff {ev : List MapEntry} {clock : Nat} : StL ev clock ↔ (∀ b ∈ ev.map (·.born), b < clock) ∧ (ev.map (·.born)).Nodup := by
 unfold StL; simp
theorem ERels.ints {μ : Emb} {ev ev' : List MapEntry} (h : ERels μ ev ev') : ∀ {ks : List Int}, intKs ev = some ks → ev'.map (·.key) = ks.map (.int .i64) := by
 induction h with
 | nil => intro ks hk; simp [intKs] at hk; subst hk; rfl
 | cons hkey _ _ _ ih =>
  intro ks hk
  unfold intKs at hk
  split at hk
  ·rename_i n ks' h1 h2
   cases hk
   rw [h1] at hkey
   have := hkey.inv_scalar rfl
   simp [this, ih h2]
  ·cases hk
theorem sortedK_ok {P : Program} {E : Env} {base B : Nat} {its : List Nat} {g : FuncId} (hS : ∀ k ∈ its, SortsKeys P g k) {μ : Emb} {h h' : AHeap} {w : World} {args : List Value} {args' : Array Value} {v : Value}
 (hc : sortedK its args h = some (v, h')) (hr : VRels μ args args'.toList) (H : HRel E base B μ h w) : Calls P g args' w (RetPost E base B μ h w v h') := by
 unfold sortedK at hc
 split at hc
 ·rename_i k a c
  split at hc
  ·rename_i b ha hcc
   simp only [grd_some, Option.bind_eq_some_iff, Option.some.injEq] at hc
   obtain ⟨hk, mb, hbox, ks, hkeys, hans⟩ := hc
   obtain ⟨thr, hg, hthr⟩ := boxMap_some hbox
   -- the arguments in the world
   obtain ⟨v1, hv1, e1⟩ : ∃ v1, VRel μ (.func (.func k) a c) v1 ∧ args' = #[v1] := by
    obtain ⟨l⟩ := args'
    cases hr with
    | cons h1 h2 => cases h2; exact ⟨_, h1, rfl⟩
   subst e1
   cases hv1 with
   | lit hh => simp [plain1] at hh
   | func hs1 ha1 hs2 ha2 =>
    rename_i a' c'
    have ea : a' = #[] := by
     have h0 : a'.size = 0 := by rw [← hs1]; have := congrArg List.length ha; simpa using this
     exact Array.eq_empty_of_size_eq_zero h0
    subst ea
    have hc1 : c.size = 1 := by have := congrArg List.length hcc; simpa using this
    obtain ⟨p', ec⟩ : ∃ p', c' = #[p'] := by
     obtain ⟨l⟩ := c'
     rw [hc1] at hs2
     match l, hs2 with
     | [x], _ => exact ⟨x, rfl⟩
     | [], hs2 => simp at hs2
     | _ :: _ :: _, hs2 => simp at hs2
    subst ec
    have hp := ha2 0 (.pointer (some ⟨b, 0, none⟩)) p' (by rw [← Array.getElem?_toList, hcc]; rfl) rfl
    obtain ⟨m, hm, rfl⟩ := hp.inv_ptr
    have hs0 := H.root b m _ _ hm hg
    have hrd : h.rd b = some [.map mb] := rd_of (fam_of hg hg) hthr (by unfold AHeap.cellsOf; rw [hg])
    obtain ⟨cc, e, fr, q1, q2, q3, q4, q5⟩ := H.read hm hrd
    obtain ⟨vm, q6, q7⟩ := q5 0 (.map mb) rfl
    rw [hs0] at q6 ⊢
    obtain ⟨mb', rfl, hmap⟩ : ∃ mb', vm = .map mb' ∧ (mb' = none ∧ ks = [] ∨ ∃ (r : Nat) (es : Array MapEntry) (clock : Nat), mb' = some r ∧ w.heap[r]? = some (.map es clock) ∧ StL es.toList clock ∧ es.toList.map (·.key) = ks.map (.int .i64)) := by
     cases mb with
     | none =>
      cases q7 with
      | lit _ => exact ⟨none, rfl, .inl ⟨rfl, by simpa [keysAt] using hkeys.symm⟩⟩
     | some r =>
      obtain ⟨mr, w1, rfl⟩ := q7.inv_map
      refine ⟨_, rfl, .inr ?_⟩
      obtain ⟨ev, clock, hgr, hks, hst, hok⟩ := keysAt_some hkeys
      obtain ⟨o, o', k1, k2, k3⟩ := H.obj r mr w1
      rw [hgr] at k1; cases k1
      cases k3 with
      | map hs =>
       rename_i es'
       refine ⟨_, es', clock, rfl, k2, ?_, hs.ints hks⟩
       rw [StL.iff, hs.born, ← StL.iff]; exact hst
    have hok : ksOk ks := by
     cases mb with
     | none => simp [keysAt] at hkeys; subst hkeys; exact ⟨by simp, by simp, by simp⟩
     | some r =>
      obtain ⟨ev, clock, hgr, hks, hst, hok⟩ := keysAt_some hkeys
      exact hok
    have hcell : w.cell? ⟨m.r, 0, none⟩ = some (.map mb') := by
     unfold World.cell?
     simp only [q1, Option.isSome_none, Bool.false_eq_true, if_false]
     simpa using q6
    have := hS k (memN_mem hk) w m.r mb' ks hcell hok.1 hok.2.1 hok.2.2 hmap
    simp only [Nat.add_zero]
    refine this.mono ?_
    rintro en w' ⟨v', t, rfl, hrow, hnil, hb⟩
    have Hx := H.ext hb.size fun r hr => hb.block r hr
    have gr : Grow base μ w w' := ⟨hb.tape, hb.os, hb.output, hb.size, fun r hr _ => hb.block r hr⟩
    cases ks with
    | nil =>
     simp only [ansKs, Prod.mk.injEq] at hans
     obtain ⟨rfl, rfl⟩ := hans
     have := hnil.2 rfl
     subst this
     exact ⟨_, μ, rfl, .lit rfl, ⟨Hx, gr, μ.le_refl, fun b m h0 h1 => (by rw [h0] at h1; cases h1), fun _ _ _ => rfl, Nat.le_refl _⟩⟩
    | cons x0 l0 =>
     generalize hks0 : x0 :: l0 = ks at *
     have hlen : 0 < ks.length := by rw [← hks0]; simp
     have hans' : ansKs h ks = (.slice (some ⟨h.size, 0, some 1⟩) ks.length (ks.length + 1), h.push (.cells ((sortZ ks).map (.int .i64)) h.size h.size 0)) := by rw [← hks0]; rfl
     rw [hans'] at hans
     simp only [Prod.mk.injEq] at hans
     obtain ⟨rfl, rfl⟩ := hans
     obtain ⟨r1, ⟨_, r2⟩ | ⟨gb, cap, cur, rfl, r3, r4, r5, r6, r7, r8⟩⟩ := hrow
     ·omega
     ·let cs := (sortZ ks).map (Value.int .i64)
      have hcl : cs.length = ks.length := by simp [cs, sortZ]
      let m2 : MT := ⟨gb, 0, cur.size⟩
      have Hp := Hx.pushA (o := .cells cs h.size h.size 0) (fun _ _ _ _ hh => by cases hh; rfl)
      have hget : (h.push (.cells cs h.size h.size 0)).get h.size = some (.cells cs h.size h.size 0) := by rw [AHeap.get_push, if_pos rfl]
      have ho : ORel (upd μ h.size m2) (h.push (.cells cs h.size h.size 0)) base h.size m2 (.cells cs h.size h.size 0) (.cells cur t (0, 0)) := by
       refine .cells rfl (by show 0 + cs.length ≤ cur.size; omega) (fun _ => noFr0 _) fun _ i v hv => ?_
       have hi := (List.getElem?_eq_some_iff.1 hv).1
       have : cur.toList[i]? = some v := by
        have h5 : (cur.toList.take (ks.length * 1))[i]? = some v := by rw [r8]; exact hv
        rw [List.getElem?_take] at h5
        rwa [if_pos (by omega)] at h5
       refine ⟨v, by show cur[0 + i]? = some v; rw [Nat.zero_add]; simpa using this, ?_⟩
       obtain ⟨n, _, rfl⟩ := List.mem_map.1 (List.mem_of_getElem? hv)
       exact .int _ _ _
      have Ht := Hp.track (b := h.size) (m := m2) (by simp [AHeap.size_push]) hget H.fresh H.bsz (by have := H.low; show B ≤ gb; omega) r4
       (fun d md hd he => by have := H.lt hd; simp only [m2] at he; omega) (fun _ _ _ _ hh => by cases hh; exact ⟨rfl, Nat.le_refl _⟩) (fun _ _ _ => rfl) ho
      refine ⟨_, upd μ h.size m2, rfl, ?_, Ht, gr, upd_le H.fresh, fun d md h0 hd => ?_, fun d hd _ => by rw [AHeap.get_push, if_neg (by omega)], by simp [AHeap.size_push]⟩
      ·have := VRel.slice (μ := upd μ h.size m2) (b := h.size) (o := 0) (z := 1) (len := ks.length) (cap := ks.length + 1) (cap' := cap) (m := m2) (upd_self _ _ _) (by omega) r5 (fun h => by omega) (by show 0 + 0 + cap * 1 ≤ cur.size; omega)
       simpa [m2] using this
      ·by_cases ed : d = h.size
       ·subst ed
        rw [upd_self] at hd; cases hd
        exact ⟨Nat.le_refl _, H.bsz, .inl r3⟩
       ·rw [upd_ne _ _ ed, h0] at hd; cases hd
  ·cases hc
 ·cases hc
end Go.M
namespace Go.M
open Go Go.RowKit
def orcV (l : List Nat) (gs : List (Nat × List Nat)) : FuncId → List Value → AHeap → Option (Value × AHeap) := fun g args h => match memN g l with
 | true => (match args with | [] => some (.bool true, h) | _ => none)
 | false => match look gs g with
  | some its => sortedK its args h
  | none => none
theorem orcV_ok {P : Program} {l : List Nat} {gs : List (Nat × List Nat)} (hl : ∀ g ∈ l, Awake P g) (hs : ∀ g its, look gs g = some its → ∀ k ∈ its, SortsKeys P g k) (base B : Nat) : OrcOk P (envOf P (orcV l gs)) base B := by
 intro μ h w g args args' v h' hc hr H F n hF
 have hc' : orcV l gs g args h = some (v, h') := hc
 unfold orcV at hc'
 split at hc'
 ·rename_i hg
  split at hc'
  ·exact orcT_ok hl base B μ h w g [] args' v h' (by show orcT l g [] h = _; unfold orcT; rw [hg]; exact hc') hr ⟨H.dom, H.high, H.obj, H.own, H.alias, H.fam, H.glob, H.low, H.bsz, H.wf, H.root⟩ F n hF |>.mono fun e w' ⟨v', μ', h1, h2, h3⟩ =>
    ⟨v', μ', h1, h2, ⟨h3.rel.dom, h3.rel.high, h3.rel.obj, h3.rel.own, h3.rel.alias, h3.rel.fam, h3.rel.glob, h3.rel.low, h3.rel.bsz, h3.rel.wf, h3.rel.root⟩, h3.grow, h3.le, h3.new, h3.unt, h3.hsz⟩
  ·cases hc'
 ·split at hc'
  ·rename_i its hi
   exact calls_any hF (sortedK_ok (hs g its hi) hc' hr H)
  ·cases hc'
section
variable {E : Env}
def KeysO (ks : List Int) : TO → Prop
 | .map _ es => es.map (·.1) = ks.map (.int .i64)
 | .maq _ es op => op = [] ∧ es.map (·.1) = ks.map (.int .i64)
 | _ => False
end
end Go.M
namespace Go.M
open Go Go.RowKit
def OnInts (P : Program) (g : FuncId) (pre : List Value) (val : List Int → Value) (ok : List Int → Prop) : Prop :=
 ∀ (W : World) (l : List Int) (r o cap : Nat) (c : Array Value) (e : TypeId) (fr : Nat × Nat),
  W.heap[r]? = some (.cells c e fr) → l.length ≤ cap → o + cap ≤ c.size → (∀ (i : Nat) (x : Int), l[i]? = some x → c[o + i]? = some (.int .i64 x)) → ok l →
  Calls P g (List.toArray (pre ++ [Value.slice (some ⟨r, o, none⟩) l.length cap])) W fun en W' => en = .returned (val l) ∧ Below W.heap.size W W'
def bagK (val : List Value → List Int → Option Value) (args : List Value) (h : AHeap) : Option (Value × AHeap) := match args.reverse with
 | .slice (some ⟨b, 0, some 1⟩) len cap :: rp => (match h.get b with
  | some (.bag cs) => grd (Nat.beq len cs.length && Nat.ble len cap && Nat.blt 0 len && rp.all scalar) ((val rp.reverse cs).bind fun v => some (v, h))
  | _ => none)
 | _ => none
def BagOk (P : Program) (g : FuncId) (val : List Value → List Int → Option Value) : Prop :=
 ∀ pre cs v, (∀ u ∈ pre, scalar u = true) → val pre cs = some v → scalar v = true ∧ ∀ l : List Int, l.Perm cs → ∃ vf ok, OnInts P g pre vf ok ∧ ok l ∧ vf l = v
section
variable {E : Env}
end
end Go.M
namespace Go.M
open Go Go.RowKit Go.Maps Go.Sort Go.Shelf Go.Proofs
def CollectsKeys (P : Program) (g k : FuncId) : Prop := ∀ (W : World) (Bm : Nat) (mb : Option Nat) (ks : List Int), W.cell? ⟨Bm, 0, none⟩ = some (.map mb) → ks.length ≤ 1099511627776 → (∀ x ∈ ks, IntKind.i64.min ≤ x ∧ x ≤ IntKind.i64.max) → ks.Nodup →
 (mb = none ∧ ks = [] ∨ ∃ (r : Nat) (es : Array MapEntry) (clock : Nat), mb = some r ∧ W.heap[r]? = some (.map es clock) ∧ StL es.toList clock ∧ es.toList.map (·.key) = ks.map (.int .i64)) →
 Calls P g #[.func (.func k) #[] #[.pointer (some ⟨Bm, 0, none⟩)]] W fun e w' => ∃ (v : Value) (t : TypeId) (l : List Int), e = .returned v ∧ l.Perm ks ∧ w'.ownsRow W.heap.size t 1 v ks.length (l.map (.int .i64)) ∧ (v = .slice none 0 0 ↔ ks = []) ∧ Below W.heap.size W w'
def ansC (h : AHeap) (ks : List Int) : Value × AHeap := match ks with
 | [] => (.slice none 0 0, h)
 | _ :: _ => (.slice (some ⟨h.size, 0, some 1⟩) ks.length (ks.length + 1), h.push (.bag ks))
def collectK (its : List Nat) (args : List Value) (h : AHeap) : Option (Value × AHeap) := match args with
 | [.func (.func k) a c] => (match a.toList, c.toList with
  | [], [.pointer (some ⟨b, 0, none⟩)] => grd (memN k its) ((boxMap h b).bind fun mb => (keysAt h mb).bind fun ks => some (ansC h ks))
  | _, _ => none)
 | _ => none
end Go.M
namespace Go.M
open Go Go.RowKit
section
variable {X : Cx} {ρ : Gh} {F : Nat → Prop} {o : Ob} {c : Nat} {h : AHeap}
end
section
variable {E : Env}
end
abbrev BagF := List Value → List Int → Option Value
def orcW (l : List Nat) (gs cs : List (Nat × List Nat)) (bs : List (Nat × BagF)) : FuncId → List Value → AHeap → Option (Value × AHeap) := fun g args h => match look cs g with
 | some its => collectK its args h
 | none => match look bs g with
  | some val => bagK val args h
  | none => orcV l gs g args h
end Go.M
namespace Go.M
open Go
abbrev Tabs := List (Nat × List Value)
def envT (P : Program) (l : Tabs) (orc : FuncId → List Value → AHeap → Option (Value × AHeap)) : Env := { envOf P orc with tab := look l }
theorem envOkT (P : Program) (l : Tabs) (orc : FuncId → List Value → AHeap → Option (Value × AHeap)) : EnvOk P (envT P l orc) :=
 let h := envOk P orc
 ⟨h.desc, h.size, h.bytes, h.zero, h.eqOk, h.func⟩
def LaidC (v v' : Value) : Prop := (opqV v = false ∧ v' = v) ∨ (opqV v = true ∧ isIf v')
def LaidT (l : Tabs) (W : World) : Prop := ∀ g cs, look l g = some cs → ∃ c e fr, W.heap[g]? = some (.cells c e fr) ∧ cs.length ≤ c.size ∧ ∀ (i : Nat) v, cs[i]? = some v → ∃ v', c[i]? = some v' ∧ LaidC v v'
def heapT (l : Tabs) : Nat → AHeap
 | 0 => h00
 | n + 1 => (heapT l n).push (.cells (match look l n with | some cs => cs | none => []) n (n + 1) 0)
def muT (l : Tabs) (n : Nat) (W : World) : Emb := fun g => match look l g, W.heap[g]?, Nat.blt g n with
 | some _, some (.cells c _ _), true => some ⟨g, 0, c.size⟩
 | _, _, _ => none
def tabsB (l : Tabs) (n : Nat) : Bool := l.all fun p => Nat.blt p.1 n && p.2.all (fun v => tabV v || opqV v) && (match look l p.1 with | some cs => eqLs cs p.2 | none => false)
def tabsIn (l : Tabs) (h : AHeap) : Bool := l.all fun p => match h.rd p.1, look l p.1 with | some cs, some cs' => eqLs cs cs' | _, _ => false
section
variable {P : Program} {l : Tabs} {n : Nat} {W : World}
theorem heapT_size : ∀ n, (heapT l n).size = n
 | 0 => rfl
 | n + 1 => by rw [heapT, AHeap.size_push, heapT_size n]
theorem heapT_get : ∀ n b, (heapT l n).get b = if b < n then some (.cells (match look l b with | some cs => cs | none => []) b (b + 1) 0) else none
 | 0, b => by simp; rfl
 | n + 1, b => by
  rw [heapT, AHeap.get_push, heapT_size n, heapT_get n b]
  by_cases e : b = n
  ·subst e; simp
  ·rw [if_neg e]
   by_cases h : b < n
   ·rw [if_pos h, if_pos (by omega)]
   ·rw [if_neg h, if_neg (by omega)]
theorem look_mem {α : Type} {l : List (Nat × α)} {g : Nat} {x : α} (h : look l g = some x) : (g, x) ∈ l := by
 induction l with
 | nil => simp [look] at h
 | cons p l ih =>
  unfold look at h
  split at h
  ·rename_i hb
   cases h
   rw [beq_iff] at hb; subst hb
   exact List.mem_cons_self
  ·exact List.mem_cons_of_mem _ (ih h)
theorem tabsB_ok (hB : tabsB l n = true) {g : Nat} {cs : List Value} (h : look l g = some cs) : g < n ∧ cs.all (fun v => tabV v || opqV v) = true := by
 have := List.all_eq_true.1 hB _ (look_mem h)
 simp only [Bool.and_eq_true, blt_iff] at this
 exact ⟨this.1.1, this.1.2⟩
theorem tabV_scalar {v : Value} (h : tabV v = true) : plain1 v = true := by
 unfold tabV at h; simp only [Bool.and_eq_true] at h; exact h.1
theorem arT (hB : tabsB l n = true) (hW : LaidT l W) : AR W (muT l n W) (heapT l n) := by
 have key : ∀ {b m}, muT l n W b = some m → ∃ cs c e fr, look l b = some cs ∧ W.heap[b]? = some (.cells c e fr) ∧ b < n ∧ m = ⟨b, 0, c.size⟩ := by
  intro b m h
  unfold muT at h
  split at h
  ·rename_i cs c e fr h1 h2 h3
   cases h
   exact ⟨cs, c, e, fr, h1, h2, blt_iff.1 h3, rfl⟩
  ·cases h
 refine ⟨fun b hb => ?_, fun b hb => ?_, fun b m hb => ?_, fun b m hb => ?_⟩
 ·rw [heapT_size] at hb; rw [heapT_get, if_neg (by omega)]
 ·rw [heapT_size] at hb; rw [heapT_get, if_pos hb]; exact ⟨_, rfl⟩
 ·obtain ⟨cs, c, e, fr, h1, h2, h3, rfl⟩ := key hb
  rw [heapT_size]; exact h3
 ·obtain ⟨cs, c, e, fr, h1, h2, h3, rfl⟩ := key hb
  obtain ⟨c', e', fr', q1, q2, q3⟩ := hW b cs h1
  rw [h2] at q1; cases q1
  refine ⟨cs, c, e, fr, by rw [heapT_get, if_pos h3, h1], h2, rfl, by simpa using q2, fun i v hv => ?_⟩
  obtain ⟨v', k1, k2⟩ := q3 i v hv
  refine ⟨v', by simpa using k1, ?_⟩
  have ht := List.all_eq_true.1 (tabsB_ok hB h1).2 v (List.mem_of_getElem? hv)
  simp only [Bool.or_eq_true] at ht
  rcases k2 with ⟨ho, rfl⟩ | ⟨ho, hi⟩
  ·rcases ht with ht | ht
   ·exact .lit (tabV_scalar ht)
   ·rw [ho] at ht; cases ht
  ·cases v <;> simp [opqV] at ho
   rename_i r
   cases r with
   | none => simp at ho
   | some n => exact .opq hi
theorem muT_glob (hB : tabsB l n = true) (hW : LaidT l W) {E : Env} (hE : E.tab = look l) (g : Nat) (hg : E.glob g = true) : ∃ m, muT l n W g = some m ∧ m.r = g ∧ m.s = 0 := by
 unfold Env.glob at hg
 rw [hE, Option.isSome_iff_exists] at hg
 obtain ⟨cs, h1⟩ := hg
 obtain ⟨c, e, fr, q1, q2, q3⟩ := hW g cs h1
 refine ⟨⟨g, 0, c.size⟩, ?_, rfl, rfl⟩
 unfold muT
 rw [h1, q1, blt_iff.2 (tabsB_ok hB h1).1]
theorem laid_of_rel {E : Env} (hE : E.tab = look l) {base B : Nat} {μ : Emb} {h : AHeap} {w : World} (H : HRel E base B μ h w) (hB : tabsB l n = true) (ht : tabsIn l h = true) : LaidT l w := by
 intro g cs hg
 obtain ⟨m, q1, q2, q3⟩ := H.glob g (by unfold Env.glob; rw [hE, hg]; rfl)
 have := List.all_eq_true.1 ht _ (look_mem hg)
 simp only [hg] at this
 split at this
 ·rename_i cs1 cs2 hr e
  cases e
  have ec := eqLs_eq this
  subst ec
  obtain ⟨c, e, fr, k1, k2, k3, _, k5⟩ := H.read q1 hr
  rw [q2] at k1
  rw [q3] at k3 k5
  refine ⟨c, e, fr, k1, by omega, fun i v hv => ?_⟩
  obtain ⟨v', p1, p2⟩ := k5 i v hv
  refine ⟨v', by simpa using p1, ?_⟩
  have ht := List.all_eq_true.1 (tabsB_ok hB hg).2 v (List.mem_of_getElem? hv)
  simp only [Bool.or_eq_true] at ht
  rcases ht with ht | ht
  ·have hp := tabV_scalar ht
   refine .inl ⟨?_, ?_⟩
   ·cases v <;> simp [opqV]
    rename_i r
    cases r <;> simp [plain1] at hp ⊢
   ·cases p2 with
    | lit h => rfl
    | _ => simp [plain1] at hp
  ·refine .inr ⟨ht, ?_⟩
   cases v <;> simp [opqV] at ht
   rename_i r
   cases r with
   | none => simp at ht
   | some n =>
    cases p2 with
    | lit h => simp [plain1] at h
    | opq h => exact h
 ·cases this
theorem tabsIn_of {E : Env} (hE : E.tab = look l) {F : Nat → Prop} {h : AHeap} (hB : tabsB l n = true) (N : TabOk E F h) : tabsIn l h = true := by
 refine List.all_eq_true.2 fun p hp => ?_
 have := List.all_eq_true.1 hB p hp
 simp only [Bool.and_eq_true] at this
 have h3 := this.2
 split at h3
 ·rename_i cs hl
  obtain ⟨_, n2, _⟩ := N p.1 cs (by rw [hE]; exact hl)
  rw [n2, hl]
  have e := eqLs_eq h3
  rw [e] at h3 ⊢
  exact h3
 ·cases h3
def AwakeT (P : Program) (l : Tabs) (g : FuncId) : Prop := ∀ (W : World) (F : Fence) (n : Nat), LaidT l W → Wide F → CallsIn F n P g #[] W fun e W' => e = .returned (.bool true) ∧ Go.RowKit.Below W.heap.size W W'
noncomputable def orcAllT (P : Program) (l : Tabs) (fs bs ps : List Nat) (n : Nat) : FuncId → List Value → AHeap → Option (Value × AHeap) := fun g args h =>
 match fs.contains g with
 | true => confl (envT P l noOrc) n g args h
 | false => match bs.contains g with
  | true => conflB (envT P l noOrc) n g args h
  | false => match ps.contains g with
   | true => conflP (envT P l noOrc) n g args h
   | false => none
theorem noOrc_okT {base B : Nat} : OrcOk P (envT P l noOrc) base B := fun μ h w g args args' v h' hr => by
 have : (none : Option (Value × AHeap)) = some (v, h') := hr
 cases this
theorem AR.hrelT {E : Env} {μ0 μ : Emb} {h : AHeap} (A : AR W μ h) (hle : μ0.le μ) (hg : ∀ g, E.glob g = true → ∃ m, μ0 g = some m ∧ m.r = g ∧ m.s = 0) : HRel E h.size W.heap.size μ h W :=
 let H := AR.hrel (E := envOf default noOrc) A (fun _ => rfl)
 ⟨H.dom, H.high, H.obj, H.own, H.alias, H.fam, fun g h => let ⟨m, q1, q2⟩ := hg g h; ⟨m, hle _ _ q1, q2⟩, H.low, H.bsz, H.wf, H.root⟩
def orcX (l : Tabs) (aw : List Nat) (rest : FuncId → List Value → AHeap → Option (Value × AHeap)) : FuncId → List Value → AHeap → Option (Value × AHeap) := fun g args h =>
 match memN g aw, args, tabsIn l h with
 | true, [], true => some (.bool true, h)
 | _, _, _ => rest g args h
theorem orcX_ok {aw : List Nat} {rest : FuncId → List Value → AHeap → Option (Value × AHeap)} (hB : tabsB l n = true) (ha : ∀ g ∈ aw, AwakeT P l g) (hr : ∀ base B, OrcOk P (envOf P rest) base B) (base B : Nat) : OrcOk P (envT P l (orcX l aw rest)) base B := by
 intro μ h w g args args' v h' hc hv H F k hF
 have hc' : orcX l aw rest g args h = some (v, h') := hc
 unfold orcX at hc'
 split at hc'
 ·rename_i h1 h2
  cases hc'
  have : args' = #[] := by
   have := hv.length
   simpa using this.symm
  subst this
  refine (ha g (memN_mem h1) w F k (laid_of_rel (E := envT P l (orcX l aw rest)) rfl H hB h2) hF).mono ?_
  rintro e W' ⟨rfl, hb⟩
  exact ⟨_, μ, rfl, .lit rfl, ⟨H.ext hb.size fun r hr => hb.block r hr, ⟨hb.tape, hb.os, hb.output, hb.size, fun r hr _ => hb.block r hr⟩, μ.le_refl, fun b m h0 h1 => (by rw [h0] at h1; cases h1), fun _ _ _ => rfl, Nat.le_refl _⟩⟩
 ·have H2 : HRel (envOf P rest) base B μ h w := ⟨H.dom, H.high, H.obj, H.own, H.alias, H.fam, fun g hg => by simp [Env.glob, envOf] at hg, H.low, H.bsz, H.wf, H.root⟩
  exact (hr base B μ h w g _ args' v h' hc' hv H2 F k hF).mono fun e w' ⟨v', μ', h1, h2, h3⟩ =>
   ⟨v', μ', h1, h2, ⟨h3.rel.dom, h3.rel.high, h3.rel.obj, h3.rel.own, h3.rel.alias, h3.rel.fam, fun g hg => let ⟨m, q1, q2⟩ := H.glob g hg; ⟨m, h3.le _ _ q1, q2⟩, h3.rel.low, h3.rel.bsz, h3.rel.wf, h3.rel.root⟩, h3.grow, h3.le, h3.new, h3.unt, h3.hsz⟩
end
section
open Go.ChangeShapes Go.WideShapes
variable {H : Type} {enc : TypeId × Value → H} {P : Program} {W : World} {base : Nat} {held : Bool}
theorem row_trueT {l : Tabs} {n : Nat} {E : Env} {g : FuncId} {ash : List ArgSh} {ts : List TypeId} {args : Array Value} {ds : List (DataW H)} {ps : List MemPlace} {base' : Nat} {r : Reach} (hE : EnvOk P E) (hO : ∀ base B, OrcOk P E base B) (hm : P.follows .mixedOrders = true)
 (hT : E.tab = look l) (hBT : tabsB l n = true) (hWT : LaidT l W)
 (hB : argsB P ts ash = true) (hD : DataW.TrodAll enc P W base (fun _ => true) held ts args.toList ds ps) (hv : ∀ (j : Nat) t v, ts[j]? = some t → args[j]? = some v → Value.okWide P W r base' t v)
 (hc : ∀ tvs, FitAs ash tvs → VC E g 0 tvs [] fun r _ _ => r = .s (.bool true)) : Calls P g args W fun e W' => e = .returned (.bool true) ∧ Go.RowKit.Below W.heap.size W W' := by
 obtain ⟨μ, h, tvs, vs0, A, hle, hgr, f, r, x⟩ := args_laid hB hD (fun j t v a b => hv j t v a (by simpa using b)) _ _ (arT hBT hWT)
 have hN : TabOk E (· < h.size) h := fun g cs hg => by
  rw [hT] at hg
  obtain ⟨h1, h2⟩ := tabsB_ok hBT hg
  have hs := hgr.1
  rw [heapT_size] at hs
  refine ⟨by omega, A.rd (cs := cs) ?_, trivial⟩
  rw [hgr.2 g (by rw [heapT_size]; exact h1), heapT_get, if_pos h1, hg]
 obtain ⟨k, v, h', ρ', F', r', o', c', h1, rfl, h3, h4⟩ := hc tvs f h.size noG _ h _ vs0 hN A.mem (AR.mo (μ := μ)) r
 obtain ⟨rfl, _⟩ := h4.inv_s
 have := acall_ok hE (hO h.size W.heap.size) hm k μ h W g vs0 args _ h' h1 x (A.hrelT hle (muT_glob hBT hWT hT)) Fence.wide 0 Wide.wide
 refine (callsIn_wide.1 (this.mono ?_))
 rintro e W' ⟨v', μ', rfl, hv, S⟩
 have e := hv.inv_scalar rfl
 subst e
 exact ⟨rfl, S.grow.os, S.grow.tape, S.grow.output, S.grow.size, fun k hk => S.grow.keep k hk fun b m hb _ => A.dom b m hb⟩
end
end Go.M
namespace Go.M
open Go Go.RowKit Go.Shelf Go.Proofs
def JoinsIn (P : Program) (g : FuncId) : Prop := ∀ (bk o c : Nat) (xs : List ByteArray) (sep : ByteArray) (w : World), (∀ (j : Nat) x, xs[j]? = some x → w.cell? ⟨bk, o + j, none⟩ = some (.string x)) → bk < w.heap.size → xs.length ≤ 100000 → xs.length ≤ c →
 (Lib.join (xs.map (·.data.toList)) sep.data.toList).length ≤ 1000000 →
 Calls P g #[.slice (some ⟨bk, o, none⟩) xs.length c, .string sep] w fun e w' => e = .returned (.string ⟨(Lib.join (xs.map (·.data.toList)) sep.data.toList).toArray⟩) ∧ Below w.heap.size w w'
theorem joinsIn_of {P : Program} {ρ : Ren} (L : Lays.n156 P ρ) (X : Builder.Extra P ρ) {g : FuncId} (e : ρ.f 156 = g) : JoinsIn P g := fun bk o c xs sep w h1 h2 h3 h4 h5 => by
 subst e
 exact Any.strings_Join L X bk o c xs sep w h1 h2 (by omega) h4 (by omega)
def strsOf : List Value → Option (List ByteArray)
 | [] => some []
 | .string s :: l => (strsOf l).map (s :: ·)
 | _ :: _ => none
theorem strsOf_get : ∀ {l : List Value} {xs : List ByteArray}, strsOf l = some xs → xs.length = l.length ∧ ∀ (i : Nat) x, xs[i]? = some x → l[i]? = some (.string x)
 | [], xs, h => by cases h; exact ⟨rfl, fun i x hx => by simp at hx⟩
 | v :: l, xs, h => by
  cases v with
  | string s =>
   simp only [strsOf, Option.map_eq_some_iff] at h
   obtain ⟨ys, h, rfl⟩ := h
   obtain ⟨h1, h2⟩ := strsOf_get h
   refine ⟨by simp [h1], fun i x hx => ?_⟩
   cases i with
   | zero => simp at hx; subst hx; rfl
   | succ i => simp at hx; simpa using h2 i x hx
  | _ => cases h
def joinK (args : List Value) (h : AHeap) : Option (Value × AHeap) := match args with
 | [.slice (some ⟨b, o, some _⟩) len _, .string sep] => (readCells h b o len).bind fun cs => (strsOf cs).bind fun xs =>
  grd (Nat.blt 0 len && Nat.ble len 100000 && Nat.ble (Lib.join (xs.map (·.data.toList)) sep.data.toList).length 1000000) (Value.string ⟨(Lib.join (xs.map (·.data.toList)) sep.data.toList).toArray⟩, h)
 | _ => none
def orcJ (js : List Nat) (rest : FuncId → List Value → AHeap → Option (Value × AHeap)) : FuncId → List Value → AHeap → Option (Value × AHeap) := fun g args h =>
 match memN g js, joinK args h with
 | true, some r => some r
 | _, _ => rest g args h
section
variable {P : Program} {l : Tabs}
theorem joinK_ok {E : Env} {base B : Nat} {g : FuncId} (hJ : JoinsIn P g) {μ : Emb} {h h' : AHeap} {w : World} {args : List Value} {args' : Array Value} {v : Value}
 (hc : joinK args h = some (v, h')) (hr : VRels μ args args'.toList) (H : HRel E base B μ h w) : Calls P g args' w (RetPost E base B μ h w v h') := by
 unfold joinK at hc
 split at hc
 ·rename_i b o z len cap sep
  simp only [Option.bind_eq_some_iff, grd_some, Bool.and_eq_true, blt_iff, ble_iff, Option.some.injEq, Prod.mk.injEq] at hc
  obtain ⟨cs, hcs, xs, hxs, ⟨⟨h1, h2⟩, h3⟩, rfl, rfl⟩ := hc
  obtain ⟨v1, v2, hv1, hv2, e1⟩ : ∃ v1 v2, VRel μ (.slice (some ⟨b, o, some z⟩) len cap) v1 ∧ VRel μ (.string sep) v2 ∧ args' = #[v1, v2] := by
   obtain ⟨l⟩ := args'
   cases hr with
   | cons q1 q2 => cases q2 with
    | cons q2 q3 => cases q3; exact ⟨_, _, q1, q2, rfl⟩
  subst e1
  have e2 := hv2.inv_scalar rfl
  subst e2
  obtain ⟨y1, y2⟩ := strsOf_get hxs
  cases hv1 with
  | lit hh => simp [plain1] at hh
  | slice0 hh => simp at h1
  | slice hm k1 k2 k3 k4 =>
   rename_i cap' m
   obtain ⟨r1, r2⟩ := H.readCells hm hcs
   have hlen : len = xs.length := by omega
   subst hlen
   obtain ⟨o1, o2, _, q2, _⟩ := H.obj b m hm
   refine (hJ m.r (m.s + o) cap' xs sep w (fun j x hx => ?_) ?_ h2 k2 h3).mono ?_
   ·obtain ⟨v', p1, p2⟩ := r2 j _ (y2 j x hx)
    have := p2.inv_scalar rfl
    subst this
    exact p1
   ·exact (Array.getElem?_eq_some_iff.1 q2).1
   ·rintro e W' ⟨rfl, hb⟩
    exact ⟨_, μ, rfl, .lit rfl, ⟨H.ext hb.size fun r hr => hb.block r hr, ⟨hb.tape, hb.os, hb.output, hb.size, fun r hr _ => hb.block r hr⟩, μ.le_refl, fun b m h0 h1 => (by rw [h0] at h1; cases h1), fun _ _ _ => rfl, Nat.le_refl _⟩⟩
 ·cases hc
theorem orcJ_ok {js : List Nat} {rest : FuncId → List Value → AHeap → Option (Value × AHeap)} (hj : ∀ g ∈ js, JoinsIn P g) (hr : ∀ base B, OrcOk P (envT P l rest) base B) (base B : Nat) : OrcOk P (envT P l (orcJ js rest)) base B := by
 intro μ h w g args args' v h' hc hv H F k hF
 have hc' : orcJ js rest g args h = some (v, h') := hc
 unfold orcJ at hc'
 split at hc'
 ·rename_i r h1 h2
  cases hc'
  exact calls_any hF (joinK_ok (hj g (memN_mem h1)) h2 hv H)
 ·have H2 : HRel (envT P l rest) base B μ h w := ⟨H.dom, H.high, H.obj, H.own, H.alias, H.fam, H.glob, H.low, H.bsz, H.wf, H.root⟩
  exact (hr base B μ h w g _ args' v h' hc' hv H2 F k hF).mono fun e w' ⟨v', μ', h1, h2, h3⟩ =>
   ⟨v', μ', h1, h2, ⟨⟨h3.rel.dom, h3.rel.high, h3.rel.obj, h3.rel.own, h3.rel.alias, h3.rel.fam, h3.rel.glob, h3.rel.low, h3.rel.bsz, h3.rel.wf, h3.rel.root⟩, h3.grow, h3.le, h3.new, h3.unt, h3.hsz⟩⟩
theorem awakeT_by {n : Nat} {orc : FuncId → List Value → AHeap → Option (Value × AHeap)} (hm : P.follows .mixedOrders = true) (hB : tabsB l n = true) (hO : ∀ base B, OrcOk P (envT P l orc) base B) {k : Nat} {g : FuncId}
 (hr : gaveTrue (acall (envT P l orc) n k g [] (heapT l n)) = true) : AwakeT P l g := by
 intro W F j hW hF
 obtain ⟨h', hr⟩ := gaveTrue_some hr
 have A := arT hB hW
 have H : HRel (envT P l orc) n W.heap.size (muT l n W) (heapT l n) W := by
  have := A.hrelT (E := envT P l orc) (Emb.le_refl _) (muT_glob hB hW rfl)
  rwa [heapT_size] at this
 have := acall_ok (envOkT P l _) (hO n W.heap.size) hm k (muT l n W) (heapT l n) W g [] #[] (.bool true) h' hr .nil H F j hF
 refine this.mono ?_
 rintro e W' ⟨v', μ', rfl, hv, S⟩
 have e := hv.inv_scalar rfl
 subst e
 refine ⟨rfl, S.grow.os, S.grow.tape, S.grow.output, S.grow.size, fun k hk => S.grow.keep k hk fun b mt hb _ => ?_⟩
 have := A.dom b mt hb
 rwa [heapT_size] at this
end
end Go.M
namespace Go.M
open Go Go.RowKit
def PureIn (P : Program) (l : Tabs) (g : FuncId) (f : List Value → Option Value) : Prop :=
 ∀ (w : World) (vs : List Value) (v : Value), LaidT l w → f vs = some v → Calls P g vs.toArray w fun e w' => e = .returned v ∧ Below w.heap.size w w'
noncomputable def pureK (l : Tabs) (f : List Value → Option Value) (args : List Value) (h : AHeap) : Option (Value × AHeap) :=
 (f args).bind fun v => grd (args.all scalar && plain1 v && tabsIn l h) (v, h)
noncomputable def orcS (l : Tabs) (fs : List (Nat × (List Value → Option Value))) (rest : FuncId → List Value → AHeap → Option (Value × AHeap)) : FuncId → List Value → AHeap → Option (Value × AHeap) := fun g args h =>
 match (look fs g).bind fun f => pureK l f args h with
 | some r => some r
 | none => rest g args h
theorem VRels.plain {μ : Emb} : ∀ {l l' : List Value}, VRels μ l l' → l.all scalar = true → l' = l
 | _, _, .nil, _ => rfl
 | _, _, .cons h t, hp => by
  simp only [List.all_cons, Bool.and_eq_true] at hp
  rw [h.inv_scalar hp.1, VRels.plain t hp.2]
section
variable {P : Program} {l : Tabs} {n : Nat}
theorem orcS_ok {fs : List (Nat × (List Value → Option Value))} {rest : FuncId → List Value → AHeap → Option (Value × AHeap)} (hB : tabsB l n = true) (hf : ∀ g f, look fs g = some f → PureIn P l g f) (hr : ∀ base B, OrcOk P (envT P l rest) base B) (base B : Nat) : OrcOk P (envT P l (orcS l fs rest)) base B := by
 intro μ h w g args args' v h' hc hv H F k hF
 have hc' : orcS l fs rest g args h = some (v, h') := hc
 unfold orcS at hc'
 split at hc'
 ·rename_i r hq
  cases hc'
  simp only [Option.bind_eq_some_iff] at hq
  obtain ⟨f, hl, hq⟩ := hq
  unfold pureK at hq
  simp only [Option.bind_eq_some_iff, grd_some, Bool.and_eq_true, Option.some.injEq, Prod.mk.injEq] at hq
  obtain ⟨v0, hfa, ⟨⟨hp, hpv⟩, ht⟩, rfl, rfl⟩ := hq
  have e := VRels.plain hv hp
  have hW := laid_of_rel (E := envT P l (orcS l fs rest)) rfl H hB ht
  have := hf g f hl w args v0 hW hfa
  have e2 : args' = args.toArray := by rw [← e]
  subst e2
  refine (calls_any hF this).mono ?_
  rintro e W' ⟨rfl, hb⟩
  exact ⟨_, μ, rfl, .lit hpv, ⟨H.ext hb.size fun r hr => hb.block r hr, ⟨hb.tape, hb.os, hb.output, hb.size, fun r hr _ => hb.block r hr⟩, μ.le_refl, fun b m h0 h1 => (by rw [h0] at h1; cases h1), fun _ _ _ => rfl, Nat.le_refl _⟩⟩
 ·have H2 : HRel (envT P l rest) base B μ h w := ⟨H.dom, H.high, H.obj, H.own, H.alias, H.fam, H.glob, H.low, H.bsz, H.wf, H.root⟩
  exact (hr base B μ h w g _ args' v h' hc' hv H2 F k hF).mono fun e w' ⟨v', μ', h1, h2, h3⟩ =>
   ⟨v', μ', h1, h2, ⟨⟨h3.rel.dom, h3.rel.high, h3.rel.obj, h3.rel.own, h3.rel.alias, h3.rel.fam, h3.rel.glob, h3.rel.low, h3.rel.bsz, h3.rel.wf, h3.rel.root⟩, h3.grow, h3.le, h3.new, h3.unt, h3.hsz⟩⟩
theorem vrs_plains {c : Nat} {ρ : Gh} {F : Nat → Prop} {h : AHeap} : ∀ {vs m : List Value}, VRs c ρ F h (vs.map .s) m → m = vs ∧ vs.all plain1 = true
 | [], m, H => by rw [H.inv_nil]; exact ⟨rfl, rfl⟩
 | v :: vs, m, H => by
  obtain ⟨x, m1, rfl, h1, h2⟩ := H.inv_cons
  obtain ⟨rfl, hp⟩ := h1.inv_s
  obtain ⟨rfl, hq⟩ := vrs_plains h2
  exact ⟨rfl, by simp [hp, hq]⟩
theorem VC.pureO {fs : List (Nat × (List Value → Option Value))} {rest : FuncId → List Value → AHeap → Option (Value × AHeap)} {g : FuncId} {f : List Value → Option Value} {vs : List Value} {v : Value} {c0 : Nat} {o0 : Ob} (hB : tabsB l n = true)
 (hfn : ((envT P l (orcS l fs rest)).func g).isSome = true) (hl : look fs g = some f) (hv : f vs = some v) (hs : vs.all scalar = true) (hp : plain1 v = true) :
 VC (envT P l (orcS l fs rest)) g c0 (vs.map .s) o0 (fun r o c => r = .s v ∧ c = c0 ∧ o = o0) := by
 intro base ρ F h S vargs hN hM hO hA
 obtain ⟨fn, hfn⟩ := Option.isSome_iff_exists.1 hfn
 obtain ⟨rfl, _⟩ := vrs_plains hA
 have ho : (envT P l (orcS l fs rest)).orc g vargs h = some (v, h) := by
  show orcS l fs rest g vargs h = _
  unfold orcS
  rw [hl]
  simp only [Option.bind_some]
  unfold pureK
  rw [hv]
  simp only [Option.bind_some, hs, hp, tabsIn_of (E := envT P l (orcS l fs rest)) rfl hB hN, Bool.and_self, grd, if_true]
 refine ⟨0, v, h, ρ, F, .s v, o0, c0, ?_, ⟨rfl, rfl, rfl⟩, hM, .s hp⟩
 unfold acall acallB
 rw [hfn]
 simp only [Option.bind_some, ho]
theorem strsOf_of : ∀ {cs : List Value} {xs : List ByteArray}, cs.length = xs.length → (∀ (i : Nat) x, xs[i]? = some x → cs[i]? = some (.string x)) → strsOf cs = some xs
 | [], [], _, _ => rfl
 | v :: cs, x :: xs, hl, h => by
  have h0 := h 0 x rfl
  simp at h0
  subst h0
  simp only [strsOf]
  rw [strsOf_of (by simpa using hl) fun i y hy => by simpa using h (i + 1) y (by simpa using hy)]
  rfl
 | [], _ :: _, hl, _ => by simp at hl
 | _ :: _, [], hl, _ => by simp at hl
@[reducible] def encS (s : ByteArray) : List TV := [.s (.string s)]
theorem VC.joinO {E : Env} {g : FuncId} (hfn : (E.func g).isSome = true) (ho : ∀ args h r, joinK args h = some r → E.orc g args h = some r) {xs : List ByteArray} {sep : ByteArray} {fl : Bool} {c0 : Nat} {o0 : Ob} (hne : 0 < xs.length) (hl : xs.length ≤ 100000)
 (hj : (Lib.join (xs.map (·.data.toList)) sep.data.toList).length ≤ 1000000) :
 VC E g c0 [.sl 1 (xs.map encS) fl, .s (.string sep)] o0 (fun r o c => r = .s (.string ⟨(Lib.join (xs.map (·.data.toList)) sep.data.toList).toArray⟩) ∧ c = c0 ∧ o = o0) := by
 intro base ρ F h S vargs hN hM hO hA
 obtain ⟨fn, hfn⟩ := Option.isSome_iff_exists.1 hfn
 obtain ⟨v1, m1, rfl, h1, hA⟩ := hA.inv_cons
 obtain ⟨v2, m2, rfl, h2, hA⟩ := hA.inv_cons
 obtain rfl := hA.inv_nil
 obtain ⟨rfl, _⟩ := h2.inv_s
 have key : joinK [v1, .string sep] h = some (.string ⟨(Lib.join (xs.map (·.data.toList)) sep.data.toList).toArray⟩, h) := by
  cases h1 with
  | nil he =>
   have : xs.length = 0 := by have := congrArg List.length he; simpa using this
   omega
  | sl hF hr hz hlen hcap hfl hle he hfz hc =>
   rename_i b o len cap cs
   have hlen : xs.length = len := by simpa using hlen
   have hrd : readCells h b o len = some ((cs.drop o).take len) := by
    unfold readCells
    rw [hr]
    simp only [Option.bind_some, takeN_some, List.length_drop, and_true]
    omega
   have hst : strsOf ((cs.drop o).take len) = some xs := by
    refine strsOf_of (by simp; omega) fun i x hx => ?_
    have hi : i < xs.length := (List.getElem?_eq_some_iff.1 hx).1
    obtain ⟨v, hv⟩ : ∃ v, cs[o + i * 1 + 0]? = some v := ⟨cs[o + i * 1 + 0]'(by omega), by simp⟩
    have := hc i 0 (encS x) (.s (.string x)) v (by rw [List.getElem?_map, hx]; rfl) rfl hv
    obtain ⟨rfl, _⟩ := this.inv_s
    rw [List.getElem?_take, if_pos (by omega), List.getElem?_drop]
    simpa using hv
   unfold joinK
   simp only [hrd, Option.bind_some, hst]
   rw [grd_some]
   exact ⟨by simp only [Bool.and_eq_true, blt_iff, ble_iff]; omega, rfl⟩
 refine ⟨0, _, h, ρ, F, .s _, o0, c0, ?_, ⟨rfl, rfl, rfl⟩, hM, .s rfl⟩
 unfold acall acallB
 rw [hfn]
 simp only [Option.bind_some, ho _ _ _ key]
end
end Go.M
namespace Go.M
open Go Go.RowKit Go.Shelf Go.Proofs
def piecesB (s sep : ByteArray) : List ByteArray := Lib.splitB sep 0 (Lib.countB s sep) s
theorem pieces_len (s sep : ByteArray) (h : 1 ≤ sep.size) : (piecesB s sep).length = Lib.countB s sep + 1 := Lib.splitB_all sep h 0 _ s rfl
def SplitsIn (P : Program) (gm : Nat) (g : FuncId) : Prop := ∀ (s sep : ByteArray) (w : World), (∃ m, w.cell? ⟨gm, 0, none⟩ = some (.int .i64 m)) → s.size < 4294967281 → 1 ≤ sep.size →
 Calls P g #[.string s, .string sep] w fun e w' => ∃ t, e = .returned (.slice (some ⟨w.heap.size, 0, none⟩) (Lib.countB s sep + 1) (Lib.countB s sep + 1)) ∧ w' = w.alloc (.cells ((piecesB s sep).map Value.string).toArray t)
theorem splitsIn_of {P : Program} {ρ : Ren} (L : Lays.n146 P ρ) (hi9 : (P.info? (ρ.t 9)).map (fun i => (i.zero, i.size, i.bytes)) = some (some (.string ByteArray.empty), 1, 16)) {gm : Nat} (hg : ρ.g 1 = gm) {g : FuncId} (e : ρ.f 146 = g) : SplitsIn P gm g := fun s sep w ⟨m, hc⟩ h1 h2 => by
 subst e hg
 exact (Any.strings_Split L hi9 s sep m w h1 hc h2).mono fun e w' ⟨h3, h4⟩ => ⟨_, h3, h4⟩
def isI64 : Option (List Value) → Bool
 | some [.int .i64 _] => true
 | _ => false
theorem isI64_some {o : Option (List Value)} (h : isI64 o = true) : ∃ n, o = some [.int .i64 n] := by
 unfold isI64 at h
 split at h
 ·exact ⟨_, rfl⟩
 ·cases h
def splitK (gm : Nat) (args : List Value) (h : AHeap) : Option (Value × AHeap) := match args with
 | [.string s, .string sep] => grd (Nat.blt s.size 1000000 && Nat.ble 1 sep.size && isI64 (h.rd gm)) (some (Value.slice (some ⟨h.size, 0, some 1⟩) (piecesB s sep).length ((piecesB s sep).length + 1), h.push (.cells ((piecesB s sep).map Value.string) h.size h.size 0)))
 | _ => none
def orcP (gm : Nat) (js : List Nat) (rest : FuncId → List Value → AHeap → Option (Value × AHeap)) : FuncId → List Value → AHeap → Option (Value × AHeap) := fun g args h =>
 match memN g js, splitK gm args h with
 | true, some r => some r
 | _, _ => rest g args h
section
variable {P : Program} {l : Tabs} {gm : Nat}
theorem splitK_ok {E : Env} {base B : Nat} {g : FuncId} (hgl : E.glob gm = true) (hJ : SplitsIn P gm g) {μ : Emb} {h h' : AHeap} {w : World} {args : List Value} {args' : Array Value} {v : Value}
 (hc : splitK gm args h = some (v, h')) (hr : VRels μ args args'.toList) (H : HRel E base B μ h w) : Calls P g args' w (RetPost E base B μ h w v h') := by
 unfold splitK at hc
 split at hc
 ·rename_i s sep
  simp only [grd_some, Bool.and_eq_true, blt_iff, ble_iff, Option.some.injEq, Prod.mk.injEq] at hc
  obtain ⟨⟨⟨h1, h2⟩, h3⟩, rfl, rfl⟩ := hc
  obtain ⟨v1, v2, hv1, hv2, e1⟩ : ∃ v1 v2, VRel μ (.string s) v1 ∧ VRel μ (.string sep) v2 ∧ args' = #[v1, v2] := by
   obtain ⟨l⟩ := args'
   cases hr with
   | cons q1 q2 => cases q2 with
    | cons q2 q3 => cases q3; exact ⟨_, _, q1, q2, rfl⟩
  subst e1
  have e1 := hv1.inv_scalar rfl
  have e2 := hv2.inv_scalar rfl
  subst e1 e2
  have hcell : ∃ m, w.cell? ⟨gm, 0, none⟩ = some (.int .i64 m) := by
   obtain ⟨n0, hn0⟩ := isI64_some h3
   obtain ⟨mg, q1, q2, q3⟩ := H.glob gm hgl
   obtain ⟨c, e, fr, k1, _, _, _, k5⟩ := H.read q1 hn0
   obtain ⟨v', p1, p2⟩ := k5 0 (.int .i64 n0) rfl
   have := p2.inv_scalar rfl
   subst this
   rw [q2] at k1
   rw [q3] at p1
   refine ⟨n0, ?_⟩
   unfold World.cell?
   rw [k1]
   exact p1
  refine (hJ s sep w hcell (by omega) h2).mono ?_
  rintro e w' ⟨t, rfl, rfl⟩
  have hpl := pieces_len s sep h2
  generalize piecesB s sep = ps at *
  rw [← hpl]
  have hb : Below w.heap.size w (w.alloc (.cells (ps.map Value.string).toArray t)) := ⟨rfl, rfl, rfl, by show _ ≤ (w.heap.push _).size; simp, fun k hk => Below.heap_alloc w _ k hk⟩
  have Hx := H.ext hb.size fun r hr => hb.block r hr
  have gr : Grow base μ w (w.alloc (.cells (ps.map Value.string).toArray t)) := ⟨hb.tape, hb.os, hb.output, hb.size, fun r hr _ => hb.block r hr⟩
  let cs := ps.map Value.string
  let m2 : MT := ⟨w.heap.size, 0, (ps.map Value.string).toArray.size⟩
  have hobj : (w.alloc (.cells (ps.map Value.string).toArray t)).heap[w.heap.size]? = some (.cells (ps.map Value.string).toArray t (0, 0)) := by
   show (w.heap.push _)[w.heap.size]? = _
   simp
  have Hp := Hx.pushA (o := .cells cs h.size h.size 0) (fun _ _ _ _ hh => by cases hh; rfl)
  have hget : (h.push (.cells cs h.size h.size 0)).get h.size = some (.cells cs h.size h.size 0) := by rw [AHeap.get_push, if_pos rfl]
  have ho : ORel (upd μ h.size m2) (h.push (.cells cs h.size h.size 0)) base h.size m2 (.cells cs h.size h.size 0) (.cells (ps.map Value.string).toArray t (0, 0)) := by
   refine .cells rfl (by simp [cs, m2]) (fun _ => noFr0 _) fun _ i v hv => ?_
   refine ⟨v, by simpa [cs, m2] using hv, ?_⟩
   obtain ⟨x, _, rfl⟩ := List.mem_map.1 (List.mem_of_getElem? hv)
   exact .lit rfl
  have Ht := Hp.track (b := h.size) (m := m2) (by simp [AHeap.size_push]) hget H.fresh H.bsz (by have := H.low; show B ≤ w.heap.size; omega) hobj
   (fun d md hd he => by have := H.lt hd; simp only [m2] at he; omega) (fun _ _ _ _ hh => by cases hh; exact ⟨rfl, Nat.le_refl _⟩) (fun _ _ _ => rfl) ho
  refine ⟨_, upd μ h.size m2, rfl, ?_, Ht, gr, upd_le H.fresh, fun d md h0 hd => ?_, fun d hd _ => by rw [AHeap.get_push, if_neg (by omega)], by simp [AHeap.size_push]⟩
  ·have := VRel.slice (μ := upd μ h.size m2) (b := h.size) (o := 0) (z := 1) (len := ps.length) (cap := ps.length + 1) (cap' := ps.length) (m := m2) (upd_self _ _ _) (by omega) (Nat.le_refl _) (fun h => by omega) (by simp [m2])
   simpa [m2] using this
  ·by_cases ed : d = h.size
   ·subst ed
    rw [upd_self] at hd; cases hd
    exact ⟨Nat.le_refl _, H.bsz, .inl (Nat.le_refl _)⟩
   ·rw [upd_ne _ _ ed, h0] at hd; cases hd
 ·cases hc
theorem orcP_ok {js : List Nat} {rest : FuncId → List Value → AHeap → Option (Value × AHeap)} (hgl : (look l gm).isSome = true) (hj : ∀ g ∈ js, SplitsIn P gm g) (hr : ∀ base B, OrcOk P (envT P l rest) base B) (base B : Nat) : OrcOk P (envT P l (orcP gm js rest)) base B := by
 intro μ h w g args args' v h' hc hv H F k hF
 have hc' : orcP gm js rest g args h = some (v, h') := hc
 unfold orcP at hc'
 split at hc'
 ·rename_i r h1 h2
  cases hc'
  exact calls_any hF (splitK_ok (E := envT P l (orcP gm js rest)) hgl (hj g (memN_mem h1)) h2 hv H)
 ·have H2 : HRel (envT P l rest) base B μ h w := ⟨H.dom, H.high, H.obj, H.own, H.alias, H.fam, H.glob, H.low, H.bsz, H.wf, H.root⟩
  exact (hr base B μ h w g _ args' v h' hc' hv H2 F k hF).mono fun e w' ⟨v', μ', h1, h2, h3⟩ =>
   ⟨v', μ', h1, h2, ⟨⟨h3.rel.dom, h3.rel.high, h3.rel.obj, h3.rel.own, h3.rel.alias, h3.rel.fam, h3.rel.glob, h3.rel.low, h3.rel.bsz, h3.rel.wf, h3.rel.root⟩, h3.grow, h3.le, h3.new, h3.unt, h3.hsz⟩⟩
theorem VC.splitO {E : Env} {g : FuncId} {c0 : Nat} (s sep : ByteArray) {n0 : Int} (hE : E.tab gm = some [.int .i64 n0]) (hf : (E.func g).isSome = true) (ho : ∀ a h r, splitK gm a h = some r → E.orc g a h = some r) (h1 : s.size < 1000000) (h2 : 1 ≤ sep.size) :
 VC E g c0 [.s (.string s), .s (.string sep)] [] fun r o c => r = .tk c0 ∧ c = c0 + 1 ∧ o = [(c0, .arr 1 true ((piecesB s sep).map fun x => [.s (.string x)]))] := by
 intro base ρ F h S vargs hN hM hO hA
 obtain ⟨fn, hf⟩ := Option.isSome_iff_exists.1 hf
 obtain ⟨v1, m1, rfl, a1, a2⟩ := hA.inv_cons
 obtain ⟨v2, m2, rfl, a3, a4⟩ := a2.inv_cons
 obtain rfl := a4.inv_nil
 obtain rfl := a1.inv_s.1
 obtain rfl := a3.inv_s.1
 have hlen := pieces_len s sep h2
 have horc : E.orc g [.string s, .string sep] h = some (.slice (some ⟨h.size, 0, some 1⟩) (piecesB s sep).length ((piecesB s sep).length + 1), h.push (.cells ((piecesB s sep).map Value.string) h.size h.size 0)) := by
  refine ho _ _ _ ?_
  unfold splitK
  show grd (Nat.blt s.size 1000000 && Nat.ble 1 sep.size && isI64 (h.rd gm)) _ = _
  rw [blt_iff.2 h1, ble_iff.2 h2, (hN gm _ hE).2.1]
  rfl
 have hER : ER c0 ρ F h 1 ((piecesB s sep).map fun x => [.s (.string x)]) ((piecesB s sep).map Value.string) := by
  refine ⟨by simp, by simp, by simp [fz, plainE], fun i j e t v q1 q2 q3 => ?_⟩
  rw [List.getElem?_map] at q1
  obtain ⟨x, hx, rfl⟩ := Option.map_eq_some_iff.1 q1
  have : j = 0 := by
   have := (List.getElem?_eq_some_iff.1 q2).1
   simpa using this
  subst this
  simp at q2; subst q2
  rw [Nat.mul_one, Nat.add_zero, List.getElem?_map, hx] at q3
  simp at q3; subst q3
  exact .s rfl
 obtain ⟨M, hk2⟩ := hM.newArr hER (by omega)
 refine ⟨0, .slice (some ⟨h.size, 0, some 1⟩) (piecesB s sep).length ((piecesB s sep).length + 1), _, _, F, .tk c0, _, c0 + 1, ?_, ⟨rfl, rfl, rfl⟩, M, ?_⟩
 ·unfold acall acallB
  rw [hf]
  simp only [Option.bind_some, horc]
 ·refine .tk (by omega) rfl (fun b z len hx => ?_) (fun z hx => by rw [updG_self] at hx; cases hx)
  rw [updG_self] at hx; cases hx
  exact ⟨(piecesB s sep).length + 1, by simp, by simp⟩
end
end Go.M
namespace Go.M
open Go Go.RowKit Go.Shelf Go.Proofs
def ParsesIn (P : Program) (gr tE : Nat) (g : FuncId) : Prop := ∀ (s : ByteArray) (w : World), s.size < 1000000 →
 (∀ u, Lib.parseUintB 64 s.data.toList = .ok u → Calls P g #[.string s, .int .i64 10, .int .i64 64] w fun e w' => e = .returned (.tuple #[.int .u64 u, .nilIface]) ∧ Below w.heap.size w w') ∧
 (Lib.parseUintB 64 s.data.toList = .range → (∃ ev, w.cell? ⟨gr, 0, none⟩ = some ev ∧ isIf ev) → Calls P g #[.string s, .int .i64 10, .int .i64 64] w fun e w' => ∃ N c t, e = .returned (.tuple #[.int .u64 18446744073709551615, .iface tE (.pointer (some ⟨N, 0, none⟩))]) ∧ w.heap.size ≤ N ∧ w'.heap[N]? = some (.cells c t (0, 0)) ∧ Below w.heap.size w w')
theorem parsesIn_of {P : Program} {ρ : Ren} (L : LaysPu.n14 P ρ) {gr tE : Nat} {g : FuncId} (hg : ρ.g 1 = gr) (ht : ρ.t 39 = tE) (e : ρ.f 14 = g) : ParsesIn P gr tE g := fun s w hs => by
 subst hg ht e
 refine ⟨fun u hu => ?_, fun hr ⟨ev, h1, h2⟩ => ?_⟩
 ·refine (Any.strconv_ParseUint_10_at64_ok L s (by omega) u hu w).mono fun e w' ⟨h1, h2⟩ => ⟨h1, ?_⟩
  rcases h2 with rfl | rfl
  ·exact Below.refl _ _
  ·exact Lib.bytesWorld_below w _ s
 ·exact (Any.strconv_ParseUint_10_at64_range L s (by omega) hr ev w h1 h2).mono fun e w' ⟨N, q1, q2, q3, q4⟩ => ⟨N, _, _, q1, q2, q3, q4⟩
def isOpq : Option (List Value) → Bool
 | some [.chan (some _)] => true
 | _ => false
theorem isOpq_some {o : Option (List Value)} (h : isOpq o = true) : ∃ n, o = some [.chan (some n)] := by
 unfold isOpq at h
 split at h
 ·exact ⟨_, rfl⟩
 ·cases h
def parseK (gr tE : Nat) (args : List Value) (h : AHeap) : Option (Value × AHeap) := match args with
 | [.string s, .int .i64 b, .int .i64 z] => grd (decide (b = 10) && decide (z = 64) && Nat.blt s.size 1000000) (match Lib.parseUintB 64 s.data.toList with
  | .ok u => some (.tuple #[.int .u64 u, .nilIface], h)
  | .range => grd (isOpq (h.rd gr)) (some (.tuple #[.int .u64 18446744073709551615, .iface tE (.pointer (some ⟨h.size, 0, none⟩))], h.push (.cells [] h.size h.size 0)))
  | _ => none)
 | _ => none
def orcU (gr tE : Nat) (js : List Nat) (rest : FuncId → List Value → AHeap → Option (Value × AHeap)) : FuncId → List Value → AHeap → Option (Value × AHeap) := fun g args h =>
 match memN g js, parseK gr tE args h with
 | true, some r => some r
 | _, _ => rest g args h
section
variable {P : Program} {l : Tabs} {gr tE : Nat}
theorem parseK_ok {E : Env} {base B : Nat} {g : FuncId} (hgl : E.glob gr = true) (hJ : ParsesIn P gr tE g) {μ : Emb} {h h' : AHeap} {w : World} {args : List Value} {args' : Array Value} {v : Value}
 (hc : parseK gr tE args h = some (v, h')) (hr : VRels μ args args'.toList) (H : HRel E base B μ h w) : Calls P g args' w (RetPost E base B μ h w v h') := by
 unfold parseK at hc
 split at hc
 ·rename_i s b z
  rw [grd_some] at hc
  simp only [Bool.and_eq_true, decide_eq_true_eq, blt_iff] at hc
  obtain ⟨⟨⟨rfl, rfl⟩, h1⟩, hc⟩ := hc
  obtain ⟨v1, v2, v3, hv1, hv2, hv3, e1⟩ : ∃ v1 v2 v3, VRel μ (.string s) v1 ∧ VRel μ (.int .i64 10) v2 ∧ VRel μ (.int .i64 64) v3 ∧ args' = #[v1, v2, v3] := by
   obtain ⟨l⟩ := args'
   cases hr with
   | cons q1 q2 => cases q2 with
    | cons q2 q3 => cases q3 with
     | cons q3 q4 => cases q4; exact ⟨_, _, _, q1, q2, q3, rfl⟩
  subst e1
  have e1 := hv1.inv_scalar rfl
  have e2 := hv2.inv_scalar rfl
  have e3 := hv3.inv_scalar rfl
  subst e1 e2 e3
  obtain ⟨J1, J2⟩ := hJ s w h1
  split at hc
  ·rename_i u hu
   simp only [Option.some.injEq, Prod.mk.injEq] at hc
   obtain ⟨rfl, rfl⟩ := hc
   refine (J1 u hu).mono ?_
   rintro e w' ⟨rfl, hb⟩
   refine ⟨_, μ, rfl, .refl_plain μ rfl, ⟨H.ext hb.size fun r hr => hb.block r hr, ⟨hb.tape, hb.os, hb.output, hb.size, fun r hr _ => hb.block r hr⟩, μ.le_refl, fun b m h0 h1 => (by rw [h0] at h1; cases h1), fun _ _ _ => rfl, Nat.le_refl _⟩⟩
  ·rename_i hu
   rw [grd_some] at hc
   obtain ⟨h3, hc⟩ := hc
   simp only [Option.some.injEq, Prod.mk.injEq] at hc
   obtain ⟨rfl, rfl⟩ := hc
   have hcell : ∃ ev, w.cell? ⟨gr, 0, none⟩ = some ev ∧ isIf ev := by
    obtain ⟨n0, hn0⟩ := isOpq_some h3
    obtain ⟨mg, q1, q2, q3⟩ := H.glob gr hgl
    obtain ⟨c, e, fr, k1, _, _, _, k5⟩ := H.read q1 hn0
    obtain ⟨v', p1, p2⟩ := k5 0 (.chan (some n0)) rfl
    rw [q2] at k1
    rw [q3] at p1
    refine ⟨v', ?_, ?_⟩
    ·unfold World.cell?
     rw [k1]
     exact p1
    ·cases p2 with
     | lit h => simp [plain1] at h
     | opq h => exact h
   refine (J2 hu hcell).mono ?_
   rintro e w' ⟨N, c0, t0, rfl, hN, hobj, hb⟩
   have Hx := H.ext hb.size fun r hr => hb.block r hr
   have gr : Grow base μ w w' := ⟨hb.tape, hb.os, hb.output, hb.size, fun r hr _ => hb.block r hr⟩
   let m2 : MT := ⟨N, 0, c0.size⟩
   have Hp := Hx.pushA (o := .cells [] h.size h.size 0) (fun _ _ _ _ hh => by cases hh; rfl)
   have hget : (h.push (.cells [] h.size h.size 0)).get h.size = some (.cells [] h.size h.size 0) := by rw [AHeap.get_push, if_pos rfl]
   have ho : ORel (upd μ h.size m2) (h.push (.cells [] h.size h.size 0)) base h.size m2 (.cells [] h.size h.size 0) (.cells c0 t0 (0, 0)) := by
    refine .cells rfl (by simp [m2]) (fun _ => noFr0 _) fun _ i v hv => by simp at hv
   have Ht := Hp.track (b := h.size) (m := m2) (by simp [AHeap.size_push]) hget H.fresh H.bsz (by have := H.low; show B ≤ N; omega) hobj
    (fun d md hd he => by have := H.lt hd; simp only [m2] at he; omega) (fun _ _ _ _ hh => by cases hh; exact ⟨rfl, Nat.le_refl _⟩) (fun _ _ _ => rfl) ho
   refine ⟨_, upd μ h.size m2, rfl, ?_, Ht, gr, upd_le H.fresh, fun d md h0 hd => ?_, fun d hd _ => by rw [AHeap.get_push, if_neg (by omega)], by simp [AHeap.size_push]⟩
   ·have hp := VRel.ptr (μ := upd μ h.size m2) (b := h.size) (o := 0) (m := m2) (upd_self _ _ _)
    exact .tuple_of (.cons (.int _ _ _) (.cons (.iface (by simpa [m2] using hp)) .nil))
   ·by_cases ed : d = h.size
    ·subst ed
     rw [upd_self] at hd; cases hd
     exact ⟨Nat.le_refl _, H.bsz, .inl hN⟩
    ·rw [upd_ne _ _ ed, h0] at hd; cases hd
  ·cases hc
 ·cases hc
theorem orcU_ok {js : List Nat} {rest : FuncId → List Value → AHeap → Option (Value × AHeap)} (hgl : (look l gr).isSome = true) (hj : ∀ g ∈ js, ParsesIn P gr tE g) (hr : ∀ base B, OrcOk P (envT P l rest) base B) (base B : Nat) : OrcOk P (envT P l (orcU gr tE js rest)) base B := by
 intro μ h w g args args' v h' hc hv H F k hF
 have hc' : orcU gr tE js rest g args h = some (v, h') := hc
 unfold orcU at hc'
 split at hc'
 ·rename_i r h1 h2
  cases hc'
  exact calls_any hF (parseK_ok (E := envT P l (orcU gr tE js rest)) hgl (hj g (memN_mem h1)) h2 hv H)
 ·have H2 : HRel (envT P l rest) base B μ h w := ⟨H.dom, H.high, H.obj, H.own, H.alias, H.fam, H.glob, H.low, H.bsz, H.wf, H.root⟩
  exact (hr base B μ h w g _ args' v h' hc' hv H2 F k hF).mono fun e w' ⟨v', μ', h1, h2, h3⟩ =>
   ⟨v', μ', h1, h2, ⟨⟨h3.rel.dom, h3.rel.high, h3.rel.obj, h3.rel.own, h3.rel.alias, h3.rel.fam, h3.rel.glob, h3.rel.low, h3.rel.bsz, h3.rel.wf, h3.rel.root⟩, h3.grow, h3.le, h3.new, h3.unt, h3.hsz⟩⟩
theorem VC.parseOk {E : Env} {g : FuncId} {c0 : Nat} {o0 : Ob} (s : ByteArray) (u : Nat) (hf : (E.func g).isSome = true) (ho : ∀ a h r, parseK gr tE a h = some r → E.orc g a h = some r) (h1 : s.size < 1000000) (hu : Lib.parseUintB 64 s.data.toList = .ok u) :
 VC E g c0 [.s (.string s), .s (.int .i64 10), .s (.int .i64 64)] o0 fun r o c => r = .tup [.s (.int .u64 u), .s .nilIface] ∧ c = c0 ∧ o = o0 := by
 intro base ρ F h S vargs hN hM hO hA
 obtain ⟨fn, hf⟩ := Option.isSome_iff_exists.1 hf
 obtain ⟨v1, m1, rfl, a1, a2⟩ := hA.inv_cons
 obtain ⟨v2, m2, rfl, a3, a4⟩ := a2.inv_cons
 obtain ⟨v3, m3, rfl, a5, a6⟩ := a4.inv_cons
 obtain rfl := a6.inv_nil
 obtain rfl := a1.inv_s.1
 obtain rfl := a3.inv_s.1
 obtain rfl := a5.inv_s.1
 have horc : E.orc g [.string s, .int .i64 10, .int .i64 64] h = some (.tuple #[.int .u64 u, .nilIface], h) := by
  refine ho _ _ _ ?_
  show grd (decide ((10 : Int) = 10) && decide ((64 : Int) = 64) && Nat.blt s.size 1000000) _ = _
  rw [blt_iff.2 h1, hu]
  rfl
 refine ⟨0, .tuple #[.int .u64 u, .nilIface], h, ρ, F, _, o0, c0, ?_, ⟨rfl, rfl, rfl⟩, hM, ?_⟩
 ·unfold acall acallB
  rw [hf]
  simp only [Option.bind_some, horc]
 ·exact .tup_of (.cons (.s rfl) (.cons (.s rfl) .nil))
theorem VC.parseRange {E : Env} {g : FuncId} {c0 : Nat} (s : ByteArray) {n0 : Nat} (hE : E.tab gr = some [.chan (some n0)]) (hf : (E.func g).isSome = true) (ho : ∀ a h r, parseK gr tE a h = some r → E.orc g a h = some r) (h1 : s.size < 1000000) (hu : Lib.parseUintB 64 s.data.toList = .range) :
 VC E g c0 [.s (.string s), .s (.int .i64 10), .s (.int .i64 64)] [] fun r o c => r = .tup [.s (.int .u64 18446744073709551615), .ifc tE .j] ∧ c = c0 + 1 ∧ o = [(c0, .arr 1 true [])] := by
 intro base ρ F h S vargs hN hM hO hA
 obtain ⟨fn, hf⟩ := Option.isSome_iff_exists.1 hf
 obtain ⟨v1, m1, rfl, a1, a2⟩ := hA.inv_cons
 obtain ⟨v2, m2, rfl, a3, a4⟩ := a2.inv_cons
 obtain ⟨v3, m3, rfl, a5, a6⟩ := a4.inv_cons
 obtain rfl := a6.inv_nil
 obtain rfl := a1.inv_s.1
 obtain rfl := a3.inv_s.1
 obtain rfl := a5.inv_s.1
 have horc : E.orc g [.string s, .int .i64 10, .int .i64 64] h = some (.tuple #[.int .u64 18446744073709551615, .iface tE (.pointer (some ⟨h.size, 0, none⟩))], h.push (.cells [] h.size h.size 0)) := by
  refine ho _ _ _ ?_
  show grd (decide ((10 : Int) = 10) && decide ((64 : Int) = 64) && Nat.blt s.size 1000000) _ = _
  rw [blt_iff.2 h1, hu, (hN gr _ hE).2.1]
  rfl
 have hER : ER c0 ρ F h 1 [] [] := ⟨by simp, by simp, by simp, fun i j e t v q1 q2 q3 => by simp at q1⟩
 obtain ⟨M, hk2⟩ := hM.newArr hER (by omega)
 refine ⟨0, .tuple #[.int .u64 18446744073709551615, .iface tE (.pointer (some ⟨h.size, 0, none⟩))], _, _, F, _, _, c0 + 1, ?_, ⟨rfl, rfl, rfl⟩, M, ?_⟩
 ·unfold acall acallB
  rw [hf]
  simp only [Option.bind_some, horc]
 ·exact .tup_of (.cons (.s rfl) (.cons (.ifc (.j _)) .nil))
end
end Go.M
namespace Go.M
open Go
def opStill (o : Oper) : Bool := match o.op with
 | .move _ | .assign _ | .pick _ _ _ | .build _ _ | .nilCheck _ | .binOp _ _ _ _ _ | .unOp _ _ _ | .makeInterface _ _ | .makeFunc _ _ _ | .slice _ _ _ _ _ | .fieldAddr _ _ _ | .field _ _ _ | .indexAddr _ _ _ | .index _ _ _ | .lookup _ _ _ _ | .extract _ _ | .load _ _ => true
 | .call c => (match c.callee with
  | .builtin .len => true
  | _ => false)
 | _ => false
def codeStill : Code → Bool
 | .skip | .exit _ | .ret => true
 | .region _ ops _ => ops.toList.all opStill
 | .seq a b => codeStill a && codeStill b
 | .cond _ a b => codeStill a && codeStill b
 | .block _ b => codeStill b
 | .loop b => codeStill b
 | _ => false
section
variable {E : Env} {base : Nat}
end
end Go.M
namespace Go.M
open Go
theorem bsplit {b : Bool} {A B : Prop} (hA : b = true → A) (hB : b = false → B) : (match (generalizing := false) b with | true => A | false => B) := by
 cases b with
 | true => exact hA rfl
 | false => exact hB rfl
theorem nsplit {b : Bool} {A B : Prop} (hA : b = false → A) (hB : b = true → B) : (match (generalizing := false) !b with | true => A | false => B) := by
 cases b with
 | true => exact hB rfl
 | false => exact hA rfl
@[reducible] def RR (r0 : TV) (c0 : Nat) (o0 : Ob) : TV → Ob → Nat → Prop := fun r o c => r = r0 ∧ c = c0 ∧ o = o0
theorem bool_eq {a b : Bool} (h : a = b) : Value.bool a = Value.bool b := congrArg _ h
theorem idxI {α : Type} {enc : α → List TV} {l : List α} {n : Nat} {K : List TV → Prop} (h : n < l.length) (hK : K (enc l[n])) : ∃ e, (0 ≤ (n : Int) ∧ (l.map enc)[(n : Int).toNat]? = some e) ∧ K e :=
 ⟨enc l[n], ⟨by omega, by simp [h]⟩, hK⟩
theorem wrap_small (n : Nat) (h : n ≤ 1099511627776) : IntKind.i64.wrap ((n : Int) + 1) = ((n + 1 : Nat) : Int) := by
 rw [IntWalk.i64_in _ (by omega)]; rfl
theorem lenlt {α : Type} {f : α → List TV} {l : List α} {i : Nat} : ((i : Int) < (((l.map f).length : Nat) : Int)) ↔ i < l.length := by simp
theorem flx : ∀ b : Bool, (!b || b) = true
 | true => rfl
 | false => rfl
theorem Lz.int {k : IntKind} {a b : Int} (h : a = b) : Lz (Value.int k a) (Value.int k b) := .of (congrArg _ h)
theorem Lz.wrap {n : Nat} (h : n ≤ 1099511627776) : Lz (Value.int .i64 (IntKind.i64.wrap ((n : Int) + 1))) (Value.int .i64 ((n + 1 : Nat) : Int)) := .of (congrArg _ (wrap_small n h))
def smalls : List Nat := [0, 1, 2, 3, 4, 5, 6, 7, 8, 9, 10, 11, 12, 13, 14, 15, 16, 17, 18, 19, 20, 21, 22, 23, 24, 25, 26, 27, 28, 29, 30, 31, 32, 33, 34, 35, 36, 37, 38, 39, 40]
def forceNL (n : Nat) (K : Nat → Prop) (l : List Nat) : Prop := @List.rec Nat (fun _ => Prop) (K n) (fun k _ ih => match Nat.beq n k with | true => K k | false => ih) l
theorem forceNL_eq (n : Nat) (K : Nat → Prop) : ∀ l, forceNL n K l = K n
 | [] => rfl
 | k :: l => by
  show (match Nat.beq n k with | true => K k | false => forceNL n K l) = K n
  cases h : Nat.beq n k with
  | true => rw [beq_iff.1 h]
  | false => exact forceNL_eq n K l
def forceN (n : Nat) (K : Nat → Prop) : Prop := forceNL n K smalls
theorem forceN_eq (n : Nat) : forceN n = fun K => K n := by funext K; exact forceNL_eq n K _
def forceC (v : TV) (K : TV → Prop) : Prop := match v with
 | .j => K .j
 | .s v => K (.s v)
 | .sl z es fl => forceN z fun z => K (.sl z es fl)
 | .tk n => forceN n fun n => K (.tk n)
 | .ptr n o => forceN n fun n => forceN o fun o => K (.ptr n o)
 | .ep e o => forceN o fun o => K (.ep e o)
 | .wp n i o => forceN n fun n => forceN o fun o => K (.wp n i o)
 | .mp n => forceN n fun n => K (.mp n)
 | .bg n len => forceN n fun n => K (.bg n len)
 | .sv n i => forceN n fun n => K (.sv n i)
 | .agg cs => K (.agg cs)
 | .tup cs => K (.tup cs)
 | .ifc t v => K (.ifc t v)
 | .clo g a c => K (.clo g a c)
 | .own y => K (.own y)
theorem forceC_eq (v : TV) : forceC v = fun K => K v := by funext K; cases v <;> simp [forceC, forceN_eq]
def forceL (F : TV → (TV → Prop) → Prop) (l : List TV) : (List TV → Prop) → Prop := @List.rec TV (fun _ => (List TV → Prop) → Prop) (fun K => K []) (fun v _ ih K => F v fun v => ih fun l => K (v :: l)) l
theorem forceL_eq {F : TV → (TV → Prop) → Prop} (hF : ∀ v, F v = fun K => K v) : ∀ l, forceL F l = fun K => K l
 | [] => rfl
 | v :: l => by
  have ih := forceL_eq hF l
  funext K
  show F v (fun v => forceL F l fun l => K (v :: l)) = K (v :: l)
  rw [hF, ih]
def forceA (v : TV) (K : TV → Prop) : Prop := match v with
 | .j => K .j
 | .s v => K (.s v)
 | .sl z es fl => forceN z fun z => K (.sl z es fl)
 | .tk n => forceN n fun n => K (.tk n)
 | .ptr n o => forceN n fun n => forceN o fun o => K (.ptr n o)
 | .ep e o => forceN o fun o => K (.ep e o)
 | .wp n i o => forceN n fun n => forceN o fun o => K (.wp n i o)
 | .mp n => forceN n fun n => K (.mp n)
 | .bg n len => forceN n fun n => K (.bg n len)
 | .sv n i => forceN n fun n => K (.sv n i)
 | .agg cs => forceL forceC cs fun cs => K (.agg cs)
 | .tup cs => K (.tup cs)
 | .ifc t v => K (.ifc t v)
 | .clo g a c => forceL forceC a fun a => forceL forceC c fun c => K (.clo g a c)
 | .own y => K (.own y)
theorem forceA_eq (v : TV) : forceA v = fun K => K v := by funext K; cases v <;> simp [forceA, forceN_eq, forceL_eq forceC_eq]
def forceV (v : TV) (K : TV → Prop) : Prop := match v with
 | .j => K .j
 | .s v => K (.s v)
 | .sl z es fl => forceN z fun z => K (.sl z es fl)
 | .tk n => forceN n fun n => K (.tk n)
 | .ptr n o => forceN n fun n => forceN o fun o => K (.ptr n o)
 | .ep e o => forceN o fun o => K (.ep e o)
 | .wp n i o => forceN n fun n => forceN o fun o => K (.wp n i o)
 | .mp n => forceN n fun n => K (.mp n)
 | .bg n len => forceN n fun n => K (.bg n len)
 | .sv n i => forceN n fun n => K (.sv n i)
 | .agg cs => forceL forceC cs fun cs => K (.agg cs)
 | .tup cs => forceL forceA cs fun cs => K (.tup cs)
 | .ifc t v => forceA v fun v => K (.ifc t v)
 | .clo g a c => forceL forceC a fun a => forceL forceC c fun c => K (.clo g a c)
 | .own y => K (.own y)
theorem forceV_eq (v : TV) : forceV v = fun K => K v := by funext K; cases v <;> simp [forceV, forceN_eq, forceL_eq forceC_eq, forceL_eq forceA_eq, forceA_eq]
def forceQ (q : List (Nat × List TV)) : (List (Nat × List TV) → Prop) → Prop := @List.rec (Nat × List TV) (fun _ => (List (Nat × List TV) → Prop) → Prop) (fun K => K []) (fun p _ ih K => forceL forceC p.2 fun x => ih fun l => K ((p.1, x) :: l)) q
theorem forceQ_eq : ∀ q, forceQ q = fun K => K q
 | [] => rfl
 | p :: q => by
  have ih := forceQ_eq q
  funext K
  show forceL forceC p.2 (fun x => forceQ q fun l => K ((p.1, x) :: l)) = K (p :: q)
  rw [forceL_eq forceC_eq, ih]
def forceM (q : List (Value × TV)) : (List (Value × TV) → Prop) → Prop := @List.rec (Value × TV) (fun _ => (List (Value × TV) → Prop) → Prop) (fun K => K []) (fun p _ ih K => forceA p.2 fun x => ih fun l => K ((p.1, x) :: l)) q
theorem forceM_eq : ∀ q, forceM q = fun K => K q
 | [] => rfl
 | p :: q => by
  have ih := forceM_eq q
  funext K
  show forceA p.2 (fun x => forceM q fun l => K ((p.1, x) :: l)) = K (p :: q)
  rw [forceA_eq, ih]
def forceT (x : TO) (K : TO → Prop) : Prop := match x with
 | .cells cs => forceL forceC cs fun cs => K (.cells cs)
 | .map kd es => forceN kd fun kd => K (.map kd es)
 | .arr z w es => forceN z fun z => match w with | true => K (.arr z true es) | false => K (.arr z false es)
 | .arq z es op => forceN z fun z => forceQ op fun op => K (.arq z es op)
 | .maq kd es op => forceN kd fun kd => forceM op fun op => K (.maq kd es op)
 | .bag ks => K (.bag ks)
theorem forceT_eq (x : TO) : forceT x = fun K => K x := by
 funext K
 cases x with
 | cells cs => simp [forceT, forceL_eq forceC_eq]
 | map kd es => simp [forceT, forceN_eq]
 | arr z w es => cases w <;> simp [forceT, forceN_eq]
 | arq z es op => simp [forceT, forceN_eq, forceQ_eq]
 | maq kd es op => simp [forceT, forceN_eq, forceM_eq]
 | bag ks => rfl
def forceO (o : Ob) : (Ob → Prop) → Prop := @List.rec (Nat × TO) (fun _ => (Ob → Prop) → Prop) (fun K => K []) (fun p _ ih K => forceN p.1 fun n => forceT p.2 fun x => ih fun l => K ((n, x) :: l)) o
theorem forceO_eq : ∀ o, forceO o = fun K => K o
 | [] => rfl
 | p :: o => by
  have ih := forceO_eq o
  funext K
  show forceN p.1 (fun n => forceT p.2 fun x => forceO o fun l => K ((n, x) :: l)) = K (p :: o)
  rw [forceN_eq, forceT_eq, ih]
def strict (l : VL) (v : TV) (o : Ob) (c : Nat) (K : TV → Ob → Nat → Prop) : Prop := match l with
 | .pure => forceV v fun v => K v o c
 | .alloc => forceV v fun v => forceO o fun o => forceN c fun c => K v o c
 | .rdF => forceV v fun v => K v o c
 | .rdO _ => forceV v fun v => forceO o fun o => forceN c fun c => K v o c
 | .rdN _ _ _ => forceV v fun v => forceO o fun o => forceN c fun c => K v o c
 | .eff _ => forceV v fun v => forceO o fun o => forceN c fun c => K v o c
 | .effI _ => forceV v fun v => forceO o fun o => forceN c fun c => K v o c
 | .effG => forceV v fun v => forceO o fun o => forceN c fun c => K v o c
 | .bad => forceV v fun v => K v o c
theorem strict_eq (l : VL) (v : TV) (o : Ob) (c : Nat) : strict l v o c = fun K => K v o c := by
 funext K; cases l <;> simp [strict, forceV_eq, forceO_eq, forceN_eq]
def wopsR (E : Env) (vc : VCs) (n : Nat) (ops : List Oper) (l : List Oper) : Fr → Ob → Nat → RK → Prop :=
 @List.rec Oper (fun _ => Fr → Ob → Nat → RK → Prop) (fun f o c K => K f o c)
  (fun p _ ih f o c K => wguard ops p f
   (wop E vc p.op f o c fun v o' c' l => strict l v o' c' fun v o' c' => wput p.dst n v f fun f' => ih f' o' c' K)
   (wput p.dst n (.tup []) f fun f' => ih f' o c K)) l
theorem wopsR_eq (E : Env) (vc : VCs) (n : Nat) (ops : List Oper) : ∀ (l : List Oper) f o c K, wopsR E vc n ops l f o c K = wops E vc n ops l f o c K := by
 intro l
 induction l with
 | nil => intro f o c K; rfl
 | cons p rest ih =>
  intro f o c K
  have e : (fun f' o' c' (K : RK) => wopsR E vc n ops rest f' o' c' K) = fun f' o' c' K => wops E vc n ops rest f' o' c' K := by funext a b d e; exact ih a b d e
  show wguard ops p f (wop E vc p.op f o c fun v o' c' l => strict l v o' c' fun v o' c' => wput p.dst n v f fun f' => (fun f' o' c' (K : RK) => wopsR E vc n ops rest f' o' c' K) f' o' c' K) (wput p.dst n (.tup []) f fun f' => (fun f' o' c' (K : RK) => wopsR E vc n ops rest f' o' c' K) f' o c K) = _
  rw [e]
  simp only [strict_eq]
  rfl
def wopsLR (E : Env) (vc : VCs) (n : Nat) (ops : List Oper) (l : List Oper) : Fr → Ob → Nat → List VN → (List VN → RK) → Prop :=
 @List.rec Oper (fun _ => Fr → Ob → Nat → List VN → (List VN → RK) → Prop) (fun f o c lg K => K lg f o c)
  (fun p _ ih f o c lg K => wguard ops p f
   (wop E vc p.op f o c fun v o' c' l => strict l v o' c' fun v o' c' => wput p.dst n v f fun f' => ih f' o' c' (lg ++ [(l, o)]) K)
   (wput p.dst n (.tup []) f fun f' => ih f' o c (lg ++ [(.pure, o)]) K)) l
theorem wopsLR_eq (E : Env) (vc : VCs) (n : Nat) (ops : List Oper) : ∀ (l : List Oper) f o c lg K, wopsLR E vc n ops l f o c lg K = wopsL E vc n ops l f o c lg K := by
 intro l
 induction l with
 | nil => intro f o c lg K; rfl
 | cons p rest ih =>
  intro f o c lg K
  have e : (fun f' o' c' lg (K : List VN → RK) => wopsLR E vc n ops rest f' o' c' lg K) = fun f' o' c' lg K => wopsL E vc n ops rest f' o' c' lg K := by funext a b d g e; exact ih a b d g e
  show wguard ops p f (wop E vc p.op f o c fun v o' c' l => strict l v o' c' fun v o' c' => wput p.dst n v f fun f' => (fun f' o' c' lg (K : List VN → RK) => wopsLR E vc n ops rest f' o' c' lg K) f' o' c' (lg ++ [(l, o)]) K) (wput p.dst n (.tup []) f fun f' => (fun f' o' c' lg (K : List VN → RK) => wopsLR E vc n ops rest f' o' c' lg K) f' o c (lg ++ [(.pure, o)]) K) = _
  rw [e]
  simp only [strict_eq]
  rfl
structure Drawn (b : Bool) (K : Prop) : Prop where
 ok : b = true
 go : K
theorem drawn_eq (b : Bool) (K : Prop) : Drawn b K = (match (generalizing := false) b with | true => K | false => False) := by
 cases b with
 | true => exact propext ⟨fun h => h.go, fun h => ⟨rfl, h⟩⟩
 | false => exact propext (Iff.intro (fun h => by cases h.ok) (fun h => False.elim h))
abbrev WP := Fr → Ob → Nat → CK → Prop
def wpR (E : Env) (vc : VCs) (n c0 : Nat) (cuts : List Nat) (code : Code) : WP :=
 @Code.rec (fun _ => WP)
  (fun f o c Q => Q .normal f o c)
  (fun _ ops draw f o c Q => (match draw with
  | false => wopsR E vc n ops.toList ops.toList f o c fun f' o' c' => Q .normal f' o' c'
  | true => Drawn (staticOk ops.toList && dstsIn n ops.toList) (wopsLR E vc n ops.toList ops.toList f o c [] fun lg f' o' c' => Drawn (drawOk (befores ops.toList []) o' 0 lg) (Q .normal f' o' c'))))
  (fun _ _ iha ihb f o c Q => iha f o c fun ex f' o' c' => (match ex with
  | .normal => ihb f' o' c' Q
  | .exit id => Q (.exit id) f' o' c'
  | .ret => Q .ret f' o' c'))
  (fun q _ _ iht ihe f o c Q => (match evOk E q with
  | false => False
  | true => (match evT E f q with
   | .s (.bool b) => (match b with
    | true => iht f o c Q
    | false => ihe f o c Q)
   | _ => False)))
  (fun id _ ih f o c Q => (match memN id cuts with
  | false => ih f o c fun ex f' o' c' => (match ex with
   | .exit id' => (match Nat.beq id' id with
    | true => Q .normal f' o' c'
    | false => Q (.exit id') f' o' c')
   | .normal => Q .normal f' o' c'
   | .ret => Q .ret f' o' c')
  | true => ∃ Mid : RK, (ih f o c fun ex f' o' c' => (match ex with
   | .exit id' => (match Nat.beq id' id with
    | true => toldAs c0 f' o' c' Mid
    | false => Q (.exit id') f' o' c')
   | .normal => toldAs c0 f' o' c' Mid
   | .ret => Q .ret f' o' c')) ∧ ∀ f' o' c', Mid f' o' c' → Q .normal f' o' c'))
  (fun _ ih f o c Q => ∃ Inv : Nat → Fr → Ob → Nat → Prop, (∃ k, toldAs c0 f o c (Inv k)) ∧
   ∀ k f1 o1 c1, Inv k f1 o1 c1 → ih f1 o1 c1 fun ex f' o' c' => (match ex with
    | .normal => ∃ k', toldAs c0 f' o' c' (Inv k') ∧ k' < k
    | .exit id => Q (.exit id) f' o' c'
    | .ret => Q .ret f' o' c'))
  (fun _ _ _ _ _ _ _ _ _ _ => False)
  (fun id f o c Q => Q (.exit id) f o c)
  (fun _ _ _ _ _ _ => False)
  (fun _ _ _ _ _ => False)
  (fun _ _ _ _ _ => False)
  (fun f o c Q => Q .ret f o c)
  (fun _ _ _ _ _ => False) code
theorem wpR_eq (E : Env) (vc : VCs) (n c0 : Nat) (cuts : List Nat) : ∀ (code : Code) f o c Q, wpR E vc n c0 cuts code f o c Q = wp E vc n c0 cuts code f o c Q := by
 intro code
 induction code with
 | region id ops draw =>
  intro f o c Q
  have e1 : (fun K => wopsR E vc n ops.toList ops.toList f o c K) = fun K => wops E vc n ops.toList ops.toList f o c K := by funext K; exact wopsR_eq ..
  have e2 : (fun lg K => wopsLR E vc n ops.toList ops.toList f o c lg K) = fun lg K => wopsL E vc n ops.toList ops.toList f o c lg K := by funext lg K; exact wopsLR_eq ..
  show (match draw with
  | false => (fun K => wopsR E vc n ops.toList ops.toList f o c K) fun f' o' c' => Q .normal f' o' c'
  | true => Drawn (staticOk ops.toList && dstsIn n ops.toList) ((fun lg K => wopsLR E vc n ops.toList ops.toList f o c lg K) [] fun lg f' o' c' => Drawn (drawOk (befores ops.toList []) o' 0 lg) (Q .normal f' o' c'))) = _
  rw [e1, e2]
  simp only [drawn_eq]
  cases draw <;> rfl
 | seq a b iha ihb =>
  intro f o c Q
  have e1 : (fun f o c Q => wpR E vc n c0 cuts a f o c Q) = fun f o c Q => wp E vc n c0 cuts a f o c Q := by funext f o c Q; exact iha ..
  have e2 : (fun f o c Q => wpR E vc n c0 cuts b f o c Q) = fun f o c Q => wp E vc n c0 cuts b f o c Q := by funext f o c Q; exact ihb ..
  show ((fun f o c Q => wpR E vc n c0 cuts a f o c Q) f o c fun ex f' o' c' => (match ex with
  | .normal => (fun f o c Q => wpR E vc n c0 cuts b f o c Q) f' o' c' Q
  | .exit id => Q (.exit id) f' o' c'
  | .ret => Q .ret f' o' c')) = _
  rw [e1, e2]
  rfl
 | cond q t e iht ihe =>
  intro f o c Q
  have e1 : (fun f o c Q => wpR E vc n c0 cuts t f o c Q) = fun f o c Q => wp E vc n c0 cuts t f o c Q := by funext f o c Q; exact iht ..
  have e2 : (fun f o c Q => wpR E vc n c0 cuts e f o c Q) = fun f o c Q => wp E vc n c0 cuts e f o c Q := by funext f o c Q; exact ihe ..
  show (match evOk E q with
  | false => False
  | true => (match evT E f q with
   | .s (.bool b) => (match b with
    | true => (fun f o c Q => wpR E vc n c0 cuts t f o c Q) f o c Q
    | false => (fun f o c Q => wpR E vc n c0 cuts e f o c Q) f o c Q)
   | _ => False)) = _
  rw [e1, e2]
  rfl
 | block id b ih =>
  intro f o c Q
  have e1 : (fun f o c Q => wpR E vc n c0 cuts b f o c Q) = fun f o c Q => wp E vc n c0 cuts b f o c Q := by funext f o c Q; exact ih ..
  show (match memN id cuts with
  | false => (fun f o c Q => wpR E vc n c0 cuts b f o c Q) f o c fun ex f' o' c' => (match ex with
   | .exit id' => (match Nat.beq id' id with
    | true => Q .normal f' o' c'
    | false => Q (.exit id') f' o' c')
   | .normal => Q .normal f' o' c'
   | .ret => Q .ret f' o' c')
  | true => ∃ Mid : RK, ((fun f o c Q => wpR E vc n c0 cuts b f o c Q) f o c fun ex f' o' c' => (match ex with
   | .exit id' => (match Nat.beq id' id with
    | true => toldAs c0 f' o' c' Mid
    | false => Q (.exit id') f' o' c')
   | .normal => toldAs c0 f' o' c' Mid
   | .ret => Q .ret f' o' c')) ∧ ∀ f' o' c', Mid f' o' c' → Q .normal f' o' c') = _
  rw [e1]
  rfl
 | loop b ih =>
  intro f o c Q
  have e1 : (fun f o c Q => wpR E vc n c0 cuts b f o c Q) = fun f o c Q => wp E vc n c0 cuts b f o c Q := by funext f o c Q; exact ih ..
  show (∃ Inv : Nat → Fr → Ob → Nat → Prop, (∃ k, toldAs c0 f o c (Inv k)) ∧
   ∀ k f1 o1 c1, Inv k f1 o1 c1 → (fun f o c Q => wpR E vc n c0 cuts b f o c Q) f1 o1 c1 fun ex f' o' c' => (match ex with
    | .normal => ∃ k', toldAs c0 f' o' c' (Inv k') ∧ k' < k
    | .exit id => Q (.exit id) f' o' c'
    | .ret => Q .ret f' o' c')) = _
  rw [e1]
  rfl
 | _ => intros; rfl
theorem VC.enterR {E T : Env} (L : EnvLe T E) {g : FuncId} {fn : Func} {code : Code} {c0 : Nat} {args : List TV} {o0 : Ob} {R : TV → Ob → Nat → Prop} (hf : E.func g = some fn) (ho : ∀ a h, E.orc g a h = none) (hb : fn.body = some code) (hlen : Nat.ble args.length fn.ntmps = true)
 (cuts : List Nat) (hw : wpR T (VC E) fn.ntmps c0 cuts code (argsF 0 args) o0 c0 (wret T c0 fn.results.toList R)) : VC E g c0 args o0 R :=
 VC.enter L hf ho hb hlen cuts (by rw [← wpR_eq]; exact hw)
theorem D1 {b : Bool} {K : Prop} (k : K) (h : b = true := by kernel_rfl) : Drawn b K := ⟨h, k⟩
theorem t3 {a b c : Prop} (h1 : a := by (repeat' first|with_reducible exact Lz.rfl|exact Lw.rfl|exact Lz.wrap (by omega)|(unfold goInt;with_reducible exact Lz.rfl)|exact flx _|constructor)) (h2 : b := by (repeat' first|with_reducible exact Lz.rfl|exact Lw.rfl|exact Lz.wrap (by omega)|(unfold goInt;with_reducible exact Lz.rfl)|exact flx _|constructor)) (h3 : c := by rfl) : a ∧ b ∧ c := ⟨h1, h2, h3⟩
end Go.M
namespace Go.M
open Go Go.Proofs
def names0 : List Value := [.string ⟨#[110, 111, 111, 112]⟩, .string ⟨#[114, 101, 109, 111, 118, 101]⟩, .string ⟨#[97, 112, 112, 101, 110, 100]⟩, .string ⟨#[112, 114, 111, 109, 111, 116, 101]⟩, .string ⟨#[115, 101, 116, 116, 108, 101]⟩]
def pow0 : List Value := (List.range 20).map fun k => .int .u64 ((10 ^ k : Nat) : Int)
def tabs0 (mx : Int) : Tabs := [(0, names0), (4, [.int .i64 mx]), (2, [.chan (some 0)]), (3, pow0)]
def fmtU : List Value → Option Value
 | [.int .u64 n, .int .i64 b] => grd (decide (0 ≤ n ∧ n < 18446744073709551616 ∧ b = 10)) (Value.string ⟨(Lib.decDigits n.toNat).toArray⟩)
 | _ => none
def itoaS : List Value → Option Value
 | [.int .i64 n] => grd (decide (0 ≤ n ∧ n < 100)) (Value.string ⟨(Lib.decDigits n.toNat).toArray⟩)
 | _ => none
def plainF : List Value → Option Value
 | [.string s] => some (.bool (plainB s))
 | _ => none
def pure0 : List (Nat × (List Value → Option Value)) := [(55, fmtU), (37, itoaS), (34, plainF)]
noncomputable def E0 (mx : Int) := envT Tryd.prog (tabs0 mx) (orcS (tabs0 mx) pure0 (orcU 2 109 [35] (orcP 4 [31] (orcJ [36] (orcX (tabs0 mx) [7] (orcV [] []))))))
theorem orcS_skip {l : Tabs} {fs : List (Nat × (List Value → Option Value))} {rest : FuncId → List Value → AHeap → Option (Value × AHeap)} {g : Nat} {a : List Value} {h : AHeap} (hl : look fs g = none) : orcS l fs rest g a h = rest g a h := by
 unfold orcS
 rw [hl]
 rfl
theorem orcU_skip {gr tE : Nat} {js : List Nat} {rest : FuncId → List Value → AHeap → Option (Value × AHeap)} {g : Nat} {a : List Value} {h : AHeap} (hl : memN g js = false) : orcU gr tE js rest g a h = rest g a h := by
 unfold orcU
 rw [hl]
theorem orcP_skip {gm : Nat} {js : List Nat} {rest : FuncId → List Value → AHeap → Option (Value × AHeap)} {g : Nat} {a : List Value} {h : AHeap} (hl : memN g js = false) : orcP gm js rest g a h = rest g a h := by
 unfold orcP
 rw [hl]
theorem orcJ_skip {js : List Nat} {rest : FuncId → List Value → AHeap → Option (Value × AHeap)} {g : Nat} {a : List Value} {h : AHeap} (hl : memN g js = false) : orcJ js rest g a h = rest g a h := by
 unfold orcJ
 rw [hl]
noncomputable def T0 (mx : Int) := tE (E0 mx) [25]
set_option maxRecDepth 100000
theorem rows0 (mx : Int) : [25].all (eqRow (E0 mx)) = true := by kernel_rfl
theorem L0 (mx : Int) : EnvLe (T0 mx) (E0 mx) := tE_le (fun t z h => by
 simp only [E0, envT, envOf, Option.bind_eq_some_iff, grd_some, Option.some.injEq] at h
 obtain ⟨i, h1, z', h2, h3, rfl⟩ := h
 exact h3) (rows0 mx)
theorem eqL1_refl_int (n : Int) : eqL1 (.int .i64 n) (.int .i64 n) = true := by
 simp [eqL1]
theorem tabsB0 (mx : Int) : tabsB (tabs0 mx) 5 = true := by
 have h1 : tabsB [(0, names0), (2, [.chan (some 0)]), (3, pow0)] 5 = true := by kernel_rfl
 unfold tabsB at h1 ⊢
 unfold tabs0
 simp only [List.all_cons, List.all_nil, Bool.and_true, Bool.and_eq_true] at h1 ⊢
 refine ⟨h1.1, ⟨⟨by decide, by simp [tabV, plain1, cT1, fz, plainE]⟩, ?_⟩, h1.2.1, h1.2.2⟩
 show eqLs [.int .i64 mx] [.int .i64 mx] = true
 unfold eqLs
 rw [eqL1_refl_int]
 rfl
theorem awake_r {mx : Int} : VC (E0 mx) 7 0 [] [] (RR (.s (.bool true)) 0 []) := by
 intro base ρ F h S vargs hN hM hO hA
 obtain ⟨fn, hf⟩ := Option.isSome_iff_exists.1 (show ((E0 mx).func 7).isSome = true by kernel_rfl)
 obtain rfl := hA.inv_nil
 have ho : (E0 mx).orc 7 [] h = some (.bool true, h) := by
  show orcS (tabs0 mx) pure0 (orcU 2 109 [35] (orcP 4 [31] (orcJ [36] (orcX (tabs0 mx) [7] (orcV [] []))))) 7 [] h = _
  rw [orcS_skip rfl, orcU_skip rfl, orcP_skip rfl, orcJ_skip rfl]
  unfold orcX
  rw [show memN 7 [7] = true from rfl, tabsIn_of (E := E0 mx) rfl (tabsB0 mx) hN]
 refine ⟨0, .bool true, h, ρ, F, .s (.bool true), [], 0, ?_, ⟨rfl, rfl, rfl⟩, hM, .s rfl⟩
 unfold acall acallB
 rw [hf]
 simp only [Option.bind_some, ho]
theorem split_ok {mx : Int} (s sep : ByteArray) (h1 : s.size < 1000000) (h2 : 1 ≤ sep.size) : VC (E0 mx) 31 0 [.s (.string s), .s (.string sep)] [] (RR (.tk 0) 1 [(0, .arr 1 true ((piecesB s sep).map fun x => [.s (.string x)]))]) :=
 VC.splitO s sep (gm := 4) (n0 := mx) rfl (by kernel_rfl) (fun a h r hr => by
  show orcS (tabs0 mx) pure0 (orcU 2 109 [35] (orcP 4 [31] (orcJ [36] (orcX (tabs0 mx) [7] (orcV [] []))))) 31 a h = _
  rw [orcS_skip rfl, orcU_skip rfl]
  unfold orcP
  rw [show memN 31 [31] = true from rfl, hr]) h1 h2
theorem itoa_ok {mx : Int} (n : Int) (h0 : 0 ≤ n) (h1 : n < 100) (c0 : Nat) (o0 : Ob) : VC (E0 mx) 37 c0 [.s (.int .i64 n)] o0 (RR (.s (.string ⟨(Lib.decDigits n.toNat).toArray⟩)) c0 o0) :=
 VC.pureO (fs := pure0) (f := itoaS) (vs := [.int .i64 n]) (v := .string ⟨(Lib.decDigits n.toNat).toArray⟩) (tabsB0 mx) (by kernel_rfl) rfl (grd_some.2 ⟨decide_eq_true ⟨h0, h1⟩, rfl⟩) rfl rfl
theorem fmt55_ok {mx : Int} (n : Int) (h0 : 0 ≤ n) (h1 : n < 18446744073709551616) (c0 : Nat) (o0 : Ob) : VC (E0 mx) 55 c0 [.s (.int .u64 n), .s (.int .i64 10)] o0 (RR (.s (.string ⟨(Lib.decDigits n.toNat).toArray⟩)) c0 o0) :=
 VC.pureO (fs := pure0) (f := fmtU) (vs := [.int .u64 n, .int .i64 10]) (v := .string ⟨(Lib.decDigits n.toNat).toArray⟩) (tabsB0 mx) (by kernel_rfl) rfl (grd_some.2 ⟨decide_eq_true ⟨h0, h1, rfl⟩, rfl⟩) rfl rfl
theorem plain_ok {mx : Int} (s : ByteArray) (c0 : Nat) (o0 : Ob) : VC (E0 mx) 34 c0 [.s (.string s)] o0 (RR (.s (.bool (plainB s))) c0 o0) :=
 VC.pureO (fs := pure0) (f := plainF) (vs := [.string s]) (v := .bool (plainB s)) (tabsB0 mx) (by kernel_rfl) rfl rfl rfl rfl
theorem orcU_at {mx : Int} (a : List Value) (h : AHeap) (r : Value × AHeap) (hr : parseK 2 109 a h = some r) : (E0 mx).orc 35 a h = some r := by
 show orcS (tabs0 mx) pure0 (orcU 2 109 [35] (orcP 4 [31] (orcJ [36] (orcX (tabs0 mx) [7] (orcV [] []))))) 35 a h = _
 rw [orcS_skip rfl]
 unfold orcU
 rw [show memN 35 [35] = true from rfl, hr]
theorem parse_ok {mx : Int} (s : ByteArray) (u : Nat) (h1 : s.size < 1000000) (hu : Lib.parseUintB 64 s.data.toList = .ok u) (c0 : Nat) (o0 : Ob) : VC (E0 mx) 35 c0 [.s (.string s), .s (.int .i64 10), .s (.int .i64 64)] o0 (RR (.tup [.s (.int .u64 u), .s .nilIface]) c0 o0) :=
 VC.parseOk (gr := 2) (tE := 109) s u (by kernel_rfl) orcU_at h1 hu
theorem parse_range {mx : Int} (s : ByteArray) (h1 : s.size < 1000000) (hu : Lib.parseUintB 64 s.data.toList = .range) (c0 : Nat) : VC (E0 mx) 35 c0 [.s (.string s), .s (.int .i64 10), .s (.int .i64 64)] [] (RR (.tup [.s (.int .u64 18446744073709551615), .ifc 109 .j]) (c0 + 1) [(c0, .arr 1 true [])]) :=
 VC.parseRange (gr := 2) (tE := 109) (n0 := 0) s rfl (by kernel_rfl) orcU_at h1 hu
theorem joinS_ok {mx : Int} (xs : List ByteArray) (sep : ByteArray) (hne : 0 < xs.length) (hl : xs.length ≤ 100000) (hj : (Lib.join (xs.map (·.data.toList)) sep.data.toList).length ≤ 1000000) (c0 : Nat) (o0 : Ob) :
 VC (E0 mx) 36 c0 [.sl 1 (xs.map encS) false, .s (.string sep)] o0 (RR (.s (.string ⟨(Lib.join (xs.map (·.data.toList)) sep.data.toList).toArray⟩)) c0 o0) :=
 VC.joinO (by kernel_rfl) (fun args h r hr => by
  show orcS (tabs0 mx) pure0 (orcU 2 109 [35] (orcP 4 [31] (orcJ [36] (orcX (tabs0 mx) [7] (orcV [] []))))) 36 args h = _
  rw [orcS_skip rfl, orcU_skip rfl, orcP_skip rfl]
  unfold orcJ
  rw [show memN 36 [36] = true from rfl, hr]) hne hl hj
end Go.M
namespace Go.M
open Go Go.Proofs
set_option maxRecDepth 100000
set_option maxHeartbeats 4000000
variable {mx : Int}
noncomputable def eqB {α : Type} (a b : α) : Bool := @decide (a = b) (Classical.propDecidable _)
theorem eqB_iff {α : Type} {a b : α} : eqB a b = true ↔ a = b := by unfold eqB; simp
theorem eqB_false {α : Type} {a b : α} : eqB a b = false ↔ a ≠ b := by unfold eqB; simp
theorem take_snoc {α : Type} (l : List α) (i : Nat) (h : i < l.length) : l.take (i + 1) = l.take i ++ [l[i]] := by rw [List.take_succ_eq_append_getElem h]
def checkS (k ch ep nd : Int) : Int := if k < 0 ∨ k ≥ 5 then 1 else if k = 0 then (if ch ≠ 0 ∨ ep ≠ 0 ∨ nd ≠ 0 then 4 else 0) else if ch < 0 ∨ ch ≥ 4 ∨ ep < 1 ∨ nd < 1 ∨ nd > 24 then 4 else 0
@[reducible] def cmdT (k ch ep nd : Int) : TV := .agg [.s (.int .i64 k), .s (.int .i64 ch), .s (.int .u64 ep), .s (.int .i64 nd)]
theorem check_ok (k ch ep nd : Int) : VC (E0 mx) 25 0 [cmdT k ch ep nd] [] (RR (.s (.int .i64 (checkS k ch ep nd))) 0 []) := by
 refine VC.enterR (L0 mx) (show (E0 mx).func 25 = some Tryd.f25 by kernel_rfl) (fun _ _ => rfl) rfl rfl [] ?_
 ((conv=>whnf)<;>repeat(with_reducible refine D1 ?_)<;>conv=>whnf)
 repeat' (first | ((first | (refine ⟨fun h => ?_, fun h => ?_⟩) | (refine nsplit (fun h => ?_) (fun h => ?_)) | (refine bsplit (fun h => ?_) (fun h => ?_))) <;> ((conv=>whnf)<;>repeat(with_reducible refine D1 ?_)<;>conv=>whnf)))
 all_goals (refine ⟨[], [], [], _, _, ⟨?_, .nil, rfl⟩, rfl, rfl, rfl⟩)
 all_goals (refine .s (Lz.int ?_); simp [veq1, checkS] at *; grind)
theorem refCheck_ok (k ch ep nd : Int) (he : 0 ≤ ep) : VC (E0 mx) 15 0 [cmdT k ch ep nd] [] (RR (.s (.int .i64 (checkS k ch ep nd))) 0 []) := by
 refine VC.enterR (L0 mx) (show (E0 mx).func 15 = some Tryd.f15 by kernel_rfl) (fun _ _ => rfl) rfl rfl [] ?_
 ((conv=>whnf)<;>repeat(with_reducible refine D1 ?_)<;>conv=>whnf)
 repeat' (first | ((first | (refine ⟨fun h => ?_, fun h => ?_⟩) | (refine nsplit (fun h => ?_) (fun h => ?_)) | (refine bsplit (fun h => ?_) (fun h => ?_))) <;> ((conv=>whnf)<;>repeat(with_reducible refine D1 ?_)<;>conv=>whnf)))
 all_goals (refine ⟨[], [], [], _, _, ⟨?_, .nil, rfl⟩, rfl, rfl, rfl⟩)
 all_goals (refine .s (Lz.int ?_); simp [checkS] at *; grind)
structure Cmd where
 kind : Int
 chain : Int
 epoch : Int
 node : Int
@[reducible] def cT4 (c : Cmd) : TV := cmdT c.kind c.chain c.epoch c.node
def Cmd.check (c : Cmd) : Int := checkS c.kind c.chain c.epoch c.node
end Go.M
namespace Go.M
open Go Go.Proofs
def valL : List UInt8 → Nat → Nat
 | [], a => a
 | c :: r, a => valL r (a * 10 + (c.toNat - 48))
theorem valL_ge : ∀ (l : List UInt8) (a : Nat), a ≤ valL l a
 | [], a => Nat.le_refl _
 | c :: r, a => by
  have := valL_ge r (a * 10 + (c.toNat - 48))
  show a ≤ valL r _
  omega
theorem valL_snoc : ∀ (l : List UInt8) (c : UInt8) (a : Nat), valL (l ++ [c]) a = valL l a * 10 + (c.toNat - 48)
 | [], c, a => rfl
 | x :: r, c, a => valL_snoc r c _
theorem parseM : ∀ (l : List UInt8) (a : Nat), a ≤ 18446744073709551615 → l.all isD = true → Lib.parseUintM (2 ^ 64 - 1) a l = if valL l a ≤ 18446744073709551615 then .ok (valL l a) else .range
 | [], a, ha, _ => by
  show Lib.NumEnd.ok a = _
  rw [show valL [] a = a from rfl, if_pos ha]
 | c :: r, a, ha, hd => by
  rw [List.all_cons, Bool.and_eq_true] at hd
  have hc := (isD_iff c).1 hd.1
  have hge := valL_ge r (a * 10 + (c.toNat - 48))
  have e : valL (c :: r) a = valL r (a * 10 + (c.toNat - 48)) := rfl
  show (if 48 ≤ c.toNat ∧ c.toNat ≤ 57 then _ else _) = _
  rw [if_pos hc, e]
  by_cases h1 : 1844674407370955162 ≤ a
  ·rw [if_pos h1, if_neg (by omega)]
  ·rw [if_neg h1]
   by_cases h2 : 2 ^ 64 - 1 < a * 10 + (c.toNat - 48)
   ·rw [if_pos h2, if_neg (by omega)]
   ·rw [if_neg h2, parseM r _ (by omega) hd.2]
def numV (s : ByteArray) : Nat := valL s.data.toList 0
theorem plainB_iff (s : ByteArray) : plainB s = true ↔ s.data.toList.all isD = true ∧ ¬ (s.data.toList.head? = some 48 ∧ 1 < s.size) ∧ 0 < s.size ∧ s.size ≤ 20 := by
 unfold plainB
 simp only [Bool.and_eq_true, Bool.not_eq_true', Bool.and_eq_false_iff, decide_eq_false_iff_not, Nat.blt_eq, Nat.ble_eq]
 constructor
 ·rintro ⟨⟨h1, h2⟩, h3, h4⟩
  refine ⟨h1, ?_, h3, h4⟩
  rintro ⟨a, b⟩
  rcases h2 with h | h
  ·exact h a
  ·have b' : Nat.blt 1 s.size = true := by simpa using b
   rw [h] at b'; cases b'
 ·rintro ⟨h1, h2, h3, h4⟩
  refine ⟨⟨h1, ?_⟩, h3, h4⟩
  by_cases a : s.data.toList.head? = some 48
  ·right
   cases hb : Nat.blt 1 s.size with
   | false => rfl
   | true => exact absurd ⟨a, by simpa using hb⟩ h2
  ·exact .inl a
theorem size_len (s : ByteArray) : s.data.toList.length = s.size := by
 show s.data.toList.length = s.data.size
 simp
theorem parse_plain {s : ByteArray} (h : plainB s = true) : Lib.parseUintB 64 s.data.toList = if numV s ≤ 18446744073709551615 then .ok (numV s) else .range := by
 obtain ⟨h1, _, h3, _⟩ := (plainB_iff s).1 h
 unfold Lib.parseUintB
 rw [if_neg fun e => by have := size_len s; rw [e] at this; simp at this; omega]
 exact parseM _ 0 (by omega) h1
def numR (s : ByteArray) (most : Int) : Int × Int := if plainB s = true then (if numV s ≤ 18446744073709551615 ∧ (numV s : Int) ≤ most then ((numV s : Int), 0) else (0, 6)) else (0, 4)
theorem numR_0 {s : ByteArray} {m : Int} (h : (numR s m).2 = 0) : plainB s = true ∧ numV s ≤ 18446744073709551615 ∧ (numV s : Int) ≤ m ∧ (numR s m).1 = numV s := by
 unfold numR at h ⊢
 by_cases h1 : plainB s = true
 ·rw [if_pos h1] at h ⊢
  by_cases h2 : numV s ≤ 18446744073709551615 ∧ (numV s : Int) ≤ m
  ·rw [if_pos h2]
   exact ⟨h1, h2.1, h2.2, rfl⟩
  ·rw [if_neg h2] at h; cases h
 ·rw [if_neg h1] at h; cases h
theorem numR_in {s : ByteArray} {m : Int} (h1 : plainB s = true) (h2 : numV s ≤ 18446744073709551615) (h3 : (numV s : Int) ≤ m) : numR s m = ((numV s : Int), 0) := by
 unfold numR
 rw [if_pos h1, if_pos ⟨h2, h3⟩]
theorem numR_range (s : ByteArray) (m : Int) : 0 ≤ (numR s m).1 ∧ (numR s m).1 < 18446744073709551616 := by
 unfold numR
 split
 ·split
  ·simp only; omega
  ·simp
 ·simp
theorem dig_of {c : UInt8} (h : isD c = true) : UInt8.ofNat (48 + (c.toNat - 48)) = c := by
 have := (isD_iff c).1 h
 rw [show 48 + (c.toNat - 48) = c.toNat by omega]
 simp
theorem digits_val : ∀ (k : Nat) (l : List UInt8), l.length = k → l ≠ [] → l.all isD = true → (l.head? = some 48 → l.length = 1) → Lib.decDigits (valL l 0) = l
 | 0, l, hk, hn, _, _ => absurd (List.length_eq_zero_iff.1 hk) hn
 | k + 1, l, hk, hn, hd, hz => by
  obtain ⟨p, c, rfl⟩ : ∃ p c, l = p ++ [c] := ⟨l.dropLast, l.getLast hn, (List.dropLast_concat_getLast hn).symm⟩
  rw [List.all_append, Bool.and_eq_true] at hd
  have hc : isD c = true := by simpa using hd.2
  have hcr := (isD_iff c).1 hc
  rw [valL_snoc]
  by_cases hp : p = []
  ·subst hp
   rw [show valL [] 0 = 0 from rfl, Nat.zero_mul, Nat.zero_add, Lib.decDigits_one (by omega), dig_of hc]
   rfl
  ·have hlen : p.length = k := by simpa using hk
   have hk1 : 1 ≤ k := by
    cases p with
    | nil => exact absurd rfl hp
    | cons _ _ => simp at hlen; omega
   have hh : p.head? ≠ some 48 := fun e => by
    have : (p ++ [c]).head? = some 48 := by
     cases p with
     | nil => exact absurd rfl hp
     | cons x r => simpa using e
    have := hz this
    exact hp (by simpa using this)
   have ih := digits_val k p hlen hp hd.1 fun e => absurd e hh
   have hpos : 1 ≤ valL p 0 := by
    cases p with
    | nil => exact absurd rfl hp
    | cons x r =>
     have hx := hd.1
     rw [List.all_cons, Bool.and_eq_true] at hx
     have hxr := (isD_iff x).1 hx.1
     have h48 : x.toNat ≠ 48 := fun e => hh (by rw [List.head?_cons]; exact congrArg some (UInt8.toNat_inj.1 (by simpa using e)))
     have := valL_ge r (0 * 10 + (x.toNat - 48))
     show 1 ≤ valL r (0 * 10 + (x.toNat - 48))
     omega
   rw [Lib.decDigits, dif_neg (by omega), show (valL p 0 * 10 + (c.toNat - 48)) / 10 = valL p 0 from by omega, show (valL p 0 * 10 + (c.toNat - 48)) % 10 = c.toNat - 48 from by omega, ih, dig_of hc]
theorem val_digits (n : Nat) : valL (Lib.decDigits n) 0 = n ∧ (Lib.decDigits n).all isD = true ∧ Lib.decDigits n ≠ [] ∧ ((Lib.decDigits n).head? = some 48 → n = 0) := by
 induction n using Nat.strongRecOn with
 | _ n ih =>
  have dd : ∀ d, d < 10 → isD (UInt8.ofNat (48 + d)) = true ∧ (UInt8.ofNat (48 + d)).toNat = 48 + d := fun d hd => by
   have e : (UInt8.ofNat (48 + d)).toNat = 48 + d := by
    rw [UInt8.toNat_ofNat']
    exact Nat.mod_eq_of_lt (by omega)
   exact ⟨(isD_iff _).2 (by omega), e⟩
  by_cases h : n < 10
  ·rw [Lib.decDigits_one h]
   obtain ⟨q1, q2⟩ := dd n h
   refine ⟨?_, ?_, by simp, fun e => ?_⟩
   ·show 0 * 10 + ((UInt8.ofNat (48 + n)).toNat - 48) = n
    omega
   ·rw [List.all_cons, q1]; rfl
   ·have e : UInt8.ofNat (48 + n) = 48 := by simpa using e
    rw [e] at q2
    have : (48 : UInt8).toNat = 48 := rfl
    omega
  ·obtain ⟨i1, i2, i3, i4⟩ := ih (n / 10) (by omega)
   obtain ⟨q1, q2⟩ := dd (n % 10) (by omega)
   rw [Lib.decDigits, dif_neg h]
   refine ⟨?_, ?_, by simp, fun e => ?_⟩
   ·rw [valL_snoc, i1, q2]; omega
   ·rw [List.all_append, i2, List.all_cons, q1]; rfl
   ·have : (Lib.decDigits (n / 10)).head? = some 48 := by
     revert e i3
     cases Lib.decDigits (n / 10) with
     | nil => intro i3; exact absurd rfl i3
     | cons x r => intro _ e; simpa using e
    have := i4 this
    omega
@[reducible] def decS (n : Nat) : ByteArray := ⟨(Lib.decDigits n).toArray⟩
theorem decS_size (n : Nat) (h : n < 18446744073709551616) : 0 < (decS n).size ∧ (decS n).size ≤ 20 := by
 show 0 < (Lib.decDigits n).toArray.size ∧ (Lib.decDigits n).toArray.size ≤ 20
 rw [List.size_toArray, Lib.decDigits_length]
 exact ⟨Lib.nDigits_pos n, Lib.nDigits_le20 n h⟩
theorem plain_dec (n : Nat) (h : n < 18446744073709551616) : plainB (decS n) = true ∧ numV (decS n) = n := by
 obtain ⟨h1, h2, h3, h4⟩ := val_digits n
 have hs := decS_size n h
 refine ⟨(plainB_iff _).2 ⟨h2, fun ⟨a, b⟩ => ?_, hs.1, hs.2⟩, h1⟩
 have : n = 0 := h4 a
 subst this
 have : (decS 0).size = 1 := by
  show (Lib.decDigits 0).toArray.size = 1
  rw [List.size_toArray, Lib.decDigits_length, Lib.nDigits_small (by omega)]
 omega
theorem dec_num {s : ByteArray} (h : plainB s = true) : decS (numV s) = s := by
 obtain ⟨h1, h2, h3, h4⟩ := (plainB_iff s).1 h
 have hl := size_len s
 have := digits_val _ s.data.toList rfl (fun e => by rw [e] at hl; simp at hl; omega) h1 fun e => by
  by_cases h5 : 1 < s.size
  ·exact absurd ⟨e, h5⟩ h2
  ·omega
 apply ByteArray.ext
 show (Lib.decDigits (valL s.data.toList 0)).toArray = s.data
 rw [this]
theorem numR_dec {n : Nat} {m : Int} (h : n < 18446744073709551616) (hm : (n : Int) ≤ m) : numR (decS n) m = ((n : Int), 0) := by
 obtain ⟨h1, h2⟩ := plain_dec n h
 have := numR_in (m := m) h1 (by omega) (by rw [h2]; exact hm)
 rw [this, h2]
@[reducible] def spB : ByteArray := ⟨#[32]⟩
def wordsL : List UInt8 → List UInt8 → List (List UInt8)
 | [], cur => [cur]
 | c :: r, cur => if c = 32 then cur :: wordsL r [] else wordsL r (cur ++ [c])
theorem wordsL_no : ∀ (a cur : List UInt8), (32 : UInt8) ∉ a → wordsL a cur = [cur ++ a]
 | [], cur, _ => by rw [List.append_nil]; rfl
 | c :: r, cur, h => by
  rw [List.mem_cons, not_or] at h
  show (if c = 32 then _ else _) = _
  rw [if_neg (Ne.symm h.1), wordsL_no r _ h.2, List.append_assoc]
  rfl
theorem wordsL_app : ∀ (a b cur : List UInt8), (32 : UInt8) ∉ a → wordsL (a ++ 32 :: b) cur = (cur ++ a) :: wordsL b []
 | [], b, cur, _ => by
  show (if (32 : UInt8) = 32 then _ else _) = _
  rw [if_pos rfl, List.append_nil]
 | c :: r, b, cur, h => by
  rw [List.mem_cons, not_or] at h
  show (if c = 32 then _ else wordsL (r ++ 32 :: b) (cur ++ [c])) = _
  rw [if_neg (Ne.symm h.1), wordsL_app r b _ h.2, List.append_assoc]
  rfl
theorem split_at32 : ∀ (l : List UInt8), (32 : UInt8) ∈ l → ∃ a b, l = a ++ 32 :: b ∧ (32 : UInt8) ∉ a
 | [], h => by cases h
 | c :: r, h => by
  by_cases hc : c = 32
  ·exact ⟨[], r, by rw [hc]; rfl, by simp⟩
  ·obtain ⟨a, b, rfl, h2⟩ := split_at32 r (by
    rcases List.mem_cons.1 h with e | h
    ·exact absurd e.symm hc
    ·exact h)
   exact ⟨c :: a, b, rfl, by rw [List.mem_cons, not_or]; exact ⟨fun e => hc e.symm, h2⟩⟩
theorem index_at : ∀ (a b : List UInt8), (32 : UInt8) ∉ a → Lib.index (a ++ 32 :: b) [32] = a.length
 | [], b, _ => by
  show Lib.index (32 :: b) [32] = _
  unfold Lib.index
  rw [show ([32] : List UInt8).isPrefixOf (32 :: b) = true by simp [List.isPrefixOf]]
  rfl
 | c :: r, b, h => by
  rw [List.mem_cons, not_or] at h
  have e : ([32] : List UInt8).isPrefixOf (c :: (r ++ 32 :: b)) = false := by
   simp [List.isPrefixOf, h.1]
  show Lib.index (c :: (r ++ 32 :: b)) [32] = _
  unfold Lib.index
  rw [e, index_at r b h.2]
  have : ((r.length : Int) == -1) = false := by simp
  simp [this]
theorem splitK_words : ∀ (k : Nat) (l : List UInt8), l.count 32 = k → Lib.splitK [32] 0 k l = wordsL l []
 | 0, l, h => by
  rw [wordsL_no l [] (List.count_eq_zero.1 h)]
  rfl
 | k + 1, l, h => by
  obtain ⟨a, b, rfl, h2⟩ := split_at32 l (List.count_pos_iff.1 (by omega))
  rw [List.count_append, List.count_cons_self, List.count_eq_zero.2 h2] at h
  rw [wordsL_app a b [] h2]
  unfold Lib.splitK
  rw [index_at a b h2, if_neg (by simp)]
  have e1 : (a ++ 32 :: b).take ((a.length : Int).toNat + 0) = a := by simp
  have e2 : (a ++ 32 :: b).drop ((a.length : Int).toNat + ([32] : List UInt8).length) = b := by
   rw [Int.toNat_natCast, ← List.drop_drop, List.drop_left]
   rfl
  rw [e1, e2, splitK_words k b (by omega)]
  rfl
def wordsB (s : ByteArray) : List ByteArray := (wordsL s.data.toList []).map fun x => ⟨x.toArray⟩
theorem pieces_words (s : ByteArray) : piecesB s spB = wordsB s := by
 have h := Lib.splitB_data spB 0 (Lib.countB s spB) s
 have e : Lib.countB s spB = s.data.toList.count 32 := by
  have := Lib.count_one 32 s.data.toList
  rw [← this]
 rw [e] at h
 have h2 := splitK_words _ s.data.toList rfl
 unfold piecesB wordsB
 rw [e, ← h2]
 show _ = (Lib.splitK spB.data.toList 0 _ _).map _
 rw [← h, List.map_map]
 conv => lhs; rw [← List.map_id (Lib.splitB spB 0 _ s)]
 exact List.map_congr_left fun x _ => rfl
theorem wordsL_ne : ∀ (l cur : List UInt8), wordsL l cur ≠ []
 | [], cur => by simp [wordsL]
 | c :: r, cur => by
  show (if c = 32 then _ else _) ≠ []
  split
  ·simp
  ·exact wordsL_ne r _
theorem join_two (x : List UInt8) (r : List (List UInt8)) (sep : List UInt8) (h : r ≠ []) : Lib.join (x :: r) sep = x ++ sep ++ Lib.join r sep := by
 cases r with
 | nil => exact absurd rfl h
 | cons y r =>
  unfold Lib.join
  rw [List.intercalate_cons_cons]
theorem join_words : ∀ (l cur : List UInt8), Lib.join (wordsL l cur) [32] = cur ++ l
 | [], cur => by rw [show wordsL [] cur = [cur] from rfl, Lib.join_one, List.append_nil]
 | c :: r, cur => by
  by_cases h : c = 32
  ·subst h
   rw [show wordsL (32 :: r) cur = cur :: wordsL r [] from if_pos rfl, join_two _ _ _ (wordsL_ne _ _), join_words r []]
   simp
  ·rw [show wordsL (c :: r) cur = wordsL r (cur ++ [c]) from if_neg h, join_words r]
   simp
end Go.M
namespace Go.M
open Go
@[reducible] def encU1 (n : Int) : List TV := [.s (.int .u8 n)]
def bigL : Nat → Nat → List Int
 | 0, _ => []
 | w + 1, n => bigL w (n / 256) ++ [((n % 256 : Nat) : Int)]
theorem bigL_len : ∀ w n, (bigL w n).length = w
 | 0, _ => rfl
 | w + 1, n => by unfold bigL; rw [List.length_append, bigL_len w]; rfl
theorem bigL_cons : ∀ w n, bigL (w + 1) n = ((n / 256 ^ w % 256 : Nat) : Int) :: bigL w n
 | 0, n => by simp [bigL]
 | w + 1, n => by
  rw [bigL, bigL_cons w (n / 256), Nat.div_div_eq_div_mul, Nat.pow_succ', List.cons_append]
  rfl
theorem bigL_byte : ∀ w n, ∀ x ∈ bigL w n, 0 ≤ x ∧ x < 256
 | 0, _, x, h => by simp [bigL] at h
 | w + 1, n, x, h => by
  rw [bigL, List.mem_append] at h
  rcases h with h | h
  ·exact bigL_byte w _ x h
  ·simp at h; subst h; omega
def numS (a b : Int) : Int := (a * 256 + b) % 18446744073709551616
def numL (l : List Int) : Int := l.foldl numS 0
theorem numL_snoc (l : List Int) (b : Int) : numL (l ++ [b]) = numS (numL l) b := by
 unfold numL; rw [List.foldl_append]; rfl
theorem numL_range (l : List Int) : 0 ≤ numL l ∧ numL l < 18446744073709551616 := by
 rcases List.eq_nil_or_concat l with rfl | ⟨m, b, rfl⟩
 ·exact ⟨by decide, by decide⟩
 ·rw [List.concat_eq_append, numL_snoc]; unfold numS; omega
theorem numL_ltK : ∀ (k : Nat) (l : List Int), l.length = k → k ≤ 8 → (∀ x ∈ l, 0 ≤ x ∧ x < 256) → numL l < (256 : Int) ^ k
 | 0, l, hl, _, _ => by obtain rfl := List.length_eq_zero_iff.1 hl; decide
 | k + 1, l, hl, hk, hb => by
  rcases List.eq_nil_or_concat l with rfl | ⟨m, b, rfl⟩
  ·simp at hl
  ·rw [List.concat_eq_append] at hl hb ⊢
   rw [List.length_append] at hl
   have h1 := numL_ltK k m (by simpa using hl) (by omega) fun x hx => hb x (List.mem_append_left _ hx)
   have h2 := hb b (by simp)
   have h0 := numL_range m
   rw [numL_snoc]
   unfold numS
   rw [Int.pow_succ]
   have : (numL m * 256 + b) % 18446744073709551616 ≤ numL m * 256 + b := by omega
   omega
theorem numL_lt (l : List Int) (h : l.length ≤ 8) (hb : ∀ x ∈ l, 0 ≤ x ∧ x < 256) : numL l < (256 : Int) ^ l.length := numL_ltK _ l rfl h hb
theorem numL_big : ∀ (w n : Nat), w ≤ 8 → n < 256 ^ w → numL (bigL w n) = n
 | 0, n, _, h => by simp at h; subst h; rfl
 | w + 1, n, hw, h => by
  rw [bigL, numL_snoc, numL_big w (n / 256) (by omega) (by rw [Nat.pow_succ] at h; omega)]
  unfold numS
  have : n < 18446744073709551616 := Nat.lt_of_lt_of_le h (Nat.le_trans (Nat.pow_le_pow_right (by decide) hw) (by decide))
  omega
theorem shr_eq (n i : Nat) (h : i < 9) : vint .shr .u64 .i64 (n : Int) (IntKind.i64.wrap (8 * (i : Int))) = some (.int .u64 ((n / 256 ^ i : Nat) : Int)) := by
 have hw : IntKind.i64.wrap (8 * (i : Int)) = ((8 * i : Nat) : Int) := by rw [IntWalk.i64_in _ (by omega)]; simp
 rw [hw]
 show pureV (Op.shift .shr .u64 (n : Int) .i64 ((8 * i : Nat) : Int)) = _
 unfold Op.shift
 rw [if_neg (by omega), Int.toNat_natCast]
 have hm : min (8 * i) IntKind.u64.bits = 8 * i ∨ i = 8 := by
  show min (8 * i) 64 = _ ∨ _
  omega
 have e2 : (2 : Nat) ^ (8 * i) = 256 ^ i := by rw [Nat.pow_mul]
 have hm2 : min (8 * i) IntKind.u64.bits = 8 * i := by
  show min (8 * i) 64 = _
  omega
 rw [hm2]
 show some (Value.int .u64 ((n : Int).fdiv (2 ^ (8 * i)))) = _
 congr 2
 rw [show ((2 : Int) ^ (8 * i)) = ((256 ^ i : Nat) : Int) from by rw [← e2]; simp]
 exact (Int.ofNat_fdiv n (256 ^ i)).symm
theorem or_eq (a b : Int) (ha : 0 ≤ a) (hb : 0 ≤ b ∧ b < 256) : IntKind.u64.wrap ((BitVec.ofInt 64 (IntKind.u64.wrap (a * 256)) ||| BitVec.ofInt 64 b).toNat : Int) = numS a b := by
 obtain ⟨A, rfl⟩ : ∃ A : Nat, a = A := ⟨a.toNat, by omega⟩
 obtain ⟨B, rfl⟩ : ∃ B : Nat, b = B := ⟨b.toNat, by omega⟩
 have hB : B < 2 ^ 8 := by omega
 have e1 : IntKind.u64.wrap ((A : Int) * 256) = (((A % 2 ^ 56) <<< 8 : Nat) : Int) := by
  rw [IntKind.wrap_u64, Nat.shiftLeft_eq]; omega
 rw [e1]
 have e2 : (BitVec.ofInt 64 (((A % 2 ^ 56) <<< 8 : Nat) : Int) ||| BitVec.ofInt 64 (B : Int)).toNat = (A % 2 ^ 56) <<< 8 + B := by
  rw [BitVec.toNat_or, BitVec.toNat_ofInt, BitVec.toNat_ofInt]
  have h1 : (A % 2 ^ 56) <<< 8 < 2 ^ 64 := by rw [Nat.shiftLeft_eq]; omega
  rw [Nat.shiftLeft_add_eq_or_of_lt hB]
  congr 1
  ·omega
  ·omega
 rw [e2, IntKind.wrap_u64, Nat.shiftLeft_eq]
 unfold numS
 omega
structure InS where
 b : List Int
 e : Int
def InS.next (s : InS) (n : Nat) : InS × Option (List Int) :=
 if s.e ≠ 0 then (s, none) else if s.b.length < n then (⟨[], 3⟩, none) else (⟨s.b.drop n, 0⟩, some (s.b.take n))
def InS.upto (s : InS) (w : Nat) (m : Int) : InS × Int :=
 match s.next w with
 | (s', none) => (s', 0)
 | (s', some b) => if numL b > m then (⟨[], 4⟩, 0) else (s', numL b)
def InS.get (s : InS) (w : Nat) : InS × Int := s.upto w 18446744073709551615
def InS.raw (s : InS) (n : Nat) : InS × List Int := ((s.next n).1, ((s.next n).2).getD [])
theorem InS.next_bytes {s : InS} {n : Nat} (h : ∀ x ∈ s.b, 0 ≤ x ∧ x < 256) : (∀ x ∈ (s.next n).1.b, 0 ≤ x ∧ x < 256) ∧ ∀ l, (s.next n).2 = some l → ∀ x ∈ l, 0 ≤ x ∧ x < 256 := by
 unfold InS.next
 split
 ·exact ⟨h, fun l hl => by cases hl⟩
 ·split
  ·exact ⟨by simp, fun l hl => by cases hl⟩
  ·exact ⟨fun x hx => h x (List.mem_of_mem_drop hx), fun l hl => by cases hl; exact fun x hx => h x (List.mem_of_mem_take hx)⟩
theorem InS.upto_range {s : InS} {n : Nat} {m : Int} : 0 ≤ (s.upto n m).2 ∧ (s.upto n m).2 < 18446744073709551616 := by
 unfold InS.upto
 split
 ·exact ⟨Int.le_refl 0, by show (0 : Int) < _; decide⟩
 ·split
  ·exact ⟨Int.le_refl 0, by show (0 : Int) < _; decide⟩
  ·exact numL_range _
theorem InS.next_len {s : InS} {n : Nat} {l : List Int} (h : (s.next n).2 = some l) : l.length = n := by
 unfold InS.next at h
 split at h
 ·cases h
 ·split at h
  ·cases h
  ·cases h; rw [List.length_take]; omega
theorem InS.get1_lt {s : InS} (h : ∀ x ∈ s.b, 0 ≤ x ∧ x < 256) : (s.get 1).2 < 256 := by
 have hb := (InS.next_bytes (n := 1) h).2
 have hl := fun l => InS.next_len (s := s) (n := 1) (l := l)
 unfold InS.get InS.upto
 split
 ·show (0 : Int) < 256; decide
 ·rename_i s' b e
  rw [e] at hb hl
  split
  ·show (0 : Int) < 256; decide
  ·have h1 := hl b rfl
   have := numL_lt b (by omega) (hb b rfl)
   rw [h1] at this
   exact this
theorem InS.next_app (x r : List Int) : (InS.mk (x ++ r) 0).next x.length = (⟨r, 0⟩, some x) := by
 unfold InS.next
 rw [if_neg (by simp), if_neg (by simp)]
 simp
theorem InS.upto_app (x r : List Int) (m : Int) (h : numL x ≤ m) : (InS.mk (x ++ r) 0).upto x.length m = (⟨r, 0⟩, numL x) := by
 unfold InS.upto
 rw [InS.next_app]
 simp only
 rw [if_neg (by omega)]
end Go.M
namespace Go.M
open Go Go.Proofs
set_option maxRecDepth 100000
set_option maxHeartbeats 4000000
variable {mx : Int}
theorem numText_ok (s : ByteArray) (m : Int) (hm : 0 ≤ m ∧ m < 18446744073709551616) (hs : s.size < 1000000) : VC (E0 mx) 10 0 [.s (.string s), .s (.int .u64 m)] [] (RR (.tup [.s (.int .u64 (numR s m).1), .s (.int .i64 (numR s m).2)]) 0 []) := by
 by_cases hp : plainB s = true
 ·by_cases hv : numV s ≤ 18446744073709551615
  ·by_cases hk : (numV s : Int) ≤ m
   ·rw [numR_in hp hv hk]
    refine VC.enterR (L0 mx) (show (E0 mx).func 10 = some Tryd.f10 by kernel_rfl) (fun _ _ => rfl) rfl rfl [] ?_
    ((conv=>whnf)<;>repeat(with_reducible refine D1 ?_)<;>conv=>whnf)
    refine ⟨[], [], _, _, _, _, plain_ok s 0 [], t3, ?_⟩
    rintro r o c ⟨rfl, rfl, rfl⟩
    rw [hp]
    ((conv=>whnf)<;>repeat(with_reducible refine D1 ?_)<;>conv=>whnf)
    refine ⟨[], [], _, _, _, _, parse_ok s (numV s) hs (by rw [parse_plain hp, if_pos hv]) 0 [], t3, ?_⟩
    rintro r o' c' ⟨rfl, rfl, rfl⟩
    ((conv=>whnf)<;>repeat(with_reducible refine D1 ?_)<;>conv=>whnf)
    (first|refine ⟨?_,?_⟩|refine nsplit ?_ ?_|refine bsplit ?_ ?_)<;>intro hm<;>have hz_:=True.intro<;>clear hz_
    ·exact absurd hm (Int.not_lt.2 hk)
    ·((conv=>whnf)<;>repeat(with_reducible refine D1 ?_)<;>conv=>whnf)
     exact ⟨[], [], _, _, _, t3, rfl, rfl, rfl⟩
   ·have e : numR s m = (0, 6) := by unfold numR; rw [if_pos hp, if_neg (fun q => hk q.2)]
    rw [e]
    refine VC.enterR (L0 mx) (show (E0 mx).func 10 = some Tryd.f10 by kernel_rfl) (fun _ _ => rfl) rfl rfl [] ?_
    ((conv=>whnf)<;>repeat(with_reducible refine D1 ?_)<;>conv=>whnf)
    refine ⟨[], [], _, _, _, _, plain_ok s 0 [], t3, ?_⟩
    rintro r o c ⟨rfl, rfl, rfl⟩
    rw [hp]
    ((conv=>whnf)<;>repeat(with_reducible refine D1 ?_)<;>conv=>whnf)
    refine ⟨[], [], _, _, _, _, parse_ok s (numV s) hs (by rw [parse_plain hp, if_pos hv]) 0 [], t3, ?_⟩
    rintro r o' c' ⟨rfl, rfl, rfl⟩
    ((conv=>whnf)<;>repeat(with_reducible refine D1 ?_)<;>conv=>whnf)
    (first|refine ⟨?_,?_⟩|refine nsplit ?_ ?_|refine bsplit ?_ ?_)<;>intro hm<;>have hz_:=True.intro<;>clear hz_
    ·((conv=>whnf)<;>repeat(with_reducible refine D1 ?_)<;>conv=>whnf)
     exact ⟨[], [], _, _, _, t3, rfl, rfl, rfl⟩
    ·exact absurd (Int.not_lt.1 hm) hk
  ·have e : numR s m = (0, 6) := by unfold numR; rw [if_pos hp, if_neg (fun q => hv q.1)]
   rw [e]
   refine VC.enterR (L0 mx) (show (E0 mx).func 10 = some Tryd.f10 by kernel_rfl) (fun _ _ => rfl) rfl rfl [] ?_
   ((conv=>whnf)<;>repeat(with_reducible refine D1 ?_)<;>conv=>whnf)
   refine ⟨[], [], _, _, _, _, plain_ok s 0 [], t3, ?_⟩
   rintro r o c ⟨rfl, rfl, rfl⟩
   rw [hp]
   ((conv=>whnf)<;>repeat(with_reducible refine D1 ?_)<;>conv=>whnf)
   refine ⟨[], [], _, _, _, _, parse_range s hs (by rw [parse_plain hp, if_neg hv]) 0, t3, ?_⟩
   rintro r o c ⟨rfl, rfl, rfl⟩
   ((conv=>whnf)<;>repeat(with_reducible refine D1 ?_)<;>conv=>whnf)
   exact ⟨[], [], _, _, _, t3, rfl, rfl, rfl⟩
 ·have hp : plainB s = false := by simpa using hp
  have e : numR s m = (0, 4) := by unfold numR; rw [if_neg (by rw [hp]; simp)]
  rw [e]
  refine VC.enterR (L0 mx) (show (E0 mx).func 10 = some Tryd.f10 by kernel_rfl) (fun _ _ => rfl) rfl rfl [] ?_
  ((conv=>whnf)<;>repeat(with_reducible refine D1 ?_)<;>conv=>whnf)
  refine ⟨[], [], _, _, _, _, plain_ok s 0 [], t3, ?_⟩
  rintro r o c ⟨rfl, rfl, rfl⟩
  rw [hp]
  ((conv=>whnf)<;>repeat(with_reducible refine D1 ?_)<;>conv=>whnf)
  exact ⟨[], [], _, _, _, t3, rfl, rfl, rfl⟩
theorem numR_no {s : ByteArray} {m : Int} (h : ¬ (s.data.toList.all isD = true ∧ ¬ (s.data.toList.head? = some 48 ∧ 1 < s.size) ∧ 0 < s.size ∧ s.size ≤ 20)) : numR s m = (0, 4) := by
 unfold numR
 rw [if_neg fun q => h ((plainB_iff s).1 q)]
theorem refNumber_ok (s : ByteArray) (m : Int) (hm : 0 ≤ m ∧ m < 18446744073709551616) (hs : s.size < 1000000) : VC (E0 mx) 11 0 [.s (.string s), .s (.int .u64 m)] [] (RR (.tup [.s (.int .u64 (numR s m).1), .s (.int .i64 (numR s m).2)]) 0 []) := by
 have hsl := size_len s
 refine VC.enterR (L0 mx) (show (E0 mx).func 11 = some Tryd.f11 by kernel_rfl) (fun _ _ => rfl) rfl rfl [] ?_
 ((conv=>whnf)<;>repeat(with_reducible refine D1 ?_)<;>conv=>whnf)
 (first|refine ⟨?_,?_⟩|refine nsplit ?_ ?_|refine bsplit ?_ ?_)<;>intro h1<;>have hz_:=True.intro<;>clear hz_
 ·have h1 : (s.size : Int) < 1 := h1
  rw [numR_no fun q => by omega]
  ((conv=>whnf)<;>repeat(with_reducible refine D1 ?_)<;>conv=>whnf)
  exact ⟨[], [], _, _, _, t3, rfl, rfl, rfl⟩
 ·have h1 : ¬ (s.size : Int) < 1 := h1
  ((conv=>whnf)<;>repeat(with_reducible refine D1 ?_)<;>conv=>whnf)
  (first|refine ⟨?_,?_⟩|refine nsplit ?_ ?_|refine bsplit ?_ ?_)<;>intro h2<;>have hz_:=True.intro<;>clear hz_
  ·have h2 : (s.size : Int) > 20 := h2
   rw [numR_no fun q => by omega]
   ((conv=>whnf)<;>repeat(with_reducible refine D1 ?_)<;>conv=>whnf)
   exact ⟨[], [], _, _, _, t3, rfl, rfl, rfl⟩
  ·have h2 : ¬ (s.size : Int) > 20 := h2
   ((conv=>whnf)<;>repeat(with_reducible refine D1 ?_)<;>conv=>whnf)
   have loop : ¬ (s.data.toList.head? = some 48 ∧ 1 < s.size) → True := fun _ => trivial
   (first|refine ⟨?_,?_⟩|refine nsplit ?_ ?_|refine bsplit ?_ ?_)<;>intro h3<;>have hz_:=True.intro<;>clear hz_
   ·have h3 : (s.size : Int) > 1 := h3
    obtain ⟨b0, hb0⟩ : ∃ b, s.data.toList[(0 : Int).toNat]? = some b := ⟨s.data.toList[0], by simp⟩
    ((conv=>whnf)<;>repeat(with_reducible refine D1 ?_)<;>conv=>whnf)
    refine ⟨b0, ⟨by omega, hb0⟩, ?_⟩
    ((conv=>whnf)<;>repeat(with_reducible refine D1 ?_)<;>conv=>whnf)
    (first|refine ⟨?_,?_⟩|refine nsplit ?_ ?_|refine bsplit ?_ ?_)<;>intro h4<;>have hz_:=True.intro<;>clear hz_
    ·have h4 : (b0.toNat : Int) = 48 := h4
     have e48 : b0 = 48 := UInt8.toNat_inj.1 (show b0.toNat = 48 by omega)
     have hb0 : s.data.toList[0]? = some b0 := hb0
     rw [numR_no fun q => q.2.1 ⟨by rw [List.head?_eq_getElem?, hb0, e48], by omega⟩]
     ((conv=>whnf)<;>repeat(with_reducible refine D1 ?_)<;>conv=>whnf)
     exact ⟨[], [], _, _, _, t3, rfl, rfl, rfl⟩
    ·have h4 : ¬ (b0.toNat : Int) = 48 := h4
     have hb0 : s.data.toList[0]? = some b0 := hb0
     have hz : ¬ (s.data.toList.head? = some 48 ∧ 1 < s.size) := fun ⟨q, _⟩ => by
      rw [List.head?_eq_getElem?, hb0] at q
      cases q
      exact h4 rfl
     ((conv=>whnf)<;>repeat(with_reducible refine D1 ?_)<;>conv=>whnf)
     refine ⟨fun k f o cc => ∃ (i : Nat) (v : Nat) (ov : Bool), i ≤ s.size ∧ k = s.size - i ∧ cc = 0 ∧ ((s.data.toList.take i).all isD = true ∧ v ≤ 18446744073709551615 ∧ (ov = false → v = valL (s.data.toList.take i) 0) ∧ (ov = true → 18446744073709551615 < valL (s.data.toList.take i) 0)) ∧ f = [(0, .s (.string s)), (1, .s (.int .u64 m)), (6, .s (.int .u64 v)), (7, .s (.bool ov)), (8, .s (.int .i64 i))] ∧ o = [], ⟨s.size, ?_⟩, ?_⟩
     ·exact ⟨[], [], _, _, _, t3, ⟨0, 0, false, Nat.zero_le _, rfl, rfl, ⟨rfl, by omega, fun _ => rfl, fun e => by cases e⟩, rfl, rfl⟩⟩
     ·rintro k f1 o1 c1 ⟨i, v, ov, hi, rfl, rfl, ⟨hd, hv, hv1, hv2⟩, rfl, rfl⟩
      ((conv=>whnf)<;>repeat(with_reducible refine D1 ?_)<;>conv=>whnf)
      (first|refine ⟨?_,?_⟩|refine nsplit ?_ ?_|refine bsplit ?_ ?_)<;>intro h<;>have hz_:=True.intro<;>clear hz_
      ·have h : i < s.size := by have h : (i : Int) < (s.size : Int) := h
                                 omega
       obtain ⟨b, hb⟩ : ∃ b, s.data.toList[i]? = some b := ⟨s.data.toList[i]'(by omega), by simp⟩
       have hb' : s.data.toList[((i : Nat) : Int).toNat]? = some b := hb
       have htk : s.data.toList.take (i + 1) = s.data.toList.take i ++ [b] := by
        have h' : i < s.data.toList.length := by omega
        rw [take_snoc _ i h', (List.getElem?_eq_some_iff.1 hb).2]
       ((conv=>whnf)<;>repeat(with_reducible refine D1 ?_)<;>conv=>whnf)
       refine ⟨b, ⟨by omega, hb'⟩, ?_⟩
       ((conv=>whnf)<;>repeat(with_reducible refine D1 ?_)<;>conv=>whnf)
       (first|refine ⟨?_,?_⟩|refine nsplit ?_ ?_|refine bsplit ?_ ?_)<;>intro hb1<;>have hz_:=True.intro<;>clear hz_
       ·have hb1 : (b.toNat : Int) < 48 := hb1
        rw [numR_no fun q => by
         have := (isD_iff b).1 (List.all_eq_true.1 q.1 b (List.mem_of_getElem? hb))
         omega]
        ((conv=>whnf)<;>repeat(with_reducible refine D1 ?_)<;>conv=>whnf)
        exact ⟨[], [], _, _, _, t3, rfl, rfl, rfl⟩
       ·have hb1 : ¬ (b.toNat : Int) < 48 := hb1
        ((conv=>whnf)<;>repeat(with_reducible refine D1 ?_)<;>conv=>whnf)
        refine ⟨b, ⟨by omega, hb'⟩, ?_⟩
        ((conv=>whnf)<;>repeat(with_reducible refine D1 ?_)<;>conv=>whnf)
        (first|refine ⟨?_,?_⟩|refine nsplit ?_ ?_|refine bsplit ?_ ?_)<;>intro hb2<;>have hz_:=True.intro<;>clear hz_
        ·have hb2 : (b.toNat : Int) > 57 := hb2
         rw [numR_no fun q => by
          have := (isD_iff b).1 (List.all_eq_true.1 q.1 b (List.mem_of_getElem? hb))
          omega]
         ((conv=>whnf)<;>repeat(with_reducible refine D1 ?_)<;>conv=>whnf)
         exact ⟨[], [], _, _, _, t3, rfl, rfl, rfl⟩
        ·have hb2 : ¬ (b.toNat : Int) > 57 := hb2
         have hbd : isD b = true := (isD_iff b).2 (by omega)
         ((conv=>whnf)<;>repeat(with_reducible refine D1 ?_)<;>conv=>whnf)
         refine ⟨b, ⟨by omega, hb'⟩, ?_⟩
         ((conv=>whnf)<;>repeat(with_reducible refine D1 ?_)<;>conv=>whnf)
         have w1 : IntKind.u8.wrap ((b.toNat : Int) - 48) = ((b.toNat - 48 : Nat) : Int) := by rw [IntKind.wrap_u8]; omega
         have w2 : IntKind.u64.wrap ((b.toNat - 48 : Nat) : Int) = ((b.toNat - 48 : Nat) : Int) := by rw [IntKind.wrap_u64]; omega
         have w3 : IntKind.u64.wrap (18446744073709551615 - ((b.toNat - 48 : Nat) : Int)) = ((18446744073709551615 - (b.toNat - 48) : Nat) : Int) := by rw [IntKind.wrap_u64]; omega
         have w4 : IntKind.u64.wrap (((18446744073709551615 - (b.toNat - 48) : Nat) : Int).tdiv 10) = (((18446744073709551615 - (b.toNat - 48)) / 10 : Nat) : Int) := by
          rw [IntKind.wrap_u64, Int.tdiv_eq_ediv_of_nonneg (by omega)]; omega
         have hval : valL (s.data.toList.take (i + 1)) 0 = valL (s.data.toList.take i) 0 * 10 + (b.toNat - 48) := by rw [htk, valL_snoc]
         have hdig : (s.data.toList.take (i + 1)).all isD = true := by rw [htk, List.all_append, hd, List.all_cons, hbd]; rfl
         (first|refine ⟨?_,?_⟩|refine nsplit ?_ ?_|refine bsplit ?_ ?_)<;>intro hq<;>have hz_:=True.intro<;>clear hz_
         ·have hq : (v : Int) > IntKind.u64.wrap ((IntKind.u64.wrap (18446744073709551615 - IntKind.u64.wrap (IntKind.u8.wrap ((b.toNat : Int) - 48)))).tdiv 10) := hq
          rw [w1, w2, w3, w4] at hq
          ((conv=>whnf)<;>repeat(with_reducible refine D1 ?_)<;>conv=>whnf)
          refine ⟨s.size - (i + 1), ?_, by omega⟩
          exact ⟨[], [], _, _, _, t3, ⟨i + 1, v, true, h, rfl, rfl, ⟨hdig, hv, (fun e => by cases e), (fun _ => by rw [hval]; cases ov with | false => have := hv1 rfl; omega | true => have := hv2 rfl; omega)⟩, rfl, rfl⟩⟩
         ·have hq : ¬ (v : Int) > IntKind.u64.wrap ((IntKind.u64.wrap (18446744073709551615 - IntKind.u64.wrap (IntKind.u8.wrap ((b.toNat : Int) - 48)))).tdiv 10) := hq
          rw [w1, w2, w3, w4] at hq
          have w5 : IntKind.u64.wrap (10 * (v : Int)) = ((10 * v : Nat) : Int) := by rw [IntKind.wrap_u64]; omega
          have w6 : IntKind.u64.wrap (((10 * v : Nat) : Int) + ((b.toNat - 48 : Nat) : Int)) = ((v * 10 + (b.toNat - 48) : Nat) : Int) := by rw [IntKind.wrap_u64]; omega
          ((conv=>whnf)<;>repeat(with_reducible refine D1 ?_)<;>conv=>whnf)
          refine ⟨s.size - (i + 1), ?_, by omega⟩
          refine ⟨[], [], ?_⟩
          iterate 3 constructor
          refine ⟨⟨?_, ?_, ?_⟩, ⟨i + 1, v * 10 + (b.toNat - 48), ov, h, rfl, rfl, ⟨hdig, by omega, (fun e => by rw [hval, ← hv1 e]), (fun e => by have := hv2 e; omega)⟩, rfl, rfl⟩⟩
          all_goals (repeat' first|with_reducible exact Lz.rfl|exact Lw.rfl|exact Lz.wrap (by omega)|(unfold goInt;with_reducible exact Lz.rfl)|exact flx _|constructor)
          exact Lz.of (congrArg _ (by rw [w1, w2, w5, w6]))
      ·have h : i = s.size := by have h : ¬ (i : Int) < (s.size : Int) := h
                                 omega
       rw [List.take_of_length_le (by omega)] at hd hv1 hv2
       have hpl : plainB s = true := (plainB_iff s).2 ⟨hd, hz, by omega, by omega⟩
       cases ov with
       | true =>
        rw [show numR s m = (0, 6) by unfold numR; rw [if_pos hpl, if_neg fun q => by have := hv2 rfl; unfold numV at q; omega]]
        ((conv=>whnf)<;>repeat(with_reducible refine D1 ?_)<;>conv=>whnf)
        exact ⟨[], [], _, _, _, t3, rfl, rfl, rfl⟩
       | false =>
        have hv1 := hv1 rfl
        ((conv=>whnf)<;>repeat(with_reducible refine D1 ?_)<;>conv=>whnf)
        (first|refine ⟨?_,?_⟩|refine nsplit ?_ ?_|refine bsplit ?_ ?_)<;>intro hk<;>have hz_:=True.intro<;>clear hz_
        ·have hk : (v : Int) > m := hk
         rw [show numR s m = (0, 6) by unfold numR; rw [if_pos hpl, if_neg fun q => by unfold numV at q; omega]]
         ((conv=>whnf)<;>repeat(with_reducible refine D1 ?_)<;>conv=>whnf)
         exact ⟨[], [], _, _, _, t3, rfl, rfl, rfl⟩
        ·have hk : ¬ (v : Int) > m := hk
         rw [numR_in (s := s) (m := m) hpl (by unfold numV; omega) (by unfold numV; omega)]
         ((conv=>whnf)<;>repeat(with_reducible refine D1 ?_)<;>conv=>whnf)
         refine ⟨[], [], ?_⟩
         iterate 3 constructor
         refine ⟨⟨?_, ?_, ?_⟩, rfl, rfl, rfl⟩
         all_goals (repeat' first|with_reducible exact Lz.rfl|exact Lw.rfl|exact Lz.wrap (by omega)|(unfold goInt;with_reducible exact Lz.rfl)|exact flx _|constructor)
         exact Lz.of (congrArg _ (by unfold numV; rw [hv1]))
   ·have h3 : ¬ (s.size : Int) > 1 := h3
    have hz : ¬ (s.data.toList.head? = some 48 ∧ 1 < s.size) := fun ⟨_, q⟩ => by omega
    ((conv=>whnf)<;>repeat(with_reducible refine D1 ?_)<;>conv=>whnf)
    refine ⟨fun k f o cc => ∃ (i : Nat) (v : Nat) (ov : Bool), i ≤ s.size ∧ k = s.size - i ∧ cc = 0 ∧ ((s.data.toList.take i).all isD = true ∧ v ≤ 18446744073709551615 ∧ (ov = false → v = valL (s.data.toList.take i) 0) ∧ (ov = true → 18446744073709551615 < valL (s.data.toList.take i) 0)) ∧ f = [(0, .s (.string s)), (1, .s (.int .u64 m)), (6, .s (.int .u64 v)), (7, .s (.bool ov)), (8, .s (.int .i64 i))] ∧ o = [], ⟨s.size, ?_⟩, ?_⟩
    ·exact ⟨[], [], _, _, _, t3, ⟨0, 0, false, Nat.zero_le _, rfl, rfl, ⟨rfl, by omega, fun _ => rfl, fun e => by cases e⟩, rfl, rfl⟩⟩
    ·rintro k f1 o1 c1 ⟨i, v, ov, hi, rfl, rfl, ⟨hd, hv, hv1, hv2⟩, rfl, rfl⟩
     ((conv=>whnf)<;>repeat(with_reducible refine D1 ?_)<;>conv=>whnf)
     (first|refine ⟨?_,?_⟩|refine nsplit ?_ ?_|refine bsplit ?_ ?_)<;>intro h<;>have hz_:=True.intro<;>clear hz_
     ·have h : i < s.size := by have h : (i : Int) < (s.size : Int) := h
                                omega
      obtain ⟨b, hb⟩ : ∃ b, s.data.toList[i]? = some b := ⟨s.data.toList[i]'(by omega), by simp⟩
      have hb' : s.data.toList[((i : Nat) : Int).toNat]? = some b := hb
      have htk : s.data.toList.take (i + 1) = s.data.toList.take i ++ [b] := by
       have h' : i < s.data.toList.length := by omega
       rw [take_snoc _ i h', (List.getElem?_eq_some_iff.1 hb).2]
      ((conv=>whnf)<;>repeat(with_reducible refine D1 ?_)<;>conv=>whnf)
      refine ⟨b, ⟨by omega, hb'⟩, ?_⟩
      ((conv=>whnf)<;>repeat(with_reducible refine D1 ?_)<;>conv=>whnf)
      (first|refine ⟨?_,?_⟩|refine nsplit ?_ ?_|refine bsplit ?_ ?_)<;>intro hb1<;>have hz_:=True.intro<;>clear hz_
      ·have hb1 : (b.toNat : Int) < 48 := hb1
       rw [numR_no fun q => by
        have := (isD_iff b).1 (List.all_eq_true.1 q.1 b (List.mem_of_getElem? hb))
        omega]
       ((conv=>whnf)<;>repeat(with_reducible refine D1 ?_)<;>conv=>whnf)
       exact ⟨[], [], _, _, _, t3, rfl, rfl, rfl⟩
      ·have hb1 : ¬ (b.toNat : Int) < 48 := hb1
       ((conv=>whnf)<;>repeat(with_reducible refine D1 ?_)<;>conv=>whnf)
       refine ⟨b, ⟨by omega, hb'⟩, ?_⟩
       ((conv=>whnf)<;>repeat(with_reducible refine D1 ?_)<;>conv=>whnf)
       (first|refine ⟨?_,?_⟩|refine nsplit ?_ ?_|refine bsplit ?_ ?_)<;>intro hb2<;>have hz_:=True.intro<;>clear hz_
       ·have hb2 : (b.toNat : Int) > 57 := hb2
        rw [numR_no fun q => by
         have := (isD_iff b).1 (List.all_eq_true.1 q.1 b (List.mem_of_getElem? hb))
         omega]
        ((conv=>whnf)<;>repeat(with_reducible refine D1 ?_)<;>conv=>whnf)
        exact ⟨[], [], _, _, _, t3, rfl, rfl, rfl⟩
       ·have hb2 : ¬ (b.toNat : Int) > 57 := hb2
        have hbd : isD b = true := (isD_iff b).2 (by omega)
        ((conv=>whnf)<;>repeat(with_reducible refine D1 ?_)<;>conv=>whnf)
        refine ⟨b, ⟨by omega, hb'⟩, ?_⟩
        ((conv=>whnf)<;>repeat(with_reducible refine D1 ?_)<;>conv=>whnf)
        have w1 : IntKind.u8.wrap ((b.toNat : Int) - 48) = ((b.toNat - 48 : Nat) : Int) := by rw [IntKind.wrap_u8]; omega
        have w2 : IntKind.u64.wrap ((b.toNat - 48 : Nat) : Int) = ((b.toNat - 48 : Nat) : Int) := by rw [IntKind.wrap_u64]; omega
        have w3 : IntKind.u64.wrap (18446744073709551615 - ((b.toNat - 48 : Nat) : Int)) = ((18446744073709551615 - (b.toNat - 48) : Nat) : Int) := by rw [IntKind.wrap_u64]; omega
        have w4 : IntKind.u64.wrap (((18446744073709551615 - (b.toNat - 48) : Nat) : Int).tdiv 10) = (((18446744073709551615 - (b.toNat - 48)) / 10 : Nat) : Int) := by
         rw [IntKind.wrap_u64, Int.tdiv_eq_ediv_of_nonneg (by omega)]; omega
        have hval : valL (s.data.toList.take (i + 1)) 0 = valL (s.data.toList.take i) 0 * 10 + (b.toNat - 48) := by rw [htk, valL_snoc]
        have hdig : (s.data.toList.take (i + 1)).all isD = true := by rw [htk, List.all_append, hd, List.all_cons, hbd]; rfl
        (first|refine ⟨?_,?_⟩|refine nsplit ?_ ?_|refine bsplit ?_ ?_)<;>intro hq<;>have hz_:=True.intro<;>clear hz_
        ·have hq : (v : Int) > IntKind.u64.wrap ((IntKind.u64.wrap (18446744073709551615 - IntKind.u64.wrap (IntKind.u8.wrap ((b.toNat : Int) - 48)))).tdiv 10) := hq
         rw [w1, w2, w3, w4] at hq
         ((conv=>whnf)<;>repeat(with_reducible refine D1 ?_)<;>conv=>whnf)
         refine ⟨s.size - (i + 1), ?_, by omega⟩
         exact ⟨[], [], _, _, _, t3, ⟨i + 1, v, true, h, rfl, rfl, ⟨hdig, hv, (fun e => by cases e), (fun _ => by rw [hval]; cases ov with | false => have := hv1 rfl; omega | true => have := hv2 rfl; omega)⟩, rfl, rfl⟩⟩
        ·have hq : ¬ (v : Int) > IntKind.u64.wrap ((IntKind.u64.wrap (18446744073709551615 - IntKind.u64.wrap (IntKind.u8.wrap ((b.toNat : Int) - 48)))).tdiv 10) := hq
         rw [w1, w2, w3, w4] at hq
         have w5 : IntKind.u64.wrap (10 * (v : Int)) = ((10 * v : Nat) : Int) := by rw [IntKind.wrap_u64]; omega
         have w6 : IntKind.u64.wrap (((10 * v : Nat) : Int) + ((b.toNat - 48 : Nat) : Int)) = ((v * 10 + (b.toNat - 48) : Nat) : Int) := by rw [IntKind.wrap_u64]; omega
         ((conv=>whnf)<;>repeat(with_reducible refine D1 ?_)<;>conv=>whnf)
         refine ⟨s.size - (i + 1), ?_, by omega⟩
         refine ⟨[], [], ?_⟩
         iterate 3 constructor
         refine ⟨⟨?_, ?_, ?_⟩, ⟨i + 1, v * 10 + (b.toNat - 48), ov, h, rfl, rfl, ⟨hdig, by omega, (fun e => by rw [hval, ← hv1 e]), (fun e => by have := hv2 e; omega)⟩, rfl, rfl⟩⟩
         all_goals (repeat' first|with_reducible exact Lz.rfl|exact Lw.rfl|exact Lz.wrap (by omega)|(unfold goInt;with_reducible exact Lz.rfl)|exact flx _|constructor)
         exact Lz.of (congrArg _ (by rw [w1, w2, w5, w6]))
     ·have h : i = s.size := by have h : ¬ (i : Int) < (s.size : Int) := h
                                omega
      rw [List.take_of_length_le (by omega)] at hd hv1 hv2
      have hpl : plainB s = true := (plainB_iff s).2 ⟨hd, hz, by omega, by omega⟩
      cases ov with
      | true =>
       rw [show numR s m = (0, 6) by unfold numR; rw [if_pos hpl, if_neg fun q => by have := hv2 rfl; unfold numV at q; omega]]
       ((conv=>whnf)<;>repeat(with_reducible refine D1 ?_)<;>conv=>whnf)
       exact ⟨[], [], _, _, _, t3, rfl, rfl, rfl⟩
      | false =>
       have hv1 := hv1 rfl
       ((conv=>whnf)<;>repeat(with_reducible refine D1 ?_)<;>conv=>whnf)
       (first|refine ⟨?_,?_⟩|refine nsplit ?_ ?_|refine bsplit ?_ ?_)<;>intro hk<;>have hz_:=True.intro<;>clear hz_
       ·have hk : (v : Int) > m := hk
        rw [show numR s m = (0, 6) by unfold numR; rw [if_pos hpl, if_neg fun q => by unfold numV at q; omega]]
        ((conv=>whnf)<;>repeat(with_reducible refine D1 ?_)<;>conv=>whnf)
        exact ⟨[], [], _, _, _, t3, rfl, rfl, rfl⟩
       ·have hk : ¬ (v : Int) > m := hk
        rw [numR_in (s := s) (m := m) hpl (by unfold numV; omega) (by unfold numV; omega)]
        ((conv=>whnf)<;>repeat(with_reducible refine D1 ?_)<;>conv=>whnf)
        refine ⟨[], [], ?_⟩
        iterate 3 constructor
        refine ⟨⟨?_, ?_, ?_⟩, rfl, rfl, rfl⟩
        all_goals (repeat' first|with_reducible exact Lz.rfl|exact Lw.rfl|exact Lz.wrap (by omega)|(unfold goInt;with_reducible exact Lz.rfl)|exact flx _|constructor)
        exact Lz.of (congrArg _ (by unfold numV; rw [hv1]))
end Go.M
namespace Go.M
open Go Go.Proofs
set_option maxRecDepth 100000
set_option maxHeartbeats 4000000
variable {mx : Int}
theorem ba_ext {a b : ByteArray} (h : a.data.toList = b.data.toList) : a = b := ByteArray.ext (Array.toList_inj.1 h)
@[reducible] def n0 : ByteArray := ⟨#[110, 111, 111, 112]⟩
@[reducible] def n1 : ByteArray := ⟨#[114, 101, 109, 111, 118, 101]⟩
@[reducible] def n2 : ByteArray := ⟨#[97, 112, 112, 101, 110, 100]⟩
@[reducible] def n3 : ByteArray := ⟨#[112, 114, 111, 109, 111, 116, 101]⟩
@[reducible] def n4 : ByteArray := ⟨#[115, 101, 116, 116, 108, 101]⟩
def nameS (k : Int) : ByteArray := if k = 0 then n0 else if k = 1 then n1 else if k = 2 then n2 else if k = 3 then n3 else if k = 4 then n4 else ⟨#[]⟩
theorem five {k : Int} (h0 : 0 ≤ k) (h1 : k < 5) : k = 0 ∨ k = 1 ∨ k = 2 ∨ k = 3 ∨ k = 4 := by omega
theorem nameS_no {k : Int} (h : ¬ (0 ≤ k ∧ k < 5)) : nameS k = ⟨#[]⟩ := by
 unfold nameS
 rw [if_neg (by omega), if_neg (by omega), if_neg (by omega), if_neg (by omega), if_neg (by omega)]
theorem name_ok (k : Int) (c0 : Nat) (o0 : Ob) : VC (E0 mx) 26 0 [.s (.int .i64 k)] [] (RR (.s (.string (nameS k))) 0 []) := by
 by_cases h : 0 ≤ k ∧ k < 5
 ·rcases five h.1 h.2 with rfl | rfl | rfl | rfl | rfl
  all_goals
   refine VC.enterR (L0 mx) (show (E0 mx).func 26 = some Tryd.f26 by kernel_rfl) (fun _ _ => rfl) rfl rfl [] ?_
   ((conv=>whnf)<;>repeat(with_reducible refine D1 ?_)<;>conv=>whnf)
   repeat ((first | (refine ⟨fun h_ => ?_, fun h_ => ?_⟩) | (refine nsplit (fun h_ => ?_) (fun h_ => ?_)) | (refine bsplit (fun h_ => ?_) (fun h_ => ?_))) <;> first | (exfalso; revert h_; decide; done) | (exact absurd rfl h_) | (have hz_ := True.intro; clear hz_; ((conv=>whnf)<;>repeat(with_reducible refine D1 ?_)<;>conv=>whnf)))
   refine ⟨by decide, ?_⟩
   ((conv=>whnf)<;>repeat(with_reducible refine D1 ?_)<;>conv=>whnf)
   exact ⟨[], [], _, _, _, t3, rfl, rfl, rfl⟩
 ·rw [nameS_no h]
  refine VC.enterR (L0 mx) (show (E0 mx).func 26 = some Tryd.f26 by kernel_rfl) (fun _ _ => rfl) rfl rfl [] ?_
  ((conv=>whnf)<;>repeat(with_reducible refine D1 ?_)<;>conv=>whnf)
  (first|refine ⟨?_,?_⟩|refine nsplit ?_ ?_|refine bsplit ?_ ?_)<;>intro h1<;>have hz_:=True.intro<;>clear hz_
  ·((conv=>whnf)<;>repeat(with_reducible refine D1 ?_)<;>conv=>whnf)
   exact ⟨[], [], _, _, _, t3, rfl, rfl, rfl⟩
  ·have h1 : ¬ k < 0 := h1
   ((conv=>whnf)<;>repeat(with_reducible refine D1 ?_)<;>conv=>whnf)
   (first|refine ⟨?_,?_⟩|refine nsplit ?_ ?_|refine bsplit ?_ ?_)<;>intro h2<;>have hz_:=True.intro<;>clear hz_
   ·((conv=>whnf)<;>repeat(with_reducible refine D1 ?_)<;>conv=>whnf)
    exact ⟨[], [], _, _, _, t3, rfl, rfl, rfl⟩
   ·have h2 : ¬ k ≥ 5 := h2
    omega
theorem refName_ok (k : Int) : VC (E0 mx) 27 0 [.s (.int .i64 k)] [] (RR (.s (.string (nameS k))) 0 []) := by
 by_cases h : 0 ≤ k ∧ k < 5
 ·rcases five h.1 h.2 with rfl | rfl | rfl | rfl | rfl
  all_goals
   refine VC.enterR (L0 mx) (show (E0 mx).func 27 = some Tryd.f27 by kernel_rfl) (fun _ _ => rfl) rfl rfl [] ?_
   ((conv=>whnf)<;>repeat(with_reducible refine D1 ?_)<;>conv=>whnf)
   repeat ((first | (refine ⟨fun h_ => ?_, fun h_ => ?_⟩) | (refine nsplit (fun h_ => ?_) (fun h_ => ?_)) | (refine bsplit (fun h_ => ?_) (fun h_ => ?_))) <;> first | (exfalso; revert h_; decide; done) | (exact absurd rfl h_) | (have hz_ := True.intro; clear hz_; ((conv=>whnf)<;>repeat(with_reducible refine D1 ?_)<;>conv=>whnf)))
   exact ⟨[], [], _, _, _, t3, rfl, rfl, rfl⟩
 ·rw [nameS_no h]
  refine VC.enterR (L0 mx) (show (E0 mx).func 27 = some Tryd.f27 by kernel_rfl) (fun _ _ => rfl) rfl rfl [] ?_
  ((conv=>whnf)<;>repeat(with_reducible refine D1 ?_)<;>conv=>whnf)
  (first|refine ⟨?_,?_⟩|refine nsplit ?_ ?_|refine bsplit ?_ ?_)<;>intro h0<;>have hz_:=True.intro<;>clear hz_
  ·exact absurd (show k = 0 from h0) (by omega)
  ·((conv=>whnf)<;>repeat(with_reducible refine D1 ?_)<;>conv=>whnf)
   (first|refine ⟨?_,?_⟩|refine nsplit ?_ ?_|refine bsplit ?_ ?_)<;>intro h1<;>have hz_:=True.intro<;>clear hz_
   ·exact absurd (show k = 1 from h1) (by omega)
   ·((conv=>whnf)<;>repeat(with_reducible refine D1 ?_)<;>conv=>whnf)
    (first|refine ⟨?_,?_⟩|refine nsplit ?_ ?_|refine bsplit ?_ ?_)<;>intro h2<;>have hz_:=True.intro<;>clear hz_
    ·exact absurd (show k = 2 from h2) (by omega)
    ·((conv=>whnf)<;>repeat(with_reducible refine D1 ?_)<;>conv=>whnf)
     (first|refine ⟨?_,?_⟩|refine nsplit ?_ ?_|refine bsplit ?_ ?_)<;>intro h3<;>have hz_:=True.intro<;>clear hz_
     ·exact absurd (show k = 3 from h3) (by omega)
     ·((conv=>whnf)<;>repeat(with_reducible refine D1 ?_)<;>conv=>whnf)
      (first|refine ⟨?_,?_⟩|refine nsplit ?_ ?_|refine bsplit ?_ ?_)<;>intro h4<;>have hz_:=True.intro<;>clear hz_
      ·exact absurd (show k = 4 from h4) (by omega)
      ·((conv=>whnf)<;>repeat(with_reducible refine D1 ?_)<;>conv=>whnf)
       exact ⟨[], [], _, _, _, t3, rfl, rfl, rfl⟩
def kindS (s : ByteArray) : Int := if s = n0 then 0 else if s = n1 then 1 else if s = n2 then 2 else if s = n3 then 3 else if s = n4 then 4 else -1
theorem kind_name {k : Int} (h : 0 ≤ k ∧ k < 5) : kindS (nameS k) = k := by
 rcases five h.1 h.2 with rfl | rfl | rfl | rfl | rfl <;> decide
theorem name_kind {s : ByteArray} (h : kindS s ≠ -1) : nameS (kindS s) = s ∧ 0 ≤ kindS s ∧ kindS s < 5 := by
 unfold kindS at h ⊢
 by_cases h0 : s = n0
 ·subst h0; exact ⟨rfl, by decide, by decide⟩
 rw [if_neg h0] at h ⊢
 by_cases h0 : s = n1
 ·subst h0; exact ⟨rfl, by decide, by decide⟩
 rw [if_neg h0] at h ⊢
 by_cases h0 : s = n2
 ·subst h0; exact ⟨rfl, by decide, by decide⟩
 rw [if_neg h0] at h ⊢
 by_cases h0 : s = n3
 ·subst h0; exact ⟨rfl, by decide, by decide⟩
 rw [if_neg h0] at h ⊢
 by_cases h0 : s = n4
 ·subst h0; exact ⟨rfl, by decide, by decide⟩
 rw [if_neg h0] at h
 exact absurd rfl h
theorem kind_ok (s : ByteArray) : VC (E0 mx) 32 0 [.s (.string s)] [] (RR (.s (.int .i64 (kindS s))) 0 []) := by
 refine VC.enterR (L0 mx) (show (E0 mx).func 32 = some Tryd.f32 by kernel_rfl) (fun _ _ => rfl) rfl rfl [] ?_
 ((conv=>whnf)<;>repeat(with_reducible refine D1 ?_)<;>conv=>whnf)
 refine ⟨fun k f o cc => ∃ i : Nat, i ≤ 5 ∧ k = 5 - i ∧ cc = 0 ∧ ((1 ≤ i → s ≠ n0) ∧ (2 ≤ i → s ≠ n1) ∧ (3 ≤ i → s ≠ n2) ∧ (4 ≤ i → s ≠ n3) ∧ (5 ≤ i → s ≠ n4)) ∧ f = [(0, .s (.string s)), (5, .agg [.s (.string n0), .s (.string n1), .s (.string n2), .s (.string n3), .s (.string n4)]), (6, .s (.int .i64 i))] ∧ o = [], ⟨5, ?_⟩, ?_⟩
 ·exact ⟨[], [], _, _, _, t3, ⟨0, by omega, rfl, rfl, ⟨fun e => by omega, fun e => by omega, fun e => by omega, fun e => by omega, fun e => by omega⟩, rfl, rfl⟩⟩
 ·rintro k f1 o1 c1 ⟨i, hi, rfl, rfl, ⟨g0, g1, g2, g3, g4⟩, rfl, rfl⟩
  rcases (by omega : i = 0 ∨ i = 1 ∨ i = 2 ∨ i = 3 ∨ i = 4 ∨ i = 5) with rfl | rfl | rfl | rfl | rfl | rfl
  all_goals conv => whnf
  ·repeat ((first | (refine ⟨fun h_ => ?_, fun h_ => ?_⟩) | (refine nsplit (fun h_ => ?_) (fun h_ => ?_)) | (refine bsplit (fun h_ => ?_) (fun h_ => ?_))) <;> first | (exfalso; revert h_; decide; done) | (exact absurd rfl h_) | (have hz_ := True.intro; clear hz_; ((conv=>whnf)<;>repeat(with_reducible refine D1 ?_)<;>conv=>whnf)))
   refine ⟨by decide, ?_⟩
   ((conv=>whnf)<;>repeat(with_reducible refine D1 ?_)<;>conv=>whnf)
   (first|refine ⟨?_,?_⟩|refine nsplit ?_ ?_|refine bsplit ?_ ?_)<;>intro h<;>have hz_:=True.intro<;>clear hz_
   ·have h : n0 = s := ba_ext h
    subst h
    ((conv=>whnf)<;>repeat(with_reducible refine D1 ?_)<;>conv=>whnf)
    exact ⟨[], [], _, _, _, t3, rfl, rfl, rfl⟩
   ·have h : ¬ n0 = s := fun e => h (congrArg (fun b : ByteArray => b.data.toList) e)
    ((conv=>whnf)<;>repeat(with_reducible refine D1 ?_)<;>conv=>whnf)
    refine ⟨4, ?_, by omega⟩
    exact ⟨[], [], _, _, _, t3, ⟨1, by omega, rfl, rfl, ⟨(fun _ e => h e.symm), (fun e => by omega), (fun e => by omega), (fun e => by omega), (fun e => by omega)⟩, rfl, rfl⟩⟩
  ·repeat ((first | (refine ⟨fun h_ => ?_, fun h_ => ?_⟩) | (refine nsplit (fun h_ => ?_) (fun h_ => ?_)) | (refine bsplit (fun h_ => ?_) (fun h_ => ?_))) <;> first | (exfalso; revert h_; decide; done) | (exact absurd rfl h_) | (have hz_ := True.intro; clear hz_; ((conv=>whnf)<;>repeat(with_reducible refine D1 ?_)<;>conv=>whnf)))
   refine ⟨by decide, ?_⟩
   ((conv=>whnf)<;>repeat(with_reducible refine D1 ?_)<;>conv=>whnf)
   (first|refine ⟨?_,?_⟩|refine nsplit ?_ ?_|refine bsplit ?_ ?_)<;>intro h<;>have hz_:=True.intro<;>clear hz_
   ·have h : n1 = s := ba_ext h
    subst h
    ((conv=>whnf)<;>repeat(with_reducible refine D1 ?_)<;>conv=>whnf)
    exact ⟨[], [], _, _, _, t3, rfl, rfl, rfl⟩
   ·have h : ¬ n1 = s := fun e => h (congrArg (fun b : ByteArray => b.data.toList) e)
    ((conv=>whnf)<;>repeat(with_reducible refine D1 ?_)<;>conv=>whnf)
    refine ⟨3, ?_, by omega⟩
    exact ⟨[], [], _, _, _, t3, ⟨2, by omega, rfl, rfl, ⟨(fun _ => g0 (by omega)), (fun _ e => h e.symm), (fun e => by omega), (fun e => by omega), (fun e => by omega)⟩, rfl, rfl⟩⟩
  ·repeat ((first | (refine ⟨fun h_ => ?_, fun h_ => ?_⟩) | (refine nsplit (fun h_ => ?_) (fun h_ => ?_)) | (refine bsplit (fun h_ => ?_) (fun h_ => ?_))) <;> first | (exfalso; revert h_; decide; done) | (exact absurd rfl h_) | (have hz_ := True.intro; clear hz_; ((conv=>whnf)<;>repeat(with_reducible refine D1 ?_)<;>conv=>whnf)))
   refine ⟨by decide, ?_⟩
   ((conv=>whnf)<;>repeat(with_reducible refine D1 ?_)<;>conv=>whnf)
   (first|refine ⟨?_,?_⟩|refine nsplit ?_ ?_|refine bsplit ?_ ?_)<;>intro h<;>have hz_:=True.intro<;>clear hz_
   ·have h : n2 = s := ba_ext h
    subst h
    ((conv=>whnf)<;>repeat(with_reducible refine D1 ?_)<;>conv=>whnf)
    exact ⟨[], [], _, _, _, t3, rfl, rfl, rfl⟩
   ·have h : ¬ n2 = s := fun e => h (congrArg (fun b : ByteArray => b.data.toList) e)
    ((conv=>whnf)<;>repeat(with_reducible refine D1 ?_)<;>conv=>whnf)
    refine ⟨2, ?_, by omega⟩
    exact ⟨[], [], _, _, _, t3, ⟨3, by omega, rfl, rfl, ⟨(fun _ => g0 (by omega)), (fun _ => g1 (by omega)), (fun _ e => h e.symm), (fun e => by omega), (fun e => by omega)⟩, rfl, rfl⟩⟩
  ·repeat ((first | (refine ⟨fun h_ => ?_, fun h_ => ?_⟩) | (refine nsplit (fun h_ => ?_) (fun h_ => ?_)) | (refine bsplit (fun h_ => ?_) (fun h_ => ?_))) <;> first | (exfalso; revert h_; decide; done) | (exact absurd rfl h_) | (have hz_ := True.intro; clear hz_; ((conv=>whnf)<;>repeat(with_reducible refine D1 ?_)<;>conv=>whnf)))
   refine ⟨by decide, ?_⟩
   ((conv=>whnf)<;>repeat(with_reducible refine D1 ?_)<;>conv=>whnf)
   (first|refine ⟨?_,?_⟩|refine nsplit ?_ ?_|refine bsplit ?_ ?_)<;>intro h<;>have hz_:=True.intro<;>clear hz_
   ·have h : n3 = s := ba_ext h
    subst h
    ((conv=>whnf)<;>repeat(with_reducible refine D1 ?_)<;>conv=>whnf)
    exact ⟨[], [], _, _, _, t3, rfl, rfl, rfl⟩
   ·have h : ¬ n3 = s := fun e => h (congrArg (fun b : ByteArray => b.data.toList) e)
    ((conv=>whnf)<;>repeat(with_reducible refine D1 ?_)<;>conv=>whnf)
    refine ⟨1, ?_, by omega⟩
    exact ⟨[], [], _, _, _, t3, ⟨4, by omega, rfl, rfl, ⟨(fun _ => g0 (by omega)), (fun _ => g1 (by omega)), (fun _ => g2 (by omega)), (fun _ e => h e.symm), (fun e => by omega)⟩, rfl, rfl⟩⟩
  ·repeat ((first | (refine ⟨fun h_ => ?_, fun h_ => ?_⟩) | (refine nsplit (fun h_ => ?_) (fun h_ => ?_)) | (refine bsplit (fun h_ => ?_) (fun h_ => ?_))) <;> first | (exfalso; revert h_; decide; done) | (exact absurd rfl h_) | (have hz_ := True.intro; clear hz_; ((conv=>whnf)<;>repeat(with_reducible refine D1 ?_)<;>conv=>whnf)))
   refine ⟨by decide, ?_⟩
   ((conv=>whnf)<;>repeat(with_reducible refine D1 ?_)<;>conv=>whnf)
   (first|refine ⟨?_,?_⟩|refine nsplit ?_ ?_|refine bsplit ?_ ?_)<;>intro h<;>have hz_:=True.intro<;>clear hz_
   ·have h : n4 = s := ba_ext h
    subst h
    ((conv=>whnf)<;>repeat(with_reducible refine D1 ?_)<;>conv=>whnf)
    exact ⟨[], [], _, _, _, t3, rfl, rfl, rfl⟩
   ·have h : ¬ n4 = s := fun e => h (congrArg (fun b : ByteArray => b.data.toList) e)
    ((conv=>whnf)<;>repeat(with_reducible refine D1 ?_)<;>conv=>whnf)
    refine ⟨0, ?_, by omega⟩
    exact ⟨[], [], _, _, _, t3, ⟨5, by omega, rfl, rfl, ⟨(fun _ => g0 (by omega)), (fun _ => g1 (by omega)), (fun _ => g2 (by omega)), (fun _ => g3 (by omega)), (fun _ e => h e.symm)⟩, rfl, rfl⟩⟩
  ·repeat ((first | (refine ⟨fun h_ => ?_, fun h_ => ?_⟩) | (refine nsplit (fun h_ => ?_) (fun h_ => ?_)) | (refine bsplit (fun h_ => ?_) (fun h_ => ?_))) <;> first | (exfalso; revert h_; decide; done) | (exact absurd rfl h_) | (have hz_ := True.intro; clear hz_; ((conv=>whnf)<;>repeat(with_reducible refine D1 ?_)<;>conv=>whnf)))
   rw [show kindS s = -1 by
    unfold kindS
    rw [if_neg (g0 (by omega)), if_neg (g1 (by omega)), if_neg (g2 (by omega)), if_neg (g3 (by omega)), if_neg (g4 (by omega))]]
   exact ⟨[], [], _, _, _, t3, rfl, rfl, rfl⟩
theorem digits_ok (n : Nat) (h : n < 18446744073709551616) : VC (E0 mx) 47 0 [.s (.int .u64 n)] [] (RR (.s (.string (decS n))) 0 []) := by
 induction n using Nat.strongRecOn with
 | _ n ih =>
  refine VC.enterR (L0 mx) (show (E0 mx).func 47 = some Tryd.f47 by kernel_rfl) (fun _ _ => rfl) rfl rfl [] ?_
  ((conv=>whnf)<;>repeat(with_reducible refine D1 ?_)<;>conv=>whnf)
  (first|refine ⟨?_,?_⟩|refine nsplit ?_ ?_|refine bsplit ?_ ?_)<;>intro h1<;>have hz_:=True.intro<;>clear hz_
  ·have h1 : (n : Int) < 10 := h1
   ((conv=>whnf)<;>repeat(with_reducible refine D1 ?_)<;>conv=>whnf)
   have w1 : IntKind.u64.wrap (48 + (n : Int)) = ((48 + n : Nat) : Int) := by rw [IntKind.wrap_u64]; omega
   have w2 : IntKind.u8.wrap ((48 + n : Nat) : Int) = ((48 + n : Nat) : Int) := by rw [IntKind.wrap_u8]; omega
   refine ⟨[((48 + n : Nat) : Int)], by rw [w1, w2]; rfl, ?_⟩
   ((conv=>whnf)<;>repeat(with_reducible refine D1 ?_)<;>conv=>whnf)
   refine ⟨[], [], ?_⟩
   iterate 3 constructor
   refine ⟨⟨?_, ?_, ?_⟩, rfl, rfl, rfl⟩
   all_goals (repeat' first|with_reducible exact Lz.rfl|exact Lw.rfl|exact Lz.wrap (by omega)|(unfold goInt;with_reducible exact Lz.rfl)|exact flx _|constructor)
   refine Lz.of (congrArg _ ?_)
   show _ = (⟨(Lib.decDigits n).toArray⟩ : ByteArray)
   rw [Lib.decDigits_one (by omega)]
   unfold strOf
   apply ByteArray.ext
   simp only [List.map_cons, List.map_nil, Int.toNat_natCast]
  ·have h1 : ¬ (n : Int) < 10 := h1
   ((conv=>whnf)<;>repeat(with_reducible refine D1 ?_)<;>conv=>whnf)
   have w1 : IntKind.u64.wrap ((n : Int).tdiv 10) = ((n / 10 : Nat) : Int) := by
    rw [IntKind.wrap_u64, Int.tdiv_eq_ediv_of_nonneg (by omega)]; omega
   have w2 : IntKind.u64.wrap ((n : Int).tmod 10) = ((n % 10 : Nat) : Int) := by
    rw [IntKind.wrap_u64, Int.tmod_eq_emod_of_nonneg (by omega)]; omega
   refine ⟨[], [], _, _, _, _, ih (n / 10) (by omega) (by omega), ⟨by ((repeat' first|with_reducible exact Lz.rfl|exact Lw.rfl|exact Lz.wrap (by omega)|(unfold goInt;with_reducible exact Lz.rfl)|exact flx _|constructor); all_goals (exact Lz.of (congrArg _ w1))), by ((repeat' first|with_reducible exact Lz.rfl|exact Lw.rfl|exact Lz.wrap (by omega)|(unfold goInt;with_reducible exact Lz.rfl)|exact flx _|constructor); all_goals (exact Lz.of (congrArg _ w1))), by rfl⟩, ?_⟩
   rintro r o' c' ⟨rfl, rfl, rfl⟩
   ((conv=>whnf)<;>repeat(with_reducible refine D1 ?_)<;>conv=>whnf)
   refine ⟨[], [], _, _, _, _, ih (n % 10) (by omega) (by omega), ⟨by ((repeat' first|with_reducible exact Lz.rfl|exact Lw.rfl|exact Lz.wrap (by omega)|(unfold goInt;with_reducible exact Lz.rfl)|exact flx _|constructor); all_goals (exact Lz.of (congrArg _ w2))), by ((repeat' first|with_reducible exact Lz.rfl|exact Lw.rfl|exact Lz.wrap (by omega)|(unfold goInt;with_reducible exact Lz.rfl)|exact flx _|constructor); all_goals (exact Lz.of (congrArg _ w2))), by rfl⟩, ?_⟩
   rintro r o' c' ⟨rfl, rfl, rfl⟩
   ((conv=>whnf)<;>repeat(with_reducible refine D1 ?_)<;>conv=>whnf)
   have hs1 := decS_size (n / 10) (by omega)
   have hs2 := decS_size (n % 10) (by omega)
   refine ⟨by omega, ?_⟩
   ((conv=>whnf)<;>repeat(with_reducible refine D1 ?_)<;>conv=>whnf)
   refine ⟨[], [], ?_⟩
   iterate 3 constructor
   refine ⟨⟨?_, ?_, ?_⟩, rfl, rfl, rfl⟩
   all_goals (repeat' first|with_reducible exact Lz.rfl|exact Lw.rfl|exact Lz.wrap (by omega)|(unfold goInt;with_reducible exact Lz.rfl)|exact flx _|constructor)
   refine Lz.of (congrArg _ ?_)
   apply ByteArray.ext
   show _ = (Lib.decDigits n).toArray
   rw [Lib.decDigits, dif_neg (by omega)]
   have e1 : Lib.decDigits (n % 10) = [UInt8.ofNat (48 + n % 10)] := Lib.decDigits_one (by omega)
   simp [ByteArray.data_append, e1]
def Cmd.text (c : Cmd) : ByteArray := nameS c.kind ++ spB ++ decS c.chain.toNat ++ spB ++ decS c.epoch.toNat ++ spB ++ decS c.node.toNat
def textS (c : Cmd) : ByteArray := if c.kind = 0 then n0 else c.text
theorem check_fields {c : Cmd} (he : 0 ≤ c.epoch) (h : c.check = 0) : (0 ≤ c.kind ∧ c.kind < 5) ∧ (c.kind = 0 → c.chain = 0 ∧ c.epoch = 0 ∧ c.node = 0) ∧ (c.kind ≠ 0 → (0 ≤ c.chain ∧ c.chain < 4) ∧ 1 ≤ c.epoch ∧ 1 ≤ c.node ∧ c.node ≤ 24) := by
 unfold Cmd.check checkS at h
 split at h
 ·cases h
 ·split at h
  ·split at h
   ·cases h
   ·omega
  ·split at h
   ·cases h
   ·omega
theorem nameS_size (k : Int) : (nameS k).size ≤ 7 := by
 unfold nameS
 split
 ·decide
 split
 ·decide
 split
 ·decide
 split
 ·decide
 split
 ·decide
 ·decide
theorem join4 (a b c d : ByteArray) : (⟨(Lib.join ([a, b, c, d].map (·.data.toList)) spB.data.toList).toArray⟩ : ByteArray) = a ++ spB ++ b ++ spB ++ c ++ spB ++ d := by
 apply ba_ext
 show Lib.join [a.data.toList, b.data.toList, c.data.toList, d.data.toList] [32] = _
 rw [join_two _ _ _ (by simp), join_two _ _ _ (by simp), join_two _ _ _ (by simp), Lib.join_one]
 simp [ByteArray.data_append]
theorem sizeL (a : ByteArray) : a.data.toList.length = a.size := size_len a
theorem fmt38_ok (n : Int) (h0 : 0 ≤ n) (h1 : n < 18446744073709551616) : VC (E0 mx) 38 0 [.s (.int .u64 n), .s (.int .i64 10)] [] (RR (.s (.string (decS n.toNat))) 0 []) := by
 refine VC.enterR (L0 mx) (show (E0 mx).func 38 = some Tryd.f38 by kernel_rfl) (fun _ _ => rfl) rfl rfl [] ?_
 ((conv=>whnf)<;>repeat(with_reducible refine D1 ?_)<;>conv=>whnf)
 refine ⟨[], [], _, _, _, _, fmt55_ok n h0 h1 0 [], t3, ?_⟩
 rintro r o' c' ⟨rfl, rfl, rfl⟩
 ((conv=>whnf)<;>repeat(with_reducible refine D1 ?_)<;>conv=>whnf)
 exact ⟨[], [], _, _, _, t3, rfl, rfl, rfl⟩
theorem textNo_ok (c : Cmd) (h : c.check ≠ 0) : VC (E0 mx) 12 0 [cT4 c] [] (RR (.tup [.s (.string ⟨#[]⟩), .s (.int .i64 c.check)]) 0 []) := by
 refine VC.enterR (L0 mx) (show (E0 mx).func 12 = some Tryd.f12 by kernel_rfl) (fun _ _ => rfl) rfl rfl [] ?_
 ((conv=>whnf)<;>repeat(with_reducible refine D1 ?_)<;>conv=>whnf)
 refine ⟨[], [], _, _, _, _, check_ok c.kind c.chain c.epoch c.node, t3, ?_⟩
 rintro r o' c' ⟨rfl, rfl, rfl⟩
 ((conv=>whnf)<;>repeat(with_reducible refine D1 ?_)<;>conv=>whnf)
 (first|refine ⟨?_,?_⟩|refine nsplit ?_ ?_|refine bsplit ?_ ?_)<;>intro hc<;>have hz_:=True.intro<;>clear hz_
 ·((conv=>whnf)<;>repeat(with_reducible refine D1 ?_)<;>conv=>whnf)
  exact ⟨[], [], _, _, _, t3, rfl, rfl, rfl⟩
 ·exact absurd h hc
theorem text_ok (c : Cmd) (he : 0 ≤ c.epoch ∧ c.epoch < 18446744073709551616) (h : c.check = 0) : VC (E0 mx) 12 0 [cT4 c] [] (RR (.tup [.s (.string (textS c)), .s (.int .i64 0)]) 0 []) := by
 obtain ⟨hk, hz, hn⟩ := check_fields he.1 h
 refine VC.enterR (L0 mx) (show (E0 mx).func 12 = some Tryd.f12 by kernel_rfl) (fun _ _ => rfl) rfl rfl [] ?_
 ((conv=>whnf)<;>repeat(with_reducible refine D1 ?_)<;>conv=>whnf)
 refine ⟨[], [], _, _, _, _, check_ok c.kind c.chain c.epoch c.node, t3, ?_⟩
 rintro r o' c' ⟨rfl, rfl, rfl⟩
 ((conv=>whnf)<;>repeat(with_reducible refine D1 ?_)<;>conv=>whnf)
 (first|refine ⟨?_,?_⟩|refine nsplit ?_ ?_|refine bsplit ?_ ?_)<;>intro hc<;>have hz_:=True.intro<;>clear hz_
 ·exact absurd h hc
 ·((conv=>whnf)<;>repeat(with_reducible refine D1 ?_)<;>conv=>whnf)
  (first|refine ⟨?_,?_⟩|refine nsplit ?_ ?_|refine bsplit ?_ ?_)<;>intro h0<;>have hz_:=True.intro<;>clear hz_
  ·have h0 : c.kind = 0 := h0
   ((conv=>whnf)<;>repeat(with_reducible refine D1 ?_)<;>conv=>whnf)
   refine ⟨[], [], _, _, _, _, name_ok 0 0 [], t3, ?_⟩
   rintro r o' c' ⟨rfl, rfl, rfl⟩
   ((conv=>whnf)<;>repeat(with_reducible refine D1 ?_)<;>conv=>whnf)
   refine ⟨[], [], ?_⟩
   iterate 3 constructor
   refine ⟨⟨?_, ?_, ?_⟩, rfl, rfl, rfl⟩
   all_goals (repeat' first|with_reducible exact Lz.rfl|exact Lw.rfl|exact Lz.wrap (by omega)|(unfold goInt;with_reducible exact Lz.rfl)|exact flx _|constructor)
   exact Lz.of (congrArg _ (by unfold textS; rw [if_pos h0]; rfl))
  ·have h0 : ¬ c.kind = 0 := h0
   obtain ⟨h1, h2, h3, h4⟩ := hn h0
   ((conv=>whnf)<;>repeat(with_reducible refine D1 ?_)<;>conv=>whnf)
   refine ⟨[], [], _, _, _, _, name_ok c.kind 0 [], t3, ?_⟩
   rintro r o' c' ⟨rfl, rfl, rfl⟩
   ((conv=>whnf)<;>repeat(with_reducible refine D1 ?_)<;>conv=>whnf)
   refine ⟨[], [], _, _, _, _, itoa_ok c.chain (by omega) (by omega) 0 [], t3, ?_⟩
   rintro r o' c' ⟨rfl, rfl, rfl⟩
   ((conv=>whnf)<;>repeat(with_reducible refine D1 ?_)<;>conv=>whnf)
   refine ⟨[], [], _, _, _, _, fmt38_ok c.epoch he.1 he.2, t3, ?_⟩
   rintro r o' c' ⟨rfl, rfl, rfl⟩
   ((conv=>whnf)<;>repeat(with_reducible refine D1 ?_)<;>conv=>whnf)
   refine ⟨[], [], _, _, _, _, itoa_ok c.node (by omega) (by omega) 0 [], t3, ?_⟩
   rintro r o' c' ⟨rfl, rfl, rfl⟩
   ((conv=>whnf)<;>repeat(with_reducible refine D1 ?_)<;>conv=>whnf)
   have s1 := decS_size c.chain.toNat (by omega)
   have s2 := decS_size c.epoch.toNat (by omega)
   have s3 := decS_size c.node.toNat (by omega)
   have s0 := nameS_size c.kind
   have hj := join4 (nameS c.kind) (decS c.chain.toNat) (decS c.epoch.toNat) (decS c.node.toNat)
   have hjl : (Lib.join ([nameS c.kind, decS c.chain.toNat, decS c.epoch.toNat, decS c.node.toNat].map (·.data.toList)) spB.data.toList).length ≤ 1000000 := by
    have := congrArg (fun b : ByteArray => b.data.toList.length) hj
    simp only [List.toList_toArray] at this
    rw [this, sizeL]
    simp only [ByteArray.size_append]
    have : spB.size = 1 := rfl
    omega
   refine ⟨[1], [], _, _, _, _, joinS_ok [nameS c.kind, decS c.chain.toNat, decS c.epoch.toNat, decS c.node.toNat] spB (Nat.succ_pos _) (by simp) hjl 0 [], t3, ?_⟩
   rintro r o' c' ⟨rfl, rfl, rfl⟩
   ((conv=>whnf)<;>repeat(with_reducible refine D1 ?_)<;>conv=>whnf)
   refine ⟨[], [], ?_⟩
   iterate 3 constructor
   refine ⟨⟨?_, ?_, ?_⟩, rfl, rfl, rfl⟩
   all_goals (repeat' first|with_reducible exact Lz.rfl|exact Lw.rfl|exact Lz.wrap (by omega)|(unfold goInt;with_reducible exact Lz.rfl)|exact flx _|constructor)
   exact Lz.of (congrArg _ (by rw [hj]; unfold textS; rw [if_neg h0]; rfl))
theorem szsp : spB.size = 1 := rfl
theorem refText_ok (c : Cmd) (he : 0 ≤ c.epoch ∧ c.epoch < 18446744073709551616) (h : c.check = 0) : VC (E0 mx) 29 0 [cT4 c] [] (RR (.s (.string (textS c))) 0 []) := by
 obtain ⟨hk, hz, hn⟩ := check_fields he.1 h
 refine VC.enterR (L0 mx) (show (E0 mx).func 29 = some Tryd.f29 by kernel_rfl) (fun _ _ => rfl) rfl rfl [] ?_
 ((conv=>whnf)<;>repeat(with_reducible refine D1 ?_)<;>conv=>whnf)
 (first|refine ⟨?_,?_⟩|refine nsplit ?_ ?_|refine bsplit ?_ ?_)<;>intro h0<;>have hz_:=True.intro<;>clear hz_
 ·have h0 : c.kind = 0 := h0
  ((conv=>whnf)<;>repeat(with_reducible refine D1 ?_)<;>conv=>whnf)
  refine ⟨[], [], ?_⟩
  iterate 3 constructor
  refine ⟨⟨?_, ?_, ?_⟩, rfl, rfl, rfl⟩
  all_goals (repeat' first|with_reducible exact Lz.rfl|exact Lw.rfl|exact Lz.wrap (by omega)|(unfold goInt;with_reducible exact Lz.rfl)|exact flx _|constructor)
  exact Lz.of (congrArg _ (by unfold textS; rw [if_pos h0]))
 ·have h0 : ¬ c.kind = 0 := h0
  obtain ⟨h1, h2, h3, h4⟩ := hn h0
  have s1 := decS_size c.chain.toNat (by omega)
  have s2 := decS_size c.epoch.toNat (by omega)
  have s3 := decS_size c.node.toNat (by omega)
  have s0 := nameS_size c.kind
  have w1 : IntKind.u64.wrap c.chain = ((c.chain.toNat : Nat) : Int) := by rw [IntKind.wrap_u64]; omega
  have w2 : c.epoch = ((c.epoch.toNat : Nat) : Int) := by omega
  have w3 : IntKind.u64.wrap c.node = ((c.node.toNat : Nat) : Int) := by rw [IntKind.wrap_u64]; omega
  ((conv=>whnf)<;>repeat(with_reducible refine D1 ?_)<;>conv=>whnf)
  refine ⟨[], [], _, _, _, _, refName_ok c.kind, t3, ?_⟩
  rintro r o' c' ⟨rfl, rfl, rfl⟩
  ((conv=>whnf)<;>repeat(with_reducible refine D1 ?_)<;>conv=>whnf)
  refine ⟨by simp only [ByteArray.size_append, szsp]; omega, ?_⟩
  ((conv=>whnf)<;>repeat(with_reducible refine D1 ?_)<;>conv=>whnf)
  refine ⟨[], [], _, _, _, _, digits_ok c.chain.toNat (by omega), ⟨by ((repeat' first|with_reducible exact Lz.rfl|exact Lw.rfl|exact Lz.wrap (by omega)|(unfold goInt;with_reducible exact Lz.rfl)|exact flx _|constructor); all_goals (exact Lz.of (congrArg _ w1))), by ((repeat' first|with_reducible exact Lz.rfl|exact Lw.rfl|exact Lz.wrap (by omega)|(unfold goInt;with_reducible exact Lz.rfl)|exact flx _|constructor); all_goals (exact Lz.of (congrArg _ w1))), by rfl⟩, ?_⟩
  rintro r o' c' ⟨rfl, rfl, rfl⟩
  ((conv=>whnf)<;>repeat(with_reducible refine D1 ?_)<;>conv=>whnf)
  refine ⟨by simp only [ByteArray.size_append, szsp]; omega, ?_⟩
  ((conv=>whnf)<;>repeat(with_reducible refine D1 ?_)<;>conv=>whnf)
  refine ⟨by simp only [ByteArray.size_append, szsp]; omega, ?_⟩
  ((conv=>whnf)<;>repeat(with_reducible refine D1 ?_)<;>conv=>whnf)
  refine ⟨[], [], _, _, _, _, digits_ok c.epoch.toNat (by omega), ⟨by ((repeat' first|with_reducible exact Lz.rfl|exact Lw.rfl|exact Lz.wrap (by omega)|(unfold goInt;with_reducible exact Lz.rfl)|exact flx _|constructor); all_goals (exact Lz.of (congrArg _ w2))), by ((repeat' first|with_reducible exact Lz.rfl|exact Lw.rfl|exact Lz.wrap (by omega)|(unfold goInt;with_reducible exact Lz.rfl)|exact flx _|constructor); all_goals (exact Lz.of (congrArg _ w2))), by rfl⟩, ?_⟩
  rintro r o' c' ⟨rfl, rfl, rfl⟩
  ((conv=>whnf)<;>repeat(with_reducible refine D1 ?_)<;>conv=>whnf)
  refine ⟨by simp only [ByteArray.size_append, szsp]; omega, ?_⟩
  ((conv=>whnf)<;>repeat(with_reducible refine D1 ?_)<;>conv=>whnf)
  refine ⟨by simp only [ByteArray.size_append, szsp]; omega, ?_⟩
  ((conv=>whnf)<;>repeat(with_reducible refine D1 ?_)<;>conv=>whnf)
  refine ⟨[], [], _, _, _, _, digits_ok c.node.toNat (by omega), ⟨by ((repeat' first|with_reducible exact Lz.rfl|exact Lw.rfl|exact Lz.wrap (by omega)|(unfold goInt;with_reducible exact Lz.rfl)|exact flx _|constructor); all_goals (exact Lz.of (congrArg _ w3))), by ((repeat' first|with_reducible exact Lz.rfl|exact Lw.rfl|exact Lz.wrap (by omega)|(unfold goInt;with_reducible exact Lz.rfl)|exact flx _|constructor); all_goals (exact Lz.of (congrArg _ w3))), by rfl⟩, ?_⟩
  rintro r o' c' ⟨rfl, rfl, rfl⟩
  ((conv=>whnf)<;>repeat(with_reducible refine D1 ?_)<;>conv=>whnf)
  refine ⟨by simp only [ByteArray.size_append, szsp]; omega, ?_⟩
  ((conv=>whnf)<;>repeat(with_reducible refine D1 ?_)<;>conv=>whnf)
  refine ⟨[], [], ?_⟩
  iterate 3 constructor
  refine ⟨⟨?_, ?_, ?_⟩, rfl, rfl, rfl⟩
  all_goals (repeat' first|with_reducible exact Lz.rfl|exact Lw.rfl|exact Lz.wrap (by omega)|(unfold goInt;with_reducible exact Lz.rfl)|exact flx _|constructor)
  exact Lz.of (congrArg _ (by unfold textS; rw [if_neg h0]; rfl))
theorem wordsB_of {s : ByteArray} {xs : List ByteArray} (h : wordsL s.data.toList [] = xs.map (fun b : ByteArray => b.data.toList)) : wordsB s = xs := by
 unfold wordsB
 rw [h, List.map_map]
 conv => rhs; rw [← List.map_id xs]
 exact List.map_congr_left fun x _ => rfl
theorem extract1 {s : ByteArray} {i : Nat} {b : UInt8} (h : s.data.toList[i]? = some b) : s.extract i (i + 1) = ⟨#[b]⟩ := by
 apply ba_ext
 obtain ⟨hi, he⟩ := List.getElem?_eq_some_iff.1 h
 rw [Lib.extract_data]
 apply List.ext_getElem?
 intro j
 cases j with
 | zero => simp; simpa using h
 | succ j => simp; omega
@[reducible] def wF (s : ByteArray) (t : TV) (cur : ByteArray) (i : Nat) : Fr := [(0, .s (.string s)), (3, t), (4, .s (.string cur)), (5, .s (.int .i64 i))]
theorem words_ok (s : ByteArray) (hs : s.size < 1000000) : VC (E0 mx) 33 0 [.s (.string s)] [] (RR (.tk 0) 1 [(0, .arr 1 true ((wordsB s).map encS))]) := by
 have hsl := size_len s
 refine VC.enterR (L0 mx) (show (E0 mx).func 33 = some Tryd.f33 by kernel_rfl) (fun _ _ => rfl) rfl rfl [] ?_
 ((conv=>whnf)<;>repeat(with_reducible refine D1 ?_)<;>conv=>whnf)
 refine ⟨fun k f o cc => ∃ (i : Nat) (done : List ByteArray) (cur : ByteArray), i ≤ s.size ∧ k = s.size - i ∧ (wordsL s.data.toList [] = done.map (fun b : ByteArray => b.data.toList) ++ wordsL (s.data.toList.drop i) cur.data.toList ∧ done.length ≤ i ∧ cur.size ≤ i) ∧
  ((done = [] ∧ cc = 0 ∧ f = wF s (.sl 0 [] true) cur i ∧ o = []) ∨ (done ≠ [] ∧ cc = 1 ∧ f = wF s (.tk 0) cur i ∧ o = [(0, .arr 1 true (done.map encS))])), ⟨s.size, ?_⟩, ?_⟩
 ·exact ⟨[], [], _, _, _, t3, ⟨0, [], ⟨#[]⟩, Nat.zero_le _, rfl, ⟨rfl, Nat.le_refl _, Nat.le_refl _⟩, .inl ⟨rfl, rfl, rfl, rfl⟩⟩⟩
 ·rintro k f1 o1 c1 ⟨i, done, cur, hi, rfl, ⟨hw, hdl, hcl⟩, hst⟩
  by_cases h : i < s.size
  ·obtain ⟨b, hb⟩ : ∃ b, s.data.toList[i]? = some b := ⟨s.data.toList[i]'(by omega), by simp⟩
   have hb' : s.data.toList[((i : Nat) : Int).toNat]? = some b := hb
   have hdr : s.data.toList.drop i = b :: s.data.toList.drop (i + 1) := by
    obtain ⟨q1, q2⟩ := List.getElem?_eq_some_iff.1 hb
    rw [List.drop_eq_getElem_cons q1, q2]
   have w1 : IntKind.i64.wrap ((i : Int) + 1) = ((i + 1 : Nat) : Int) := IntWalk.i64_in _ ⟨by omega, by omega⟩
   by_cases h32 : b = 32
   ·subst h32
    have hw' : wordsL s.data.toList [] = (done ++ [cur]).map (fun b : ByteArray => b.data.toList) ++ wordsL (s.data.toList.drop (i + 1)) (ByteArray.mk #[]).data.toList := by
     rw [hw, hdr, List.map_append]
     show _ ++ (cur.data.toList :: wordsL _ []) = _
     simp
    rcases hst with ⟨rfl, rfl, rfl, rfl⟩ | ⟨hne, rfl, rfl, rfl⟩
    ·((conv=>whnf)<;>repeat(with_reducible refine D1 ?_)<;>conv=>whnf)
     (first|refine ⟨?_,?_⟩|refine nsplit ?_ ?_|refine bsplit ?_ ?_)<;>intro h2<;>have hz_:=True.intro<;>clear hz_
     ·((conv=>whnf)<;>repeat(with_reducible refine D1 ?_)<;>conv=>whnf)
      refine ⟨32, ⟨by omega, hb'⟩, ?_⟩
      ((conv=>whnf)<;>repeat(with_reducible refine D1 ?_)<;>conv=>whnf)
      repeat ((first | (refine ⟨fun h_ => ?_, fun h_ => ?_⟩) | (refine nsplit (fun h_ => ?_) (fun h_ => ?_)) | (refine bsplit (fun h_ => ?_) (fun h_ => ?_))) <;> first | (exfalso; revert h_; decide; done) | (exact absurd rfl h_) | (have hz_ := True.intro; clear hz_; ((conv=>whnf)<;>repeat(with_reducible refine D1 ?_)<;>conv=>whnf)))
      refine ⟨by simp, ?_⟩
      ((conv=>whnf)<;>repeat(with_reducible refine D1 ?_)<;>conv=>whnf)
      refine ⟨s.size - (i + 1), ?_, by omega⟩
      exact ⟨[], [some 1], _, _, _, t3, ⟨i + 1, [cur], ⟨#[]⟩, h, rfl, ⟨hw', by simp, by show 0 ≤ _; omega⟩, .inr ⟨by simp, rfl, rfl, rfl⟩⟩⟩
     ·exact absurd (show (i : Int) < (s.size : Int) by omega) h2
    ·((conv=>whnf)<;>repeat(with_reducible refine D1 ?_)<;>conv=>whnf)
     (first|refine ⟨?_,?_⟩|refine nsplit ?_ ?_|refine bsplit ?_ ?_)<;>intro h2<;>have hz_:=True.intro<;>clear hz_
     ·((conv=>whnf)<;>repeat(with_reducible refine D1 ?_)<;>conv=>whnf)
      refine ⟨32, ⟨by omega, hb'⟩, ?_⟩
      ((conv=>whnf)<;>repeat(with_reducible refine D1 ?_)<;>conv=>whnf)
      repeat ((first | (refine ⟨fun h_ => ?_, fun h_ => ?_⟩) | (refine nsplit (fun h_ => ?_) (fun h_ => ?_)) | (refine bsplit (fun h_ => ?_) (fun h_ => ?_))) <;> first | (exfalso; revert h_; decide; done) | (exact absurd rfl h_) | (have hz_ := True.intro; clear hz_; ((conv=>whnf)<;>repeat(with_reducible refine D1 ?_)<;>conv=>whnf)))
      refine ⟨by simp; omega, ?_⟩
      ((conv=>whnf)<;>repeat(with_reducible refine D1 ?_)<;>conv=>whnf)
      refine ⟨s.size - (i + 1), ?_, by omega⟩
      refine ⟨[], [some 2], ?_⟩
      iterate 3 constructor
      refine ⟨⟨?_, ?_, ?_⟩, ⟨i + 1, done ++ [cur], ⟨#[]⟩, h, rfl, ⟨hw', by simp; omega, by show 0 ≤ _; omega⟩, .inr ⟨by simp, rfl, rfl, rfl⟩⟩⟩
      all_goals (repeat' first|with_reducible exact Lz.rfl|exact Lw.rfl|exact Lz.wrap (by omega)|(unfold goInt;with_reducible exact Lz.rfl)|exact flx _|constructor)
      all_goals first | exact Lw.of (by rw [List.map_append]; rfl) | trace_state
     ·exact absurd (show (i : Int) < (s.size : Int) by omega) h2
   ·have h32' : ¬ (b.toNat : Int) = 32 := fun e => h32 (UInt8.toNat_inj.1 (show b.toNat = 32 by omega))
    have hx := extract1 hb
    have hsz : (cur ++ ⟨#[b]⟩ : ByteArray).size ≤ i + 1 := by
     rw [ByteArray.size_append]
     have : (ByteArray.mk #[b]).size = 1 := rfl
     omega
    have hw' : wordsL s.data.toList [] = done.map (fun b : ByteArray => b.data.toList) ++ wordsL (s.data.toList.drop (i + 1)) (cur ++ ⟨#[b]⟩ : ByteArray).data.toList := by
     rw [hw, hdr]
     show _ ++ (if b = 32 then _ else wordsL _ (cur.data.toList ++ [b])) = _
     rw [if_neg h32, ByteArray.data_append]
     simp
    have hex : (s.extract ((i : Nat) : Int).toNat (IntKind.i64.wrap ((i : Int) + 1)).toNat) = ⟨#[b]⟩ := by
     rw [w1, Int.toNat_natCast, Int.toNat_natCast, hx]
    rcases hst with ⟨rfl, rfl, rfl, rfl⟩ | ⟨hne, rfl, rfl, rfl⟩
    ·((conv=>whnf)<;>repeat(with_reducible refine D1 ?_)<;>conv=>whnf)
     (first|refine ⟨?_,?_⟩|refine nsplit ?_ ?_|refine bsplit ?_ ?_)<;>intro h2<;>have hz_:=True.intro<;>clear hz_
     ·((conv=>whnf)<;>repeat(with_reducible refine D1 ?_)<;>conv=>whnf)
      refine ⟨b, ⟨by omega, hb'⟩, ?_⟩
      ((conv=>whnf)<;>repeat(with_reducible refine D1 ?_)<;>conv=>whnf)
      (first|refine ⟨?_,?_⟩|refine nsplit ?_ ?_|refine bsplit ?_ ?_)<;>intro h3<;>have hz_:=True.intro<;>clear hz_
      ·exact absurd h3 h32'
      ·((conv=>whnf)<;>repeat(with_reducible refine D1 ?_)<;>conv=>whnf)
       refine ⟨⟨by omega, by rw [w1]; omega, by rw [w1]; omega⟩, ?_⟩
       ((conv=>whnf)<;>repeat(with_reducible refine D1 ?_)<;>conv=>whnf)
       refine ⟨by rw [hex]; have : (ByteArray.mk #[b]).size = 1 := rfl
                  omega, ?_⟩
       ((conv=>whnf)<;>repeat(with_reducible refine D1 ?_)<;>conv=>whnf)
       refine ⟨s.size - (i + 1), ?_, by omega⟩
       refine ⟨[], [], ?_⟩
       iterate 3 constructor
       refine ⟨⟨?_, ?_, ?_⟩, ⟨i + 1, [], cur ++ ⟨#[b]⟩, h, rfl, ⟨hw', by simp, hsz⟩, .inl ⟨rfl, rfl, rfl, rfl⟩⟩⟩
       all_goals (repeat' first|with_reducible exact Lz.rfl|exact Lw.rfl|exact Lz.wrap (by omega)|(unfold goInt;with_reducible exact Lz.rfl)|exact flx _|constructor)
       all_goals first | exact Lz.of (by rw [hex]) | exact Lz.of (congrArg _ (by rw [hex])) | trace_state
     ·exact absurd (show (i : Int) < (s.size : Int) by omega) h2
    ·((conv=>whnf)<;>repeat(with_reducible refine D1 ?_)<;>conv=>whnf)
     (first|refine ⟨?_,?_⟩|refine nsplit ?_ ?_|refine bsplit ?_ ?_)<;>intro h2<;>have hz_:=True.intro<;>clear hz_
     ·((conv=>whnf)<;>repeat(with_reducible refine D1 ?_)<;>conv=>whnf)
      refine ⟨b, ⟨by omega, hb'⟩, ?_⟩
      ((conv=>whnf)<;>repeat(with_reducible refine D1 ?_)<;>conv=>whnf)
      (first|refine ⟨?_,?_⟩|refine nsplit ?_ ?_|refine bsplit ?_ ?_)<;>intro h3<;>have hz_:=True.intro<;>clear hz_
      ·exact absurd h3 h32'
      ·((conv=>whnf)<;>repeat(with_reducible refine D1 ?_)<;>conv=>whnf)
       refine ⟨⟨by omega, by rw [w1]; omega, by rw [w1]; omega⟩, ?_⟩
       ((conv=>whnf)<;>repeat(with_reducible refine D1 ?_)<;>conv=>whnf)
       refine ⟨by rw [hex]; have : (ByteArray.mk #[b]).size = 1 := rfl
                  omega, ?_⟩
       ((conv=>whnf)<;>repeat(with_reducible refine D1 ?_)<;>conv=>whnf)
       refine ⟨s.size - (i + 1), ?_, by omega⟩
       refine ⟨[], [some 0], ?_⟩
       iterate 3 constructor
       refine ⟨⟨?_, ?_, ?_⟩, ⟨i + 1, done, cur ++ ⟨#[b]⟩, h, rfl, ⟨hw', by omega, hsz⟩, .inr ⟨hne, rfl, rfl, rfl⟩⟩⟩
       all_goals (repeat' first|with_reducible exact Lz.rfl|exact Lw.rfl|exact Lz.wrap (by omega)|(unfold goInt;with_reducible exact Lz.rfl)|exact flx _|constructor)
       all_goals first | exact Lz.of (by rw [hex]) | exact Lz.of (congrArg _ (by rw [hex])) | trace_state
     ·exact absurd (show (i : Int) < (s.size : Int) by omega) h2
  ·have hi' : i = s.size := by omega
   subst hi'
   have hfin : wordsB s = done ++ [cur] := wordsB_of (by
    rw [hw, List.drop_eq_nil_of_le (by omega), List.map_append]
    rfl)
   rw [hfin]
   rcases hst with ⟨rfl, rfl, rfl, rfl⟩ | ⟨hne, rfl, rfl, rfl⟩
   ·((conv=>whnf)<;>repeat(with_reducible refine D1 ?_)<;>conv=>whnf)
    (first|refine ⟨?_,?_⟩|refine nsplit ?_ ?_|refine bsplit ?_ ?_)<;>intro h2<;>have hz_:=True.intro<;>clear hz_
    ·exact absurd h2 (by show ¬ (s.size : Int) < (s.size : Int); omega)
    ·((conv=>whnf)<;>repeat(with_reducible refine D1 ?_)<;>conv=>whnf)
     refine ⟨by simp, ?_⟩
     ((conv=>whnf)<;>repeat(with_reducible refine D1 ?_)<;>conv=>whnf)
     exact ⟨[], [some 1], _, _, _, t3, rfl, rfl, rfl⟩
   ·((conv=>whnf)<;>repeat(with_reducible refine D1 ?_)<;>conv=>whnf)
    (first|refine ⟨?_,?_⟩|refine nsplit ?_ ?_|refine bsplit ?_ ?_)<;>intro h2<;>have hz_:=True.intro<;>clear hz_
    ·exact absurd h2 (by show ¬ (s.size : Int) < (s.size : Int); omega)
    ·((conv=>whnf)<;>repeat(with_reducible refine D1 ?_)<;>conv=>whnf)
     refine ⟨by simp; omega, ?_⟩
     ((conv=>whnf)<;>repeat(with_reducible refine D1 ?_)<;>conv=>whnf)
     refine ⟨[], [some 2], ?_⟩
     iterate 3 constructor
     refine ⟨⟨?_, ?_, ?_⟩, rfl, rfl, rfl⟩
     all_goals (repeat' first|with_reducible exact Lz.rfl|exact Lw.rfl|exact Lz.wrap (by omega)|(unfold goInt;with_reducible exact Lz.rfl)|exact flx _|constructor)
     all_goals first | exact Lw.of (by rw [List.map_append]; rfl) | trace_state
end Go.M
namespace Go.M
open Go Go.Proofs
set_option maxRecDepth 100000
set_option maxHeartbeats 4000000
variable {mx : Int}
theorem cloneB_ok (l : List Int) (hl : l.length < 1000000) : VC (E0 mx) 41 0 [.sl 1 (l.map encU1) false] [] (RR (.sl 1 (l.map encU1) false) 0 []) := by
 refine VC.enterR (L0 mx) (show (E0 mx).func 41 = some Tryd.f41 by kernel_rfl) (fun _ _ => rfl) rfl rfl [] ?_
 ((conv=>whnf)<;>repeat(with_reducible refine D1 ?_)<;>conv=>whnf)
 refine ⟨fun h => ?_, ?_⟩
 ·have h : l = [] := by simpa using h
  subst h
  ((conv=>whnf)<;>repeat(with_reducible refine D1 ?_)<;>conv=>whnf)
  exact ⟨[], [], _, _, _, t3, rfl, rfl, rfl⟩
 ·((conv=>whnf)<;>repeat(with_reducible refine D1 ?_)<;>conv=>whnf)
  refine ⟨by simp; omega, ?_⟩
  ((conv=>whnf)<;>repeat(with_reducible refine D1 ?_)<;>conv=>whnf)
  exact ⟨[1], [], _, _, _, t3, rfl, rfl, rfl⟩
theorem known_ok (w : Nat) (h1 : 1 ≤ w) (h8 : w ≤ 8) : VC (E0 mx) 56 0 [.s (.int .i64 w)] [] (RR (.s (.bool true)) 0 []) := by
 refine VC.enterR (L0 mx) (show (E0 mx).func 56 = some Tryd.f56 by kernel_rfl) (fun _ _ => rfl) rfl rfl [] ?_
 ((conv=>whnf)<;>repeat(with_reducible refine D1 ?_)<;>conv=>whnf)
 (first|refine ⟨?_,?_⟩|refine nsplit ?_ ?_|refine bsplit ?_ ?_)<;>intro h<;>have hz_:=True.intro<;>clear hz_
 ·((conv=>whnf)<;>repeat(with_reducible refine D1 ?_)<;>conv=>whnf)
  (first|refine ⟨?_,?_⟩|refine nsplit ?_ ?_|refine bsplit ?_ ?_)<;>intro h'<;>have hz_:=True.intro<;>clear hz_
  ·((conv=>whnf)<;>repeat(with_reducible refine D1 ?_)<;>conv=>whnf)
   exact ⟨[], [], _, _, _, t3, rfl, rfl, rfl⟩
  ·exact absurd (show (w : Int) ≤ 8 by omega) h'
 ·exact absurd (show (w : Int) ≥ 1 by omega) h
theorem laid_set (w i n : Nat) (h : i < w) : ((List.replicate (w - i) (0 : Int) ++ bigL i n).map encU1).set (w - 1 - i) (encU1 ((n / 256 ^ i % 256 : Nat) : Int)) = (List.replicate (w - (i + 1)) (0 : Int) ++ bigL (i + 1) n).map encU1 := by
 have e : w - i = (w - (i + 1)) + 1 := by omega
 rw [← List.map_set, e, List.replicate_succ', List.append_assoc, List.set_append_right _ _ (by simp; omega), bigL_cons]
 congr 2
 rw [List.length_replicate, show w - 1 - i - (w - (i + 1)) = 0 by omega]
 rfl
theorem laid_get (w i n : Nat) (h : i < w) : ((List.replicate (w - i) (0 : Int) ++ bigL i n).map encU1)[w - 1 - i]? = some (encU1 0) := by
 have e : w - i = (w - (i + 1)) + 1 := by omega
 rw [e, List.replicate_succ', List.append_assoc, List.map_append, List.getElem?_append_right (by simp; omega)]
 simp
 rw [show w - 1 - i - (w - (i + 1)) = 0 by omega]
 rfl
theorem laid_ok (n : Nat) (w : Nat) (h1 : 1 ≤ w) (h8 : w ≤ 8) : VC (E0 mx) 60 0 [.s (.int .u64 n), .s (.int .i64 w)] [] (RR (.tk 0) 1 [(0, .arr 1 true ((bigL w n).map encU1))]) := by
 refine VC.enterR (L0 mx) (show (E0 mx).func 60 = some Tryd.f60 by kernel_rfl) (fun _ _ => rfl) rfl rfl [] ?_
 ((conv=>whnf)<;>repeat(with_reducible refine D1 ?_)<;>conv=>whnf)
 refine ⟨⟨by omega, by omega, by omega⟩, ?_⟩
 ((conv=>whnf)<;>repeat(with_reducible refine D1 ?_)<;>conv=>whnf)
 refine ⟨fun k f o c => ∃ i : Nat, i ≤ w ∧ k = w - i ∧ c = 1 ∧ f = [(0, .s (.int .u64 n)), (1, .s (.int .i64 w)), (5, .tk 0), (10, .s (.int .i64 w)), (11, .s (.int .i64 i))] ∧ o = [(0, .arr 1 true ((List.replicate (w - i) 0 ++ bigL i n).map encU1))], ⟨w, ?_⟩, ?_⟩
 ·refine ⟨[], [some 0], ?_⟩
  iterate 3 constructor
  refine ⟨⟨?_, ?_, ?_⟩, ⟨0, Nat.zero_le _, rfl, rfl, rfl, rfl⟩⟩
  all_goals (repeat' first|with_reducible exact Lz.rfl|exact Lw.rfl|exact Lz.wrap (by omega)|(unfold goInt;with_reducible exact Lz.rfl)|exact flx _|constructor)
  all_goals first | exact Lz.int (by simp) | exact Lz.of (by simp [bigL]; exact .inr rfl) | trace_state
 ·rintro k f1 o1 c1 ⟨i, hi, rfl, rfl, rfl, rfl⟩
  ((conv=>whnf)<;>repeat(with_reducible refine D1 ?_)<;>conv=>whnf)
  (first|refine ⟨?_,?_⟩|refine nsplit ?_ ?_|refine bsplit ?_ ?_)<;>intro h<;>have hz_:=True.intro<;>clear hz_
  ·have h : i < w := by have : (i : Int) < w := h
                        omega
   ((conv=>whnf)<;>repeat(with_reducible refine D1 ?_)<;>conv=>whnf)
   rw [shr_eq n i (by omega)]
   ((conv=>whnf)<;>repeat(with_reducible refine D1 ?_)<;>conv=>whnf)
   have hw : IntKind.i64.wrap (IntKind.i64.wrap ((w : Int) - 1) - (i : Int)) = ((w - 1 - i : Nat) : Int) := by
    rw [IntWalk.i64_in _ (by rw [IntWalk.i64_in _ (by omega)]; omega), IntWalk.i64_in _ (by omega)]; omega
   refine ⟨by rw [hw]; simp [bigL_len]; omega, ?_⟩
   ((conv=>whnf)<;>repeat(with_reducible refine D1 ?_)<;>conv=>whnf)
   refine ⟨encU1 0, by rw [hw, Int.toNat_natCast]; exact laid_get w i n h, ?_⟩
   ((conv=>whnf)<;>repeat(with_reducible refine D1 ?_)<;>conv=>whnf)
   refine ⟨w - (i + 1), ?_, by omega⟩
   refine ⟨[], [some 0], ?_⟩
   iterate 3 constructor
   refine ⟨⟨?_, ?_, ?_⟩, ⟨i + 1, h, rfl, rfl, rfl, rfl⟩⟩
   all_goals (repeat' first|with_reducible exact Lz.rfl|exact Lw.rfl|exact Lz.wrap (by omega)|(unfold goInt;with_reducible exact Lz.rfl)|exact flx _|constructor)
   all_goals first | exact Lw.of (by rw [hw, Int.toNat_natCast, ← laid_set w i n h, IntKind.wrap_u8]; simp) | exact Lz.of (by rw [hw, Int.toNat_natCast, ← laid_set w i n h, IntKind.wrap_u8]; simp) | trace_state
  ·have hi' : i = w := by have : ¬ (i : Int) < w := h
                          omega
   subst hi'
   rw [Nat.sub_self]
   ((conv=>whnf)<;>repeat(with_reducible refine D1 ?_)<;>conv=>whnf)
   exact ⟨[], [some 0], _, _, _, t3, rfl, rfl, rfl⟩
theorem fits_ok (n : Nat) (w : Nat) (h1 : 1 ≤ w) (h8 : w ≤ 8) (hn : n < 18446744073709551616) : VC (E0 mx) 58 0 [.s (.int .u64 n), .s (.int .i64 w)] [] (RR (.s (.bool (decide (n < 256 ^ w)))) 0 []) := by
 refine VC.enterR (L0 mx) (show (E0 mx).func 58 = some Tryd.f58 by kernel_rfl) (fun _ _ => rfl) rfl rfl [] ?_
 ((conv=>whnf)<;>repeat(with_reducible refine D1 ?_)<;>conv=>whnf)
 (first|refine ⟨?_,?_⟩|refine nsplit ?_ ?_|refine bsplit ?_ ?_)<;>intro h<;>have hz_:=True.intro<;>clear hz_
 ·have h : w = 8 := by have : (w : Int) = 8 := h
                       omega
  subst h
  ((conv=>whnf)<;>repeat(with_reducible refine D1 ?_)<;>conv=>whnf)
  refine ⟨[], [], ?_⟩
  iterate 3 constructor
  refine ⟨⟨?_, ?_, ?_⟩, rfl, rfl, rfl⟩
  all_goals (repeat' first|with_reducible exact Lz.rfl|exact Lw.rfl|exact Lz.wrap (by omega)|(unfold goInt;with_reducible exact Lz.rfl)|exact flx _|constructor)
  exact Lz.of (bool_eq (decide_eq_true (show n < 256 ^ 8 by omega)).symm)
 ·((conv=>whnf)<;>repeat(with_reducible refine D1 ?_)<;>conv=>whnf)
  rw [shr_eq n w (by omega)]
  ((conv=>whnf)<;>repeat(with_reducible refine D1 ?_)<;>conv=>whnf)
  (first|refine ⟨?_,?_⟩|refine nsplit ?_ ?_|refine bsplit ?_ ?_)<;>intro h0<;>have hz_:=True.intro<;>clear hz_
  ·have h0 : ((n / 256 ^ w : Nat) : Int) = 0 := h0
   ((conv=>whnf)<;>repeat(with_reducible refine D1 ?_)<;>conv=>whnf)
   refine ⟨[], [], ?_⟩
   iterate 3 constructor
   refine ⟨⟨?_, ?_, ?_⟩, rfl, rfl, rfl⟩
   all_goals (repeat' first|with_reducible exact Lz.rfl|exact Lw.rfl|exact Lz.wrap (by omega)|(unfold goInt;with_reducible exact Lz.rfl)|exact flx _|constructor)
   exact Lz.of (bool_eq (decide_eq_true (show n < 256 ^ w from (Nat.div_eq_zero_iff_lt (Nat.pow_pos (by decide))).1 (by omega))).symm)
  ·have h0 : ¬ ((n / 256 ^ w : Nat) : Int) = 0 := h0
   ((conv=>whnf)<;>repeat(with_reducible refine D1 ?_)<;>conv=>whnf)
   refine ⟨[], [], ?_⟩
   iterate 3 constructor
   refine ⟨⟨?_, ?_, ?_⟩, rfl, rfl, rfl⟩
   all_goals (repeat' first|with_reducible exact Lz.rfl|exact Lw.rfl|exact Lz.wrap (by omega)|(unfold goInt;with_reducible exact Lz.rfl)|exact flx _|constructor)
   exact Lz.of (bool_eq (decide_eq_false (fun q => h0 (by rw [(Nat.div_eq_zero_iff_lt (Nat.pow_pos (by decide))).2 q]; rfl))).symm)
structure OutS where
 b : List Int
 most : Int
 e : Int
def OutS.fail (s : OutS) (e : Int) : OutS := if s.e = 0 then ⟨s.b, s.most, e⟩ else s
def OutS.put (s : OutS) (x : List Int) : OutS := if s.e ≠ 0 then s else if (x.length : Int) > s.most - s.b.length then ⟨s.b, s.most, 6⟩ else ⟨s.b ++ x, s.most, 0⟩
def OutS.num (s : OutS) (n w : Nat) : OutS := if n < 256 ^ w then s.put (bigL w n) else s.fail 4
structure OutS.ok (s : OutS) : Prop where
 m : 0 ≤ s.most ∧ s.most ≤ 1048576
 l : (s.b.length : Int) ≤ s.most
@[reducible] def OutO (s : OutS) : TO := .cells [.own (.arr 1 true (s.b.map encU1)), .s (.int .i64 s.most), .s (.int .i64 s.e)]
theorem new_ok (m : Nat) : VC (E0 mx) 13 0 [.s (.int .i64 m)] [] (RR (.ptr 0 0) 1 [(0, OutO ⟨[], m, 0⟩)]) := by
 refine VC.enterR (L0 mx) (show (E0 mx).func 13 = some Tryd.f13 by kernel_rfl) (fun _ _ => rfl) rfl rfl [] ?_
 ((conv=>whnf)<;>repeat(with_reducible refine D1 ?_)<;>conv=>whnf)
 refine ⟨[], [some 0], ?_⟩
 iterate 3 constructor
 refine ⟨⟨?_, ?_, ?_⟩, rfl, rfl, rfl⟩
 all_goals (repeat' first|with_reducible exact Lz.rfl|exact Lw.rfl|exact Lz.wrap (by omega)|(unfold goInt;with_reducible exact Lz.rfl)|exact flx _|constructor)
 all_goals exact Lz.int (if_neg (by omega))
theorem outFail_ok (s : OutS) (e : Int) : VC (E0 mx) 57 1 [.ptr 0 0, .s (.int .i64 e)] [(0, OutO s)] (RR (.tup []) 1 [(0, OutO (s.fail e))]) := by
 refine VC.enterR (L0 mx) (show (E0 mx).func 57 = some Tryd.f57 by kernel_rfl) (fun _ _ => rfl) rfl rfl [] ?_
 ((conv=>whnf)<;>repeat(with_reducible refine D1 ?_)<;>conv=>whnf)
 (first|refine ⟨?_,?_⟩|refine nsplit ?_ ?_|refine bsplit ?_ ?_)<;>intro h<;>have hz_:=True.intro<;>clear hz_
 ·have h : s.e = 0 := h
  rw [show s.fail e = ⟨s.b, s.most, e⟩ from if_pos h]
  ((conv=>whnf)<;>repeat(with_reducible refine D1 ?_)<;>conv=>whnf)
  exact ⟨[], [some 0], _, _, _, t3, rfl, rfl, rfl⟩
 ·have h : ¬ s.e = 0 := h
  rw [show s.fail e = s from if_neg h]
  ((conv=>whnf)<;>repeat(with_reducible refine D1 ?_)<;>conv=>whnf)
  exact ⟨[], [some 0], _, _, _, t3, rfl, rfl, rfl⟩
theorem put_ok (s : OutS) (x : List Int) (hs : s.ok) (hx : s.b.length + x.length ≤ 1000000) : VC (E0 mx) 59 1 [.ptr 0 0, .sl 1 (x.map encU1) false] [(0, OutO s)] (RR (.tup []) 1 [(0, OutO (s.put x))]) := by
 obtain ⟨⟨m0, m1⟩, hl⟩ := hs
 refine VC.enterR (L0 mx) (show (E0 mx).func 59 = some Tryd.f59 by kernel_rfl) (fun _ _ => rfl) rfl rfl [] ?_
 ((conv=>whnf)<;>repeat(with_reducible refine D1 ?_)<;>conv=>whnf)
 (first|refine ⟨?_,?_⟩|refine nsplit ?_ ?_|refine bsplit ?_ ?_)<;>intro h<;>have hz_:=True.intro<;>clear hz_
 ·have h : s.e ≠ 0 := h
  rw [show s.put x = s from if_pos h]
  ((conv=>whnf)<;>repeat(with_reducible refine D1 ?_)<;>conv=>whnf)
  exact ⟨[], [some 0], _, _, _, t3, rfl, rfl, rfl⟩
 ·have h : ¬ s.e ≠ 0 := h
  have h0 : s.e = 0 := by omega
  ((conv=>whnf)<;>repeat(with_reducible refine D1 ?_)<;>conv=>whnf)
  (first|refine ⟨?_,?_⟩|refine nsplit ?_ ?_|refine bsplit ?_ ?_)<;>intro h2<;>have hz_:=True.intro<;>clear hz_
  ·have h2 : (x.length : Int) > s.most - s.b.length := by
    have : (((x.map encU1).length : Nat) : Int) > IntKind.i64.wrap (s.most - (((s.b.map encU1).length : Nat) : Int)) := h2
    rw [List.length_map, List.length_map, IntWalk.i64_in _ (by omega)] at this
    exact this
   rw [show s.put x = s.fail 6 from by unfold OutS.put OutS.fail; rw [if_neg h, if_pos h2, if_pos h0]]
   ((conv=>whnf)<;>repeat(with_reducible refine D1 ?_)<;>conv=>whnf)
   refine ⟨[], [some 0], _, _, _, _, outFail_ok s 6, t3, ?_⟩
   rintro r o' c' ⟨rfl, rfl, rfl⟩
   ((conv=>whnf)<;>repeat(with_reducible refine D1 ?_)<;>conv=>whnf)
   exact ⟨[], [some 0], _, _, _, t3, rfl, rfl, rfl⟩
  ·have h2 : ¬ (x.length : Int) > s.most - s.b.length := by
    have : ¬ (((x.map encU1).length : Nat) : Int) > IntKind.i64.wrap (s.most - (((s.b.map encU1).length : Nat) : Int)) := h2
    rw [List.length_map, List.length_map, IntWalk.i64_in _ (by omega)] at this
    exact this
   rw [show s.put x = ⟨s.b ++ x, s.most, 0⟩ from by unfold OutS.put; rw [if_neg h, if_neg h2]]
   ((conv=>whnf)<;>repeat(with_reducible refine D1 ?_)<;>conv=>whnf)
   refine ⟨by simp; omega, ?_⟩
   ((conv=>whnf)<;>repeat(with_reducible refine D1 ?_)<;>conv=>whnf)
   refine ⟨[], [some 0], ?_⟩
   iterate 3 constructor
   refine ⟨⟨?_, ?_, ?_⟩, rfl, rfl, rfl⟩
   all_goals (repeat' first|with_reducible exact Lz.rfl|exact Lw.rfl|exact Lz.wrap (by omega)|(unfold goInt;with_reducible exact Lz.rfl)|exact flx _|constructor)
   all_goals first | exact Lz.int h0 | exact Lw.of (by simp) | exact Lz.of (by simp) | trace_state
theorem num_ok (s : OutS) (n w : Nat) (hs : s.ok) (hx : s.b.length ≤ 900000) (h1 : 1 ≤ w) (h8 : w ≤ 8) (hn : n < 18446744073709551616) : VC (E0 mx) 39 1 [.ptr 0 0, .s (.int .u64 n), .s (.int .i64 w)] [(0, OutO s)] (RR (.tup []) 1 [(0, OutO (s.num n w))]) := by
 have hf := fits_ok (mx := mx) n w h1 h8 hn
 refine VC.enterR (L0 mx) (show (E0 mx).func 39 = some Tryd.f39 by kernel_rfl) (fun _ _ => rfl) rfl rfl [] ?_
 ((conv=>whnf)<;>repeat(with_reducible refine D1 ?_)<;>conv=>whnf)
 refine ⟨[], [], _, _, _, _, known_ok w h1 h8, t3, ?_⟩
 rintro r o' c' ⟨rfl, rfl, rfl⟩
 ((conv=>whnf)<;>repeat(with_reducible refine D1 ?_)<;>conv=>whnf)
 by_cases h : n < 256 ^ w
 ·rw [show s.num n w = s.put (bigL w n) from if_pos h]
  rw [decide_eq_true h] at hf
  refine ⟨[], [], _, _, _, _, hf, t3, ?_⟩
  rintro r o' c' ⟨rfl, rfl, rfl⟩
  ((conv=>whnf)<;>repeat(with_reducible refine D1 ?_)<;>conv=>whnf)
  refine ⟨[], [], _, _, _, _, laid_ok n w h1 h8, t3, ?_⟩
  rintro r o' c' ⟨rfl, rfl, rfl⟩
  ((conv=>whnf)<;>repeat(with_reducible refine D1 ?_)<;>conv=>whnf)
  refine ⟨[1], [some 0], _, _, _, _, put_ok s (bigL w n) hs (by rw [bigL_len]; omega), t3, ?_⟩
  rintro r o' c' ⟨rfl, rfl, rfl⟩
  ((conv=>whnf)<;>repeat(with_reducible refine D1 ?_)<;>conv=>whnf)
  exact ⟨[], [some 0], _, _, _, t3, rfl, rfl, rfl⟩
 ·rw [show s.num n w = s.fail 4 from if_neg h]
  rw [decide_eq_false h] at hf
  refine ⟨[], [], _, _, _, _, hf, t3, ?_⟩
  rintro r o' c' ⟨rfl, rfl, rfl⟩
  ((conv=>whnf)<;>repeat(with_reducible refine D1 ?_)<;>conv=>whnf)
  refine ⟨[], [some 0], _, _, _, _, outFail_ok s 4, t3, ?_⟩
  rintro r o' c' ⟨rfl, rfl, rfl⟩
  ((conv=>whnf)<;>repeat(with_reducible refine D1 ?_)<;>conv=>whnf)
  exact ⟨[], [some 0], _, _, _, t3, rfl, rfl, rfl⟩
theorem OutS.ok_fail {s : OutS} {e : Int} (h : s.ok) : (s.fail e).ok := by
 unfold OutS.fail
 split
 ·exact ⟨h.m, h.l⟩
 ·exact h
theorem OutS.ok_put {s : OutS} {x : List Int} (h : s.ok) : (s.put x).ok := by
 unfold OutS.put
 split
 ·exact h
 ·split
  ·exact ⟨h.m, h.l⟩
  ·exact ⟨h.m, by have := h.l; simp; omega⟩
theorem OutS.ok_num {s : OutS} {n w : Nat} (h : s.ok) : (s.num n w).ok := by
 unfold OutS.num
 split
 ·exact OutS.ok_put h
 ·exact OutS.ok_fail h
theorem done_ok (s : OutS) (hs : s.ok) (hx : s.b.length ≤ 900000) : VC (E0 mx) 17 1 [.ptr 0 0] [(0, OutO s)] (RR (.tup [.sl 1 ((if s.e = 0 then s.b else []).map encU1) false, .s (.int .i64 s.e)]) 1 []) := by
 obtain ⟨⟨m0, m1⟩, hl⟩ := hs
 refine VC.enterR (L0 mx) (show (E0 mx).func 17 = some Tryd.f17 by kernel_rfl) (fun _ _ => rfl) rfl rfl [] ?_
 ((conv=>whnf)<;>repeat(with_reducible refine D1 ?_)<;>conv=>whnf)
 (first|refine ⟨?_,?_⟩|refine nsplit ?_ ?_|refine bsplit ?_ ?_)<;>intro h<;>have hz_:=True.intro<;>clear hz_
 ·have h : s.e ≠ 0 := h
  rw [if_neg h]
  ((conv=>whnf)<;>repeat(with_reducible refine D1 ?_)<;>conv=>whnf)
  exact ⟨[], [some 0], _, _, _, t3, rfl, rfl, rfl⟩
 ·have h : s.e = 0 := Classical.not_not.1 h
  rw [if_pos h]
  ((conv=>whnf)<;>repeat(with_reducible refine D1 ?_)<;>conv=>whnf)
  refine ⟨[1], [], _, _, _, _, cloneB_ok s.b (by omega), t3, ?_⟩
  rintro r o' c' ⟨rfl, rfl, rfl⟩
  ((conv=>whnf)<;>repeat(with_reducible refine D1 ?_)<;>conv=>whnf)
  refine ⟨[], [some 0], ?_⟩
  iterate 3 constructor
  refine ⟨⟨?_, ?_, ?_⟩, rfl, rfl, rfl⟩
  all_goals (repeat' first|with_reducible exact Lz.rfl|exact Lw.rfl|exact Lz.wrap (by omega)|(unfold goInt;with_reducible exact Lz.rfl)|exact flx _|constructor)
  all_goals exact Lz.int h.symm
end Go.M
namespace Go.M
open Go Go.Proofs
set_option maxRecDepth 100000
set_option maxHeartbeats 4000000
variable {mx : Int}
@[reducible] def InO (s : InS) : TO := .cells [.sl 1 (s.b.map encU1) false, .s (.int .i64 s.e)]
@[reducible] def nilP : TV := .s (.pointer none)
theorem of_ok (l : List Int) (hl : l.length < 1000000) : VC (E0 mx) 20 0 [.sl 1 (l.map encU1) false] [] (RR (.ptr 0 0) 1 [(0, InO ⟨l, 0⟩)]) := by
 refine VC.enterR (L0 mx) (show (E0 mx).func 20 = some Tryd.f20 by kernel_rfl) (fun _ _ => rfl) rfl rfl [] ?_
 ((conv=>whnf)<;>repeat(with_reducible refine D1 ?_)<;>conv=>whnf)
 refine ⟨[], [], _, _, _, _, cloneB_ok l hl, t3, ?_⟩
 rintro r o' c' ⟨rfl, rfl, rfl⟩
 ((conv=>whnf)<;>repeat(with_reducible refine D1 ?_)<;>conv=>whnf)
 exact ⟨[], [some 0], _, _, _, t3, rfl, rfl, rfl⟩
theorem left_ok (s : InS) : VC (E0 mx) 23 1 [.ptr 0 0] [(0, InO s)] (RR (.s (.int .i64 s.b.length)) 1 [(0, InO s)]) := by
 refine VC.enterR (L0 mx) (show (E0 mx).func 23 = some Tryd.f23 by kernel_rfl) (fun _ _ => rfl) rfl rfl [] ?_
 ((conv=>whnf)<;>repeat(with_reducible refine D1 ?_)<;>conv=>whnf)
 refine ⟨[], [some 0], ?_⟩
 iterate 3 constructor
 refine ⟨⟨?_, ?_, ?_⟩, rfl, rfl, rfl⟩
 all_goals (repeat' first|with_reducible exact Lz.rfl|exact Lw.rfl|exact Lz.wrap (by omega)|(unfold goInt;with_reducible exact Lz.rfl)|exact flx _|constructor)
 exact Lz.int (by simp)
theorem err_ok (s : InS) : VC (E0 mx) 45 1 [.ptr 0 0] [(0, InO s)] (RR (.s (.int .i64 s.e)) 1 [(0, InO s)]) := by
 refine VC.enterR (L0 mx) (show (E0 mx).func 45 = some Tryd.f45 by kernel_rfl) (fun _ _ => rfl) rfl rfl [] ?_
 ((conv=>whnf)<;>repeat(with_reducible refine D1 ?_)<;>conv=>whnf)
 exact ⟨[], [some 0], _, _, _, t3, rfl, rfl, rfl⟩
theorem inFail_ok (s : InS) (e : Int) : VC (E0 mx) 63 1 [.ptr 0 0, .s (.int .i64 e)] [(0, InO s)] (RR (.tup []) 1 [(0, InO ⟨[], if s.e = 0 then e else s.e⟩)]) := by
 refine VC.enterR (L0 mx) (show (E0 mx).func 63 = some Tryd.f63 by kernel_rfl) (fun _ _ => rfl) rfl rfl [] ?_
 ((conv=>whnf)<;>repeat(with_reducible refine D1 ?_)<;>conv=>whnf)
 (first|refine ⟨?_,?_⟩|refine nsplit ?_ ?_|refine bsplit ?_ ?_)<;>intro h<;>have hz_:=True.intro<;>clear hz_
 ·have h : s.e = 0 := h
  rw [if_pos h]
  ((conv=>whnf)<;>repeat(with_reducible refine D1 ?_)<;>conv=>whnf)
  exact ⟨[], [some 0], _, _, _, t3, rfl, rfl, rfl⟩
 ·have h : ¬ s.e = 0 := h
  rw [if_neg h]
  ((conv=>whnf)<;>repeat(with_reducible refine D1 ?_)<;>conv=>whnf)
  exact ⟨[], [some 0], _, _, _, t3, rfl, rfl, rfl⟩
theorem next_ok (s : InS) (n : Nat) (hn : n < 1000000) : VC (E0 mx) 64 1 [.ptr 0 0, .s (.int .i64 n)] [(0, InO s)] (RR (.tup [.sl 1 ((((s.next n).2).getD []).map encU1) false, .s (.bool ((s.next n).2).isSome)]) 1 [(0, InO (s.next n).1)]) := by
 refine VC.enterR (L0 mx) (show (E0 mx).func 64 = some Tryd.f64 by kernel_rfl) (fun _ _ => rfl) rfl rfl [] ?_
 ((conv=>whnf)<;>repeat(with_reducible refine D1 ?_)<;>conv=>whnf)
 (first|refine ⟨?_,?_⟩|refine nsplit ?_ ?_|refine bsplit ?_ ?_)<;>intro h<;>have hz_:=True.intro<;>clear hz_
 ·have h : s.e ≠ 0 := h
  have e : s.next n = (s, none) := by unfold InS.next; rw [if_pos h]
  rw [e]
  ((conv=>whnf)<;>repeat(with_reducible refine D1 ?_)<;>conv=>whnf)
  exact ⟨[], [some 0], _, _, _, t3, rfl, rfl, rfl⟩
 ·have h : ¬ s.e ≠ 0 := h
  have h0 : s.e = 0 := by omega
  ((conv=>whnf)<;>repeat(with_reducible refine D1 ?_)<;>conv=>whnf)
  (first|refine ⟨?_,?_⟩|refine nsplit ?_ ?_|refine bsplit ?_ ?_)<;>intro h2<;>have hz_:=True.intro<;>clear hz_
  ·have h2 : s.b.length < n := by have : (((s.b.map encU1).length : Nat) : Int) < n := h2
                                  rw [List.length_map] at this; omega
   have e : s.next n = (⟨[], 3⟩, none) := by unfold InS.next; rw [if_neg h, if_pos h2]
   have hf := inFail_ok (mx := mx) s 3
   rw [if_pos h0] at hf
   rw [e]
   ((conv=>whnf)<;>repeat(with_reducible refine D1 ?_)<;>conv=>whnf)
   refine ⟨[], [some 0], _, _, _, _, hf, t3, ?_⟩
   rintro r o' c' ⟨rfl, rfl, rfl⟩
   ((conv=>whnf)<;>repeat(with_reducible refine D1 ?_)<;>conv=>whnf)
   exact ⟨[], [some 0], _, _, _, t3, rfl, rfl, rfl⟩
  ·have h2 : ¬ s.b.length < n := by have : ¬ (((s.b.map encU1).length : Nat) : Int) < n := h2
                                    rw [List.length_map] at this; omega
   have e : s.next n = (⟨s.b.drop n, 0⟩, some (s.b.take n)) := by unfold InS.next; rw [if_neg h, if_neg h2]
   rw [e]
   ((conv=>whnf)<;>repeat(with_reducible refine D1 ?_)<;>conv=>whnf)
   refine ⟨by simp; omega, ?_⟩
   ((conv=>whnf)<;>repeat(with_reducible refine D1 ?_)<;>conv=>whnf)
   refine ⟨by simp; omega, ?_⟩
   ((conv=>whnf)<;>repeat(with_reducible refine D1 ?_)<;>conv=>whnf)
   refine ⟨[], [some 0], ?_⟩
   iterate 3 constructor
   refine ⟨⟨?_, ?_, ?_⟩, rfl, rfl, rfl⟩
   all_goals (repeat' first|with_reducible exact Lz.rfl|exact Lw.rfl|exact Lz.wrap (by omega)|(unfold goInt;with_reducible exact Lz.rfl)|exact flx _|constructor)
   all_goals first
    | exact Lz.int h0
    | (refine Lz.of ?_; simp; done)
    | (refine Lz.of ?_; rw [Int.toNat_natCast, Int.toNat_natCast, List.take_of_length_le (by simp), List.map_drop])
    | (refine Lw.of ?_; rw [Int.toNat_natCast, Int.toNat_natCast, List.take_of_length_le (by simp), List.map_drop])
theorem number_ok (l : List Int) (hl : l.length < 1000000) (hb : ∀ x ∈ l, 0 ≤ x ∧ x < 256) : VC (E0 mx) 82 0 [.sl 1 (l.map encU1) false] [] (RR (.s (.int .u64 (numL l))) 0 []) := by
 refine VC.enterR (L0 mx) (show (E0 mx).func 82 = some Tryd.f82 by kernel_rfl) (fun _ _ => rfl) rfl rfl [] ?_
 ((conv=>whnf)<;>repeat(with_reducible refine D1 ?_)<;>conv=>whnf)
 refine ⟨fun k f o c => ∃ i : Nat, i ≤ l.length ∧ k = l.length - i ∧ c = 0 ∧ f = [(0, .sl 1 (l.map encU1) false), (3, .s (.int .u64 (numL (l.take i)))), (6, .sl 1 (l.map encU1) false), (7, .s (.int .i64 l.length)), (8, .s (.int .i64 i))] ∧ o = [], ⟨l.length, ?_⟩, ?_⟩
 ·refine ⟨[], [], ?_⟩
  iterate 3 constructor
  refine ⟨⟨?_, ?_, ?_⟩, ⟨0, Nat.zero_le _, rfl, rfl, rfl, rfl⟩⟩
  all_goals (repeat' first|with_reducible exact Lz.rfl|exact Lw.rfl|exact Lz.wrap (by omega)|(unfold goInt;with_reducible exact Lz.rfl)|exact flx _|constructor)
  all_goals exact Lz.int (by simp)
 ·rintro k f1 o1 c1 ⟨i, hi, rfl, rfl, rfl, rfl⟩
  ((conv=>whnf)<;>repeat(with_reducible refine D1 ?_)<;>conv=>whnf)
  (first|refine ⟨?_,?_⟩|refine nsplit ?_ ?_|refine bsplit ?_ ?_)<;>intro h<;>have hz_:=True.intro<;>clear hz_
  ·have h : i < l.length := by have : (i : Int) < l.length := h
                               omega
   ((conv=>whnf)<;>repeat(with_reducible refine D1 ?_)<;>conv=>whnf)
   refine idxI h ?_
   ((conv=>whnf)<;>repeat(with_reducible refine D1 ?_)<;>conv=>whnf)
   refine ⟨l.length - (i + 1), ?_, by omega⟩
   refine ⟨[], [], ?_⟩
   iterate 3 constructor
   refine ⟨⟨?_, ?_, ?_⟩, ⟨i + 1, h, rfl, rfl, rfl, rfl⟩⟩
   all_goals (repeat' first|with_reducible exact Lz.rfl|exact Lw.rfl|exact Lz.wrap (by omega)|(unfold goInt;with_reducible exact Lz.rfl)|exact flx _|constructor)
   all_goals exact Lz.int (by
    have hx := hb _ (List.getElem_mem h)
    have h0 := numL_range (l.take i)
    rw [take_snoc l i h, numL_snoc, ← or_eq (numL (l.take i)) l[i] h0.1 hx, show IntKind.u64.wrap l[i] = l[i] by rw [IntKind.wrap_u64]; omega]
    rfl)
  ·have hi' : i = l.length := by have : ¬ (i : Int) < l.length := h
                                 omega
   subst hi'
   rw [List.take_length]
   ((conv=>whnf)<;>repeat(with_reducible refine D1 ?_)<;>conv=>whnf)
   exact ⟨[], [], _, _, _, t3, rfl, rfl, rfl⟩
theorem upto_ok (s : InS) (w : Nat) (m : Int) (h1 : 1 ≤ w) (h8 : w ≤ 8) (hb : ∀ x ∈ s.b, 0 ≤ x ∧ x < 256) : VC (E0 mx) 65 1 [.ptr 0 0, .s (.int .i64 w), .s (.int .u64 m)] [(0, InO s)] (RR (.s (.int .u64 (s.upto w m).2)) 1 [(0, InO (s.upto w m).1)]) := by
 have hnx := next_ok (mx := mx) s w (by omega)
 have hnb := (InS.next_bytes (n := w) hb).2
 have hnl := fun l => InS.next_len (s := s) (n := w) (l := l)
 have hne : s.e ≠ 0 → s.upto w m = (s, 0) := fun h => by unfold InS.upto InS.next; rw [if_pos h]
 have hun : ∀ s', s.next w = (s', none) → s.upto w m = (s', 0) := fun s' h => by unfold InS.upto; rw [h]
 have hus : ∀ s' b, s.next w = (s', some b) → s'.e = 0 ∧ s.upto w m = if numL b > m then (⟨[], 4⟩, 0) else (s', numL b) := fun s' b h => by
  refine ⟨?_, by unfold InS.upto; rw [h]⟩
  unfold InS.next at h
  split at h
  ·cases h
  ·split at h
   ·cases h
   ·cases h; rfl
 refine VC.enterR (L0 mx) (show (E0 mx).func 65 = some Tryd.f65 by kernel_rfl) (fun _ _ => rfl) rfl rfl [] ?_
 ((conv=>whnf)<;>repeat(with_reducible refine D1 ?_)<;>conv=>whnf)
 (first|refine ⟨?_,?_⟩|refine nsplit ?_ ?_|refine bsplit ?_ ?_)<;>intro h<;>have hz_:=True.intro<;>clear hz_
 ·have h : s.e ≠ 0 := h
  rw [hne h]
  ((conv=>whnf)<;>repeat(with_reducible refine D1 ?_)<;>conv=>whnf)
  exact ⟨[], [some 0], _, _, _, t3, rfl, rfl, rfl⟩
 ·((conv=>whnf)<;>repeat(with_reducible refine D1 ?_)<;>conv=>whnf)
  refine ⟨[], [], _, _, _, _, known_ok w h1 h8, t3, ?_⟩
  rintro r o' c' ⟨rfl, rfl, rfl⟩
  ((conv=>whnf)<;>repeat(with_reducible refine D1 ?_)<;>conv=>whnf)
  generalize hx : s.next w = q at hnx hnb hnl
  obtain ⟨s', r⟩ := q
  cases r with
  | none =>
   rw [hun s' hx]
   refine ⟨[], [some 0], _, _, _, _, hnx, t3, ?_⟩
   rintro r o' c' ⟨rfl, rfl, rfl⟩
   ((conv=>whnf)<;>repeat(with_reducible refine D1 ?_)<;>conv=>whnf)
   exact ⟨[], [some 0], _, _, _, t3, rfl, rfl, rfl⟩
  | some b =>
   obtain ⟨h0, hu⟩ := hus s' b hx
   have hl := hnl b rfl
   rw [hu]
   refine ⟨[], [some 0], _, _, _, _, hnx, t3, ?_⟩
   rintro r o' c' ⟨rfl, rfl, rfl⟩
   ((conv=>whnf)<;>repeat(with_reducible refine D1 ?_)<;>conv=>whnf)
   refine ⟨[], [], _, _, _, _, number_ok b (by omega) (hnb b rfl), t3, ?_⟩
   rintro r o' c' ⟨rfl, rfl, rfl⟩
   ((conv=>whnf)<;>repeat(with_reducible refine D1 ?_)<;>conv=>whnf)
   (first|refine ⟨?_,?_⟩|refine nsplit ?_ ?_|refine bsplit ?_ ?_)<;>intro hm<;>have hz_:=True.intro<;>clear hz_
   ·have hm : numL b > m := hm
    rw [if_pos hm]
    ((conv=>whnf)<;>repeat(with_reducible refine D1 ?_)<;>conv=>whnf)
    have hf := inFail_ok (mx := mx) s' 4
    rw [if_pos h0] at hf
    refine ⟨[], [some 0], _, _, _, _, hf, t3, ?_⟩
    rintro r o' c' ⟨rfl, rfl, rfl⟩
    ((conv=>whnf)<;>repeat(with_reducible refine D1 ?_)<;>conv=>whnf)
    exact ⟨[], [some 0], _, _, _, t3, rfl, rfl, rfl⟩
   ·have hm : ¬ numL b > m := hm
    rw [if_neg hm]
    ((conv=>whnf)<;>repeat(with_reducible refine D1 ?_)<;>conv=>whnf)
    exact ⟨[], [some 0], _, _, _, t3, rfl, rfl, rfl⟩
theorem get_ok (s : InS) (w : Nat) (h1 : 1 ≤ w) (h8 : w ≤ 8) (hb : ∀ x ∈ s.b, 0 ≤ x ∧ x < 256) : VC (E0 mx) 46 1 [.ptr 0 0, .s (.int .i64 w)] [(0, InO s)] (RR (.s (.int .u64 (s.get w).2)) 1 [(0, InO (s.get w).1)]) := by
 refine VC.enterR (L0 mx) (show (E0 mx).func 46 = some Tryd.f46 by kernel_rfl) (fun _ _ => rfl) rfl rfl [] ?_
 ((conv=>whnf)<;>repeat(with_reducible refine D1 ?_)<;>conv=>whnf)
 refine ⟨[], [some 0], _, _, _, _, upto_ok s w 18446744073709551615 h1 h8 hb, t3, ?_⟩
 rintro r o' c' ⟨rfl, rfl, rfl⟩
 ((conv=>whnf)<;>repeat(with_reducible refine D1 ?_)<;>conv=>whnf)
 exact ⟨[], [some 0], _, _, _, t3, rfl, rfl, rfl⟩
end Go.M
namespace Go.M
open Go Go.Proofs
set_option maxRecDepth 100000
set_option maxHeartbeats 4000000
variable {mx : Int}
theorem raw_ok (s : InS) (n : Nat) (hn : n < 1000000) : VC (E0 mx) 44 1 [.ptr 0 0, .s (.int .i64 n)] [(0, InO s)] (RR (.sl 1 (((s.raw n).2).map encU1) false) 1 [(0, InO (s.raw n).1)]) := by
 have hx := next_ok (mx := mx) s n hn
 have hl := fun l => InS.next_len (s := s) (n := n) (l := l)
 have e : s.raw n = ((s.next n).1, ((s.next n).2).getD []) := rfl
 rw [e]
 generalize s.next n = q at hx hl
 obtain ⟨s', r⟩ := q
 have hm : (if (0 : Int) > (n : Int) then 0 else (n : Int)) = n := if_neg (by omega)
 refine VC.enterR (L0 mx) (show (E0 mx).func 44 = some Tryd.f44 by kernel_rfl) (fun _ _ => rfl) rfl rfl [] ?_
 ((conv=>whnf)<;>repeat(with_reducible refine D1 ?_)<;>conv=>whnf)
 (first|refine ⟨?_,?_⟩|refine nsplit ?_ ?_|refine bsplit ?_ ?_)<;>intro h<;>have hz_:=True.intro<;>clear hz_
 ·exact absurd h (by show ¬ (n : Int) < 0; omega)
 ((conv=>whnf)<;>repeat(with_reducible refine D1 ?_)<;>conv=>whnf)
 refine ⟨[], [some 0], _, _, _, _, hx, ⟨by ((repeat' first|with_reducible exact Lz.rfl|exact Lw.rfl|exact Lz.wrap (by omega)|(unfold goInt;with_reducible exact Lz.rfl)|exact flx _|constructor); all_goals (exact Lz.int hm)), by ((repeat' first|with_reducible exact Lz.rfl|exact Lw.rfl|exact Lz.wrap (by omega)|(unfold goInt;with_reducible exact Lz.rfl)|exact flx _|constructor); all_goals (exact Lz.int hm)), by rfl⟩, ?_⟩
 rintro r o' c' ⟨rfl, rfl, rfl⟩
 ((conv=>whnf)<;>repeat(with_reducible refine D1 ?_)<;>conv=>whnf)
 cases r with
 | none =>
  ((conv=>whnf)<;>repeat(with_reducible refine D1 ?_)<;>conv=>whnf)
  exact ⟨[], [some 0], _, _, _, t3, rfl, rfl, rfl⟩
 | some l =>
  ((conv=>whnf)<;>repeat(with_reducible refine D1 ?_)<;>conv=>whnf)
  refine ⟨[], [], _, _, _, _, cloneB_ok l (by have := hl l rfl; omega), t3, ?_⟩
  rintro r o' c' ⟨rfl, rfl, rfl⟩
  ((conv=>whnf)<;>repeat(with_reducible refine D1 ?_)<;>conv=>whnf)
  exact ⟨[], [some 0], _, _, _, t3, rfl, rfl, rfl⟩
@[reducible] def InA (s : InS) : TV := .agg [.sl 1 (s.b.map encU1) false, .s (.int .i64 s.e)]
end Go.M
namespace Go.M
open Go Go.Proofs
set_option maxRecDepth 100000
set_option maxHeartbeats 4000000
variable {mx : Int}
theorem same01_ok (l m : List Int) (hl : l.length < 1000000) : VC (E0 mx) 18 0 [.sl 1 (l.map encU1) false, .sl 1 (m.map encU1) false] [] (RR (.s (.bool (eqB l m))) 0 []) := by
 refine VC.enterR (L0 mx) (show (E0 mx).func 18 = some Tryd.f18 by kernel_rfl) (fun _ _ => rfl) rfl rfl [] ?_
 ((conv=>whnf)<;>repeat(with_reducible refine D1 ?_)<;>conv=>whnf)
 (first|refine ⟨?_,?_⟩|refine nsplit ?_ ?_|refine bsplit ?_ ?_)<;>intro hlm<;>have hz_:=True.intro<;>clear hz_
 ·((conv=>whnf)<;>repeat(with_reducible refine D1 ?_)<;>conv=>whnf)
  refine ⟨[], [], ?_⟩
  iterate 3 constructor
  refine ⟨⟨?_, ?_, ?_⟩, rfl, rfl, rfl⟩
  all_goals (repeat' first|with_reducible exact Lz.rfl|exact Lw.rfl|exact Lz.wrap (by omega)|(unfold goInt;with_reducible exact Lz.rfl)|exact flx _|constructor)
  refine Lz.of (bool_eq (Eq.symm (eqB_false.2 fun e => hlm (by subst e; rfl))))
 ·have hlm : l.length = m.length := by simp at hlm; omega
  ((conv=>whnf)<;>repeat(with_reducible refine D1 ?_)<;>conv=>whnf)
  refine ⟨fun k f o c => ∃ i : Nat, i ≤ l.length ∧ k = l.length - i ∧ l.take i = m.take i ∧ c = 0 ∧ f = [(0, .sl 1 (l.map encU1) false), (1, .sl 1 (m.map encU1) false), (5, .s (.int .i64 i))] ∧ o = [], ⟨l.length, ?_⟩, ?_⟩
  ·exact ⟨[], [], _, _, _, t3, ⟨0, Nat.zero_le _, rfl, rfl, rfl, rfl, rfl⟩⟩
  ·rintro k f1 o1 c1 ⟨i, hi, rfl, ht, rfl, rfl, rfl⟩
   ((conv=>whnf)<;>repeat(with_reducible refine D1 ?_)<;>conv=>whnf)
   (first|refine ⟨?_,?_⟩|refine nsplit ?_ ?_|refine bsplit ?_ ?_)<;>intro h<;>have hz_:=True.intro<;>clear hz_
   ·have h : i < l.length := lenlt.1 h
    have h2 : i < m.length := by omega
    ((conv=>whnf)<;>repeat(with_reducible refine D1 ?_)<;>conv=>whnf)
    refine idxI h ?_
    ((conv=>whnf)<;>repeat(with_reducible refine D1 ?_)<;>conv=>whnf)
    refine idxI h2 ?_
    ((conv=>whnf)<;>repeat(with_reducible refine D1 ?_)<;>conv=>whnf)
    (first|refine ⟨?_,?_⟩|refine nsplit ?_ ?_|refine bsplit ?_ ?_)<;>intro hv<;>have hz_:=True.intro<;>clear hz_
    ·have hv : l[i] ≠ m[i] := hv
     ((conv=>whnf)<;>repeat(with_reducible refine D1 ?_)<;>conv=>whnf)
     refine ⟨[], [], ?_⟩
     iterate 3 constructor
     refine ⟨⟨?_, ?_, ?_⟩, rfl, rfl, rfl⟩
     all_goals (repeat' first|with_reducible exact Lz.rfl|exact Lw.rfl|exact Lz.wrap (by omega)|(unfold goInt;with_reducible exact Lz.rfl)|exact flx _|constructor)
     refine Lz.of (bool_eq (Eq.symm (eqB_false.2 fun e => hv (by subst e; rfl))))
    ·have hv : l[i] = m[i] := Classical.not_not.1 hv
     ((conv=>whnf)<;>repeat(with_reducible refine D1 ?_)<;>conv=>whnf)
     refine ⟨l.length - (i + 1), ?_, by omega⟩
     exact ⟨[], [], _, _, _, t3, ⟨i + 1, h, rfl, by rw [take_snoc l i h, take_snoc m i h2, ht, hv], rfl, rfl, rfl⟩⟩
   ·have h : ¬ i < l.length := mt lenlt.2 h
    ((conv=>whnf)<;>repeat(with_reducible refine D1 ?_)<;>conv=>whnf)
    refine ⟨[], [], ?_⟩
    iterate 3 constructor
    refine ⟨⟨?_, ?_, ?_⟩, rfl, rfl, rfl⟩
    all_goals (repeat' first|with_reducible exact Lz.rfl|exact Lw.rfl|exact Lz.wrap (by omega)|(unfold goInt;with_reducible exact Lz.rfl)|exact flx _|constructor)
    refine Lz.of (bool_eq (Eq.symm (eqB_iff.2 ?_)))
    rw [← List.take_of_length_le (Nat.not_lt.1 h), ht, List.take_of_length_le (by omega)]
theorem refPut_ok (n w : Nat) (h1 : 1 ≤ w) (h8 : w ≤ 8) (hn : n < 256 ^ w) : VC (E0 mx) 61 0 [.s (.int .u64 n), .s (.int .i64 w)] [] (RR (.tup [.sl 1 ((bigL w n).map encU1) false, .s (.int .i64 0)]) 0 []) := by
 refine VC.enterR (L0 mx) (show (E0 mx).func 61 = some Tryd.f61 by kernel_rfl) (fun _ _ => rfl) rfl rfl [] ?_
 ((conv=>whnf)<;>repeat(with_reducible refine D1 ?_)<;>conv=>whnf)
 (first|refine ⟨?_,?_⟩|refine nsplit ?_ ?_|refine bsplit ?_ ?_)<;>intro ha<;>have hz_:=True.intro<;>clear hz_
 ·exact absurd ha (by show ¬ (w : Int) < 1; omega)
 ((conv=>whnf)<;>repeat(with_reducible refine D1 ?_)<;>conv=>whnf)
 (first|refine ⟨?_,?_⟩|refine nsplit ?_ ?_|refine bsplit ?_ ?_)<;>intro hb<;>have hz_:=True.intro<;>clear hz_
 ·exact absurd hb (by show ¬ (w : Int) > 8; omega)
 ((conv=>whnf)<;>repeat(with_reducible refine D1 ?_)<;>conv=>whnf)
 refine ⟨fun k f o c => ∃ i : Nat, i ≤ w ∧ k = w - i ∧ c = 1 ∧ f = [(0, .s (.int .u64 ((n / 256 ^ i : Nat) : Int))), (1, .s (.int .i64 w)), (6, .tk 0), (7, .s (.int .i64 i))] ∧ o = [(0, .arr 1 true ((bigL i n).map encU1))], ⟨w, ?_⟩, ?_⟩
 ·refine ⟨[], [none], ?_⟩
  iterate 3 constructor
  refine ⟨⟨?_, ?_, ?_⟩, ⟨0, Nat.zero_le _, rfl, rfl, rfl, rfl⟩⟩
  all_goals (repeat' first|with_reducible exact Lz.rfl|exact Lw.rfl|exact Lz.wrap (by omega)|(unfold goInt;with_reducible exact Lz.rfl)|exact flx _|constructor)
  all_goals exact Lz.int (by simp)
 ·rintro k f1 o1 c1 ⟨i, hi, rfl, rfl, rfl, rfl⟩
  ((conv=>whnf)<;>repeat(with_reducible refine D1 ?_)<;>conv=>whnf)
  (first|refine ⟨?_,?_⟩|refine nsplit ?_ ?_|refine bsplit ?_ ?_)<;>intro h<;>have hz_:=True.intro<;>clear hz_
  ·have h : i < w := by have : (i : Int) < w := h
                        omega
   ((conv=>whnf)<;>repeat(with_reducible refine D1 ?_)<;>conv=>whnf)
   refine ⟨by simp [bigL_len]; omega, ?_⟩
   ((conv=>whnf)<;>repeat(with_reducible refine D1 ?_)<;>conv=>whnf)
   refine ⟨w - (i + 1), ?_, by omega⟩
   refine ⟨[], [some 2], ?_⟩
   iterate 3 constructor
   refine ⟨⟨?_, ?_, ?_⟩, ⟨i + 1, h, rfl, rfl, rfl, rfl⟩⟩
   all_goals (repeat' first|with_reducible exact Lz.rfl|exact Lw.rfl|exact Lz.wrap (by omega)|(unfold goInt;with_reducible exact Lz.rfl)|exact flx _|constructor)
   ·refine Lz.int ?_
    have h64 : n < 18446744073709551616 := Nat.lt_of_lt_of_le hn (Nat.le_trans (Nat.pow_le_pow_right (by decide) h8) (by decide))
    have hle : n / 256 ^ i ≤ n := Nat.div_le_self _ _
    rw [Nat.pow_succ, ← Nat.div_div_eq_div_mul]
    generalize n / 256 ^ i = q at hle
    rw [IntKind.wrap_u64, Int.tdiv_eq_ediv_of_nonneg (by omega)]
    omega
   ·first | refine Lw.of ?_ | refine Lz.of ?_
    rw [bigL_cons]
    generalize n / 256 ^ i = q
    rw [IntKind.wrap_u8, Int.tmod_eq_emod_of_nonneg (by omega)]
    show _ :: _ = [TV.s (Value.int IntKind.u8 ((q % 256 : Nat) : Int))] :: _
    have e : ((q : Int) % 256 % 256) = ((q % 256 : Nat) : Int) := by omega
    rw [e]
    rfl
  ·have hi' : i = w := by have : ¬ (i : Int) < w := h
                          omega
   subst hi'
   have h0 : n / 256 ^ i = 0 := Nat.div_eq_of_lt hn
   ((conv=>whnf)<;>repeat(with_reducible refine D1 ?_)<;>conv=>whnf)
   (first|refine ⟨?_,?_⟩|refine nsplit ?_ ?_|refine bsplit ?_ ?_)<;>intro hc<;>have hz_:=True.intro<;>clear hz_
   ·exact absurd hc (by show ¬ ((n / 256 ^ i : Nat) : Int) > 0; omega)
   ((conv=>whnf)<;>repeat(with_reducible refine D1 ?_)<;>conv=>whnf)
   exact ⟨[0], [], _, _, _, t3, rfl, rfl, rfl⟩
theorem big_ok (n w : Nat) (h1 : 1 ≤ w) (h8 : w ≤ 8) (hn : n < 256 ^ w) : VC (E0 mx) 40 0 [.s (.int .u64 n), .s (.int .i64 w)] [] (RR (.sl 1 ((bigL w n).map encU1) false) 0 []) := by
 refine VC.enterR (L0 mx) (show (E0 mx).func 40 = some Tryd.f40 by kernel_rfl) (fun _ _ => rfl) rfl rfl [] ?_
 ((conv=>whnf)<;>repeat(with_reducible refine D1 ?_)<;>conv=>whnf)
 refine ⟨[], [], _, _, _, _, refPut_ok n w h1 h8 hn, t3, ?_⟩
 rintro r o' c' ⟨rfl, rfl, rfl⟩
 ((conv=>whnf)<;>repeat(with_reducible refine D1 ?_)<;>conv=>whnf)
 exact ⟨[], [], _, _, _, t3, rfl, rfl, rfl⟩
end Go.M
namespace Go.M
open Go Go.Proofs
set_option maxRecDepth 100000
set_option maxHeartbeats 4000000
variable {mx : Int}
def noCmd : Cmd := ⟨0, 0, 0, 0⟩
theorem Cmd.ext' {a b : Cmd} (h1 : a.kind = b.kind) (h2 : a.chain = b.chain) (h3 : a.epoch = b.epoch) (h4 : a.node = b.node) : a = b := by
 cases a; cases b; simp_all
theorem Cmd.range {c : Cmd} (he : 0 ≤ c.epoch) (h : c.check = 0) : (0 ≤ c.kind ∧ c.kind < 5) ∧ (0 ≤ c.chain ∧ c.chain < 4) ∧ 0 ≤ c.node ∧ c.node ≤ 24 := by
 unfold Cmd.check checkS at h
 split at h
 ·omega
 ·split at h
  ·split at h
   ·omega
   ·omega
  ·split at h
   ·omega
   ·omega
def cmdB (c : Cmd) : List Int := [c.kind, c.chain] ++ bigL 8 c.epoch.toNat ++ [c.node]
theorem cmdB_len (c : Cmd) : (cmdB c).length = 11 := by unfold cmdB; simp [bigL_len]
theorem cmdB_byte {c : Cmd} (he : 0 ≤ c.epoch) (h : c.check = 0) : ∀ x ∈ cmdB c, 0 ≤ x ∧ x < 256 := by
 obtain ⟨h1, h2, h3⟩ := Cmd.range he h
 intro x hx
 unfold cmdB at hx
 simp only [List.mem_append, List.mem_cons, List.mem_singleton, List.not_mem_nil, or_false] at hx
 rcases hx with ((hx | hx) | hx) | hx
 ·subst hx; omega
 ·subst hx; omega
 ·exact bigL_byte _ _ x hx
 ·subst hx; omega
def ofB (b : List Int) : Cmd := ⟨b.getD 0 0, b.getD 1 0, numL ((b.drop 2).take 8), b.getD 10 0⟩
theorem ofB_cmdB {c : Cmd} (he : 0 ≤ c.epoch ∧ c.epoch < 18446744073709551616) : ofB (cmdB c) = c := by
 have hl := bigL_len 8 c.epoch.toNat
 unfold ofB cmdB
 refine Cmd.ext' rfl rfl ?_ ?_
 ·show numL ((bigL 8 c.epoch.toNat ++ [c.node]).take 8) = c.epoch
  rw [List.take_append_of_le_length (by omega), List.take_of_length_le (by omega), numL_big 8 _ (by decide) (by omega)]
  omega
 ·show ([c.kind, c.chain] ++ bigL 8 c.epoch.toNat ++ [c.node]).getD 10 0 = c.node
  rw [List.getD_eq_getElem?_getD, List.getElem?_append_right (by simp [hl])]
  simp [hl]
theorem ofB_epoch (b : List Int) : 0 ≤ (ofB b).epoch ∧ (ofB b).epoch < 18446744073709551616 := numL_range _
structure GetR where
 s : InS
 c : Cmd
 e : Int
def getCmd (s : InS) : GetR := if (s.raw 11).1.e ≠ 0 then ⟨(s.raw 11).1, noCmd, (s.raw 11).1.e⟩ else if (ofB (s.raw 11).2).check ≠ 0 then ⟨(s.raw 11).1, noCmd, 4⟩ else ⟨(s.raw 11).1, ofB (s.raw 11).2, 0⟩
theorem raw11 {s : InS} (h : (s.raw 11).1.e = 0) : (s.raw 11).2.length = 11 ∧ s.e = 0 ∧ (s.raw 11) = (⟨s.b.drop 11, 0⟩, s.b.take 11) := by
 unfold InS.raw InS.next at h ⊢
 split at h
 ·rename_i h1; exact absurd h h1
 ·split at h
  ·exact absurd h (by show (3 : Int) ≠ 0; decide)
  ·rename_i h1 h2
   rw [if_neg h1, if_neg h2]
   refine ⟨?_, by omega, rfl⟩
   show (s.b.take 11).length = 11
   rw [List.length_take]; omega
theorem InS.get_cons (x : Int) (r : List Int) (hx : 0 ≤ x ∧ x < 256) : (InS.mk (x :: r) 0).get 1 = (⟨r, 0⟩, x) := by
 have hn : numL [x] = x := by
  show (0 * 256 + x) % 18446744073709551616 = x
  omega
 have := InS.upto_app [x] r 18446744073709551615 (by rw [hn]; omega)
 rw [hn] at this
 exact this
theorem read11 (b : List Int) (hl : b.length = 11) (hb : ∀ x ∈ b, 0 ≤ x ∧ x < 256) : ∃ r1 r2 r3 : List Int, (InS.mk b 0).get 1 = (⟨r1, 0⟩, (ofB b).kind) ∧ (InS.mk r1 0).get 1 = (⟨r2, 0⟩, (ofB b).chain) ∧ (InS.mk r2 0).get 8 = (⟨r3, 0⟩, (ofB b).epoch) ∧ (InS.mk r3 0).get 1 = (⟨[], 0⟩, (ofB b).node) ∧
 (∀ x ∈ r1, 0 ≤ x ∧ x < 256) ∧ (∀ x ∈ r2, 0 ≤ x ∧ x < 256) ∧ (∀ x ∈ r3, 0 ≤ x ∧ x < 256) := by
 match b, hl with
 | [b0, b1, b2, b3, b4, b5, b6, b7, b8, b9, b10], _ =>
  refine ⟨[b1, b2, b3, b4, b5, b6, b7, b8, b9, b10], [b2, b3, b4, b5, b6, b7, b8, b9, b10], [b10], InS.get_cons _ _ (hb _ (by simp)), InS.get_cons _ _ (hb _ (by simp)), ?_, InS.get_cons _ _ (hb _ (by simp)), fun x hx => hb x (List.mem_cons_of_mem _ hx), fun x hx => hb x (List.mem_cons_of_mem _ (List.mem_cons_of_mem _ hx)), fun x hx => hb x (by simp at hx; subst hx; simp)⟩
  have := InS.upto_app [b2, b3, b4, b5, b6, b7, b8, b9] [b10] 18446744073709551615 (by have := (numL_range [b2, b3, b4, b5, b6, b7, b8, b9]).2; omega)
  exact this
theorem wrapI {n : Int} (h : 0 ≤ n ∧ n < 256) : IntKind.i64.wrap n = n := IntWalk.i64_in _ (by omega)
theorem wrapU {n : Int} (h : 0 ≤ n ∧ n < 18446744073709551616) : IntKind.u64.wrap n = ((n.toNat : Nat) : Int) := by rw [IntKind.wrap_u64]; omega
theorem wrap8 {n : Int} (h : 0 ≤ n ∧ n < 256) : IntKind.u8.wrap n = n := by rw [IntKind.wrap_u8]; omega
def OutS.cmd (s : OutS) (c : Cmd) : OutS := (((s.num c.kind.toNat 1).num c.chain.toNat 1).num c.epoch.toNat 8).num c.node.toNat 1
theorem OutS.num_len (s : OutS) (n w : Nat) : (s.num n w).b.length ≤ s.b.length + w := by
 unfold OutS.num OutS.put OutS.fail
 split
 ·split
  ·omega
  ·split
   ·show s.b.length ≤ _; omega
   ·simp [bigL_len]
 ·split <;> simp
theorem OutS.num_in' {b : List Int} {m : Int} {n w : Nat} (hn : n < 256 ^ w) (hl : (b.length : Int) + w ≤ m) : OutS.num ⟨b, m, 0⟩ n w = ⟨b ++ bigL w n, m, 0⟩ := by
 unfold OutS.num OutS.put
 rw [if_pos hn, if_neg (by simp), if_neg (by rw [bigL_len]; show ¬ (w : Int) > m - (b.length : Int); omega)]
theorem big1 {n : Int} (h : 0 ≤ n ∧ n < 256) : bigL 1 n.toNat = [n] := by
 show [] ++ [((n.toNat % 256 : Nat) : Int)] = [n]
 simp; omega
theorem OutS.cmd_in (b : List Int) (m : Int) (c : Cmd) (he : 0 ≤ c.epoch ∧ c.epoch < 18446744073709551616) (h : c.check = 0) (hl : (b.length : Int) + 11 ≤ m) : OutS.cmd ⟨b, m, 0⟩ c = ⟨b ++ cmdB c, m, 0⟩ := by
 obtain ⟨h1, h2, h3⟩ := Cmd.range he.1 h
 unfold OutS.cmd
 rw [OutS.num_in' (n := c.kind.toNat) (by omega) (by omega), OutS.num_in' (n := c.chain.toNat) (by omega) (by simp only [List.length_append, bigL_len]; omega), OutS.num_in' (n := c.epoch.toNat) (by omega) (by simp only [List.length_append, bigL_len]; omega), OutS.num_in' (n := c.node.toNat) (by omega) (by simp only [List.length_append, bigL_len]; omega)]
 rw [big1 (n := c.kind) (by omega), big1 (n := c.chain) (by omega), big1 (n := c.node) (by omega)]
 unfold cmdB
 simp
theorem put_no (s : OutS) (c : Cmd) (h : c.check ≠ 0) : VC (E0 mx) 14 1 [.ptr 0 0, cT4 c] [(0, OutO s)] (RR (.s (.int .i64 c.check)) 1 [(0, OutO s)]) := by
 refine VC.enterR (L0 mx) (show (E0 mx).func 14 = some Tryd.f14 by kernel_rfl) (fun _ _ => rfl) rfl rfl [] ?_
 ((conv=>whnf)<;>repeat(with_reducible refine D1 ?_)<;>conv=>whnf)
 refine ⟨[], [], _, _, _, _, check_ok c.kind c.chain c.epoch c.node, t3, ?_⟩
 rintro r o' c' ⟨rfl, rfl, rfl⟩
 ((conv=>whnf)<;>repeat(with_reducible refine D1 ?_)<;>conv=>whnf)
 (first|refine ⟨?_,?_⟩|refine nsplit ?_ ?_|refine bsplit ?_ ?_)<;>intro h1<;>have hz_:=True.intro<;>clear hz_
 ·((conv=>whnf)<;>repeat(with_reducible refine D1 ?_)<;>conv=>whnf)
  exact ⟨[], [some 0], _, _, _, t3, rfl, rfl, rfl⟩
 ·exact absurd (Classical.not_not.1 h1) h
theorem put_cmd (s : OutS) (c : Cmd) (hs : s.ok) (hx : s.b.length ≤ 800000) (he : 0 ≤ c.epoch ∧ c.epoch < 18446744073709551616) (h : c.check = 0) : VC (E0 mx) 14 1 [.ptr 0 0, cT4 c] [(0, OutO s)] (RR (.s (.int .i64 0)) 1 [(0, OutO (s.cmd c))]) := by
 obtain ⟨r1, r2, r3⟩ := Cmd.range he.1 h
 have hc : checkS c.kind c.chain c.epoch c.node = 0 := h
 refine VC.enterR (L0 mx) (show (E0 mx).func 14 = some Tryd.f14 by kernel_rfl) (fun _ _ => rfl) rfl rfl [] ?_
 ((conv=>whnf)<;>repeat(with_reducible refine D1 ?_)<;>conv=>whnf)
 refine ⟨[], [], _, _, _, _, check_ok c.kind c.chain c.epoch c.node, t3, ?_⟩
 rintro r o' c' ⟨rfl, rfl, rfl⟩
 ((conv=>whnf)<;>repeat(with_reducible refine D1 ?_)<;>conv=>whnf)
 (first|refine ⟨?_,?_⟩|refine nsplit ?_ ?_|refine bsplit ?_ ?_)<;>intro h1<;>have hz_:=True.intro<;>clear hz_
 ·exact absurd hc h1
 ((conv=>whnf)<;>repeat(with_reducible refine D1 ?_)<;>conv=>whnf)
 have l1 := OutS.num_len s c.kind.toNat 1
 have k1 := OutS.ok_num (n := c.kind.toNat) (w := 1) hs
 refine ⟨[], [some 0], _, _, _, _, num_ok s c.kind.toNat 1 hs (by omega) (by decide) (by decide) (by omega), ⟨by ((repeat' first|with_reducible exact Lz.rfl|exact Lw.rfl|exact Lz.wrap (by omega)|(unfold goInt;with_reducible exact Lz.rfl)|exact flx _|constructor); all_goals (exact Lz.int (wrapU (by omega)))), by ((repeat' first|with_reducible exact Lz.rfl|exact Lw.rfl|exact Lz.wrap (by omega)|(unfold goInt;with_reducible exact Lz.rfl)|exact flx _|constructor); all_goals (exact Lz.int (wrapU (by omega)))), by rfl⟩, ?_⟩
 rintro r o' c' ⟨rfl, rfl, rfl⟩
 ((conv=>whnf)<;>repeat(with_reducible refine D1 ?_)<;>conv=>whnf)
 have l2 := OutS.num_len (s.num c.kind.toNat 1) c.chain.toNat 1
 have k2 := OutS.ok_num (n := c.chain.toNat) (w := 1) k1
 refine ⟨[], [some 0], _, _, _, _, num_ok (s.num c.kind.toNat 1) c.chain.toNat 1 k1 (by omega) (by decide) (by decide) (by omega), ⟨by ((repeat' first|with_reducible exact Lz.rfl|exact Lw.rfl|exact Lz.wrap (by omega)|(unfold goInt;with_reducible exact Lz.rfl)|exact flx _|constructor); all_goals (exact Lz.int (wrapU (by omega)))), by ((repeat' first|with_reducible exact Lz.rfl|exact Lw.rfl|exact Lz.wrap (by omega)|(unfold goInt;with_reducible exact Lz.rfl)|exact flx _|constructor); all_goals (exact Lz.int (wrapU (by omega)))), by rfl⟩, ?_⟩
 rintro r o' c' ⟨rfl, rfl, rfl⟩
 ((conv=>whnf)<;>repeat(with_reducible refine D1 ?_)<;>conv=>whnf)
 have l3 := OutS.num_len ((s.num c.kind.toNat 1).num c.chain.toNat 1) c.epoch.toNat 8
 have k3 := OutS.ok_num (n := c.epoch.toNat) (w := 8) k2
 refine ⟨[], [some 0], _, _, _, _, num_ok ((s.num c.kind.toNat 1).num c.chain.toNat 1) c.epoch.toNat 8 k2 (by omega) (by decide) (by decide) (by omega), ⟨by ((repeat' first|with_reducible exact Lz.rfl|exact Lw.rfl|exact Lz.wrap (by omega)|(unfold goInt;with_reducible exact Lz.rfl)|exact flx _|constructor); all_goals (exact Lz.int (by omega))), by ((repeat' first|with_reducible exact Lz.rfl|exact Lw.rfl|exact Lz.wrap (by omega)|(unfold goInt;with_reducible exact Lz.rfl)|exact flx _|constructor); all_goals (exact Lz.int (by omega))), by rfl⟩, ?_⟩
 rintro r o' c' ⟨rfl, rfl, rfl⟩
 ((conv=>whnf)<;>repeat(with_reducible refine D1 ?_)<;>conv=>whnf)
 refine ⟨[], [some 0], _, _, _, _, num_ok (((s.num c.kind.toNat 1).num c.chain.toNat 1).num c.epoch.toNat 8) c.node.toNat 1 k3 (by omega) (by decide) (by decide) (by omega), ⟨by ((repeat' first|with_reducible exact Lz.rfl|exact Lw.rfl|exact Lz.wrap (by omega)|(unfold goInt;with_reducible exact Lz.rfl)|exact flx _|constructor); all_goals (exact Lz.int (wrapU (by omega)))), by ((repeat' first|with_reducible exact Lz.rfl|exact Lw.rfl|exact Lz.wrap (by omega)|(unfold goInt;with_reducible exact Lz.rfl)|exact flx _|constructor); all_goals (exact Lz.int (wrapU (by omega)))), by rfl⟩, ?_⟩
 rintro r o' c' ⟨rfl, rfl, rfl⟩
 ((conv=>whnf)<;>repeat(with_reducible refine D1 ?_)<;>conv=>whnf)
 exact ⟨[], [some 0], _, _, _, t3, rfl, rfl, rfl⟩
theorem bytes_ok (c : Cmd) (he : 0 ≤ c.epoch ∧ c.epoch < 18446744073709551616) (h : c.check = 0) : VC (E0 mx) 16 0 [cT4 c] [] (RR (.sl 1 ((cmdB c).map encU1) false) 0 []) := by
 obtain ⟨r1, r2, r3⟩ := Cmd.range he.1 h
 refine VC.enterR (L0 mx) (show (E0 mx).func 16 = some Tryd.f16 by kernel_rfl) (fun _ _ => rfl) rfl rfl [] ?_
 ((conv=>whnf)<;>repeat(with_reducible refine D1 ?_)<;>conv=>whnf)
 refine ⟨[], [], _, _, _, _, big_ok c.epoch.toNat 8 (by decide) (by decide) (by omega), ⟨by ((repeat' first|with_reducible exact Lz.rfl|exact Lw.rfl|exact Lz.wrap (by omega)|(unfold goInt;with_reducible exact Lz.rfl)|exact flx _|constructor); all_goals (exact Lz.int (by omega))), by ((repeat' first|with_reducible exact Lz.rfl|exact Lw.rfl|exact Lz.wrap (by omega)|(unfold goInt;with_reducible exact Lz.rfl)|exact flx _|constructor); all_goals (exact Lz.int (by omega))), by rfl⟩, ?_⟩
 rintro r o' c' ⟨rfl, rfl, rfl⟩
 ((conv=>whnf)<;>repeat(with_reducible refine D1 ?_)<;>conv=>whnf)
 refine ⟨by simp [bigL_len], ?_⟩
 ((conv=>whnf)<;>repeat(with_reducible refine D1 ?_)<;>conv=>whnf)
 refine ⟨by simp [bigL_len], ?_⟩
 ((conv=>whnf)<;>repeat(with_reducible refine D1 ?_)<;>conv=>whnf)
 refine ⟨[4], [], ?_⟩
 iterate 3 constructor
 refine ⟨⟨?_, ?_, ?_⟩, rfl, rfl, rfl⟩
 all_goals (repeat' first|with_reducible exact Lz.rfl|exact Lw.rfl|exact Lz.wrap (by omega)|(unfold goInt;with_reducible exact Lz.rfl)|exact flx _|constructor)
 all_goals (first | refine Lw.of ?_ | refine Lz.of ?_)
 all_goals (unfold cmdB; rw [wrap8 (by omega), wrap8 (by omega), wrap8 (by omega)]; simp only [List.map_append, List.map_cons, List.map_nil]; first | rfl | (simp; done))
end Go.M
namespace Go.M
open Go Go.Proofs
set_option maxRecDepth 100000
@[reducible] def mU : Int := 18446744073709551615
def cmdOf (a b c d : ByteArray) : Cmd := ⟨kindS a, (numR b 4).1, (numR c mU).1, (numR d 24).1⟩
def parse4 (a b c d : ByteArray) : Cmd × Int := if (numR b 4).2 ≠ 0 ∨ (numR c mU).2 ≠ 0 ∨ (numR d 24).2 ≠ 0 ∨ kindS a = 0 ∨ (cmdOf a b c d).check ≠ 0 then (noCmd, 4) else (cmdOf a b c d, 0)
def parseW : List ByteArray → Cmd × Int
 | [a, b, c, d] => parse4 a b c d
 | _ => (noCmd, 4)
def parseR (s : ByteArray) : Cmd × Int := if s = n0 then (noCmd, 0) else parseW (wordsB s)
theorem parseW_no {ws : List ByteArray} (h : ws.length ≠ 4) : parseW ws = (noCmd, 4) := by
 match ws, h with
 | [], _ => rfl
 | [_], _ => rfl
 | [_, _], _ => rfl
 | [_, _, _], _ => rfl
 | [_, _, _, _], h => exact absurd rfl h
 | _ :: _ :: _ :: _ :: _ :: _, _ => rfl
theorem four_of {ws : List ByteArray} (h : ws.length = 4) : ∃ a b c d, ws = [a, b, c, d] := by
 match ws, h with
 | [a, b, c, d], _ => exact ⟨a, b, c, d, rfl⟩
theorem wordsL_size : ∀ (l cur : List UInt8) (x : List UInt8), x ∈ wordsL l cur → x.length ≤ cur.length + l.length
 | [], cur, x, h => by
  rw [show wordsL [] cur = [cur] from rfl] at h
  cases List.mem_singleton.1 h
  simp
 | c :: r, cur, x, h => by
  by_cases hc : c = 32
  ·rw [show wordsL (c :: r) cur = cur :: wordsL r [] from if_pos hc] at h
   rcases List.mem_cons.1 h with rfl | h
   ·simp
   ·have := wordsL_size r [] x h
    simp at this ⊢; omega
  ·rw [show wordsL (c :: r) cur = wordsL r (cur ++ [c]) from if_neg hc] at h
   have := wordsL_size r _ x h
   simp at this ⊢; omega
theorem wordsB_size {s x : ByteArray} (h : x ∈ wordsB s) : x.size ≤ s.size := by
 unfold wordsB at h
 obtain ⟨y, hy, rfl⟩ := List.mem_map.1 h
 have := wordsL_size _ _ y hy
 show y.toArray.size ≤ _
 rw [List.size_toArray]
 rw [size_len] at this
 simpa using this
theorem wordsB_len (s : ByteArray) : (wordsB s).length ≤ s.size + 1 := by
 have key : ∀ (l cur : List UInt8), (wordsL l cur).length ≤ l.length + 1 := by
  intro l
  induction l with
  | nil => intro cur; simp [wordsL]
  | cons c r ih =>
   intro cur
   show (if c = 32 then _ else _ : List (List UInt8)).length ≤ _
   split
   ·have := ih []
    simp; omega
   ·have := ih (cur ++ [c])
    simp; omega
 unfold wordsB
 rw [List.length_map]
 have := key s.data.toList []
 rw [size_len] at this
 exact this
theorem join_back {s a b c d : ByteArray} (h : wordsB s = [a, b, c, d]) : s = a ++ spB ++ b ++ spB ++ c ++ spB ++ d := by
 rw [← join4 a b c d, ← h]
 apply ba_ext
 show s.data.toList = Lib.join ((wordsB s).map fun b : ByteArray => b.data.toList) [32]
 unfold wordsB
 rw [List.map_map]
 have : (wordsL s.data.toList []).map ((fun b : ByteArray => b.data.toList) ∘ fun x => (⟨x.toArray⟩ : ByteArray)) = wordsL s.data.toList [] := by
  conv => rhs; rw [← List.map_id (wordsL s.data.toList [])]
  exact List.map_congr_left fun x _ => rfl
 rw [this, join_words]
 rfl
theorem parse4_text {s a b c d : ByteArray} (h : wordsB s = [a, b, c, d]) (h0 : (parse4 a b c d).2 = 0) : (parse4 a b c d).1.check = 0 ∧ (parse4 a b c d).1.kind ≠ 0 ∧ textS (parse4 a b c d).1 = s ∧ parse4 a b c d = (cmdOf a b c d, 0) := by
 unfold parse4 at h0 ⊢
 split at h0
 ·cases h0
 ·rename_i hn
  rw [if_neg hn]
  rw [not_or, not_or, not_or, not_or] at hn
  obtain ⟨q1, q2, q3, q4, q5⟩ := hn
  have q1 := Decidable.of_not_not q1
  have q2 := Decidable.of_not_not q2
  have q3 := Decidable.of_not_not q3
  have q5 := Decidable.of_not_not q5
  have hk := (check_fields (c := cmdOf a b c d) (numR_range c mU).1 q5).1
  refine ⟨q5, q4, ?_, rfl⟩
  unfold textS
  rw [if_neg (show ¬ (cmdOf a b c d, (0 : Int)).1.kind = 0 from q4)]
  obtain ⟨b1, b2, b3, b4⟩ := numR_0 q1
  obtain ⟨c1, c2, c3, c4⟩ := numR_0 q2
  obtain ⟨d1, d2, d3, d4⟩ := numR_0 q3
  have hm : kindS a ≠ -1 := fun e => by
   have : (cmdOf a b c d).kind = -1 := e
   omega
  have e1 : nameS (cmdOf a b c d).kind = a := (name_kind hm).1
  have e2 : decS (cmdOf a b c d).chain.toNat = b := by
   rw [show (cmdOf a b c d).chain = ((numV b : Nat) : Int) from b4, Int.toNat_natCast]
   exact dec_num b1
  have e3 : decS (cmdOf a b c d).epoch.toNat = c := by
   rw [show (cmdOf a b c d).epoch = ((numV c : Nat) : Int) from c4, Int.toNat_natCast]
   exact dec_num c1
  have e4 : decS (cmdOf a b c d).node.toNat = d := by
   rw [show (cmdOf a b c d).node = ((numV d : Nat) : Int) from d4, Int.toNat_natCast]
   exact dec_num d1
  show nameS (cmdOf a b c d).kind ++ spB ++ decS (cmdOf a b c d).chain.toNat ++ spB ++ decS (cmdOf a b c d).epoch.toNat ++ spB ++ decS (cmdOf a b c d).node.toNat = s
  rw [e1, e2, e3, e4]
  exact (join_back h).symm
theorem parseR_text {s : ByteArray} (h : (parseR s).2 = 0) : (parseR s).1.check = 0 ∧ textS (parseR s).1 = s := by
 unfold parseR at h ⊢
 by_cases hs : s = n0
 ·rw [if_pos hs]
  exact ⟨rfl, by rw [hs]; rfl⟩
 ·rw [if_neg hs] at h ⊢
  by_cases hl : (wordsB s).length = 4
  ·obtain ⟨a, b, c, d, e⟩ := four_of hl
   rw [e] at h ⊢
   obtain ⟨q1, _, q3, _⟩ := parse4_text e h
   exact ⟨q1, q3⟩
  ·rw [parseW_no hl] at h
   cases h
theorem no32_dec (n : Nat) : (32 : UInt8) ∉ (decS n).data.toList := fun h => by
 have := List.all_eq_true.1 (val_digits n).2.1 32 h
 revert this
 decide
theorem no32_name (k : Int) : (32 : UInt8) ∉ (nameS k).data.toList := by
 unfold nameS
 split
 ·decide
 split
 ·decide
 split
 ·decide
 split
 ·decide
 split
 ·decide
 ·decide
theorem words_text (c : Cmd) : wordsB c.text = [nameS c.kind, decS c.chain.toNat, decS c.epoch.toNat, decS c.node.toNat] := by
 apply wordsB_of
 have e : c.text.data.toList = (nameS c.kind).data.toList ++ 32 :: ((decS c.chain.toNat).data.toList ++ 32 :: ((decS c.epoch.toNat).data.toList ++ 32 :: (decS c.node.toNat).data.toList)) := by
  unfold Cmd.text
  simp [ByteArray.data_append]
 rw [e, wordsL_app _ _ _ (no32_name _), wordsL_app _ _ _ (no32_dec _), wordsL_app _ _ _ (no32_dec _), wordsL_no _ _ (no32_dec _)]
 rfl
theorem parseR_of_text {c : Cmd} (he : 0 ≤ c.epoch ∧ c.epoch < 18446744073709551616) (h : c.check = 0) : parseR (textS c) = (c, 0) := by
 obtain ⟨hk, hz, hn⟩ := check_fields he.1 h
 by_cases h0 : c.kind = 0
 ·obtain ⟨z1, z2, z3⟩ := hz h0
  unfold textS parseR
  rw [if_pos h0, if_pos rfl]
  exact congrArg (·, 0) (Cmd.ext' h0.symm z1.symm z2.symm z3.symm)
 ·obtain ⟨h1, h2, h3, h4⟩ := hn h0
  have hw := words_text c
  unfold textS parseR
  rw [if_neg h0, if_neg (fun e => by
   rw [e] at hw
   have h4 : (wordsB n0).length = 4 := congrArg List.length hw
   revert h4
   decide), hw]
  show parse4 _ _ _ _ = _
  have e1 := numR_dec (n := c.chain.toNat) (m := 4) (by omega) (by omega)
  have e2 := numR_dec (n := c.epoch.toNat) (m := mU) (by omega) (by unfold mU; omega)
  have e3 := numR_dec (n := c.node.toNat) (m := 24) (by omega) (by omega)
  have ec : cmdOf (nameS c.kind) (decS c.chain.toNat) (decS c.epoch.toNat) (decS c.node.toNat) = c := by
   unfold cmdOf
   rw [e1, e2, e3, kind_name hk]
   exact Cmd.ext' rfl (by show ((c.chain.toNat : Nat) : Int) = _; omega) (by show ((c.epoch.toNat : Nat) : Int) = _; omega) (by show ((c.node.toNat : Nat) : Int) = _; omega)
  unfold parse4
  rw [ec, e1, e2, e3, kind_name hk, if_neg]
  rw [not_or, not_or, not_or, not_or]
  exact ⟨fun q => q rfl, fun q => q rfl, fun q => q rfl, h0, fun q => q h⟩
theorem numR_wide {s : ByteArray} {m n : Int} (hmn : m ≤ n) (h : (numR s n).2 ≠ 0) : (numR s m).2 ≠ 0 := by
 unfold numR at h ⊢
 by_cases h1 : plainB s = true
 ·rw [if_pos h1] at h ⊢
  by_cases h2 : numV s ≤ 18446744073709551615 ∧ (numV s : Int) ≤ n
  ·rw [if_pos h2] at h
   exact absurd rfl h
  ·rw [if_neg (fun q => h2 ⟨q.1, by omega⟩)]
   simp
 ·rw [if_neg h1]
  simp
theorem numR_same {s : ByteArray} {m n : Int} (hmn : m ≤ n) (h : (numR s m).2 = 0) : numR s n = numR s m := by
 obtain ⟨q1, q2, q3, q4⟩ := numR_0 h
 rw [numR_in q1 q2 q3, numR_in q1 q2 (by omega)]
theorem numR_le {s : ByteArray} {m : Int} (hm : 0 ≤ m) : 0 ≤ (numR s m).1 ∧ (numR s m).1 ≤ m := by
 unfold numR
 split
 ·split
  ·simp only; omega
  ·simp only; omega
 ·simp only; omega
end Go.M
