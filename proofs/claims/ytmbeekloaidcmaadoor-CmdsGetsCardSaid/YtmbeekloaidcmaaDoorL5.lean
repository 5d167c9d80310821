/-
  Part 5 of the library that the proof leans on.
-/
import Derived.Shelf.SlIterI.Nil
import Derived.Shelf.Strings.OnBuilder
import Derived.Shelf.Strings.Split
import Derived.KernelRfl
import Derived.Test.YtmbeekloaidcmaaDoorChecked
import Derived.Shelf.LaysM
import Derived.OpenShut
import Derived.ChangeArms
import Derived.Handed
import Derived.Test.YtmbeekloaidcmaaDoorL4
namespace Go.M
open Go
def outK (base : Nat) : KV := fun v h' => match v with
 | .slice (some ⟨b, o, some z⟩) len _ => (readCells h' b o (len * z)).bind fun cs => grd (Nat.ble base b && Nat.blt 0 len && cs.all scalar) (some (.bool false :: goInt len :: goInt z :: cs))
 | v => grd (plain1 v) (some [.bool true, v])
def ansOf (h : AHeap) : Out → Option (Value × AHeap)
 | [.bool true, v] => grd (plain1 v) (some (v, h))
 | .bool false :: .int _ (.ofNat len) :: .int _ (.ofNat z) :: cs => some (.slice (some ⟨h.size, 0, some z⟩) len (len + 1), h.push (.cells cs h.size (h.size + 1) 0))
 | _ => none
noncomputable def confl (E : Env) (n : Nat) : CallF := fun g args h => (callK E h.size n g args h (outK h.size)).bind (ansOf h)
theorem HRel.ext {E : Env} {base B : Nat} {μ : Emb} {h : AHeap} {w w' : World} (H : HRel E base B μ h w) (hs : w.heap.size ≤ w'.heap.size) (hk : ∀ r, r < w.heap.size → w'.heap[r]? = w.heap[r]?) : HRel E base B μ h w' :=
 ⟨H.dom, H.high, fun b m hb => by
  obtain ⟨p, p', k1, k2, k3⟩ := H.obj b m hb
  exact ⟨p, p', k1, by rw [hk _ (H.lt hb)]; exact k2, k3⟩, H.own, H.alias, H.fam, H.glob, Nat.le_trans H.low hs, H.bsz, H.wf, H.root⟩
section
variable {P : Program} {E E0 : Env} {base B : Nat}
end
end Go.M
namespace Go.M
open Go
noncomputable def orcOf (P : Program) (fs : List Nat) (n : Nat) : FuncId → List Value → AHeap → Option (Value × AHeap) := fun g args h =>
 match fs.contains g with
 | true => confl (envOf P noOrc) n g args h
 | false => none
end Go.M
namespace Go.M
open Go
def insI (x : Int) : List Int → List Int
 | [] => [x]
 | y :: l => bif Int.blt' x y then x :: y :: l else y :: insI x l
where Int.blt' (x y : Int) : Bool := decide (x < y)
def sortI : List Int → List Int
 | [] => []
 | x :: l => insI x (sortI l)
def intsV : List Value → Option (List Int)
 | [] => some []
 | .int .i64 x :: l => (intsV l).bind fun r => some (x :: r)
 | _ => none
def outB (base : Nat) : KV := fun v h' => match v with
 | .slice (some ⟨b, o, some 1⟩) len _ => (readCells h' b o len).bind fun cs => (intsV cs).bind fun xs => grd (Nat.ble base b && Nat.blt 0 len) (some (.bool false :: goInt len :: (sortI xs).map (.int .i64)))
 | v => grd (plain1 v) (some [.bool true, v])
def ansB (h : AHeap) : Out → Option (Value × AHeap)
 | [.bool true, v] => grd (plain1 v) (some (v, h))
 | .bool false :: .int _ (.ofNat len) :: cs => (intsV cs).bind fun xs => some (.slice (some ⟨h.size, 0, some 1⟩) len (len + 1), h.push (.bag xs))
 | _ => none
noncomputable def conflB (E : Env) (n : Nat) : CallF := fun g args h => (callK E h.size n g args h (outB h.size)).bind (ansB h)
section
variable {P : Program} {E E0 : Env} {base B : Nat}
end
end Go.M
namespace Go.M
open Go
def insAll (x : Int) : List Int → List (List Int)
 | [] => [[x]]
 | y :: l => (x :: y :: l) :: (insAll x l).map (y :: ·)
def perms : List Int → List (List Int)
 | [] => [[]]
 | x :: l => (perms l).flatMap (insAll x)
def bagOf (h : AHeap) : List Value → Option (Nat × List Int)
 | [] => none
 | .slice (some ⟨b, _, some _⟩) _ cap :: l => (match Nat.beq cap 0, h.get b with
  | false, some (.bag cs) => some (b, cs)
  | _, _ => bagOf h l)
 | _ :: l => bagOf h l
def noRoot (h : AHeap) (b : Nat) : Bool := (List.range h.size).all fun c => match h.get c with
 | some (.cells _ f _ _) => !Nat.beq f b
 | _ => true
noncomputable def conflP (E : Env) (n : Nat) : CallF := fun g args h => (bagOf h args).bind fun r => grd (Nat.blt r.1 h.size && noRoot h r.1) <|
 (meet ((perms r.2).map fun l => callK E h.size n g args (h.put r.1 (.cells (l.map (.int .i64)) r.1 h.size 0)) (outK h.size))).bind (ansOf h)
section
variable {P : Program} {E E0 : Env} {base B : Nat}
end
end Go.M
namespace Go.M
open Go
noncomputable def orcAll (P : Program) (fs bs ps : List Nat) (n : Nat) : FuncId → List Value → AHeap → Option (Value × AHeap) := fun g args h =>
 match fs.contains g with
 | true => confl (envOf P noOrc) n g args h
 | false => match bs.contains g with
  | true => conflB (envOf P noOrc) n g args h
  | false => match ps.contains g with
   | true => conflP (envOf P noOrc) n g args h
   | false => none
end Go.M
namespace Go.M
open Go
def orcT (l : List Nat) : FuncId → List Value → AHeap → Option (Value × AHeap) := fun g args h => match memN g l, args with
 | true, [] => some (.bool true, h)
 | _, _ => none
def Awake (P : Program) (g : FuncId) : Prop := ∀ (W : World) (F : Fence) (n : Nat), Wide F → CallsIn F n P g #[] W fun e W' => e = .returned (.bool true) ∧ Go.RowKit.Below W.heap.size W W'
theorem orcT_ok {P : Program} {l : List Nat} (hl : ∀ g ∈ l, Awake P g) (base B : Nat) : OrcOk P (envOf P (orcT l)) base B := by
 intro μ h w g args args' v h' hc hr H F n hF
 have hc' : orcT l g args h = some (v, h') := hc
 unfold orcT at hc'
 split at hc'
 ·rename_i hg
  cases hc'
  have : args' = #[] := by
   have := hr.length
   simpa using this.symm
  subst this
  refine (hl g (memN_mem hg) w F n hF).mono ?_
  rintro e W' ⟨rfl, hb⟩
  exact ⟨_, μ, rfl, .lit rfl, ⟨H.ext hb.size fun r hr => hb.block r hr, ⟨hb.tape, hb.os, hb.output, hb.size, fun r hr _ => hb.block r hr⟩, μ.le_refl, fun b m h0 h1 => (by rw [h0] at h1; cases h1), fun _ _ _ => rfl, Nat.le_refl _⟩⟩
 ·cases hc'
end Go.M
namespace Go.M
open Go Go.RowKit Go.Maps Go.Sort Go.Shelf Go.Proofs
def SortsKeys (P : Program) (g k : FuncId) : Prop := ∀ (W : World) (Bm : Nat) (mb : Option Nat) (ks : List Int), W.cell? ⟨Bm, 0, none⟩ = some (.map mb) → ks.length ≤ 1099511627776 → (∀ x ∈ ks, IntKind.i64.min ≤ x ∧ x ≤ IntKind.i64.max) → ks.Nodup →
 (mb = none ∧ ks = [] ∨ ∃ (r : Nat) (es : Array MapEntry) (clock : Nat), mb = some r ∧ W.heap[r]? = some (.map es clock) ∧ StL es.toList clock ∧ es.toList.map (·.key) = ks.map (.int .i64)) →
 Calls P g #[.func (.func k) #[] #[.pointer (some ⟨Bm, 0, none⟩)]] W fun e w' => ∃ (v : Value) (t : TypeId), e = .returned v ∧ w'.ownsRow W.heap.size t 1 v ks.length ((ks.mergeSort fun x y => decide (x ≤ y)).map (.int .i64)) ∧ (v = .slice none 0 0 ↔ ks = []) ∧ Below W.heap.size W w'
end Go.M
namespace Go.M
open Go Go.RowKit
theorem calls_any {P : Program} {F : Fence} (hF : Wide F) {n : Nat} {f : FuncId} {args : Array Value} {w : World} {R : Ending → World → Prop} (h : Calls P f args w R) : CallsIn F n P f args w R := by
 have e : Machine.fenced P F = Machine.fenced P Fence.wide := funext fun m => propext ⟨fun _ => fenced_wide P m, fun _ g hg => ⟨fun ha => (by rw [hF.dead] at ha; cases ha), Or.inl (hF.fn _), fun f _ => hF.fn f, fun d hd => (by rw [hF.depth] at hd; cases hd)⟩⟩
 have h2 := callsIn_wide (n := n).2 h
 refine ⟨hF.fn f, fun cs _ => ?_⟩
 rw [e]
 exact h2.2 cs (room_wide _)
def intKs : List MapEntry → Option (List Int)
 | [] => some []
 | e :: l => match e.key, intKs l with
  | .int .i64 n, some ks => some (n :: ks)
  | _, _ => none
def boxMap (h : AHeap) (b : Nat) : Option (Option Nat) := match h.get b with
 | some (.cells [.map mb] f tip thr) => grd (Nat.beq f b && Nat.beq tip b && Nat.ble thr b) (some mb)
 | _ => none
instance (ev : List MapEntry) (clock : Nat) : Decidable (StL ev clock) := inferInstanceAs (Decidable (_ ∧ _))
def ksOk (ks : List Int) : Prop := ks.length ≤ 1099511627776 ∧ (∀ x ∈ ks, IntKind.i64.min ≤ x ∧ x ≤ IntKind.i64.max) ∧ ks.Nodup
instance (ks : List Int) : Decidable (ksOk ks) := inferInstanceAs (Decidable (_ ∧ _ ∧ _))
def keysAt (h : AHeap) : Option Nat → Option (List Int)
 | none => some []
 | some r => match h.get r with
  | some (.map ev clock) => (intKs ev).bind fun ks => grd (decide (StL ev clock) && decide (ksOk ks)) (some ks)
  | _ => none
def sortZ (ks : List Int) : List Int := ks.mergeSort fun x y => decide (x ≤ y)
def ansKs (h : AHeap) (ks : List Int) : Value × AHeap := match ks with
 | [] => (.slice none 0 0, h)
 | _ :: _ => (.slice (some ⟨h.size, 0, some 1⟩) ks.length (ks.length + 1), h.push (.cells ((sortZ ks).map (.int .i64)) h.size h.size 0))
def sortedK (its : List Nat) (args : List Value) (h : AHeap) : Option (Value × AHeap) := match args with
 | [.func (.func k) a c] => (match a.toList, c.toList with
  | [], [.pointer (some ⟨b, 0, none⟩)] => grd (memN k its) ((boxMap h b).bind fun mb => (keysAt h mb).bind fun ks => some (ansKs h ks))
  | _, _ => none)
 | _ => none
theorem boxMap_some {h : AHeap} {b : Nat} {mb : Option Nat} (hb : boxMap h b = some mb) : ∃ thr, h.get b = some (.cells [.map mb] b b thr) ∧ thr ≤ b := by
 unfold boxMap at hb
 split at hb
 ·rename_i mb' f tip thr hg
  simp only [grd_some, Bool.and_eq_true, beq_iff, ble_iff, Option.some.injEq] at hb
  obtain ⟨⟨⟨rfl, rfl⟩, ht⟩, rfl⟩ := hb
  exact ⟨thr, hg, ht⟩
 ·cases hb
theorem keysAt_some {h : AHeap} {r : Nat} {ks : List Int} (hk : keysAt h (some r) = some ks) : ∃ ev clock, h.get r = some (.map ev clock) ∧ intKs ev = some ks ∧ StL ev clock ∧ ksOk ks := by
 simp only [keysAt] at hk
 split at hk
 ·rename_i ev clock hg
  simp only [Option.bind_eq_some_iff, grd_some, Bool.and_eq_true, decide_eq_true_eq, Option.some.injEq] at hk
  obtain ⟨ks', hks, ⟨hst, hok⟩, rfl⟩ := hk
  exact ⟨ev, clock, hg, hks, hst, hok⟩
 ·cases hk
theorem ERels.born {μ : Emb} {ev ev' : List MapEntry} (h : ERels μ ev ev') : ev'.map (·.born) = ev.map (·.born) := by
 induction h with
 | nil => rfl
 | cons _ _ hb _ ih => simp [hb, ih]
theorem StL.iff {ev : List MapEntry} {clock : Nat} : StL ev clock ↔ (∀ b ∈ ev.map (·.born), b < clock) ∧ (ev.map (·.born)).Nodup := by
 unfold StL; simp
theorem ERels.ints {μ : Emb} {ev ev' : List MapEntry} (h : ERels μ ev ev') : ∀ {ks : List Int}, intKs ev = some ks → ev'.map (·.key) = ks.map (.int .i64) := by
 induction h with
 | nil => intro ks hk; simp [intKs] at hk; subst hk; rfl
 | cons hkey _ _ _ ih =>
  intro ks hk
  unfold intKs at hk
  split at hk
  ·rename_i n ks' h1 h2
   cases hk
   rw [h1] at hkey
   have := hkey.inv_scalar rfl
   simp [this, ih h2]
  ·cases hk
theorem sortedK_ok {P : Program} {E : Env} {base B : Nat} {its : List Nat} {g : FuncId} (hS : ∀ k ∈ its, SortsKeys P g k) {μ : Emb} {h h' : AHeap} {w : World} {args : List Value} {args' : Array Value} {v : Value}
 (hc : sortedK its args h = some (v, h')) (hr : VRels μ args args'.toList) (H : HRel E base B μ h w) : Calls P g args' w (RetPost E base B μ h w v h') := by
 unfold sortedK at hc
 split at hc
 ·rename_i k a c
  split at hc
  ·rename_i b ha hcc
   simp only [grd_some, Option.bind_eq_some_iff, Option.some.injEq] at hc
   obtain ⟨hk, mb, hbox, ks, hkeys, hans⟩ := hc
   obtain ⟨thr, hg, hthr⟩ := boxMap_some hbox
   -- the arguments in the world
   obtain ⟨v1, hv1, e1⟩ : ∃ v1, VRel μ (.func (.func k) a c) v1 ∧ args' = #[v1] := by
    obtain ⟨l⟩ := args'
    cases hr with
    | cons h1 h2 => cases h2; exact ⟨_, h1, rfl⟩
   subst e1
   cases hv1 with
   | lit hh => simp [plain1] at hh
   | func hs1 ha1 hs2 ha2 =>
    rename_i a' c'
    have ea : a' = #[] := by
     have h0 : a'.size = 0 := by rw [← hs1]; have := congrArg List.length ha; simpa using this
     exact Array.eq_empty_of_size_eq_zero h0
    subst ea
    have hc1 : c.size = 1 := by have := congrArg List.length hcc; simpa using this
    obtain ⟨p', ec⟩ : ∃ p', c' = #[p'] := by
     obtain ⟨l⟩ := c'
     rw [hc1] at hs2
     match l, hs2 with
     | [x], _ => exact ⟨x, rfl⟩
     | [], hs2 => simp at hs2
     | _ :: _ :: _, hs2 => simp at hs2
    subst ec
    have hp := ha2 0 (.pointer (some ⟨b, 0, none⟩)) p' (by rw [← Array.getElem?_toList, hcc]; rfl) rfl
    obtain ⟨m, hm, rfl⟩ := hp.inv_ptr
    have hs0 := H.root b m _ _ hm hg
    have hrd : h.rd b = some [.map mb] := rd_of (fam_of hg hg) hthr (by unfold AHeap.cellsOf; rw [hg])
    obtain ⟨cc, e, fr, q1, q2, q3, q4, q5⟩ := H.read hm hrd
    obtain ⟨vm, q6, q7⟩ := q5 0 (.map mb) rfl
    rw [hs0] at q6 ⊢
    obtain ⟨mb', rfl, hmap⟩ : ∃ mb', vm = .map mb' ∧ (mb' = none ∧ ks = [] ∨ ∃ (r : Nat) (es : Array MapEntry) (clock : Nat), mb' = some r ∧ w.heap[r]? = some (.map es clock) ∧ StL es.toList clock ∧ es.toList.map (·.key) = ks.map (.int .i64)) := by
     cases mb with
     | none =>
      cases q7 with
      | lit _ => exact ⟨none, rfl, .inl ⟨rfl, by simpa [keysAt] using hkeys.symm⟩⟩
     | some r =>
      obtain ⟨mr, w1, rfl⟩ := q7.inv_map
      refine ⟨_, rfl, .inr ?_⟩
      obtain ⟨ev, clock, hgr, hks, hst, hok⟩ := keysAt_some hkeys
      obtain ⟨o, o', k1, k2, k3⟩ := H.obj r mr w1
      rw [hgr] at k1; cases k1
      cases k3 with
      | map hs =>
       rename_i es'
       refine ⟨_, es', clock, rfl, k2, ?_, hs.ints hks⟩
       rw [StL.iff, hs.born, ← StL.iff]; exact hst
    have hok : ksOk ks := by
     cases mb with
     | none => simp [keysAt] at hkeys; subst hkeys; exact ⟨by simp, by simp, by simp⟩
     | some r =>
      obtain ⟨ev, clock, hgr, hks, hst, hok⟩ := keysAt_some hkeys
      exact hok
    have hcell : w.cell? ⟨m.r, 0, none⟩ = some (.map mb') := by
     unfold World.cell?
     simp only [q1, Option.isSome_none, Bool.false_eq_true, if_false]
     simpa using q6
    have := hS k (memN_mem hk) w m.r mb' ks hcell hok.1 hok.2.1 hok.2.2 hmap
    simp only [Nat.add_zero]
    refine this.mono ?_
    rintro en w' ⟨v', t, rfl, hrow, hnil, hb⟩
    have Hx := H.ext hb.size fun r hr => hb.block r hr
    have gr : Grow base μ w w' := ⟨hb.tape, hb.os, hb.output, hb.size, fun r hr _ => hb.block r hr⟩
    cases ks with
    | nil =>
     simp only [ansKs, Prod.mk.injEq] at hans
     obtain ⟨rfl, rfl⟩ := hans
     have := hnil.2 rfl
     subst this
     exact ⟨_, μ, rfl, .lit rfl, ⟨Hx, gr, μ.le_refl, fun b m h0 h1 => (by rw [h0] at h1; cases h1), fun _ _ _ => rfl, Nat.le_refl _⟩⟩
    | cons x0 l0 =>
     generalize hks0 : x0 :: l0 = ks at *
     have hlen : 0 < ks.length := by rw [← hks0]; simp
     have hans' : ansKs h ks = (.slice (some ⟨h.size, 0, some 1⟩) ks.length (ks.length + 1), h.push (.cells ((sortZ ks).map (.int .i64)) h.size h.size 0)) := by rw [← hks0]; rfl
     rw [hans'] at hans
     simp only [Prod.mk.injEq] at hans
     obtain ⟨rfl, rfl⟩ := hans
     obtain ⟨r1, ⟨_, r2⟩ | ⟨gb, cap, cur, rfl, r3, r4, r5, r6, r7, r8⟩⟩ := hrow
     ·omega
     ·let cs := (sortZ ks).map (Value.int .i64)
      have hcl : cs.length = ks.length := by simp [cs, sortZ]
      let m2 : MT := ⟨gb, 0, cur.size⟩
      have Hp := Hx.pushA (o := .cells cs h.size h.size 0) (fun _ _ _ _ hh => by cases hh; rfl)
      have hget : (h.push (.cells cs h.size h.size 0)).get h.size = some (.cells cs h.size h.size 0) := by rw [AHeap.get_push, if_pos rfl]
      have ho : ORel (upd μ h.size m2) (h.push (.cells cs h.size h.size 0)) base h.size m2 (.cells cs h.size h.size 0) (.cells cur t (0, 0)) := by
       refine .cells rfl (by show 0 + cs.length ≤ cur.size; omega) (fun _ => noFr0 _) fun _ i v hv => ?_
       have hi := (List.getElem?_eq_some_iff.1 hv).1
       have : cur.toList[i]? = some v := by
        have h5 : (cur.toList.take (ks.length * 1))[i]? = some v := by rw [r8]; exact hv
        rw [List.getElem?_take] at h5
        rwa [if_pos (by omega)] at h5
       refine ⟨v, by show cur[0 + i]? = some v; rw [Nat.zero_add]; simpa using this, ?_⟩
       obtain ⟨n, _, rfl⟩ := List.mem_map.1 (List.mem_of_getElem? hv)
       exact .int _ _ _
      have Ht := Hp.track (b := h.size) (m := m2) (by simp [AHeap.size_push]) hget H.fresh H.bsz (by have := H.low; show B ≤ gb; omega) r4
       (fun d md hd he => by have := H.lt hd; simp only [m2] at he; omega) (fun _ _ _ _ hh => by cases hh; exact ⟨rfl, Nat.le_refl _⟩) (fun _ _ _ => rfl) ho
      refine ⟨_, upd μ h.size m2, rfl, ?_, Ht, gr, upd_le H.fresh, fun d md h0 hd => ?_, fun d hd _ => by rw [AHeap.get_push, if_neg (by omega)], by simp [AHeap.size_push]⟩
      ·have := VRel.slice (μ := upd μ h.size m2) (b := h.size) (o := 0) (z := 1) (len := ks.length) (cap := ks.length + 1) (cap' := cap) (m := m2) (upd_self _ _ _) (by omega) r5 (fun h => by omega) (by show 0 + 0 + cap * 1 ≤ cur.size; omega)
       simpa [m2] using this
      ·by_cases ed : d = h.size
       ·subst ed
        rw [upd_self] at hd; cases hd
        exact ⟨Nat.le_refl _, H.bsz, .inl r3⟩
       ·rw [upd_ne _ _ ed, h0] at hd; cases hd
  ·cases hc
 ·cases hc
end Go.M
namespace Go.M
open Go Go.RowKit
def orcV (l : List Nat) (gs : List (Nat × List Nat)) : FuncId → List Value → AHeap → Option (Value × AHeap) := fun g args h => match memN g l with
 | true => (match args with | [] => some (.bool true, h) | _ => none)
 | false => match look gs g with
  | some its => sortedK its args h
  | none => none
theorem orcV_ok {P : Program} {l : List Nat} {gs : List (Nat × List Nat)} (hl : ∀ g ∈ l, Awake P g) (hs : ∀ g its, look gs g = some its → ∀ k ∈ its, SortsKeys P g k) (base B : Nat) : OrcOk P (envOf P (orcV l gs)) base B := by
 intro μ h w g args args' v h' hc hr H F n hF
 have hc' : orcV l gs g args h = some (v, h') := hc
 unfold orcV at hc'
 split at hc'
 ·rename_i hg
  split at hc'
  ·exact orcT_ok hl base B μ h w g [] args' v h' (by show orcT l g [] h = _; unfold orcT; rw [hg]; exact hc') hr ⟨H.dom, H.high, H.obj, H.own, H.alias, H.fam, H.glob, H.low, H.bsz, H.wf, H.root⟩ F n hF |>.mono fun e w' ⟨v', μ', h1, h2, h3⟩ =>
    ⟨v', μ', h1, h2, ⟨h3.rel.dom, h3.rel.high, h3.rel.obj, h3.rel.own, h3.rel.alias, h3.rel.fam, h3.rel.glob, h3.rel.low, h3.rel.bsz, h3.rel.wf, h3.rel.root⟩, h3.grow, h3.le, h3.new, h3.unt, h3.hsz⟩
  ·cases hc'
 ·split at hc'
  ·rename_i its hi
   exact calls_any hF (sortedK_ok (hs g its hi) hc' hr H)
  ·cases hc'
section
variable {E : Env}
def KeysO (ks : List Int) : TO → Prop
 | .map _ es => es.map (·.1) = ks.map (.int .i64)
 | .maq _ es op => op = [] ∧ es.map (·.1) = ks.map (.int .i64)
 | _ => False
end
end Go.M
namespace Go.M
open Go Go.RowKit
def OnInts (P : Program) (g : FuncId) (pre : List Value) (val : List Int → Value) (ok : List Int → Prop) : Prop :=
 ∀ (W : World) (l : List Int) (r o cap : Nat) (c : Array Value) (e : TypeId) (fr : Nat × Nat),
  W.heap[r]? = some (.cells c e fr) → l.length ≤ cap → o + cap ≤ c.size → (∀ (i : Nat) (x : Int), l[i]? = some x → c[o + i]? = some (.int .i64 x)) → ok l →
  Calls P g (List.toArray (pre ++ [Value.slice (some ⟨r, o, none⟩) l.length cap])) W fun en W' => en = .returned (val l) ∧ Below W.heap.size W W'
def bagK (val : List Value → List Int → Option Value) (args : List Value) (h : AHeap) : Option (Value × AHeap) := match args.reverse with
 | .slice (some ⟨b, 0, some 1⟩) len cap :: rp => (match h.get b with
  | some (.bag cs) => grd (Nat.beq len cs.length && Nat.ble len cap && Nat.blt 0 len && rp.all scalar) ((val rp.reverse cs).bind fun v => some (v, h))
  | _ => none)
 | _ => none
def BagOk (P : Program) (g : FuncId) (val : List Value → List Int → Option Value) : Prop :=
 ∀ pre cs v, (∀ u ∈ pre, scalar u = true) → val pre cs = some v → scalar v = true ∧ ∀ l : List Int, l.Perm cs → ∃ vf ok, OnInts P g pre vf ok ∧ ok l ∧ vf l = v
section
variable {E : Env}
end
end Go.M
namespace Go.M
open Go Go.RowKit Go.Maps Go.Sort Go.Shelf Go.Proofs
def CollectsKeys (P : Program) (g k : FuncId) : Prop := ∀ (W : World) (Bm : Nat) (mb : Option Nat) (ks : List Int), W.cell? ⟨Bm, 0, none⟩ = some (.map mb) → ks.length ≤ 1099511627776 → (∀ x ∈ ks, IntKind.i64.min ≤ x ∧ x ≤ IntKind.i64.max) → ks.Nodup →
 (mb = none ∧ ks = [] ∨ ∃ (r : Nat) (es : Array MapEntry) (clock : Nat), mb = some r ∧ W.heap[r]? = some (.map es clock) ∧ StL es.toList clock ∧ es.toList.map (·.key) = ks.map (.int .i64)) →
 Calls P g #[.func (.func k) #[] #[.pointer (some ⟨Bm, 0, none⟩)]] W fun e w' => ∃ (v : Value) (t : TypeId) (l : List Int), e = .returned v ∧ l.Perm ks ∧ w'.ownsRow W.heap.size t 1 v ks.length (l.map (.int .i64)) ∧ (v = .slice none 0 0 ↔ ks = []) ∧ Below W.heap.size W w'
def ansC (h : AHeap) (ks : List Int) : Value × AHeap := match ks with
 | [] => (.slice none 0 0, h)
 | _ :: _ => (.slice (some ⟨h.size, 0, some 1⟩) ks.length (ks.length + 1), h.push (.bag ks))
def collectK (its : List Nat) (args : List Value) (h : AHeap) : Option (Value × AHeap) := match args with
 | [.func (.func k) a c] => (match a.toList, c.toList with
  | [], [.pointer (some ⟨b, 0, none⟩)] => grd (memN k its) ((boxMap h b).bind fun mb => (keysAt h mb).bind fun ks => some (ansC h ks))
  | _, _ => none)
 | _ => none
end Go.M
namespace Go.M
open Go Go.RowKit
section
variable {X : Cx} {ρ : Gh} {F : Nat → Prop} {o : Ob} {c : Nat} {h : AHeap}
end
section
variable {E : Env}
end
abbrev BagF := List Value → List Int → Option Value
def orcW (l : List Nat) (gs cs : List (Nat × List Nat)) (bs : List (Nat × BagF)) : FuncId → List Value → AHeap → Option (Value × AHeap) := fun g args h => match look cs g with
 | some its => collectK its args h
 | none => match look bs g with
  | some val => bagK val args h
  | none => orcV l gs g args h
end Go.M
namespace Go.M
open Go
abbrev Tabs := List (Nat × List Value)
def envT (P : Program) (l : Tabs) (orc : FuncId → List Value → AHeap → Option (Value × AHeap)) : Env := { envOf P orc with tab := look l }
theorem envOkT (P : Program) (l : Tabs) (orc : FuncId → List Value → AHeap → Option (Value × AHeap)) : EnvOk P (envT P l orc) :=
 let h := envOk P orc
 ⟨h.desc, h.size, h.bytes, h.zero, h.eqOk, h.func⟩
def LaidT (l : Tabs) (W : World) : Prop := ∀ g cs, look l g = some cs → ∃ c e fr, W.heap[g]? = some (.cells c e fr) ∧ cs.length ≤ c.size ∧ ∀ (i : Nat) v, cs[i]? = some v → c[i]? = some v
def heapT (l : Tabs) : Nat → AHeap
 | 0 => h00
 | n + 1 => (heapT l n).push (.cells (match look l n with | some cs => cs | none => []) n (n + 1) 0)
def muT (l : Tabs) (n : Nat) (W : World) : Emb := fun g => match look l g, W.heap[g]?, Nat.blt g n with
 | some _, some (.cells c _ _), true => some ⟨g, 0, c.size⟩
 | _, _, _ => none
def tabsB (l : Tabs) (n : Nat) : Bool := l.all fun p => Nat.blt p.1 n && p.2.all tabV && (match look l p.1 with | some cs => eqLs cs p.2 | none => false)
def tabsIn (l : Tabs) (h : AHeap) : Bool := l.all fun p => match h.rd p.1, look l p.1 with | some cs, some cs' => eqLs cs cs' | _, _ => false
section
variable {P : Program} {l : Tabs} {n : Nat} {W : World}
theorem heapT_size : ∀ n, (heapT l n).size = n
 | 0 => rfl
 | n + 1 => by rw [heapT, AHeap.size_push, heapT_size n]
theorem heapT_get : ∀ n b, (heapT l n).get b = if b < n then some (.cells (match look l b with | some cs => cs | none => []) b (b + 1) 0) else none
 | 0, b => by simp; rfl
 | n + 1, b => by
  rw [heapT, AHeap.get_push, heapT_size n, heapT_get n b]
  by_cases e : b = n
  ·subst e; simp
  ·rw [if_neg e]
   by_cases h : b < n
   ·rw [if_pos h, if_pos (by omega)]
   ·rw [if_neg h, if_neg (by omega)]
theorem look_mem {α : Type} {l : List (Nat × α)} {g : Nat} {x : α} (h : look l g = some x) : (g, x) ∈ l := by
 induction l with
 | nil => simp [look] at h
 | cons p l ih =>
  unfold look at h
  split at h
  ·rename_i hb
   cases h
   rw [beq_iff] at hb; subst hb
   exact List.mem_cons_self
  ·exact List.mem_cons_of_mem _ (ih h)
theorem tabsB_ok (hB : tabsB l n = true) {g : Nat} {cs : List Value} (h : look l g = some cs) : g < n ∧ cs.all tabV = true := by
 have := List.all_eq_true.1 hB _ (look_mem h)
 simp only [Bool.and_eq_true, blt_iff] at this
 exact ⟨this.1.1, this.1.2⟩
theorem tabV_scalar {v : Value} (h : tabV v = true) : plain1 v = true := by
 unfold tabV at h; simp only [Bool.and_eq_true] at h; exact h.1
theorem arT (hB : tabsB l n = true) (hW : LaidT l W) : AR W (muT l n W) (heapT l n) := by
 have key : ∀ {b m}, muT l n W b = some m → ∃ cs c e fr, look l b = some cs ∧ W.heap[b]? = some (.cells c e fr) ∧ b < n ∧ m = ⟨b, 0, c.size⟩ := by
  intro b m h
  unfold muT at h
  split at h
  ·rename_i cs c e fr h1 h2 h3
   cases h
   exact ⟨cs, c, e, fr, h1, h2, blt_iff.1 h3, rfl⟩
  ·cases h
 refine ⟨fun b hb => ?_, fun b hb => ?_, fun b m hb => ?_, fun b m hb => ?_⟩
 ·rw [heapT_size] at hb; rw [heapT_get, if_neg (by omega)]
 ·rw [heapT_size] at hb; rw [heapT_get, if_pos hb]; exact ⟨_, rfl⟩
 ·obtain ⟨cs, c, e, fr, h1, h2, h3, rfl⟩ := key hb
  rw [heapT_size]; exact h3
 ·obtain ⟨cs, c, e, fr, h1, h2, h3, rfl⟩ := key hb
  obtain ⟨c', e', fr', q1, q2, q3⟩ := hW b cs h1
  rw [h2] at q1; cases q1
  refine ⟨cs, c, e, fr, by rw [heapT_get, if_pos h3, h1], h2, rfl, by simpa using q2, fun i v hv => ⟨v, by simpa using q3 i v hv, .lit ?_⟩⟩
  exact tabV_scalar (List.all_eq_true.1 (tabsB_ok hB h1).2 v (List.mem_of_getElem? hv))
theorem muT_glob (hB : tabsB l n = true) (hW : LaidT l W) {E : Env} (hE : E.tab = look l) (g : Nat) (hg : E.glob g = true) : ∃ m, muT l n W g = some m ∧ m.r = g ∧ m.s = 0 := by
 unfold Env.glob at hg
 rw [hE, Option.isSome_iff_exists] at hg
 obtain ⟨cs, h1⟩ := hg
 obtain ⟨c, e, fr, q1, q2, q3⟩ := hW g cs h1
 refine ⟨⟨g, 0, c.size⟩, ?_, rfl, rfl⟩
 unfold muT
 rw [h1, q1, blt_iff.2 (tabsB_ok hB h1).1]
theorem laid_of_rel {E : Env} (hE : E.tab = look l) {base B : Nat} {μ : Emb} {h : AHeap} {w : World} (H : HRel E base B μ h w) (hB : tabsB l n = true) (ht : tabsIn l h = true) : LaidT l w := by
 intro g cs hg
 obtain ⟨m, q1, q2, q3⟩ := H.glob g (by unfold Env.glob; rw [hE, hg]; rfl)
 have := List.all_eq_true.1 ht _ (look_mem hg)
 simp only [hg] at this
 split at this
 ·rename_i cs1 cs2 hr e
  cases e
  have ec := eqLs_eq this
  subst ec
  obtain ⟨c, e, fr, k1, k2, k3, _, k5⟩ := H.read q1 hr
  rw [q2] at k1
  rw [q3] at k3 k5
  refine ⟨c, e, fr, k1, by omega, fun i v hv => ?_⟩
  obtain ⟨v', p1, p2⟩ := k5 i v hv
  have hp := tabV_scalar (List.all_eq_true.1 (tabsB_ok hB hg).2 v (List.mem_of_getElem? hv))
  have hf := (List.all_eq_true.1 (tabsB_ok hB hg).2 v (List.mem_of_getElem? hv))
  have : v' = v := by
   cases p2 with
   | lit h => rfl
   | _ => simp [plain1] at hp
  subst this
  simpa using p1
 ·cases this
theorem tabsIn_of {E : Env} (hE : E.tab = look l) {F : Nat → Prop} {h : AHeap} (hB : tabsB l n = true) (N : TabOk E F h) : tabsIn l h = true := by
 refine List.all_eq_true.2 fun p hp => ?_
 have := List.all_eq_true.1 hB p hp
 simp only [Bool.and_eq_true] at this
 have h3 := this.2
 split at h3
 ·rename_i cs hl
  obtain ⟨_, n2, _⟩ := N p.1 cs (by rw [hE]; exact hl)
  rw [n2, hl]
  have e := eqLs_eq h3
  rw [e] at h3 ⊢
  exact h3
 ·cases h3
def AwakeT (P : Program) (l : Tabs) (g : FuncId) : Prop := ∀ (W : World) (F : Fence) (n : Nat), LaidT l W → Wide F → CallsIn F n P g #[] W fun e W' => e = .returned (.bool true) ∧ Go.RowKit.Below W.heap.size W W'
noncomputable def orcAllT (P : Program) (l : Tabs) (fs bs ps : List Nat) (n : Nat) : FuncId → List Value → AHeap → Option (Value × AHeap) := fun g args h =>
 match fs.contains g with
 | true => confl (envT P l noOrc) n g args h
 | false => match bs.contains g with
  | true => conflB (envT P l noOrc) n g args h
  | false => match ps.contains g with
   | true => conflP (envT P l noOrc) n g args h
   | false => none
theorem noOrc_okT {base B : Nat} : OrcOk P (envT P l noOrc) base B := fun μ h w g args args' v h' hr => by
 have : (none : Option (Value × AHeap)) = some (v, h') := hr
 cases this
theorem AR.hrelT {E : Env} {μ0 μ : Emb} {h : AHeap} (A : AR W μ h) (hle : μ0.le μ) (hg : ∀ g, E.glob g = true → ∃ m, μ0 g = some m ∧ m.r = g ∧ m.s = 0) : HRel E h.size W.heap.size μ h W :=
 let H := AR.hrel (E := envOf default noOrc) A (fun _ => rfl)
 ⟨H.dom, H.high, H.obj, H.own, H.alias, H.fam, fun g h => let ⟨m, q1, q2⟩ := hg g h; ⟨m, hle _ _ q1, q2⟩, H.low, H.bsz, H.wf, H.root⟩
def orcX (l : Tabs) (aw : List Nat) (rest : FuncId → List Value → AHeap → Option (Value × AHeap)) : FuncId → List Value → AHeap → Option (Value × AHeap) := fun g args h =>
 match memN g aw, args, tabsIn l h with
 | true, [], true => some (.bool true, h)
 | _, _, _ => rest g args h
theorem orcX_ok {aw : List Nat} {rest : FuncId → List Value → AHeap → Option (Value × AHeap)} (hB : tabsB l n = true) (ha : ∀ g ∈ aw, AwakeT P l g) (hr : ∀ base B, OrcOk P (envOf P rest) base B) (base B : Nat) : OrcOk P (envT P l (orcX l aw rest)) base B := by
 intro μ h w g args args' v h' hc hv H F k hF
 have hc' : orcX l aw rest g args h = some (v, h') := hc
 unfold orcX at hc'
 split at hc'
 ·rename_i h1 h2
  cases hc'
  have : args' = #[] := by
   have := hv.length
   simpa using this.symm
  subst this
  refine (ha g (memN_mem h1) w F k (laid_of_rel (E := envT P l (orcX l aw rest)) rfl H hB h2) hF).mono ?_
  rintro e W' ⟨rfl, hb⟩
  exact ⟨_, μ, rfl, .lit rfl, ⟨H.ext hb.size fun r hr => hb.block r hr, ⟨hb.tape, hb.os, hb.output, hb.size, fun r hr _ => hb.block r hr⟩, μ.le_refl, fun b m h0 h1 => (by rw [h0] at h1; cases h1), fun _ _ _ => rfl, Nat.le_refl _⟩⟩
 ·have H2 : HRel (envOf P rest) base B μ h w := ⟨H.dom, H.high, H.obj, H.own, H.alias, H.fam, fun g hg => by simp [Env.glob, envOf] at hg, H.low, H.bsz, H.wf, H.root⟩
  exact (hr base B μ h w g _ args' v h' hc' hv H2 F k hF).mono fun e w' ⟨v', μ', h1, h2, h3⟩ =>
   ⟨v', μ', h1, h2, ⟨h3.rel.dom, h3.rel.high, h3.rel.obj, h3.rel.own, h3.rel.alias, h3.rel.fam, fun g hg => let ⟨m, q1, q2⟩ := H.glob g hg; ⟨m, h3.le _ _ q1, q2⟩, h3.rel.low, h3.rel.bsz, h3.rel.wf, h3.rel.root⟩, h3.grow, h3.le, h3.new, h3.unt, h3.hsz⟩
end
section
open Go.ChangeShapes Go.WideShapes
variable {H : Type} {enc : TypeId × Value → H} {P : Program} {W : World} {base : Nat} {held : Bool}
theorem row_trueT {l : Tabs} {n : Nat} {E : Env} {g : FuncId} {ash : List ArgSh} {ts : List TypeId} {args : Array Value} {ds : List (DataW H)} {ps : List MemPlace} {base' : Nat} {r : Reach} (hE : EnvOk P E) (hO : ∀ base B, OrcOk P E base B) (hm : P.follows .mixedOrders = true)
 (hT : E.tab = look l) (hBT : tabsB l n = true) (hWT : LaidT l W)
 (hB : argsB P ts ash = true) (hD : DataW.TrodAll enc P W base (fun _ => true) held ts args.toList ds ps) (hv : ∀ (j : Nat) t v, ts[j]? = some t → args[j]? = some v → Value.okWide P W r base' t v)
 (hc : ∀ tvs, FitAs ash tvs → VC E g 0 tvs [] fun r _ _ => r = .s (.bool true)) : Calls P g args W fun e W' => e = .returned (.bool true) ∧ Go.RowKit.Below W.heap.size W W' := by
 obtain ⟨μ, h, tvs, vs0, A, hle, hgr, f, r, x⟩ := args_laid hB hD (fun j t v a b => hv j t v a (by simpa using b)) _ _ (arT hBT hWT)
 have hN : TabOk E (· < h.size) h := fun g cs hg => by
  rw [hT] at hg
  obtain ⟨h1, h2⟩ := tabsB_ok hBT hg
  have hs := hgr.1
  rw [heapT_size] at hs
  refine ⟨by omega, A.rd (cs := cs) ?_, h2⟩
  rw [hgr.2 g (by rw [heapT_size]; exact h1), heapT_get, if_pos h1, hg]
 obtain ⟨k, v, h', ρ', F', r', o', c', h1, rfl, h3, h4⟩ := hc tvs f h.size noG _ h _ vs0 hN A.mem (AR.mo (μ := μ)) r
 obtain ⟨rfl, _⟩ := h4.inv_s
 have := acall_ok hE (hO h.size W.heap.size) hm k μ h W g vs0 args _ h' h1 x (A.hrelT hle (muT_glob hBT hWT hT)) Fence.wide 0 Wide.wide
 refine (callsIn_wide.1 (this.mono ?_))
 rintro e W' ⟨v', μ', rfl, hv, S⟩
 have e := hv.inv_scalar rfl
 subst e
 exact ⟨rfl, S.grow.os, S.grow.tape, S.grow.output, S.grow.size, fun k hk => S.grow.keep k hk fun b m hb _ => A.dom b m hb⟩
end
end Go.M
namespace Go.M
open Go Go.RowKit Go.Shelf Go.Proofs
def JoinsIn (P : Program) (g : FuncId) : Prop := ∀ (bk o c : Nat) (xs : List ByteArray) (sep : ByteArray) (w : World), (∀ (j : Nat) x, xs[j]? = some x → w.cell? ⟨bk, o + j, none⟩ = some (.string x)) → bk < w.heap.size → xs.length ≤ 100000 → xs.length ≤ c →
 (Lib.join (xs.map (·.data.toList)) sep.data.toList).length ≤ 1000000 →
 Calls P g #[.slice (some ⟨bk, o, none⟩) xs.length c, .string sep] w fun e w' => e = .returned (.string ⟨(Lib.join (xs.map (·.data.toList)) sep.data.toList).toArray⟩) ∧ Below w.heap.size w w'
theorem joinsIn_of {P : Program} {ρ : Ren} (L : Lays.n156 P ρ) (X : Builder.Extra P ρ) {g : FuncId} (e : ρ.f 156 = g) : JoinsIn P g := fun bk o c xs sep w h1 h2 h3 h4 h5 => by
 subst e
 exact Any.strings_Join L X bk o c xs sep w h1 h2 (by omega) h4 (by omega)
def strsOf : List Value → Option (List ByteArray)
 | [] => some []
 | .string s :: l => (strsOf l).map (s :: ·)
 | _ :: _ => none
theorem strsOf_get : ∀ {l : List Value} {xs : List ByteArray}, strsOf l = some xs → xs.length = l.length ∧ ∀ (i : Nat) x, xs[i]? = some x → l[i]? = some (.string x)
 | [], xs, h => by cases h; exact ⟨rfl, fun i x hx => by simp at hx⟩
 | v :: l, xs, h => by
  cases v with
  | string s =>
   simp only [strsOf, Option.map_eq_some_iff] at h
   obtain ⟨ys, h, rfl⟩ := h
   obtain ⟨h1, h2⟩ := strsOf_get h
   refine ⟨by simp [h1], fun i x hx => ?_⟩
   cases i with
   | zero => simp at hx; subst hx; rfl
   | succ i => simp at hx; simpa using h2 i x hx
  | _ => cases h
def joinK (args : List Value) (h : AHeap) : Option (Value × AHeap) := match args with
 | [.slice (some ⟨b, o, some _⟩) len _, .string sep] => (readCells h b o len).bind fun cs => (strsOf cs).bind fun xs =>
  grd (Nat.blt 0 len && Nat.ble len 100000 && Nat.ble (Lib.join (xs.map (·.data.toList)) sep.data.toList).length 1000000) (Value.string ⟨(Lib.join (xs.map (·.data.toList)) sep.data.toList).toArray⟩, h)
 | _ => none
def orcJ (js : List Nat) (rest : FuncId → List Value → AHeap → Option (Value × AHeap)) : FuncId → List Value → AHeap → Option (Value × AHeap) := fun g args h =>
 match memN g js, joinK args h with
 | true, some r => some r
 | _, _ => rest g args h
section
variable {P : Program} {l : Tabs}
theorem joinK_ok {E : Env} {base B : Nat} {g : FuncId} (hJ : JoinsIn P g) {μ : Emb} {h h' : AHeap} {w : World} {args : List Value} {args' : Array Value} {v : Value}
 (hc : joinK args h = some (v, h')) (hr : VRels μ args args'.toList) (H : HRel E base B μ h w) : Calls P g args' w (RetPost E base B μ h w v h') := by
 unfold joinK at hc
 split at hc
 ·rename_i b o z len cap sep
  simp only [Option.bind_eq_some_iff, grd_some, Bool.and_eq_true, blt_iff, ble_iff, Option.some.injEq, Prod.mk.injEq] at hc
  obtain ⟨cs, hcs, xs, hxs, ⟨⟨h1, h2⟩, h3⟩, rfl, rfl⟩ := hc
  obtain ⟨v1, v2, hv1, hv2, e1⟩ : ∃ v1 v2, VRel μ (.slice (some ⟨b, o, some z⟩) len cap) v1 ∧ VRel μ (.string sep) v2 ∧ args' = #[v1, v2] := by
   obtain ⟨l⟩ := args'
   cases hr with
   | cons q1 q2 => cases q2 with
    | cons q2 q3 => cases q3; exact ⟨_, _, q1, q2, rfl⟩
  subst e1
  have e2 := hv2.inv_scalar rfl
  subst e2
  obtain ⟨y1, y2⟩ := strsOf_get hxs
  cases hv1 with
  | lit hh => simp [plain1] at hh
  | slice0 hh => simp at h1
  | slice hm k1 k2 k3 k4 =>
   rename_i cap' m
   obtain ⟨r1, r2⟩ := H.readCells hm hcs
   have hlen : len = xs.length := by omega
   subst hlen
   obtain ⟨o1, o2, _, q2, _⟩ := H.obj b m hm
   refine (hJ m.r (m.s + o) cap' xs sep w (fun j x hx => ?_) ?_ h2 k2 h3).mono ?_
   ·obtain ⟨v', p1, p2⟩ := r2 j _ (y2 j x hx)
    have := p2.inv_scalar rfl
    subst this
    exact p1
   ·exact (Array.getElem?_eq_some_iff.1 q2).1
   ·rintro e W' ⟨rfl, hb⟩
    exact ⟨_, μ, rfl, .lit rfl, ⟨H.ext hb.size fun r hr => hb.block r hr, ⟨hb.tape, hb.os, hb.output, hb.size, fun r hr _ => hb.block r hr⟩, μ.le_refl, fun b m h0 h1 => (by rw [h0] at h1; cases h1), fun _ _ _ => rfl, Nat.le_refl _⟩⟩
 ·cases hc
theorem orcJ_ok {js : List Nat} {rest : FuncId → List Value → AHeap → Option (Value × AHeap)} (hj : ∀ g ∈ js, JoinsIn P g) (hr : ∀ base B, OrcOk P (envT P l rest) base B) (base B : Nat) : OrcOk P (envT P l (orcJ js rest)) base B := by
 intro μ h w g args args' v h' hc hv H F k hF
 have hc' : orcJ js rest g args h = some (v, h') := hc
 unfold orcJ at hc'
 split at hc'
 ·rename_i r h1 h2
  cases hc'
  exact calls_any hF (joinK_ok (hj g (memN_mem h1)) h2 hv H)
 ·have H2 : HRel (envT P l rest) base B μ h w := ⟨H.dom, H.high, H.obj, H.own, H.alias, H.fam, H.glob, H.low, H.bsz, H.wf, H.root⟩
  exact (hr base B μ h w g _ args' v h' hc' hv H2 F k hF).mono fun e w' ⟨v', μ', h1, h2, h3⟩ =>
   ⟨v', μ', h1, h2, ⟨⟨h3.rel.dom, h3.rel.high, h3.rel.obj, h3.rel.own, h3.rel.alias, h3.rel.fam, h3.rel.glob, h3.rel.low, h3.rel.bsz, h3.rel.wf, h3.rel.root⟩, h3.grow, h3.le, h3.new, h3.unt, h3.hsz⟩⟩
theorem awakeT_by {n : Nat} {orc : FuncId → List Value → AHeap → Option (Value × AHeap)} (hm : P.follows .mixedOrders = true) (hB : tabsB l n = true) (hO : ∀ base B, OrcOk P (envT P l orc) base B) {k : Nat} {g : FuncId}
 (hr : gaveTrue (acall (envT P l orc) n k g [] (heapT l n)) = true) : AwakeT P l g := by
 intro W F j hW hF
 obtain ⟨h', hr⟩ := gaveTrue_some hr
 have A := arT hB hW
 have H : HRel (envT P l orc) n W.heap.size (muT l n W) (heapT l n) W := by
  have := A.hrelT (E := envT P l orc) (Emb.le_refl _) (muT_glob hB hW rfl)
  rwa [heapT_size] at this
 have := acall_ok (envOkT P l _) (hO n W.heap.size) hm k (muT l n W) (heapT l n) W g [] #[] (.bool true) h' hr .nil H F j hF
 refine this.mono ?_
 rintro e W' ⟨v', μ', rfl, hv, S⟩
 have e := hv.inv_scalar rfl
 subst e
 refine ⟨rfl, S.grow.os, S.grow.tape, S.grow.output, S.grow.size, fun k hk => S.grow.keep k hk fun b mt hb _ => ?_⟩
 have := A.dom b mt hb
 rwa [heapT_size] at this
end
end Go.M
namespace Go.M
open Go Go.RowKit
def PureIn (P : Program) (l : Tabs) (g : FuncId) (f : List Value → Option Value) : Prop :=
 ∀ (w : World) (vs : List Value) (v : Value), LaidT l w → f vs = some v → Calls P g vs.toArray w fun e w' => e = .returned v ∧ Below w.heap.size w w'
noncomputable def pureK (l : Tabs) (f : List Value → Option Value) (args : List Value) (h : AHeap) : Option (Value × AHeap) :=
 (f args).bind fun v => grd (args.all scalar && plain1 v && tabsIn l h) (v, h)
noncomputable def orcS (l : Tabs) (fs : List (Nat × (List Value → Option Value))) (rest : FuncId → List Value → AHeap → Option (Value × AHeap)) : FuncId → List Value → AHeap → Option (Value × AHeap) := fun g args h =>
 match (look fs g).bind fun f => pureK l f args h with
 | some r => some r
 | none => rest g args h
theorem VRels.plain {μ : Emb} : ∀ {l l' : List Value}, VRels μ l l' → l.all scalar = true → l' = l
 | _, _, .nil, _ => rfl
 | _, _, .cons h t, hp => by
  simp only [List.all_cons, Bool.and_eq_true] at hp
  rw [h.inv_scalar hp.1, VRels.plain t hp.2]
section
variable {P : Program} {l : Tabs} {n : Nat}
@[reducible] def encS (s : ByteArray) : List TV := [.s (.string s)]
end
end Go.M
namespace Go.M
open Go Go.RowKit Go.Shelf Go.Proofs
def piecesB (s sep : ByteArray) : List ByteArray := Lib.splitB sep 0 (Lib.countB s sep) s
theorem pieces_len (s sep : ByteArray) (h : 1 ≤ sep.size) : (piecesB s sep).length = Lib.countB s sep + 1 := Lib.splitB_all sep h 0 _ s rfl
def SplitsIn (P : Program) (gm : Nat) (g : FuncId) : Prop := ∀ (s sep : ByteArray) (w : World), (∃ m, w.cell? ⟨gm, 0, none⟩ = some (.int .i64 m)) → s.size < 4294967281 → 1 ≤ sep.size →
 Calls P g #[.string s, .string sep] w fun e w' => ∃ t, e = .returned (.slice (some ⟨w.heap.size, 0, none⟩) (Lib.countB s sep + 1) (Lib.countB s sep + 1)) ∧ w' = w.alloc (.cells ((piecesB s sep).map Value.string).toArray t)
theorem splitsIn_of {P : Program} {ρ : Ren} (L : Lays.n146 P ρ) (hi9 : (P.info? (ρ.t 9)).map (fun i => (i.zero, i.size, i.bytes)) = some (some (.string ByteArray.empty), 1, 16)) {gm : Nat} (hg : ρ.g 1 = gm) {g : FuncId} (e : ρ.f 146 = g) : SplitsIn P gm g := fun s sep w ⟨m, hc⟩ h1 h2 => by
 subst e hg
 exact (Any.strings_Split L hi9 s sep m w h1 hc h2).mono fun e w' ⟨h3, h4⟩ => ⟨_, h3, h4⟩
def isI64 : Option (List Value) → Bool
 | some [.int .i64 _] => true
 | _ => false
theorem isI64_some {o : Option (List Value)} (h : isI64 o = true) : ∃ n, o = some [.int .i64 n] := by
 unfold isI64 at h
 split at h
 ·exact ⟨_, rfl⟩
 ·cases h
def splitK (gm : Nat) (args : List Value) (h : AHeap) : Option (Value × AHeap) := match args with
 | [.string s, .string sep] => grd (Nat.blt s.size 1000000 && Nat.ble 1 sep.size && isI64 (h.rd gm)) (some (Value.slice (some ⟨h.size, 0, some 1⟩) (piecesB s sep).length ((piecesB s sep).length + 1), h.push (.cells ((piecesB s sep).map Value.string) h.size h.size 0)))
 | _ => none
def orcP (gm : Nat) (js : List Nat) (rest : FuncId → List Value → AHeap → Option (Value × AHeap)) : FuncId → List Value → AHeap → Option (Value × AHeap) := fun g args h =>
 match memN g js, splitK gm args h with
 | true, some r => some r
 | _, _ => rest g args h
section
variable {P : Program} {l : Tabs} {gm : Nat}
theorem splitK_ok {E : Env} {base B : Nat} {g : FuncId} (hgl : E.glob gm = true) (hJ : SplitsIn P gm g) {μ : Emb} {h h' : AHeap} {w : World} {args : List Value} {args' : Array Value} {v : Value}
 (hc : splitK gm args h = some (v, h')) (hr : VRels μ args args'.toList) (H : HRel E base B μ h w) : Calls P g args' w (RetPost E base B μ h w v h') := by
 unfold splitK at hc
 split at hc
 ·rename_i s sep
  simp only [grd_some, Bool.and_eq_true, blt_iff, ble_iff, Option.some.injEq, Prod.mk.injEq] at hc
  obtain ⟨⟨⟨h1, h2⟩, h3⟩, rfl, rfl⟩ := hc
  obtain ⟨v1, v2, hv1, hv2, e1⟩ : ∃ v1 v2, VRel μ (.string s) v1 ∧ VRel μ (.string sep) v2 ∧ args' = #[v1, v2] := by
   obtain ⟨l⟩ := args'
   cases hr with
   | cons q1 q2 => cases q2 with
    | cons q2 q3 => cases q3; exact ⟨_, _, q1, q2, rfl⟩
  subst e1
  have e1 := hv1.inv_scalar rfl
  have e2 := hv2.inv_scalar rfl
  subst e1 e2
  have hcell : ∃ m, w.cell? ⟨gm, 0, none⟩ = some (.int .i64 m) := by
   obtain ⟨n0, hn0⟩ := isI64_some h3
   obtain ⟨mg, q1, q2, q3⟩ := H.glob gm hgl
   obtain ⟨c, e, fr, k1, _, _, _, k5⟩ := H.read q1 hn0
   obtain ⟨v', p1, p2⟩ := k5 0 (.int .i64 n0) rfl
   have := p2.inv_scalar rfl
   subst this
   rw [q2] at k1
   rw [q3] at p1
   refine ⟨n0, ?_⟩
   unfold World.cell?
   rw [k1]
   exact p1
  refine (hJ s sep w hcell (by omega) h2).mono ?_
  rintro e w' ⟨t, rfl, rfl⟩
  have hpl := pieces_len s sep h2
  generalize piecesB s sep = ps at *
  rw [← hpl]
  have hb : Below w.heap.size w (w.alloc (.cells (ps.map Value.string).toArray t)) := ⟨rfl, rfl, rfl, by show _ ≤ (w.heap.push _).size; simp, fun k hk => Below.heap_alloc w _ k hk⟩
  have Hx := H.ext hb.size fun r hr => hb.block r hr
  have gr : Grow base μ w (w.alloc (.cells (ps.map Value.string).toArray t)) := ⟨hb.tape, hb.os, hb.output, hb.size, fun r hr _ => hb.block r hr⟩
  let cs := ps.map Value.string
  let m2 : MT := ⟨w.heap.size, 0, (ps.map Value.string).toArray.size⟩
  have hobj : (w.alloc (.cells (ps.map Value.string).toArray t)).heap[w.heap.size]? = some (.cells (ps.map Value.string).toArray t (0, 0)) := by
   show (w.heap.push _)[w.heap.size]? = _
   simp
  have Hp := Hx.pushA (o := .cells cs h.size h.size 0) (fun _ _ _ _ hh => by cases hh; rfl)
  have hget : (h.push (.cells cs h.size h.size 0)).get h.size = some (.cells cs h.size h.size 0) := by rw [AHeap.get_push, if_pos rfl]
  have ho : ORel (upd μ h.size m2) (h.push (.cells cs h.size h.size 0)) base h.size m2 (.cells cs h.size h.size 0) (.cells (ps.map Value.string).toArray t (0, 0)) := by
   refine .cells rfl (by simp [cs, m2]) (fun _ => noFr0 _) fun _ i v hv => ?_
   refine ⟨v, by simpa [cs, m2] using hv, ?_⟩
   obtain ⟨x, _, rfl⟩ := List.mem_map.1 (List.mem_of_getElem? hv)
   exact .lit rfl
  have Ht := Hp.track (b := h.size) (m := m2) (by simp [AHeap.size_push]) hget H.fresh H.bsz (by have := H.low; show B ≤ w.heap.size; omega) hobj
   (fun d md hd he => by have := H.lt hd; simp only [m2] at he; omega) (fun _ _ _ _ hh => by cases hh; exact ⟨rfl, Nat.le_refl _⟩) (fun _ _ _ => rfl) ho
  refine ⟨_, upd μ h.size m2, rfl, ?_, Ht, gr, upd_le H.fresh, fun d md h0 hd => ?_, fun d hd _ => by rw [AHeap.get_push, if_neg (by omega)], by simp [AHeap.size_push]⟩
  ·have := VRel.slice (μ := upd μ h.size m2) (b := h.size) (o := 0) (z := 1) (len := ps.length) (cap := ps.length + 1) (cap' := ps.length) (m := m2) (upd_self _ _ _) (by omega) (Nat.le_refl _) (fun h => by omega) (by simp [m2])
   simpa [m2] using this
  ·by_cases ed : d = h.size
   ·subst ed
    rw [upd_self] at hd; cases hd
    exact ⟨Nat.le_refl _, H.bsz, .inl (Nat.le_refl _)⟩
   ·rw [upd_ne _ _ ed, h0] at hd; cases hd
 ·cases hc
theorem orcP_ok {js : List Nat} {rest : FuncId → List Value → AHeap → Option (Value × AHeap)} (hgl : (look l gm).isSome = true) (hj : ∀ g ∈ js, SplitsIn P gm g) (hr : ∀ base B, OrcOk P (envT P l rest) base B) (base B : Nat) : OrcOk P (envT P l (orcP gm js rest)) base B := by
 intro μ h w g args args' v h' hc hv H F k hF
 have hc' : orcP gm js rest g args h = some (v, h') := hc
 unfold orcP at hc'
 split at hc'
 ·rename_i r h1 h2
  cases hc'
  exact calls_any hF (splitK_ok (E := envT P l (orcP gm js rest)) hgl (hj g (memN_mem h1)) h2 hv H)
 ·have H2 : HRel (envT P l rest) base B μ h w := ⟨H.dom, H.high, H.obj, H.own, H.alias, H.fam, H.glob, H.low, H.bsz, H.wf, H.root⟩
  exact (hr base B μ h w g _ args' v h' hc' hv H2 F k hF).mono fun e w' ⟨v', μ', h1, h2, h3⟩ =>
   ⟨v', μ', h1, h2, ⟨⟨h3.rel.dom, h3.rel.high, h3.rel.obj, h3.rel.own, h3.rel.alias, h3.rel.fam, h3.rel.glob, h3.rel.low, h3.rel.bsz, h3.rel.wf, h3.rel.root⟩, h3.grow, h3.le, h3.new, h3.unt, h3.hsz⟩⟩
end
end Go.M
namespace Go.M
open Go
def opStill (o : Oper) : Bool := match o.op with
 | .move _ | .assign _ | .pick _ _ _ | .build _ _ | .nilCheck _ | .binOp _ _ _ _ _ | .unOp _ _ _ | .makeInterface _ _ | .makeFunc _ _ _ | .slice _ _ _ _ _ | .fieldAddr _ _ _ | .field _ _ _ | .indexAddr _ _ _ | .index _ _ _ | .lookup _ _ _ _ | .extract _ _ | .load _ _ => true
 | .call c => (match c.callee with
  | .builtin .len => true
  | _ => false)
 | _ => false
def codeStill : Code → Bool
 | .skip | .exit _ | .ret => true
 | .region _ ops _ => ops.toList.all opStill
 | .seq a b => codeStill a && codeStill b
 | .cond _ a b => codeStill a && codeStill b
 | .block _ b => codeStill b
 | .loop b => codeStill b
 | _ => false
section
variable {E : Env} {base : Nat}
end
end Go.M
namespace Go.M
open Go
theorem bsplit {b : Bool} {A B : Prop} (hA : b = true → A) (hB : b = false → B) : (match (generalizing := false) b with | true => A | false => B) := by
 cases b with
 | true => exact hA rfl
 | false => exact hB rfl
theorem nsplit {b : Bool} {A B : Prop} (hA : b = false → A) (hB : b = true → B) : (match (generalizing := false) !b with | true => A | false => B) := by
 cases b with
 | true => exact hB rfl
 | false => exact hA rfl
@[reducible] def RR (r0 : TV) (c0 : Nat) (o0 : Ob) : TV → Ob → Nat → Prop := fun r o c => r = r0 ∧ c = c0 ∧ o = o0
theorem bool_eq {a b : Bool} (h : a = b) : Value.bool a = Value.bool b := congrArg _ h
theorem idxI {α : Type} {enc : α → List TV} {l : List α} {n : Nat} {K : List TV → Prop} (h : n < l.length) (hK : K (enc l[n])) : ∃ e, (0 ≤ (n : Int) ∧ (l.map enc)[(n : Int).toNat]? = some e) ∧ K e :=
 ⟨enc l[n], ⟨by omega, by simp [h]⟩, hK⟩
theorem wrap_small (n : Nat) (h : n ≤ 1099511627776) : IntKind.i64.wrap ((n : Int) + 1) = ((n + 1 : Nat) : Int) := by
 rw [IntWalk.i64_in _ (by omega)]; rfl
theorem lenlt {α : Type} {f : α → List TV} {l : List α} {i : Nat} : ((i : Int) < (((l.map f).length : Nat) : Int)) ↔ i < l.length := by simp
theorem flx : ∀ b : Bool, (!b || b) = true
 | true => rfl
 | false => rfl
theorem Lz.int {k : IntKind} {a b : Int} (h : a = b) : Lz (Value.int k a) (Value.int k b) := .of (congrArg _ h)
theorem Lz.wrap {n : Nat} (h : n ≤ 1099511627776) : Lz (Value.int .i64 (IntKind.i64.wrap ((n : Int) + 1))) (Value.int .i64 ((n + 1 : Nat) : Int)) := .of (congrArg _ (wrap_small n h))
def smalls : List Nat := [0, 1, 2, 3, 4, 5, 6, 7, 8, 9, 10, 11, 12, 13, 14, 15, 16, 17, 18, 19, 20, 21, 22, 23, 24, 25, 26, 27, 28, 29, 30, 31, 32, 33, 34, 35, 36, 37, 38, 39, 40]
def forceNL (n : Nat) (K : Nat → Prop) (l : List Nat) : Prop := @List.rec Nat (fun _ => Prop) (K n) (fun k _ ih => match Nat.beq n k with | true => K k | false => ih) l
theorem forceNL_eq (n : Nat) (K : Nat → Prop) : ∀ l, forceNL n K l = K n
 | [] => rfl
 | k :: l => by
  show (match Nat.beq n k with | true => K k | false => forceNL n K l) = K n
  cases h : Nat.beq n k with
  | true => rw [beq_iff.1 h]
  | false => exact forceNL_eq n K l
def forceN (n : Nat) (K : Nat → Prop) : Prop := forceNL n K smalls
theorem forceN_eq (n : Nat) : forceN n = fun K => K n := by funext K; exact forceNL_eq n K _
def forceC (v : TV) (K : TV → Prop) : Prop := match v with
 | .j => K .j
 | .s v => K (.s v)
 | .sl z es fl => forceN z fun z => K (.sl z es fl)
 | .tk n => forceN n fun n => K (.tk n)
 | .ptr n o => forceN n fun n => forceN o fun o => K (.ptr n o)
 | .ep e o => forceN o fun o => K (.ep e o)
 | .wp n i o => forceN n fun n => forceN o fun o => K (.wp n i o)
 | .mp n => forceN n fun n => K (.mp n)
 | .bg n len => forceN n fun n => K (.bg n len)
 | .sv n i => forceN n fun n => K (.sv n i)
 | .agg cs => K (.agg cs)
 | .tup cs => K (.tup cs)
 | .ifc t v => K (.ifc t v)
 | .clo g a c => K (.clo g a c)
 | .own y => K (.own y)
theorem forceC_eq (v : TV) : forceC v = fun K => K v := by funext K; cases v <;> simp [forceC, forceN_eq]
def forceL (F : TV → (TV → Prop) → Prop) (l : List TV) : (List TV → Prop) → Prop := @List.rec TV (fun _ => (List TV → Prop) → Prop) (fun K => K []) (fun v _ ih K => F v fun v => ih fun l => K (v :: l)) l
theorem forceL_eq {F : TV → (TV → Prop) → Prop} (hF : ∀ v, F v = fun K => K v) : ∀ l, forceL F l = fun K => K l
 | [] => rfl
 | v :: l => by
  have ih := forceL_eq hF l
  funext K
  show F v (fun v => forceL F l fun l => K (v :: l)) = K (v :: l)
  rw [hF, ih]
def forceA (v : TV) (K : TV → Prop) : Prop := match v with
 | .j => K .j
 | .s v => K (.s v)
 | .sl z es fl => forceN z fun z => K (.sl z es fl)
 | .tk n => forceN n fun n => K (.tk n)
 | .ptr n o => forceN n fun n => forceN o fun o => K (.ptr n o)
 | .ep e o => forceN o fun o => K (.ep e o)
 | .wp n i o => forceN n fun n => forceN o fun o => K (.wp n i o)
 | .mp n => forceN n fun n => K (.mp n)
 | .bg n len => forceN n fun n => K (.bg n len)
 | .sv n i => forceN n fun n => K (.sv n i)
 | .agg cs => forceL forceC cs fun cs => K (.agg cs)
 | .tup cs => K (.tup cs)
 | .ifc t v => K (.ifc t v)
 | .clo g a c => forceL forceC a fun a => forceL forceC c fun c => K (.clo g a c)
 | .own y => K (.own y)
theorem forceA_eq (v : TV) : forceA v = fun K => K v := by funext K; cases v <;> simp [forceA, forceN_eq, forceL_eq forceC_eq]
def forceV (v : TV) (K : TV → Prop) : Prop := match v with
 | .j => K .j
 | .s v => K (.s v)
 | .sl z es fl => forceN z fun z => K (.sl z es fl)
 | .tk n => forceN n fun n => K (.tk n)
 | .ptr n o => forceN n fun n => forceN o fun o => K (.ptr n o)
 | .ep e o => forceN o fun o => K (.ep e o)
 | .wp n i o => forceN n fun n => forceN o fun o => K (.wp n i o)
 | .mp n => forceN n fun n => K (.mp n)
 | .bg n len => forceN n fun n => K (.bg n len)
 | .sv n i => forceN n fun n => K (.sv n i)
 | .agg cs => forceL forceC cs fun cs => K (.agg cs)
 | .tup cs => forceL forceA cs fun cs => K (.tup cs)
 | .ifc t v => forceA v fun v => K (.ifc t v)
 | .clo g a c => forceL forceC a fun a => forceL forceC c fun c => K (.clo g a c)
 | .own y => K (.own y)
theorem forceV_eq (v : TV) : forceV v = fun K => K v := by funext K; cases v <;> simp [forceV, forceN_eq, forceL_eq forceC_eq, forceL_eq forceA_eq, forceA_eq]
def forceQ (q : List (Nat × List TV)) : (List (Nat × List TV) → Prop) → Prop := @List.rec (Nat × List TV) (fun _ => (List (Nat × List TV) → Prop) → Prop) (fun K => K []) (fun p _ ih K => forceL forceC p.2 fun x => ih fun l => K ((p.1, x) :: l)) q
theorem forceQ_eq : ∀ q, forceQ q = fun K => K q
 | [] => rfl
 | p :: q => by
  have ih := forceQ_eq q
  funext K
  show forceL forceC p.2 (fun x => forceQ q fun l => K ((p.1, x) :: l)) = K (p :: q)
  rw [forceL_eq forceC_eq, ih]
def forceM (q : List (Value × TV)) : (List (Value × TV) → Prop) → Prop := @List.rec (Value × TV) (fun _ => (List (Value × TV) → Prop) → Prop) (fun K => K []) (fun p _ ih K => forceA p.2 fun x => ih fun l => K ((p.1, x) :: l)) q
theorem forceM_eq : ∀ q, forceM q = fun K => K q
 | [] => rfl
 | p :: q => by
  have ih := forceM_eq q
  funext K
  show forceA p.2 (fun x => forceM q fun l => K ((p.1, x) :: l)) = K (p :: q)
  rw [forceA_eq, ih]
def forceT (x : TO) (K : TO → Prop) : Prop := match x with
 | .cells cs => forceL forceC cs fun cs => K (.cells cs)
 | .map kd es => forceN kd fun kd => K (.map kd es)
 | .arr z w es => forceN z fun z => match w with | true => K (.arr z true es) | false => K (.arr z false es)
 | .arq z es op => forceN z fun z => forceQ op fun op => K (.arq z es op)
 | .maq kd es op => forceN kd fun kd => forceM op fun op => K (.maq kd es op)
 | .bag ks => K (.bag ks)
theorem forceT_eq (x : TO) : forceT x = fun K => K x := by
 funext K
 cases x with
 | cells cs => simp [forceT, forceL_eq forceC_eq]
 | map kd es => simp [forceT, forceN_eq]
 | arr z w es => cases w <;> simp [forceT, forceN_eq]
 | arq z es op => simp [forceT, forceN_eq, forceQ_eq]
 | maq kd es op => simp [forceT, forceN_eq, forceM_eq]
 | bag ks => rfl
def forceO (o : Ob) : (Ob → Prop) → Prop := @List.rec (Nat × TO) (fun _ => (Ob → Prop) → Prop) (fun K => K []) (fun p _ ih K => forceN p.1 fun n => forceT p.2 fun x => ih fun l => K ((n, x) :: l)) o
theorem forceO_eq : ∀ o, forceO o = fun K => K o
 | [] => rfl
 | p :: o => by
  have ih := forceO_eq o
  funext K
  show forceN p.1 (fun n => forceT p.2 fun x => forceO o fun l => K ((n, x) :: l)) = K (p :: o)
  rw [forceN_eq, forceT_eq, ih]
def strict (l : VL) (v : TV) (o : Ob) (c : Nat) (K : TV → Ob → Nat → Prop) : Prop := match l with
 | .pure => forceV v fun v => K v o c
 | .alloc => forceV v fun v => forceO o fun o => forceN c fun c => K v o c
 | .rdF => forceV v fun v => K v o c
 | .rdO _ => forceV v fun v => forceO o fun o => forceN c fun c => K v o c
 | .rdN _ _ _ => forceV v fun v => forceO o fun o => forceN c fun c => K v o c
 | .eff _ => forceV v fun v => forceO o fun o => forceN c fun c => K v o c
 | .effI _ => forceV v fun v => forceO o fun o => forceN c fun c => K v o c
 | .effG => forceV v fun v => forceO o fun o => forceN c fun c => K v o c
 | .bad => forceV v fun v => K v o c
theorem strict_eq (l : VL) (v : TV) (o : Ob) (c : Nat) : strict l v o c = fun K => K v o c := by
 funext K; cases l <;> simp [strict, forceV_eq, forceO_eq, forceN_eq]
def wopsR (E : Env) (vc : VCs) (n : Nat) (ops : List Oper) (l : List Oper) : Fr → Ob → Nat → RK → Prop :=
 @List.rec Oper (fun _ => Fr → Ob → Nat → RK → Prop) (fun f o c K => K f o c)
  (fun p _ ih f o c K => wguard ops p f
   (wop E vc p.op f o c fun v o' c' l => strict l v o' c' fun v o' c' => wput p.dst n v f fun f' => ih f' o' c' K)
   (wput p.dst n (.tup []) f fun f' => ih f' o c K)) l
theorem wopsR_eq (E : Env) (vc : VCs) (n : Nat) (ops : List Oper) : ∀ (l : List Oper) f o c K, wopsR E vc n ops l f o c K = wops E vc n ops l f o c K := by
 intro l
 induction l with
 | nil => intro f o c K; rfl
 | cons p rest ih =>
  intro f o c K
  have e : (fun f' o' c' (K : RK) => wopsR E vc n ops rest f' o' c' K) = fun f' o' c' K => wops E vc n ops rest f' o' c' K := by funext a b d e; exact ih a b d e
  show wguard ops p f (wop E vc p.op f o c fun v o' c' l => strict l v o' c' fun v o' c' => wput p.dst n v f fun f' => (fun f' o' c' (K : RK) => wopsR E vc n ops rest f' o' c' K) f' o' c' K) (wput p.dst n (.tup []) f fun f' => (fun f' o' c' (K : RK) => wopsR E vc n ops rest f' o' c' K) f' o c K) = _
  rw [e]
  simp only [strict_eq]
  rfl
def wopsLR (E : Env) (vc : VCs) (n : Nat) (ops : List Oper) (l : List Oper) : Fr → Ob → Nat → List VN → (List VN → RK) → Prop :=
 @List.rec Oper (fun _ => Fr → Ob → Nat → List VN → (List VN → RK) → Prop) (fun f o c lg K => K lg f o c)
  (fun p _ ih f o c lg K => wguard ops p f
   (wop E vc p.op f o c fun v o' c' l => strict l v o' c' fun v o' c' => wput p.dst n v f fun f' => ih f' o' c' (lg ++ [(l, o)]) K)
   (wput p.dst n (.tup []) f fun f' => ih f' o c (lg ++ [(.pure, o)]) K)) l
theorem wopsLR_eq (E : Env) (vc : VCs) (n : Nat) (ops : List Oper) : ∀ (l : List Oper) f o c lg K, wopsLR E vc n ops l f o c lg K = wopsL E vc n ops l f o c lg K := by
 intro l
 induction l with
 | nil => intro f o c lg K; rfl
 | cons p rest ih =>
  intro f o c lg K
  have e : (fun f' o' c' lg (K : List VN → RK) => wopsLR E vc n ops rest f' o' c' lg K) = fun f' o' c' lg K => wopsL E vc n ops rest f' o' c' lg K := by funext a b d g e; exact ih a b d g e
  show wguard ops p f (wop E vc p.op f o c fun v o' c' l => strict l v o' c' fun v o' c' => wput p.dst n v f fun f' => (fun f' o' c' lg (K : List VN → RK) => wopsLR E vc n ops rest f' o' c' lg K) f' o' c' (lg ++ [(l, o)]) K) (wput p.dst n (.tup []) f fun f' => (fun f' o' c' lg (K : List VN → RK) => wopsLR E vc n ops rest f' o' c' lg K) f' o c (lg ++ [(.pure, o)]) K) = _
  rw [e]
  simp only [strict_eq]
  rfl
structure Drawn (b : Bool) (K : Prop) : Prop where
 ok : b = true
 go : K
theorem drawn_eq (b : Bool) (K : Prop) : Drawn b K = (match (generalizing := false) b with | true => K | false => False) := by
 cases b with
 | true => exact propext ⟨fun h => h.go, fun h => ⟨rfl, h⟩⟩
 | false => exact propext (Iff.intro (fun h => by cases h.ok) (fun h => False.elim h))
abbrev WP := Fr → Ob → Nat → CK → Prop
def wpR (E : Env) (vc : VCs) (n c0 : Nat) (cuts : List Nat) (code : Code) : WP :=
 @Code.rec (fun _ => WP)
  (fun f o c Q => Q .normal f o c)
  (fun _ ops draw f o c Q => (match draw with
  | false => wopsR E vc n ops.toList ops.toList f o c fun f' o' c' => Q .normal f' o' c'
  | true => Drawn (staticOk ops.toList && dstsIn n ops.toList) (wopsLR E vc n ops.toList ops.toList f o c [] fun lg f' o' c' => Drawn (drawOk (befores ops.toList []) o' 0 lg) (Q .normal f' o' c'))))
  (fun _ _ iha ihb f o c Q => iha f o c fun ex f' o' c' => (match ex with
  | .normal => ihb f' o' c' Q
  | .exit id => Q (.exit id) f' o' c'
  | .ret => Q .ret f' o' c'))
  (fun q _ _ iht ihe f o c Q => (match evOk E q with
  | false => False
  | true => (match evT E f q with
   | .s (.bool b) => (match b with
    | true => iht f o c Q
    | false => ihe f o c Q)
   | _ => False)))
  (fun id _ ih f o c Q => (match memN id cuts with
  | false => ih f o c fun ex f' o' c' => (match ex with
   | .exit id' => (match Nat.beq id' id with
    | true => Q .normal f' o' c'
    | false => Q (.exit id') f' o' c')
   | .normal => Q .normal f' o' c'
   | .ret => Q .ret f' o' c')
  | true => ∃ Mid : RK, (ih f o c fun ex f' o' c' => (match ex with
   | .exit id' => (match Nat.beq id' id with
    | true => toldAs c0 f' o' c' Mid
    | false => Q (.exit id') f' o' c')
   | .normal => toldAs c0 f' o' c' Mid
   | .ret => Q .ret f' o' c')) ∧ ∀ f' o' c', Mid f' o' c' → Q .normal f' o' c'))
  (fun _ ih f o c Q => ∃ Inv : Nat → Fr → Ob → Nat → Prop, (∃ k, toldAs c0 f o c (Inv k)) ∧
   ∀ k f1 o1 c1, Inv k f1 o1 c1 → ih f1 o1 c1 fun ex f' o' c' => (match ex with
    | .normal => ∃ k', toldAs c0 f' o' c' (Inv k') ∧ k' < k
    | .exit id => Q (.exit id) f' o' c'
    | .ret => Q .ret f' o' c'))
  (fun _ _ _ _ _ _ _ _ _ _ => False)
  (fun id f o c Q => Q (.exit id) f o c)
  (fun _ _ _ _ _ _ => False)
  (fun _ _ _ _ _ => False)
  (fun _ _ _ _ _ => False)
  (fun f o c Q => Q .ret f o c)
  (fun _ _ _ _ _ => False) code
theorem wpR_eq (E : Env) (vc : VCs) (n c0 : Nat) (cuts : List Nat) : ∀ (code : Code) f o c Q, wpR E vc n c0 cuts code f o c Q = wp E vc n c0 cuts code f o c Q := by
 intro code
 induction code with
 | region id ops draw =>
  intro f o c Q
  have e1 : (fun K => wopsR E vc n ops.toList ops.toList f o c K) = fun K => wops E vc n ops.toList ops.toList f o c K := by funext K; exact wopsR_eq ..
  have e2 : (fun lg K => wopsLR E vc n ops.toList ops.toList f o c lg K) = fun lg K => wopsL E vc n ops.toList ops.toList f o c lg K := by funext lg K; exact wopsLR_eq ..
  show (match draw with
  | false => (fun K => wopsR E vc n ops.toList ops.toList f o c K) fun f' o' c' => Q .normal f' o' c'
  | true => Drawn (staticOk ops.toList && dstsIn n ops.toList) ((fun lg K => wopsLR E vc n ops.toList ops.toList f o c lg K) [] fun lg f' o' c' => Drawn (drawOk (befores ops.toList []) o' 0 lg) (Q .normal f' o' c'))) = _
  rw [e1, e2]
  simp only [drawn_eq]
  cases draw <;> rfl
 | seq a b iha ihb =>
  intro f o c Q
  have e1 : (fun f o c Q => wpR E vc n c0 cuts a f o c Q) = fun f o c Q => wp E vc n c0 cuts a f o c Q := by funext f o c Q; exact iha ..
  have e2 : (fun f o c Q => wpR E vc n c0 cuts b f o c Q) = fun f o c Q => wp E vc n c0 cuts b f o c Q := by funext f o c Q; exact ihb ..
  show ((fun f o c Q => wpR E vc n c0 cuts a f o c Q) f o c fun ex f' o' c' => (match ex with
  | .normal => (fun f o c Q => wpR E vc n c0 cuts b f o c Q) f' o' c' Q
  | .exit id => Q (.exit id) f' o' c'
  | .ret => Q .ret f' o' c')) = _
  rw [e1, e2]
  rfl
 | cond q t e iht ihe =>
  intro f o c Q
  have e1 : (fun f o c Q => wpR E vc n c0 cuts t f o c Q) = fun f o c Q => wp E vc n c0 cuts t f o c Q := by funext f o c Q; exact iht ..
  have e2 : (fun f o c Q => wpR E vc n c0 cuts e f o c Q) = fun f o c Q => wp E vc n c0 cuts e f o c Q := by funext f o c Q; exact ihe ..
  show (match evOk E q with
  | false => False
  | true => (match evT E f q with
   | .s (.bool b) => (match b with
    | true => (fun f o c Q => wpR E vc n c0 cuts t f o c Q) f o c Q
    | false => (fun f o c Q => wpR E vc n c0 cuts e f o c Q) f o c Q)
   | _ => False)) = _
  rw [e1, e2]
  rfl
 | block id b ih =>
  intro f o c Q
  have e1 : (fun f o c Q => wpR E vc n c0 cuts b f o c Q) = fun f o c Q => wp E vc n c0 cuts b f o c Q := by funext f o c Q; exact ih ..
  show (match memN id cuts with
  | false => (fun f o c Q => wpR E vc n c0 cuts b f o c Q) f o c fun ex f' o' c' => (match ex with
   | .exit id' => (match Nat.beq id' id with
    | true => Q .normal f' o' c'
    | false => Q (.exit id') f' o' c')
   | .normal => Q .normal f' o' c'
   | .ret => Q .ret f' o' c')
  | true => ∃ Mid : RK, ((fun f o c Q => wpR E vc n c0 cuts b f o c Q) f o c fun ex f' o' c' => (match ex with
   | .exit id' => (match Nat.beq id' id with
    | true => toldAs c0 f' o' c' Mid
    | false => Q (.exit id') f' o' c')
   | .normal => toldAs c0 f' o' c' Mid
   | .ret => Q .ret f' o' c')) ∧ ∀ f' o' c', Mid f' o' c' → Q .normal f' o' c') = _
  rw [e1]
  rfl
 | loop b ih =>
  intro f o c Q
  have e1 : (fun f o c Q => wpR E vc n c0 cuts b f o c Q) = fun f o c Q => wp E vc n c0 cuts b f o c Q := by funext f o c Q; exact ih ..
  show (∃ Inv : Nat → Fr → Ob → Nat → Prop, (∃ k, toldAs c0 f o c (Inv k)) ∧
   ∀ k f1 o1 c1, Inv k f1 o1 c1 → (fun f o c Q => wpR E vc n c0 cuts b f o c Q) f1 o1 c1 fun ex f' o' c' => (match ex with
    | .normal => ∃ k', toldAs c0 f' o' c' (Inv k') ∧ k' < k
    | .exit id => Q (.exit id) f' o' c'
    | .ret => Q .ret f' o' c')) = _
  rw [e1]
  rfl
 | _ => intros; rfl
theorem VC.enterR {E T : Env} (L : EnvLe T E) {g : FuncId} {fn : Func} {code : Code} {c0 : Nat} {args : List TV} {o0 : Ob} {R : TV → Ob → Nat → Prop} (hf : E.func g = some fn) (ho : ∀ a h, E.orc g a h = none) (hb : fn.body = some code) (hlen : Nat.ble args.length fn.ntmps = true)
 (cuts : List Nat) (hw : wpR T (VC E) fn.ntmps c0 cuts code (argsF 0 args) o0 c0 (wret T c0 fn.results.toList R)) : VC E g c0 args o0 R :=
 VC.enter L hf ho hb hlen cuts (by rw [← wpR_eq]; exact hw)
theorem D1 {b : Bool} {K : Prop} (k : K) (h : b = true := by kernel_rfl) : Drawn b K := ⟨h, k⟩
theorem t3 {a b c : Prop} (h1 : a := by (repeat' first|with_reducible exact Lz.rfl|exact Lw.rfl|exact Lz.wrap (by omega)|(unfold goInt;with_reducible exact Lz.rfl)|exact flx _|constructor)) (h2 : b := by (repeat' first|with_reducible exact Lz.rfl|exact Lw.rfl|exact Lz.wrap (by omega)|(unfold goInt;with_reducible exact Lz.rfl)|exact flx _|constructor)) (h3 : c := by rfl) : a ∧ b ∧ c := ⟨h1, h2, h3⟩
end Go.M
namespace Go.M
open Go Go.Proofs
def names0 : List Value := [.string ⟨#[110, 111, 111, 112]⟩, .string ⟨#[114, 101, 109, 111, 118, 101]⟩, .string ⟨#[97, 112, 112, 101, 110, 100]⟩, .string ⟨#[112, 114, 111, 109, 111, 116, 101]⟩, .string ⟨#[115, 101, 116, 116, 108, 101]⟩]
def tabs0 (mx : Int) : Tabs := [(0, names0), (4, [.int .i64 mx])]
noncomputable def E0 (mx : Int) := envT Tryd.prog (tabs0 mx) (orcP 4 [31] (orcX (tabs0 mx) [7] (orcV [] [])))
noncomputable def T0 (mx : Int) := tE (E0 mx) [25]
set_option maxRecDepth 100000
theorem rows0 (mx : Int) : [25].all (eqRow (E0 mx)) = true := by kernel_rfl
theorem L0 (mx : Int) : EnvLe (T0 mx) (E0 mx) := tE_le (fun t z h => by
 simp only [E0, envT, envOf, Option.bind_eq_some_iff, grd_some, Option.some.injEq] at h
 obtain ⟨i, h1, z', h2, h3, rfl⟩ := h
 exact h3) (rows0 mx)
theorem eqL1_refl_int (n : Int) : eqL1 (.int .i64 n) (.int .i64 n) = true := by
 simp [eqL1]
theorem tabsB0 (mx : Int) : tabsB (tabs0 mx) 5 = true := by
 have h1 : tabsB [(0, names0)] 5 = true := by kernel_rfl
 unfold tabsB at h1 ⊢
 unfold tabs0
 simp only [List.all_cons, List.all_nil, Bool.and_true, Bool.and_eq_true] at h1 ⊢
 refine ⟨⟨h1.1, ?_⟩, ⟨by decide, by simp [tabV, plain1, cT1, fz, plainE]⟩, ?_⟩
 ·exact h1.2
 ·show eqLs [.int .i64 mx] [.int .i64 mx] = true
  unfold eqLs
  rw [eqL1_refl_int]
  rfl
theorem awake_r {mx : Int} : VC (E0 mx) 7 0 [] [] (RR (.s (.bool true)) 0 []) := by
 intro base ρ F h S vargs hN hM hO hA
 obtain ⟨fn, hf⟩ := Option.isSome_iff_exists.1 (show ((E0 mx).func 7).isSome = true by kernel_rfl)
 obtain rfl := hA.inv_nil
 have ho : (E0 mx).orc 7 [] h = some (.bool true, h) := by
  show orcX (tabs0 mx) [7] (orcV [] []) 7 [] h = _
  unfold orcX
  rw [show memN 7 [7] = true from rfl, tabsIn_of (E := E0 mx) rfl (tabsB0 mx) hN]
 refine ⟨0, .bool true, h, ρ, F, .s (.bool true), [], 0, ?_, ⟨rfl, rfl, rfl⟩, hM, .s rfl⟩
 unfold acall acallB
 rw [hf]
 simp only [Option.bind_some, ho]
end Go.M
namespace Go.M
open Go Go.Proofs
set_option maxRecDepth 100000
set_option maxHeartbeats 4000000
variable {mx : Int}
noncomputable def eqB {α : Type} (a b : α) : Bool := @decide (a = b) (Classical.propDecidable _)
theorem eqB_iff {α : Type} {a b : α} : eqB a b = true ↔ a = b := by unfold eqB; simp
theorem eqB_false {α : Type} {a b : α} : eqB a b = false ↔ a ≠ b := by unfold eqB; simp
theorem take_snoc {α : Type} (l : List α) (i : Nat) (h : i < l.length) : l.take (i + 1) = l.take i ++ [l[i]] := by rw [List.take_succ_eq_append_getElem h]
def checkS (k ch ep nd : Int) : Int := if k < 0 ∨ k ≥ 5 then 1 else if k = 0 then (if ch ≠ 0 ∨ ep ≠ 0 ∨ nd ≠ 0 then 4 else 0) else if ch < 0 ∨ ch ≥ 4 ∨ ep < 1 ∨ nd < 1 ∨ nd > 24 then 4 else 0
@[reducible] def cmdT (k ch ep nd : Int) : TV := .agg [.s (.int .i64 k), .s (.int .i64 ch), .s (.int .u64 ep), .s (.int .i64 nd)]
theorem check_ok (k ch ep nd : Int) : VC (E0 mx) 25 0 [cmdT k ch ep nd] [] (RR (.s (.int .i64 (checkS k ch ep nd))) 0 []) := by
 refine VC.enterR (L0 mx) (show (E0 mx).func 25 = some Tryd.f25 by kernel_rfl) (fun _ _ => rfl) rfl rfl [] ?_
 ((conv=>whnf)<;>repeat(with_reducible refine D1 ?_)<;>conv=>whnf)
 repeat' (first | ((first | (refine ⟨fun h => ?_, fun h => ?_⟩) | (refine nsplit (fun h => ?_) (fun h => ?_)) | (refine bsplit (fun h => ?_) (fun h => ?_))) <;> ((conv=>whnf)<;>repeat(with_reducible refine D1 ?_)<;>conv=>whnf)))
 all_goals (refine ⟨[], [], [], _, _, ⟨?_, .nil, rfl⟩, rfl, rfl, rfl⟩)
 all_goals (refine .s (Lz.int ?_); simp [veq1, checkS] at *; grind)
theorem refCheck_ok (k ch ep nd : Int) (he : 0 ≤ ep) : VC (E0 mx) 15 0 [cmdT k ch ep nd] [] (RR (.s (.int .i64 (checkS k ch ep nd))) 0 []) := by
 refine VC.enterR (L0 mx) (show (E0 mx).func 15 = some Tryd.f15 by kernel_rfl) (fun _ _ => rfl) rfl rfl [] ?_
 ((conv=>whnf)<;>repeat(with_reducible refine D1 ?_)<;>conv=>whnf)
 repeat' (first | ((first | (refine ⟨fun h => ?_, fun h => ?_⟩) | (refine nsplit (fun h => ?_) (fun h => ?_)) | (refine bsplit (fun h => ?_) (fun h => ?_))) <;> ((conv=>whnf)<;>repeat(with_reducible refine D1 ?_)<;>conv=>whnf)))
 all_goals (refine ⟨[], [], [], _, _, ⟨?_, .nil, rfl⟩, rfl, rfl, rfl⟩)
 all_goals (refine .s (Lz.int ?_); simp [checkS] at *; grind)
structure Cmd where
 kind : Int
 chain : Int
 epoch : Int
 node : Int
@[reducible] def cT4 (c : Cmd) : TV := cmdT c.kind c.chain c.epoch c.node
def Cmd.check (c : Cmd) : Int := checkS c.kind c.chain c.epoch c.node
end Go.M
namespace Go.M
open Go
@[reducible] def encU1 (n : Int) : List TV := [.s (.int .u8 n)]
def bigL : Nat → Nat → List Int
 | 0, _ => []
 | w + 1, n => bigL w (n / 256) ++ [((n % 256 : Nat) : Int)]
theorem bigL_len : ∀ w n, (bigL w n).length = w
 | 0, _ => rfl
 | w + 1, n => by unfold bigL; rw [List.length_append, bigL_len w]; rfl
theorem bigL_cons : ∀ w n, bigL (w + 1) n = ((n / 256 ^ w % 256 : Nat) : Int) :: bigL w n
 | 0, n => by simp [bigL]
 | w + 1, n => by
  rw [bigL, bigL_cons w (n / 256), Nat.div_div_eq_div_mul, Nat.pow_succ', List.cons_append]
  rfl
theorem bigL_byte : ∀ w n, ∀ x ∈ bigL w n, 0 ≤ x ∧ x < 256
 | 0, _, x, h => by simp [bigL] at h
 | w + 1, n, x, h => by
  rw [bigL, List.mem_append] at h
  rcases h with h | h
  ·exact bigL_byte w _ x h
  ·simp at h; subst h; omega
def numS (a b : Int) : Int := (a * 256 + b) % 18446744073709551616
def numL (l : List Int) : Int := l.foldl numS 0
theorem numL_snoc (l : List Int) (b : Int) : numL (l ++ [b]) = numS (numL l) b := by
 unfold numL; rw [List.foldl_append]; rfl
theorem numL_range (l : List Int) : 0 ≤ numL l ∧ numL l < 18446744073709551616 := by
 rcases List.eq_nil_or_concat l with rfl | ⟨m, b, rfl⟩
 ·exact ⟨by decide, by decide⟩
 ·rw [List.concat_eq_append, numL_snoc]; unfold numS; omega
theorem numL_ltK : ∀ (k : Nat) (l : List Int), l.length = k → k ≤ 8 → (∀ x ∈ l, 0 ≤ x ∧ x < 256) → numL l < (256 : Int) ^ k
 | 0, l, hl, _, _ => by obtain rfl := List.length_eq_zero_iff.1 hl; decide
 | k + 1, l, hl, hk, hb => by
  rcases List.eq_nil_or_concat l with rfl | ⟨m, b, rfl⟩
  ·simp at hl
  ·rw [List.concat_eq_append] at hl hb ⊢
   rw [List.length_append] at hl
   have h1 := numL_ltK k m (by simpa using hl) (by omega) fun x hx => hb x (List.mem_append_left _ hx)
   have h2 := hb b (by simp)
   have h0 := numL_range m
   rw [numL_snoc]
   unfold numS
   rw [Int.pow_succ]
   have : (numL m * 256 + b) % 18446744073709551616 ≤ numL m * 256 + b := by omega
   omega
theorem numL_lt (l : List Int) (h : l.length ≤ 8) (hb : ∀ x ∈ l, 0 ≤ x ∧ x < 256) : numL l < (256 : Int) ^ l.length := numL_ltK _ l rfl h hb
theorem shr_eq (n i : Nat) (h : i < 9) : vint .shr .u64 .i64 (n : Int) (IntKind.i64.wrap (8 * (i : Int))) = some (.int .u64 ((n / 256 ^ i : Nat) : Int)) := by
 have hw : IntKind.i64.wrap (8 * (i : Int)) = ((8 * i : Nat) : Int) := by rw [IntWalk.i64_in _ (by omega)]; simp
 rw [hw]
 show pureV (Op.shift .shr .u64 (n : Int) .i64 ((8 * i : Nat) : Int)) = _
 unfold Op.shift
 rw [if_neg (by omega), Int.toNat_natCast]
 have hm : min (8 * i) IntKind.u64.bits = 8 * i ∨ i = 8 := by
  show min (8 * i) 64 = _ ∨ _
  omega
 have e2 : (2 : Nat) ^ (8 * i) = 256 ^ i := by rw [Nat.pow_mul]
 have hm2 : min (8 * i) IntKind.u64.bits = 8 * i := by
  show min (8 * i) 64 = _
  omega
 rw [hm2]
 show some (Value.int .u64 ((n : Int).fdiv (2 ^ (8 * i)))) = _
 congr 2
 rw [show ((2 : Int) ^ (8 * i)) = ((256 ^ i : Nat) : Int) from by rw [← e2]; simp]
 exact (Int.ofNat_fdiv n (256 ^ i)).symm
theorem or_eq (a b : Int) (ha : 0 ≤ a) (hb : 0 ≤ b ∧ b < 256) : IntKind.u64.wrap ((BitVec.ofInt 64 (IntKind.u64.wrap (a * 256)) ||| BitVec.ofInt 64 b).toNat : Int) = numS a b := by
 obtain ⟨A, rfl⟩ : ∃ A : Nat, a = A := ⟨a.toNat, by omega⟩
 obtain ⟨B, rfl⟩ : ∃ B : Nat, b = B := ⟨b.toNat, by omega⟩
 have hB : B < 2 ^ 8 := by omega
 have e1 : IntKind.u64.wrap ((A : Int) * 256) = (((A % 2 ^ 56) <<< 8 : Nat) : Int) := by
  rw [IntKind.wrap_u64, Nat.shiftLeft_eq]; omega
 rw [e1]
 have e2 : (BitVec.ofInt 64 (((A % 2 ^ 56) <<< 8 : Nat) : Int) ||| BitVec.ofInt 64 (B : Int)).toNat = (A % 2 ^ 56) <<< 8 + B := by
  rw [BitVec.toNat_or, BitVec.toNat_ofInt, BitVec.toNat_ofInt]
  have h1 : (A % 2 ^ 56) <<< 8 < 2 ^ 64 := by rw [Nat.shiftLeft_eq]; omega
  rw [Nat.shiftLeft_add_eq_or_of_lt hB]
  congr 1
  ·omega
  ·omega
 rw [e2, IntKind.wrap_u64, Nat.shiftLeft_eq]
 unfold numS
 omega
theorem num_eq (a b : Int) : IntKind.u64.wrap (IntKind.u64.wrap (a * 256) + b) = numS a b := by
 rw [IntKind.wrap_u64, IntKind.wrap_u64]; unfold numS; omega
structure InS where
 b : List Int
 e : Int
def InS.next (s : InS) (n : Nat) : InS × Option (List Int) :=
 if s.e ≠ 0 then (s, none) else if s.b.length < n then (⟨[], 3⟩, none) else (⟨s.b.drop n, 0⟩, some (s.b.take n))
def InS.upto (s : InS) (w : Nat) (m : Int) : InS × Int :=
 match s.next w with
 | (s', none) => (s', 0)
 | (s', some b) => if numL b > m then (⟨[], 4⟩, 0) else (s', numL b)
def InS.get (s : InS) (w : Nat) : InS × Int := s.upto w 18446744073709551615
def InS.raw (s : InS) (n : Nat) : InS × List Int := ((s.next n).1, ((s.next n).2).getD [])
theorem InS.next_bytes {s : InS} {n : Nat} (h : ∀ x ∈ s.b, 0 ≤ x ∧ x < 256) : (∀ x ∈ (s.next n).1.b, 0 ≤ x ∧ x < 256) ∧ ∀ l, (s.next n).2 = some l → ∀ x ∈ l, 0 ≤ x ∧ x < 256 := by
 unfold InS.next
 split
 ·exact ⟨h, fun l hl => by cases hl⟩
 ·split
  ·exact ⟨by simp, fun l hl => by cases hl⟩
  ·exact ⟨fun x hx => h x (List.mem_of_mem_drop hx), fun l hl => by cases hl; exact fun x hx => h x (List.mem_of_mem_take hx)⟩
theorem InS.upto_range {s : InS} {n : Nat} {m : Int} : 0 ≤ (s.upto n m).2 ∧ (s.upto n m).2 < 18446744073709551616 := by
 unfold InS.upto
 split
 ·exact ⟨Int.le_refl 0, by show (0 : Int) < _; decide⟩
 ·split
  ·exact ⟨Int.le_refl 0, by show (0 : Int) < _; decide⟩
  ·exact numL_range _
theorem InS.next_len {s : InS} {n : Nat} {l : List Int} (h : (s.next n).2 = some l) : l.length = n := by
 unfold InS.next at h
 split at h
 ·cases h
 ·split at h
  ·cases h
  ·cases h; rw [List.length_take]; omega
theorem InS.get1_lt {s : InS} (h : ∀ x ∈ s.b, 0 ≤ x ∧ x < 256) : (s.get 1).2 < 256 := by
 have hb := (InS.next_bytes (n := 1) h).2
 have hl := fun l => InS.next_len (s := s) (n := 1) (l := l)
 unfold InS.get InS.upto
 split
 ·show (0 : Int) < 256; decide
 ·rename_i s' b e
  rw [e] at hb hl
  split
  ·show (0 : Int) < 256; decide
  ·have h1 := hl b rfl
   have := numL_lt b (by omega) (hb b rfl)
   rw [h1] at this
   exact this
theorem InS.next_app (x r : List Int) : (InS.mk (x ++ r) 0).next x.length = (⟨r, 0⟩, some x) := by
 unfold InS.next
 rw [if_neg (by simp), if_neg (by simp)]
 simp
theorem InS.upto_app (x r : List Int) (m : Int) (h : numL x ≤ m) : (InS.mk (x ++ r) 0).upto x.length m = (⟨r, 0⟩, numL x) := by
 unfold InS.upto
 rw [InS.next_app]
 simp only
 rw [if_neg (by omega)]
end Go.M
namespace Go.M
open Go Go.Proofs
set_option maxRecDepth 100000
set_option maxHeartbeats 4000000
variable {mx : Int}
theorem cloneB_ok (l : List Int) (hl : l.length < 1000000) : VC (E0 mx) 41 0 [.sl 1 (l.map encU1) false] [] (RR (.sl 1 (l.map encU1) false) 0 []) := by
 refine VC.enterR (L0 mx) (show (E0 mx).func 41 = some Tryd.f41 by kernel_rfl) (fun _ _ => rfl) rfl rfl [] ?_
 ((conv=>whnf)<;>repeat(with_reducible refine D1 ?_)<;>conv=>whnf)
 refine ⟨fun h => ?_, ?_⟩
 ·have h : l = [] := by simpa using h
  subst h
  ((conv=>whnf)<;>repeat(with_reducible refine D1 ?_)<;>conv=>whnf)
  exact ⟨[], [], _, _, _, t3, rfl, rfl, rfl⟩
 ·((conv=>whnf)<;>repeat(with_reducible refine D1 ?_)<;>conv=>whnf)
  refine ⟨by simp; omega, ?_⟩
  ((conv=>whnf)<;>repeat(with_reducible refine D1 ?_)<;>conv=>whnf)
  exact ⟨[1], [], _, _, _, t3, rfl, rfl, rfl⟩
theorem known_ok (w : Nat) (h1 : 1 ≤ w) (h8 : w ≤ 8) : VC (E0 mx) 56 0 [.s (.int .i64 w)] [] (RR (.s (.bool true)) 0 []) := by
 refine VC.enterR (L0 mx) (show (E0 mx).func 56 = some Tryd.f56 by kernel_rfl) (fun _ _ => rfl) rfl rfl [] ?_
 ((conv=>whnf)<;>repeat(with_reducible refine D1 ?_)<;>conv=>whnf)
 (first|refine ⟨?_,?_⟩|refine nsplit ?_ ?_|refine bsplit ?_ ?_)<;>intro h<;>have hz_:=True.intro<;>clear hz_
 ·((conv=>whnf)<;>repeat(with_reducible refine D1 ?_)<;>conv=>whnf)
  (first|refine ⟨?_,?_⟩|refine nsplit ?_ ?_|refine bsplit ?_ ?_)<;>intro h'<;>have hz_:=True.intro<;>clear hz_
  ·((conv=>whnf)<;>repeat(with_reducible refine D1 ?_)<;>conv=>whnf)
   exact ⟨[], [], _, _, _, t3, rfl, rfl, rfl⟩
  ·exact absurd (show (w : Int) ≤ 8 by omega) h'
 ·exact absurd (show (w : Int) ≥ 1 by omega) h
theorem laid_set (w i n : Nat) (h : i < w) : ((List.replicate (w - i) (0 : Int) ++ bigL i n).map encU1).set (w - 1 - i) (encU1 ((n / 256 ^ i % 256 : Nat) : Int)) = (List.replicate (w - (i + 1)) (0 : Int) ++ bigL (i + 1) n).map encU1 := by
 have e : w - i = (w - (i + 1)) + 1 := by omega
 rw [← List.map_set, e, List.replicate_succ', List.append_assoc, List.set_append_right _ _ (by simp; omega), bigL_cons]
 congr 2
 rw [List.length_replicate, show w - 1 - i - (w - (i + 1)) = 0 by omega]
 rfl
theorem laid_get (w i n : Nat) (h : i < w) : ((List.replicate (w - i) (0 : Int) ++ bigL i n).map encU1)[w - 1 - i]? = some (encU1 0) := by
 have e : w - i = (w - (i + 1)) + 1 := by omega
 rw [e, List.replicate_succ', List.append_assoc, List.map_append, List.getElem?_append_right (by simp; omega)]
 simp
 rw [show w - 1 - i - (w - (i + 1)) = 0 by omega]
 rfl
theorem laid_ok (n : Nat) (w : Nat) (h1 : 1 ≤ w) (h8 : w ≤ 8) : VC (E0 mx) 60 0 [.s (.int .u64 n), .s (.int .i64 w)] [] (RR (.tk 0) 1 [(0, .arr 1 true ((bigL w n).map encU1))]) := by
 refine VC.enterR (L0 mx) (show (E0 mx).func 60 = some Tryd.f60 by kernel_rfl) (fun _ _ => rfl) rfl rfl [] ?_
 ((conv=>whnf)<;>repeat(with_reducible refine D1 ?_)<;>conv=>whnf)
 refine ⟨⟨by omega, by omega, by omega⟩, ?_⟩
 ((conv=>whnf)<;>repeat(with_reducible refine D1 ?_)<;>conv=>whnf)
 refine ⟨fun k f o c => ∃ i : Nat, i ≤ w ∧ k = w - i ∧ c = 1 ∧ f = [(0, .s (.int .u64 n)), (1, .s (.int .i64 w)), (5, .tk 0), (10, .s (.int .i64 w)), (11, .s (.int .i64 i))] ∧ o = [(0, .arr 1 true ((List.replicate (w - i) 0 ++ bigL i n).map encU1))], ⟨w, ?_⟩, ?_⟩
 ·refine ⟨[], [some 0], ?_⟩
  iterate 3 constructor
  refine ⟨⟨?_, ?_, ?_⟩, ⟨0, Nat.zero_le _, rfl, rfl, rfl, rfl⟩⟩
  all_goals (repeat' first|with_reducible exact Lz.rfl|exact Lw.rfl|exact Lz.wrap (by omega)|(unfold goInt;with_reducible exact Lz.rfl)|exact flx _|constructor)
  all_goals first | exact Lz.int (by simp) | exact Lz.of (by simp [bigL]; exact .inr rfl) | trace_state
 ·rintro k f1 o1 c1 ⟨i, hi, rfl, rfl, rfl, rfl⟩
  ((conv=>whnf)<;>repeat(with_reducible refine D1 ?_)<;>conv=>whnf)
  (first|refine ⟨?_,?_⟩|refine nsplit ?_ ?_|refine bsplit ?_ ?_)<;>intro h<;>have hz_:=True.intro<;>clear hz_
  ·have h : i < w := by have : (i : Int) < w := h
                        omega
   ((conv=>whnf)<;>repeat(with_reducible refine D1 ?_)<;>conv=>whnf)
   rw [shr_eq n i (by omega)]
   ((conv=>whnf)<;>repeat(with_reducible refine D1 ?_)<;>conv=>whnf)
   have hw : IntKind.i64.wrap (IntKind.i64.wrap ((w : Int) - 1) - (i : Int)) = ((w - 1 - i : Nat) : Int) := by
    rw [IntWalk.i64_in _ (by rw [IntWalk.i64_in _ (by omega)]; omega), IntWalk.i64_in _ (by omega)]; omega
   refine ⟨by rw [hw]; simp [bigL_len]; omega, ?_⟩
   ((conv=>whnf)<;>repeat(with_reducible refine D1 ?_)<;>conv=>whnf)
   refine ⟨encU1 0, by rw [hw, Int.toNat_natCast]; exact laid_get w i n h, ?_⟩
   ((conv=>whnf)<;>repeat(with_reducible refine D1 ?_)<;>conv=>whnf)
   refine ⟨w - (i + 1), ?_, by omega⟩
   refine ⟨[], [some 0], ?_⟩
   iterate 3 constructor
   refine ⟨⟨?_, ?_, ?_⟩, ⟨i + 1, h, rfl, rfl, rfl, rfl⟩⟩
   all_goals (repeat' first|with_reducible exact Lz.rfl|exact Lw.rfl|exact Lz.wrap (by omega)|(unfold goInt;with_reducible exact Lz.rfl)|exact flx _|constructor)
   all_goals first | exact Lw.of (by rw [hw, Int.toNat_natCast, ← laid_set w i n h, IntKind.wrap_u8]; simp) | exact Lz.of (by rw [hw, Int.toNat_natCast, ← laid_set w i n h, IntKind.wrap_u8]; simp) | trace_state
  ·have hi' : i = w := by have : ¬ (i : Int) < w := h
                          omega
   subst hi'
   rw [Nat.sub_self]
   ((conv=>whnf)<;>repeat(with_reducible refine D1 ?_)<;>conv=>whnf)
   exact ⟨[], [some 0], _, _, _, t3, rfl, rfl, rfl⟩
theorem fits_ok (n : Nat) (w : Nat) (h1 : 1 ≤ w) (h8 : w ≤ 8) (hn : n < 18446744073709551616) : VC (E0 mx) 58 0 [.s (.int .u64 n), .s (.int .i64 w)] [] (RR (.s (.bool (decide (n < 256 ^ w)))) 0 []) := by
 refine VC.enterR (L0 mx) (show (E0 mx).func 58 = some Tryd.f58 by kernel_rfl) (fun _ _ => rfl) rfl rfl [] ?_
 ((conv=>whnf)<;>repeat(with_reducible refine D1 ?_)<;>conv=>whnf)
 (first|refine ⟨?_,?_⟩|refine nsplit ?_ ?_|refine bsplit ?_ ?_)<;>intro h<;>have hz_:=True.intro<;>clear hz_
 ·have h : w = 8 := by have : (w : Int) = 8 := h
                       omega
  subst h
  ((conv=>whnf)<;>repeat(with_reducible refine D1 ?_)<;>conv=>whnf)
  refine ⟨[], [], ?_⟩
  iterate 3 constructor
  refine ⟨⟨?_, ?_, ?_⟩, rfl, rfl, rfl⟩
  all_goals (repeat' first|with_reducible exact Lz.rfl|exact Lw.rfl|exact Lz.wrap (by omega)|(unfold goInt;with_reducible exact Lz.rfl)|exact flx _|constructor)
  exact Lz.of (bool_eq (decide_eq_true (show n < 256 ^ 8 by omega)).symm)
 ·((conv=>whnf)<;>repeat(with_reducible refine D1 ?_)<;>conv=>whnf)
  rw [shr_eq n w (by omega)]
  ((conv=>whnf)<;>repeat(with_reducible refine D1 ?_)<;>conv=>whnf)
  (first|refine ⟨?_,?_⟩|refine nsplit ?_ ?_|refine bsplit ?_ ?_)<;>intro h0<;>have hz_:=True.intro<;>clear hz_
  ·have h0 : ((n / 256 ^ w : Nat) : Int) = 0 := h0
   ((conv=>whnf)<;>repeat(with_reducible refine D1 ?_)<;>conv=>whnf)
   refine ⟨[], [], ?_⟩
   iterate 3 constructor
   refine ⟨⟨?_, ?_, ?_⟩, rfl, rfl, rfl⟩
   all_goals (repeat' first|with_reducible exact Lz.rfl|exact Lw.rfl|exact Lz.wrap (by omega)|(unfold goInt;with_reducible exact Lz.rfl)|exact flx _|constructor)
   exact Lz.of (bool_eq (decide_eq_true (show n < 256 ^ w from (Nat.div_eq_zero_iff_lt (Nat.pow_pos (by decide))).1 (by omega))).symm)
  ·have h0 : ¬ ((n / 256 ^ w : Nat) : Int) = 0 := h0
   ((conv=>whnf)<;>repeat(with_reducible refine D1 ?_)<;>conv=>whnf)
   refine ⟨[], [], ?_⟩
   iterate 3 constructor
   refine ⟨⟨?_, ?_, ?_⟩, rfl, rfl, rfl⟩
   all_goals (repeat' first|with_reducible exact Lz.rfl|exact Lw.rfl|exact Lz.wrap (by omega)|(unfold goInt;with_reducible exact Lz.rfl)|exact flx _|constructor)
   exact Lz.of (bool_eq (decide_eq_false (fun q => h0 (by rw [(Nat.div_eq_zero_iff_lt (Nat.pow_pos (by decide))).2 q]; rfl))).symm)
structure OutS where
 b : List Int
 most : Int
 e : Int
def OutS.fail (s : OutS) (e : Int) : OutS := if s.e = 0 then ⟨s.b, s.most, e⟩ else s
def OutS.put (s : OutS) (x : List Int) : OutS := if s.e ≠ 0 then s else if (x.length : Int) > s.most - s.b.length then ⟨s.b, s.most, 6⟩ else ⟨s.b ++ x, s.most, 0⟩
def OutS.num (s : OutS) (n w : Nat) : OutS := if n < 256 ^ w then s.put (bigL w n) else s.fail 4
structure OutS.ok (s : OutS) : Prop where
 m : 0 ≤ s.most ∧ s.most ≤ 1048576
 l : (s.b.length : Int) ≤ s.most
@[reducible] def OutO (s : OutS) : TO := .cells [.own (.arr 1 true (s.b.map encU1)), .s (.int .i64 s.most), .s (.int .i64 s.e)]
theorem new_ok (m : Nat) : VC (E0 mx) 13 0 [.s (.int .i64 m)] [] (RR (.ptr 0 0) 1 [(0, OutO ⟨[], m, 0⟩)]) := by
 refine VC.enterR (L0 mx) (show (E0 mx).func 13 = some Tryd.f13 by kernel_rfl) (fun _ _ => rfl) rfl rfl [] ?_
 ((conv=>whnf)<;>repeat(with_reducible refine D1 ?_)<;>conv=>whnf)
 refine ⟨[], [some 0], ?_⟩
 iterate 3 constructor
 refine ⟨⟨?_, ?_, ?_⟩, rfl, rfl, rfl⟩
 all_goals (repeat' first|with_reducible exact Lz.rfl|exact Lw.rfl|exact Lz.wrap (by omega)|(unfold goInt;with_reducible exact Lz.rfl)|exact flx _|constructor)
 all_goals exact Lz.int (if_neg (by omega))
theorem outFail_ok (s : OutS) (e : Int) : VC (E0 mx) 57 1 [.ptr 0 0, .s (.int .i64 e)] [(0, OutO s)] (RR (.tup []) 1 [(0, OutO (s.fail e))]) := by
 refine VC.enterR (L0 mx) (show (E0 mx).func 57 = some Tryd.f57 by kernel_rfl) (fun _ _ => rfl) rfl rfl [] ?_
 ((conv=>whnf)<;>repeat(with_reducible refine D1 ?_)<;>conv=>whnf)
 (first|refine ⟨?_,?_⟩|refine nsplit ?_ ?_|refine bsplit ?_ ?_)<;>intro h<;>have hz_:=True.intro<;>clear hz_
 ·have h : s.e = 0 := h
  rw [show s.fail e = ⟨s.b, s.most, e⟩ from if_pos h]
  ((conv=>whnf)<;>repeat(with_reducible refine D1 ?_)<;>conv=>whnf)
  exact ⟨[], [some 0], _, _, _, t3, rfl, rfl, rfl⟩
 ·have h : ¬ s.e = 0 := h
  rw [show s.fail e = s from if_neg h]
  ((conv=>whnf)<;>repeat(with_reducible refine D1 ?_)<;>conv=>whnf)
  exact ⟨[], [some 0], _, _, _, t3, rfl, rfl, rfl⟩
theorem put_ok (s : OutS) (x : List Int) (hs : s.ok) (hx : s.b.length + x.length ≤ 1000000) : VC (E0 mx) 59 1 [.ptr 0 0, .sl 1 (x.map encU1) false] [(0, OutO s)] (RR (.tup []) 1 [(0, OutO (s.put x))]) := by
 obtain ⟨⟨m0, m1⟩, hl⟩ := hs
 refine VC.enterR (L0 mx) (show (E0 mx).func 59 = some Tryd.f59 by kernel_rfl) (fun _ _ => rfl) rfl rfl [] ?_
 ((conv=>whnf)<;>repeat(with_reducible refine D1 ?_)<;>conv=>whnf)
 (first|refine ⟨?_,?_⟩|refine nsplit ?_ ?_|refine bsplit ?_ ?_)<;>intro h<;>have hz_:=True.intro<;>clear hz_
 ·have h : s.e ≠ 0 := h
  rw [show s.put x = s from if_pos h]
  ((conv=>whnf)<;>repeat(with_reducible refine D1 ?_)<;>conv=>whnf)
  exact ⟨[], [some 0], _, _, _, t3, rfl, rfl, rfl⟩
 ·have h : ¬ s.e ≠ 0 := h
  have h0 : s.e = 0 := by omega
  ((conv=>whnf)<;>repeat(with_reducible refine D1 ?_)<;>conv=>whnf)
  (first|refine ⟨?_,?_⟩|refine nsplit ?_ ?_|refine bsplit ?_ ?_)<;>intro h2<;>have hz_:=True.intro<;>clear hz_
  ·have h2 : (x.length : Int) > s.most - s.b.length := by
    have : (((x.map encU1).length : Nat) : Int) > IntKind.i64.wrap (s.most - (((s.b.map encU1).length : Nat) : Int)) := h2
    rw [List.length_map, List.length_map, IntWalk.i64_in _ (by omega)] at this
    exact this
   rw [show s.put x = s.fail 6 from by unfold OutS.put OutS.fail; rw [if_neg h, if_pos h2, if_pos h0]]
   ((conv=>whnf)<;>repeat(with_reducible refine D1 ?_)<;>conv=>whnf)
   refine ⟨[], [some 0], _, _, _, _, outFail_ok s 6, t3, ?_⟩
   rintro r o' c' ⟨rfl, rfl, rfl⟩
   ((conv=>whnf)<;>repeat(with_reducible refine D1 ?_)<;>conv=>whnf)
   exact ⟨[], [some 0], _, _, _, t3, rfl, rfl, rfl⟩
  ·have h2 : ¬ (x.length : Int) > s.most - s.b.length := by
    have : ¬ (((x.map encU1).length : Nat) : Int) > IntKind.i64.wrap (s.most - (((s.b.map encU1).length : Nat) : Int)) := h2
    rw [List.length_map, List.length_map, IntWalk.i64_in _ (by omega)] at this
    exact this
   rw [show s.put x = ⟨s.b ++ x, s.most, 0⟩ from by unfold OutS.put; rw [if_neg h, if_neg h2]]
   ((conv=>whnf)<;>repeat(with_reducible refine D1 ?_)<;>conv=>whnf)
   refine ⟨by simp; omega, ?_⟩
   ((conv=>whnf)<;>repeat(with_reducible refine D1 ?_)<;>conv=>whnf)
   refine ⟨[], [some 0], ?_⟩
   iterate 3 constructor
   refine ⟨⟨?_, ?_, ?_⟩, rfl, rfl, rfl⟩
   all_goals (repeat' first|with_reducible exact Lz.rfl|exact Lw.rfl|exact Lz.wrap (by omega)|(unfold goInt;with_reducible exact Lz.rfl)|exact flx _|constructor)
   all_goals first | exact Lz.int h0 | exact Lw.of (by simp) | exact Lz.of (by simp) | trace_state
theorem num_ok (s : OutS) (n w : Nat) (hs : s.ok) (hx : s.b.length ≤ 900000) (h1 : 1 ≤ w) (h8 : w ≤ 8) (hn : n < 18446744073709551616) : VC (E0 mx) 39 1 [.ptr 0 0, .s (.int .u64 n), .s (.int .i64 w)] [(0, OutO s)] (RR (.tup []) 1 [(0, OutO (s.num n w))]) := by
 have hf := fits_ok (mx := mx) n w h1 h8 hn
 refine VC.enterR (L0 mx) (show (E0 mx).func 39 = some Tryd.f39 by kernel_rfl) (fun _ _ => rfl) rfl rfl [] ?_
 ((conv=>whnf)<;>repeat(with_reducible refine D1 ?_)<;>conv=>whnf)
 refine ⟨[], [], _, _, _, _, known_ok w h1 h8, t3, ?_⟩
 rintro r o' c' ⟨rfl, rfl, rfl⟩
 ((conv=>whnf)<;>repeat(with_reducible refine D1 ?_)<;>conv=>whnf)
 by_cases h : n < 256 ^ w
 ·rw [show s.num n w = s.put (bigL w n) from if_pos h]
  rw [decide_eq_true h] at hf
  refine ⟨[], [], _, _, _, _, hf, t3, ?_⟩
  rintro r o' c' ⟨rfl, rfl, rfl⟩
  ((conv=>whnf)<;>repeat(with_reducible refine D1 ?_)<;>conv=>whnf)
  refine ⟨[], [], _, _, _, _, laid_ok n w h1 h8, t3, ?_⟩
  rintro r o' c' ⟨rfl, rfl, rfl⟩
  ((conv=>whnf)<;>repeat(with_reducible refine D1 ?_)<;>conv=>whnf)
  refine ⟨[1], [some 0], _, _, _, _, put_ok s (bigL w n) hs (by rw [bigL_len]; omega), t3, ?_⟩
  rintro r o' c' ⟨rfl, rfl, rfl⟩
  ((conv=>whnf)<;>repeat(with_reducible refine D1 ?_)<;>conv=>whnf)
  exact ⟨[], [some 0], _, _, _, t3, rfl, rfl, rfl⟩
 ·rw [show s.num n w = s.fail 4 from if_neg h]
  rw [decide_eq_false h] at hf
  refine ⟨[], [], _, _, _, _, hf, t3, ?_⟩
  rintro r o' c' ⟨rfl, rfl, rfl⟩
  ((conv=>whnf)<;>repeat(with_reducible refine D1 ?_)<;>conv=>whnf)
  refine ⟨[], [some 0], _, _, _, _, outFail_ok s 4, t3, ?_⟩
  rintro r o' c' ⟨rfl, rfl, rfl⟩
  ((conv=>whnf)<;>repeat(with_reducible refine D1 ?_)<;>conv=>whnf)
  exact ⟨[], [some 0], _, _, _, t3, rfl, rfl, rfl⟩
theorem OutS.ok_fail {s : OutS} {e : Int} (h : s.ok) : (s.fail e).ok := by
 unfold OutS.fail
 split
 ·exact ⟨h.m, h.l⟩
 ·exact h
theorem OutS.ok_put {s : OutS} {x : List Int} (h : s.ok) : (s.put x).ok := by
 unfold OutS.put
 split
 ·exact h
 ·split
  ·exact ⟨h.m, h.l⟩
  ·exact ⟨h.m, by have := h.l; simp; omega⟩
theorem OutS.ok_num {s : OutS} {n w : Nat} (h : s.ok) : (s.num n w).ok := by
 unfold OutS.num
 split
 ·exact OutS.ok_put h
 ·exact OutS.ok_fail h
theorem done_ok (s : OutS) (hs : s.ok) (hx : s.b.length ≤ 900000) : VC (E0 mx) 17 1 [.ptr 0 0] [(0, OutO s)] (RR (.tup [.sl 1 ((if s.e = 0 then s.b else []).map encU1) false, .s (.int .i64 s.e)]) 1 []) := by
 obtain ⟨⟨m0, m1⟩, hl⟩ := hs
 refine VC.enterR (L0 mx) (show (E0 mx).func 17 = some Tryd.f17 by kernel_rfl) (fun _ _ => rfl) rfl rfl [] ?_
 ((conv=>whnf)<;>repeat(with_reducible refine D1 ?_)<;>conv=>whnf)
 (first|refine ⟨?_,?_⟩|refine nsplit ?_ ?_|refine bsplit ?_ ?_)<;>intro h<;>have hz_:=True.intro<;>clear hz_
 ·have h : s.e ≠ 0 := h
  rw [if_neg h]
  ((conv=>whnf)<;>repeat(with_reducible refine D1 ?_)<;>conv=>whnf)
  exact ⟨[], [some 0], _, _, _, t3, rfl, rfl, rfl⟩
 ·have h : s.e = 0 := Classical.not_not.1 h
  rw [if_pos h]
  ((conv=>whnf)<;>repeat(with_reducible refine D1 ?_)<;>conv=>whnf)
  refine ⟨[1], [], _, _, _, _, cloneB_ok s.b (by omega), t3, ?_⟩
  rintro r o' c' ⟨rfl, rfl, rfl⟩
  ((conv=>whnf)<;>repeat(with_reducible refine D1 ?_)<;>conv=>whnf)
  refine ⟨[], [some 0], ?_⟩
  iterate 3 constructor
  refine ⟨⟨?_, ?_, ?_⟩, rfl, rfl, rfl⟩
  all_goals (repeat' first|with_reducible exact Lz.rfl|exact Lw.rfl|exact Lz.wrap (by omega)|(unfold goInt;with_reducible exact Lz.rfl)|exact flx _|constructor)
  all_goals exact Lz.int h.symm
end Go.M
namespace Go.M
open Go Go.Proofs
set_option maxRecDepth 100000
set_option maxHeartbeats 4000000
variable {mx : Int}
@[reducible] def InO (s : InS) : TO := .cells [.sl 1 (s.b.map encU1) false, .s (.int .i64 s.e)]
@[reducible] def nilP : TV := .s (.pointer none)
theorem of_ok (l : List Int) (hl : l.length < 1000000) : VC (E0 mx) 20 0 [.sl 1 (l.map encU1) false] [] (RR (.ptr 0 0) 1 [(0, InO ⟨l, 0⟩)]) := by
 refine VC.enterR (L0 mx) (show (E0 mx).func 20 = some Tryd.f20 by kernel_rfl) (fun _ _ => rfl) rfl rfl [] ?_
 ((conv=>whnf)<;>repeat(with_reducible refine D1 ?_)<;>conv=>whnf)
 refine ⟨[], [], _, _, _, _, cloneB_ok l hl, t3, ?_⟩
 rintro r o' c' ⟨rfl, rfl, rfl⟩
 ((conv=>whnf)<;>repeat(with_reducible refine D1 ?_)<;>conv=>whnf)
 exact ⟨[], [some 0], _, _, _, t3, rfl, rfl, rfl⟩
theorem left_ok (s : InS) : VC (E0 mx) 23 1 [.ptr 0 0] [(0, InO s)] (RR (.s (.int .i64 s.b.length)) 1 [(0, InO s)]) := by
 refine VC.enterR (L0 mx) (show (E0 mx).func 23 = some Tryd.f23 by kernel_rfl) (fun _ _ => rfl) rfl rfl [] ?_
 ((conv=>whnf)<;>repeat(with_reducible refine D1 ?_)<;>conv=>whnf)
 refine ⟨[], [some 0], ?_⟩
 iterate 3 constructor
 refine ⟨⟨?_, ?_, ?_⟩, rfl, rfl, rfl⟩
 all_goals (repeat' first|with_reducible exact Lz.rfl|exact Lw.rfl|exact Lz.wrap (by omega)|(unfold goInt;with_reducible exact Lz.rfl)|exact flx _|constructor)
 exact Lz.int (by simp)
theorem err_ok (s : InS) : VC (E0 mx) 45 1 [.ptr 0 0] [(0, InO s)] (RR (.s (.int .i64 s.e)) 1 [(0, InO s)]) := by
 refine VC.enterR (L0 mx) (show (E0 mx).func 45 = some Tryd.f45 by kernel_rfl) (fun _ _ => rfl) rfl rfl [] ?_
 ((conv=>whnf)<;>repeat(with_reducible refine D1 ?_)<;>conv=>whnf)
 exact ⟨[], [some 0], _, _, _, t3, rfl, rfl, rfl⟩
theorem errNil_ok : VC (E0 mx) 45 0 [nilP] [] (RR (.s (.int .i64 2)) 0 []) := by
 refine VC.enterR (L0 mx) (show (E0 mx).func 45 = some Tryd.f45 by kernel_rfl) (fun _ _ => rfl) rfl rfl [] ?_
 ((conv=>whnf)<;>repeat(with_reducible refine D1 ?_)<;>conv=>whnf)
 exact ⟨[], [], _, _, _, t3, rfl, rfl, rfl⟩
theorem inFail_ok (s : InS) (e : Int) : VC (E0 mx) 63 1 [.ptr 0 0, .s (.int .i64 e)] [(0, InO s)] (RR (.tup []) 1 [(0, InO ⟨[], if s.e = 0 then e else s.e⟩)]) := by
 refine VC.enterR (L0 mx) (show (E0 mx).func 63 = some Tryd.f63 by kernel_rfl) (fun _ _ => rfl) rfl rfl [] ?_
 ((conv=>whnf)<;>repeat(with_reducible refine D1 ?_)<;>conv=>whnf)
 (first|refine ⟨?_,?_⟩|refine nsplit ?_ ?_|refine bsplit ?_ ?_)<;>intro h<;>have hz_:=True.intro<;>clear hz_
 ·have h : s.e = 0 := h
  rw [if_pos h]
  ((conv=>whnf)<;>repeat(with_reducible refine D1 ?_)<;>conv=>whnf)
  exact ⟨[], [some 0], _, _, _, t3, rfl, rfl, rfl⟩
 ·have h : ¬ s.e = 0 := h
  rw [if_neg h]
  ((conv=>whnf)<;>repeat(with_reducible refine D1 ?_)<;>conv=>whnf)
  exact ⟨[], [some 0], _, _, _, t3, rfl, rfl, rfl⟩
theorem next_ok (s : InS) (n : Nat) (hn : n < 1000000) : VC (E0 mx) 64 1 [.ptr 0 0, .s (.int .i64 n)] [(0, InO s)] (RR (.tup [.sl 1 ((((s.next n).2).getD []).map encU1) false, .s (.bool ((s.next n).2).isSome)]) 1 [(0, InO (s.next n).1)]) := by
 refine VC.enterR (L0 mx) (show (E0 mx).func 64 = some Tryd.f64 by kernel_rfl) (fun _ _ => rfl) rfl rfl [] ?_
 ((conv=>whnf)<;>repeat(with_reducible refine D1 ?_)<;>conv=>whnf)
 (first|refine ⟨?_,?_⟩|refine nsplit ?_ ?_|refine bsplit ?_ ?_)<;>intro h<;>have hz_:=True.intro<;>clear hz_
 ·have h : s.e ≠ 0 := h
  have e : s.next n = (s, none) := by unfold InS.next; rw [if_pos h]
  rw [e]
  ((conv=>whnf)<;>repeat(with_reducible refine D1 ?_)<;>conv=>whnf)
  exact ⟨[], [some 0], _, _, _, t3, rfl, rfl, rfl⟩
 ·have h : ¬ s.e ≠ 0 := h
  have h0 : s.e = 0 := by omega
  ((conv=>whnf)<;>repeat(with_reducible refine D1 ?_)<;>conv=>whnf)
  (first|refine ⟨?_,?_⟩|refine nsplit ?_ ?_|refine bsplit ?_ ?_)<;>intro h2<;>have hz_:=True.intro<;>clear hz_
  ·have h2 : s.b.length < n := by have : (((s.b.map encU1).length : Nat) : Int) < n := h2
                                  rw [List.length_map] at this; omega
   have e : s.next n = (⟨[], 3⟩, none) := by unfold InS.next; rw [if_neg h, if_pos h2]
   have hf := inFail_ok (mx := mx) s 3
   rw [if_pos h0] at hf
   rw [e]
   ((conv=>whnf)<;>repeat(with_reducible refine D1 ?_)<;>conv=>whnf)
   refine ⟨[], [some 0], _, _, _, _, hf, t3, ?_⟩
   rintro r o' c' ⟨rfl, rfl, rfl⟩
   ((conv=>whnf)<;>repeat(with_reducible refine D1 ?_)<;>conv=>whnf)
   exact ⟨[], [some 0], _, _, _, t3, rfl, rfl, rfl⟩
  ·have h2 : ¬ s.b.length < n := by have : ¬ (((s.b.map encU1).length : Nat) : Int) < n := h2
                                    rw [List.length_map] at this; omega
   have e : s.next n = (⟨s.b.drop n, 0⟩, some (s.b.take n)) := by unfold InS.next; rw [if_neg h, if_neg h2]
   rw [e]
   ((conv=>whnf)<;>repeat(with_reducible refine D1 ?_)<;>conv=>whnf)
   refine ⟨by simp; omega, ?_⟩
   ((conv=>whnf)<;>repeat(with_reducible refine D1 ?_)<;>conv=>whnf)
   refine ⟨by simp; omega, ?_⟩
   ((conv=>whnf)<;>repeat(with_reducible refine D1 ?_)<;>conv=>whnf)
   refine ⟨[], [some 0], ?_⟩
   iterate 3 constructor
   refine ⟨⟨?_, ?_, ?_⟩, rfl, rfl, rfl⟩
   all_goals (repeat' first|with_reducible exact Lz.rfl|exact Lw.rfl|exact Lz.wrap (by omega)|(unfold goInt;with_reducible exact Lz.rfl)|exact flx _|constructor)
   all_goals first
    | exact Lz.int h0
    | (refine Lz.of ?_; simp; done)
    | (refine Lz.of ?_; rw [Int.toNat_natCast, Int.toNat_natCast, List.take_of_length_le (by simp), List.map_drop])
    | (refine Lw.of ?_; rw [Int.toNat_natCast, Int.toNat_natCast, List.take_of_length_le (by simp), List.map_drop])
theorem number_ok (l : List Int) (hl : l.length < 1000000) (hb : ∀ x ∈ l, 0 ≤ x ∧ x < 256) : VC (E0 mx) 82 0 [.sl 1 (l.map encU1) false] [] (RR (.s (.int .u64 (numL l))) 0 []) := by
 refine VC.enterR (L0 mx) (show (E0 mx).func 82 = some Tryd.f82 by kernel_rfl) (fun _ _ => rfl) rfl rfl [] ?_
 ((conv=>whnf)<;>repeat(with_reducible refine D1 ?_)<;>conv=>whnf)
 refine ⟨fun k f o c => ∃ i : Nat, i ≤ l.length ∧ k = l.length - i ∧ c = 0 ∧ f = [(0, .sl 1 (l.map encU1) false), (3, .s (.int .u64 (numL (l.take i)))), (6, .sl 1 (l.map encU1) false), (7, .s (.int .i64 l.length)), (8, .s (.int .i64 i))] ∧ o = [], ⟨l.length, ?_⟩, ?_⟩
 ·refine ⟨[], [], ?_⟩
  iterate 3 constructor
  refine ⟨⟨?_, ?_, ?_⟩, ⟨0, Nat.zero_le _, rfl, rfl, rfl, rfl⟩⟩
  all_goals (repeat' first|with_reducible exact Lz.rfl|exact Lw.rfl|exact Lz.wrap (by omega)|(unfold goInt;with_reducible exact Lz.rfl)|exact flx _|constructor)
  all_goals exact Lz.int (by simp)
 ·rintro k f1 o1 c1 ⟨i, hi, rfl, rfl, rfl, rfl⟩
  ((conv=>whnf)<;>repeat(with_reducible refine D1 ?_)<;>conv=>whnf)
  (first|refine ⟨?_,?_⟩|refine nsplit ?_ ?_|refine bsplit ?_ ?_)<;>intro h<;>have hz_:=True.intro<;>clear hz_
  ·have h : i < l.length := by have : (i : Int) < l.length := h
                               omega
   ((conv=>whnf)<;>repeat(with_reducible refine D1 ?_)<;>conv=>whnf)
   refine idxI h ?_
   ((conv=>whnf)<;>repeat(with_reducible refine D1 ?_)<;>conv=>whnf)
   refine ⟨l.length - (i + 1), ?_, by omega⟩
   refine ⟨[], [], ?_⟩
   iterate 3 constructor
   refine ⟨⟨?_, ?_, ?_⟩, ⟨i + 1, h, rfl, rfl, rfl, rfl⟩⟩
   all_goals (repeat' first|with_reducible exact Lz.rfl|exact Lw.rfl|exact Lz.wrap (by omega)|(unfold goInt;with_reducible exact Lz.rfl)|exact flx _|constructor)
   all_goals exact Lz.int (by
    have hx := hb _ (List.getElem_mem h)
    have h0 := numL_range (l.take i)
    rw [take_snoc l i h, numL_snoc, ← or_eq (numL (l.take i)) l[i] h0.1 hx, show IntKind.u64.wrap l[i] = l[i] by rw [IntKind.wrap_u64]; omega]
    rfl)
  ·have hi' : i = l.length := by have : ¬ (i : Int) < l.length := h
                                 omega
   subst hi'
   rw [List.take_length]
   ((conv=>whnf)<;>repeat(with_reducible refine D1 ?_)<;>conv=>whnf)
   exact ⟨[], [], _, _, _, t3, rfl, rfl, rfl⟩
theorem refNum_ok (l : List Int) (hl : l.length < 1000000) : VC (E0 mx) 43 0 [.sl 1 (l.map encU1) false] [] (RR (.s (.int .u64 (numL l))) 0 []) := by
 refine VC.enterR (L0 mx) (show (E0 mx).func 43 = some Tryd.f43 by kernel_rfl) (fun _ _ => rfl) rfl rfl [] ?_
 ((conv=>whnf)<;>repeat(with_reducible refine D1 ?_)<;>conv=>whnf)
 refine ⟨fun k f o c => ∃ i : Nat, i ≤ l.length ∧ k = l.length - i ∧ c = 0 ∧ f = [(0, .sl 1 (l.map encU1) false), (3, .s (.int .u64 (numL (l.take i)))), (4, .s (.int .i64 i))] ∧ o = [], ⟨l.length, ?_⟩, ?_⟩
 ·exact ⟨[], [], _, _, _, t3, ⟨0, Nat.zero_le _, rfl, rfl, rfl, rfl⟩⟩
 ·rintro k f1 o1 c1 ⟨i, hi, rfl, rfl, rfl, rfl⟩
  ((conv=>whnf)<;>repeat(with_reducible refine D1 ?_)<;>conv=>whnf)
  (first|refine ⟨?_,?_⟩|refine nsplit ?_ ?_|refine bsplit ?_ ?_)<;>intro h<;>have hz_:=True.intro<;>clear hz_
  ·have h : i < l.length := lenlt.1 h
   ((conv=>whnf)<;>repeat(with_reducible refine D1 ?_)<;>conv=>whnf)
   refine idxI h ?_
   ((conv=>whnf)<;>repeat(with_reducible refine D1 ?_)<;>conv=>whnf)
   refine ⟨l.length - (i + 1), ?_, by omega⟩
   refine ⟨[], [], ?_⟩
   iterate 3 constructor
   refine ⟨⟨?_, ?_, ?_⟩, ⟨i + 1, h, rfl, rfl, rfl, rfl⟩⟩
   all_goals (repeat' first|with_reducible exact Lz.rfl|exact Lw.rfl|exact Lz.wrap (by omega)|(unfold goInt;with_reducible exact Lz.rfl)|exact flx _|constructor)
   all_goals exact Lz.int (by
    rw [take_snoc l i h, numL_snoc, ← num_eq]
    simp only [IntKind.wrap_u64]
    omega)
  ·have hi' : i = l.length := by have := mt lenlt.2 h
                                 omega
   subst hi'
   rw [List.take_length]
   ((conv=>whnf)<;>repeat(with_reducible refine D1 ?_)<;>conv=>whnf)
   exact ⟨[], [], _, _, _, t3, rfl, rfl, rfl⟩
theorem upto_ok (s : InS) (w : Nat) (m : Int) (h1 : 1 ≤ w) (h8 : w ≤ 8) (hb : ∀ x ∈ s.b, 0 ≤ x ∧ x < 256) : VC (E0 mx) 65 1 [.ptr 0 0, .s (.int .i64 w), .s (.int .u64 m)] [(0, InO s)] (RR (.s (.int .u64 (s.upto w m).2)) 1 [(0, InO (s.upto w m).1)]) := by
 have hnx := next_ok (mx := mx) s w (by omega)
 have hnb := (InS.next_bytes (n := w) hb).2
 have hnl := fun l => InS.next_len (s := s) (n := w) (l := l)
 have hne : s.e ≠ 0 → s.upto w m = (s, 0) := fun h => by unfold InS.upto InS.next; rw [if_pos h]
 have hun : ∀ s', s.next w = (s', none) → s.upto w m = (s', 0) := fun s' h => by unfold InS.upto; rw [h]
 have hus : ∀ s' b, s.next w = (s', some b) → s'.e = 0 ∧ s.upto w m = if numL b > m then (⟨[], 4⟩, 0) else (s', numL b) := fun s' b h => by
  refine ⟨?_, by unfold InS.upto; rw [h]⟩
  unfold InS.next at h
  split at h
  ·cases h
  ·split at h
   ·cases h
   ·cases h; rfl
 refine VC.enterR (L0 mx) (show (E0 mx).func 65 = some Tryd.f65 by kernel_rfl) (fun _ _ => rfl) rfl rfl [] ?_
 ((conv=>whnf)<;>repeat(with_reducible refine D1 ?_)<;>conv=>whnf)
 (first|refine ⟨?_,?_⟩|refine nsplit ?_ ?_|refine bsplit ?_ ?_)<;>intro h<;>have hz_:=True.intro<;>clear hz_
 ·have h : s.e ≠ 0 := h
  rw [hne h]
  ((conv=>whnf)<;>repeat(with_reducible refine D1 ?_)<;>conv=>whnf)
  exact ⟨[], [some 0], _, _, _, t3, rfl, rfl, rfl⟩
 ·((conv=>whnf)<;>repeat(with_reducible refine D1 ?_)<;>conv=>whnf)
  refine ⟨[], [], _, _, _, _, known_ok w h1 h8, t3, ?_⟩
  rintro r o' c' ⟨rfl, rfl, rfl⟩
  ((conv=>whnf)<;>repeat(with_reducible refine D1 ?_)<;>conv=>whnf)
  generalize hx : s.next w = q at hnx hnb hnl
  obtain ⟨s', r⟩ := q
  cases r with
  | none =>
   rw [hun s' hx]
   refine ⟨[], [some 0], _, _, _, _, hnx, t3, ?_⟩
   rintro r o' c' ⟨rfl, rfl, rfl⟩
   ((conv=>whnf)<;>repeat(with_reducible refine D1 ?_)<;>conv=>whnf)
   exact ⟨[], [some 0], _, _, _, t3, rfl, rfl, rfl⟩
  | some b =>
   obtain ⟨h0, hu⟩ := hus s' b hx
   have hl := hnl b rfl
   rw [hu]
   refine ⟨[], [some 0], _, _, _, _, hnx, t3, ?_⟩
   rintro r o' c' ⟨rfl, rfl, rfl⟩
   ((conv=>whnf)<;>repeat(with_reducible refine D1 ?_)<;>conv=>whnf)
   refine ⟨[], [], _, _, _, _, number_ok b (by omega) (hnb b rfl), t3, ?_⟩
   rintro r o' c' ⟨rfl, rfl, rfl⟩
   ((conv=>whnf)<;>repeat(with_reducible refine D1 ?_)<;>conv=>whnf)
   (first|refine ⟨?_,?_⟩|refine nsplit ?_ ?_|refine bsplit ?_ ?_)<;>intro hm<;>have hz_:=True.intro<;>clear hz_
   ·have hm : numL b > m := hm
    rw [if_pos hm]
    ((conv=>whnf)<;>repeat(with_reducible refine D1 ?_)<;>conv=>whnf)
    have hf := inFail_ok (mx := mx) s' 4
    rw [if_pos h0] at hf
    refine ⟨[], [some 0], _, _, _, _, hf, t3, ?_⟩
    rintro r o' c' ⟨rfl, rfl, rfl⟩
    ((conv=>whnf)<;>repeat(with_reducible refine D1 ?_)<;>conv=>whnf)
    exact ⟨[], [some 0], _, _, _, t3, rfl, rfl, rfl⟩
   ·have hm : ¬ numL b > m := hm
    rw [if_neg hm]
    ((conv=>whnf)<;>repeat(with_reducible refine D1 ?_)<;>conv=>whnf)
    exact ⟨[], [some 0], _, _, _, t3, rfl, rfl, rfl⟩
theorem get_ok (s : InS) (w : Nat) (h1 : 1 ≤ w) (h8 : w ≤ 8) (hb : ∀ x ∈ s.b, 0 ≤ x ∧ x < 256) : VC (E0 mx) 46 1 [.ptr 0 0, .s (.int .i64 w)] [(0, InO s)] (RR (.s (.int .u64 (s.get w).2)) 1 [(0, InO (s.get w).1)]) := by
 refine VC.enterR (L0 mx) (show (E0 mx).func 46 = some Tryd.f46 by kernel_rfl) (fun _ _ => rfl) rfl rfl [] ?_
 ((conv=>whnf)<;>repeat(with_reducible refine D1 ?_)<;>conv=>whnf)
 refine ⟨[], [some 0], _, _, _, _, upto_ok s w 18446744073709551615 h1 h8 hb, t3, ?_⟩
 rintro r o' c' ⟨rfl, rfl, rfl⟩
 ((conv=>whnf)<;>repeat(with_reducible refine D1 ?_)<;>conv=>whnf)
 exact ⟨[], [some 0], _, _, _, t3, rfl, rfl, rfl⟩
end Go.M
namespace Go.M
open Go Go.Proofs
set_option maxRecDepth 100000
set_option maxHeartbeats 4000000
variable {mx : Int}
theorem raw_ok (s : InS) (n : Nat) (hn : n < 1000000) : VC (E0 mx) 44 1 [.ptr 0 0, .s (.int .i64 n)] [(0, InO s)] (RR (.sl 1 (((s.raw n).2).map encU1) false) 1 [(0, InO (s.raw n).1)]) := by
 have hx := next_ok (mx := mx) s n hn
 have hl := fun l => InS.next_len (s := s) (n := n) (l := l)
 have e : s.raw n = ((s.next n).1, ((s.next n).2).getD []) := rfl
 rw [e]
 generalize s.next n = q at hx hl
 obtain ⟨s', r⟩ := q
 have hm : (if (0 : Int) > (n : Int) then 0 else (n : Int)) = n := if_neg (by omega)
 refine VC.enterR (L0 mx) (show (E0 mx).func 44 = some Tryd.f44 by kernel_rfl) (fun _ _ => rfl) rfl rfl [] ?_
 ((conv=>whnf)<;>repeat(with_reducible refine D1 ?_)<;>conv=>whnf)
 (first|refine ⟨?_,?_⟩|refine nsplit ?_ ?_|refine bsplit ?_ ?_)<;>intro h<;>have hz_:=True.intro<;>clear hz_
 ·exact absurd h (by show ¬ (n : Int) < 0; omega)
 ((conv=>whnf)<;>repeat(with_reducible refine D1 ?_)<;>conv=>whnf)
 refine ⟨[], [some 0], _, _, _, _, hx, ⟨by ((repeat' first|with_reducible exact Lz.rfl|exact Lw.rfl|exact Lz.wrap (by omega)|(unfold goInt;with_reducible exact Lz.rfl)|exact flx _|constructor); all_goals (exact Lz.int hm)), by ((repeat' first|with_reducible exact Lz.rfl|exact Lw.rfl|exact Lz.wrap (by omega)|(unfold goInt;with_reducible exact Lz.rfl)|exact flx _|constructor); all_goals (exact Lz.int hm)), by rfl⟩, ?_⟩
 rintro r o' c' ⟨rfl, rfl, rfl⟩
 ((conv=>whnf)<;>repeat(with_reducible refine D1 ?_)<;>conv=>whnf)
 cases r with
 | none =>
  ((conv=>whnf)<;>repeat(with_reducible refine D1 ?_)<;>conv=>whnf)
  exact ⟨[], [some 0], _, _, _, t3, rfl, rfl, rfl⟩
 | some l =>
  ((conv=>whnf)<;>repeat(with_reducible refine D1 ?_)<;>conv=>whnf)
  refine ⟨[], [], _, _, _, _, cloneB_ok l (by have := hl l rfl; omega), t3, ?_⟩
  rintro r o' c' ⟨rfl, rfl, rfl⟩
  ((conv=>whnf)<;>repeat(with_reducible refine D1 ?_)<;>conv=>whnf)
  exact ⟨[], [some 0], _, _, _, t3, rfl, rfl, rfl⟩
theorem nextNil_ok (n : Int) : VC (E0 mx) 64 0 [nilP, .s (.int .i64 n)] [] (RR (.tup [.sl 0 [] true, .s (.bool false)]) 0 []) := by
 refine VC.enterR (L0 mx) (show (E0 mx).func 64 = some Tryd.f64 by kernel_rfl) (fun _ _ => rfl) rfl rfl [] ?_
 ((conv=>whnf)<;>repeat(with_reducible refine D1 ?_)<;>conv=>whnf)
 exact ⟨[], [], _, _, _, t3, rfl, rfl, rfl⟩
theorem rawNil_ok (n : Int) : VC (E0 mx) 44 0 [nilP, .s (.int .i64 n)] [] (RR (.sl 0 [] true) 0 []) := by
 refine VC.enterR (L0 mx) (show (E0 mx).func 44 = some Tryd.f44 by kernel_rfl) (fun _ _ => rfl) rfl rfl [] ?_
 ((conv=>whnf)<;>repeat(with_reducible refine D1 ?_)<;>conv=>whnf)
 refine ⟨[], [], _, _, _, _, nextNil_ok _, t3, ?_⟩
 rintro r o' c' ⟨rfl, rfl, rfl⟩
 ((conv=>whnf)<;>repeat(with_reducible refine D1 ?_)<;>conv=>whnf)
 exact ⟨[], [], _, _, _, t3, rfl, rfl, rfl⟩
@[reducible] def InA (s : InS) : TV := .agg [.sl 1 (s.b.map encU1) false, .s (.int .i64 s.e)]
theorem refFail_ok (s : InS) (e : Int) : VC (E0 mx) 62 0 [InA s, .s (.int .i64 e)] [] (RR (InA (if s.e = 0 then ⟨[], e⟩ else s)) 0 []) := by
 refine VC.enterR (L0 mx) (show (E0 mx).func 62 = some Tryd.f62 by kernel_rfl) (fun _ _ => rfl) rfl rfl [] ?_
 ((conv=>whnf)<;>repeat(with_reducible refine D1 ?_)<;>conv=>whnf)
 (first|refine ⟨?_,?_⟩|refine nsplit ?_ ?_|refine bsplit ?_ ?_)<;>intro h<;>have hz_:=True.intro<;>clear hz_
 ·have h : s.e ≠ 0 := h
  rw [if_neg h]
  ((conv=>whnf)<;>repeat(with_reducible refine D1 ?_)<;>conv=>whnf)
  exact ⟨[], [], _, _, _, t3, rfl, rfl, rfl⟩
 ·have h : s.e = 0 := Classical.not_not.1 h
  rw [if_pos h]
  ((conv=>whnf)<;>repeat(with_reducible refine D1 ?_)<;>conv=>whnf)
  exact ⟨[], [], _, _, _, t3, rfl, rfl, rfl⟩
theorem refRaw_ok (s : InS) (n : Nat) (hn : n < 1000000) : VC (E0 mx) 42 0 [InA s, .s (.int .i64 n)] [] (RR (.tup [InA (s.raw n).1, .sl 1 (((s.raw n).2).map encU1) false]) 0 []) := by
 refine VC.enterR (L0 mx) (show (E0 mx).func 42 = some Tryd.f42 by kernel_rfl) (fun _ _ => rfl) rfl rfl [] ?_
 ((conv=>whnf)<;>repeat(with_reducible refine D1 ?_)<;>conv=>whnf)
 (first|refine ⟨?_,?_⟩|refine nsplit ?_ ?_|refine bsplit ?_ ?_)<;>intro h<;>have hz_:=True.intro<;>clear hz_
 ·have h : s.e ≠ 0 := h
  have e : s.raw n = (s, []) := by unfold InS.raw InS.next; rw [if_pos h]; rfl
  rw [e]
  ((conv=>whnf)<;>repeat(with_reducible refine D1 ?_)<;>conv=>whnf)
  exact ⟨[], [], _, _, _, t3, rfl, rfl, rfl⟩
 ·have h : ¬ s.e ≠ 0 := h
  have h0 : s.e = 0 := by omega
  ((conv=>whnf)<;>repeat(with_reducible refine D1 ?_)<;>conv=>whnf)
  (first|refine ⟨?_,?_⟩|refine nsplit ?_ ?_|refine bsplit ?_ ?_)<;>intro h1<;>have hz_:=True.intro<;>clear hz_
  ·exact absurd h1 (by show ¬ (n : Int) < 0; omega)
  ((conv=>whnf)<;>repeat(with_reducible refine D1 ?_)<;>conv=>whnf)
  (first|refine ⟨?_,?_⟩|refine nsplit ?_ ?_|refine bsplit ?_ ?_)<;>intro h2<;>have hz_:=True.intro<;>clear hz_
  ·have h2 : s.b.length < n := by have : (n : Int) > (((s.b.map encU1).length : Nat) : Int) := h2
                                  rw [List.length_map] at this; omega
   have e : s.raw n = (⟨[], 3⟩, []) := by unfold InS.raw InS.next; rw [if_neg h, if_pos h2]; rfl
   have hf := refFail_ok (mx := mx) s 3
   rw [if_pos h0] at hf
   rw [e]
   ((conv=>whnf)<;>repeat(with_reducible refine D1 ?_)<;>conv=>whnf)
   refine ⟨[], [], _, _, _, _, hf, t3, ?_⟩
   rintro r o' c' ⟨rfl, rfl, rfl⟩
   ((conv=>whnf)<;>repeat(with_reducible refine D1 ?_)<;>conv=>whnf)
   exact ⟨[], [], _, _, _, t3, rfl, rfl, rfl⟩
  ·have h2 : ¬ s.b.length < n := by have : ¬ (n : Int) > (((s.b.map encU1).length : Nat) : Int) := h2
                                    rw [List.length_map] at this; omega
   have e : s.raw n = (⟨s.b.drop n, 0⟩, s.b.take n) := by unfold InS.raw InS.next; rw [if_neg h, if_neg h2]; rfl
   rw [e]
   ((conv=>whnf)<;>repeat(with_reducible refine D1 ?_)<;>conv=>whnf)
   refine ⟨by simp; omega, ?_⟩
   ((conv=>whnf)<;>repeat(with_reducible refine D1 ?_)<;>conv=>whnf)
   refine ⟨by simp; omega, ?_⟩
   ((conv=>whnf)<;>repeat(with_reducible refine D1 ?_)<;>conv=>whnf)
   refine ⟨[], [], ?_⟩
   iterate 3 constructor
   refine ⟨⟨?_, ?_, ?_⟩, rfl, rfl, rfl⟩
   all_goals (repeat' first|with_reducible exact Lz.rfl|exact Lw.rfl|exact Lz.wrap (by omega)|(unfold goInt;with_reducible exact Lz.rfl)|exact flx _|constructor)
   all_goals first
    | exact Lz.int h0
    | (refine Lz.of ?_; simp; done)
    | (refine Lz.of ?_; rw [Int.toNat_natCast, Int.toNat_natCast, List.take_of_length_le (by simp), List.map_drop])
    | (refine Lw.of ?_; rw [Int.toNat_natCast, Int.toNat_natCast, List.take_of_length_le (by simp), List.map_drop])
end Go.M
namespace Go.M
open Go Go.Proofs
set_option maxRecDepth 100000
set_option maxHeartbeats 4000000
variable {mx : Int}
theorem same01_ok (l m : List Int) (hl : l.length < 1000000) : VC (E0 mx) 18 0 [.sl 1 (l.map encU1) false, .sl 1 (m.map encU1) false] [] (RR (.s (.bool (eqB l m))) 0 []) := by
 refine VC.enterR (L0 mx) (show (E0 mx).func 18 = some Tryd.f18 by kernel_rfl) (fun _ _ => rfl) rfl rfl [] ?_
 ((conv=>whnf)<;>repeat(with_reducible refine D1 ?_)<;>conv=>whnf)
 (first|refine ⟨?_,?_⟩|refine nsplit ?_ ?_|refine bsplit ?_ ?_)<;>intro hlm<;>have hz_:=True.intro<;>clear hz_
 ·((conv=>whnf)<;>repeat(with_reducible refine D1 ?_)<;>conv=>whnf)
  refine ⟨[], [], ?_⟩
  iterate 3 constructor
  refine ⟨⟨?_, ?_, ?_⟩, rfl, rfl, rfl⟩
  all_goals (repeat' first|with_reducible exact Lz.rfl|exact Lw.rfl|exact Lz.wrap (by omega)|(unfold goInt;with_reducible exact Lz.rfl)|exact flx _|constructor)
  refine Lz.of (bool_eq (Eq.symm (eqB_false.2 fun e => hlm (by subst e; rfl))))
 ·have hlm : l.length = m.length := by simp at hlm; omega
  ((conv=>whnf)<;>repeat(with_reducible refine D1 ?_)<;>conv=>whnf)
  refine ⟨fun k f o c => ∃ i : Nat, i ≤ l.length ∧ k = l.length - i ∧ l.take i = m.take i ∧ c = 0 ∧ f = [(0, .sl 1 (l.map encU1) false), (1, .sl 1 (m.map encU1) false), (5, .s (.int .i64 i))] ∧ o = [], ⟨l.length, ?_⟩, ?_⟩
  ·exact ⟨[], [], _, _, _, t3, ⟨0, Nat.zero_le _, rfl, rfl, rfl, rfl, rfl⟩⟩
  ·rintro k f1 o1 c1 ⟨i, hi, rfl, ht, rfl, rfl, rfl⟩
   ((conv=>whnf)<;>repeat(with_reducible refine D1 ?_)<;>conv=>whnf)
   (first|refine ⟨?_,?_⟩|refine nsplit ?_ ?_|refine bsplit ?_ ?_)<;>intro h<;>have hz_:=True.intro<;>clear hz_
   ·have h : i < l.length := lenlt.1 h
    have h2 : i < m.length := by omega
    ((conv=>whnf)<;>repeat(with_reducible refine D1 ?_)<;>conv=>whnf)
    refine idxI h ?_
    ((conv=>whnf)<;>repeat(with_reducible refine D1 ?_)<;>conv=>whnf)
    refine idxI h2 ?_
    ((conv=>whnf)<;>repeat(with_reducible refine D1 ?_)<;>conv=>whnf)
    (first|refine ⟨?_,?_⟩|refine nsplit ?_ ?_|refine bsplit ?_ ?_)<;>intro hv<;>have hz_:=True.intro<;>clear hz_
    ·have hv : l[i] ≠ m[i] := hv
     ((conv=>whnf)<;>repeat(with_reducible refine D1 ?_)<;>conv=>whnf)
     refine ⟨[], [], ?_⟩
     iterate 3 constructor
     refine ⟨⟨?_, ?_, ?_⟩, rfl, rfl, rfl⟩
     all_goals (repeat' first|with_reducible exact Lz.rfl|exact Lw.rfl|exact Lz.wrap (by omega)|(unfold goInt;with_reducible exact Lz.rfl)|exact flx _|constructor)
     refine Lz.of (bool_eq (Eq.symm (eqB_false.2 fun e => hv (by subst e; rfl))))
    ·have hv : l[i] = m[i] := Classical.not_not.1 hv
     ((conv=>whnf)<;>repeat(with_reducible refine D1 ?_)<;>conv=>whnf)
     refine ⟨l.length - (i + 1), ?_, by omega⟩
     exact ⟨[], [], _, _, _, t3, ⟨i + 1, h, rfl, by rw [take_snoc l i h, take_snoc m i h2, ht, hv], rfl, rfl, rfl⟩⟩
   ·have h : ¬ i < l.length := mt lenlt.2 h
    ((conv=>whnf)<;>repeat(with_reducible refine D1 ?_)<;>conv=>whnf)
    refine ⟨[], [], ?_⟩
    iterate 3 constructor
    refine ⟨⟨?_, ?_, ?_⟩, rfl, rfl, rfl⟩
    all_goals (repeat' first|with_reducible exact Lz.rfl|exact Lw.rfl|exact Lz.wrap (by omega)|(unfold goInt;with_reducible exact Lz.rfl)|exact flx _|constructor)
    refine Lz.of (bool_eq (Eq.symm (eqB_iff.2 ?_)))
    rw [← List.take_of_length_le (Nat.not_lt.1 h), ht, List.take_of_length_le (by omega)]
theorem cut_ok (l : List Int) (n : Nat) : VC (E0 mx) 19 0 [.sl 1 (l.map encU1) false, .s (.int .i64 n)] [] (RR (.sl 1 ((l.take n).map encU1) false) 0 []) := by
 refine VC.enterR (L0 mx) (show (E0 mx).func 19 = some Tryd.f19 by kernel_rfl) (fun _ _ => rfl) rfl rfl [] ?_
 ((conv=>whnf)<;>repeat(with_reducible refine D1 ?_)<;>conv=>whnf)
 (first|refine ⟨?_,?_⟩|refine nsplit ?_ ?_|refine bsplit ?_ ?_)<;>intro h<;>have hz_:=True.intro<;>clear hz_
 ·have h : l.length > n := by have : (((l.map encU1).length : Nat) : Int) > n := h
                              rw [List.length_map] at this; omega
  ((conv=>whnf)<;>repeat(with_reducible refine D1 ?_)<;>conv=>whnf)
  refine ⟨by simp; omega, ?_⟩
  ((conv=>whnf)<;>repeat(with_reducible refine D1 ?_)<;>conv=>whnf)
  refine ⟨[], [], ?_⟩
  iterate 3 constructor
  refine ⟨⟨?_, ?_, ?_⟩, rfl, rfl, rfl⟩
  all_goals (repeat' first|with_reducible exact Lz.rfl|exact Lw.rfl|exact Lz.wrap (by omega)|(unfold goInt;with_reducible exact Lz.rfl)|exact flx _|constructor)
  refine Lz.of ?_
  rw [Int.toNat_natCast, List.map_take]
  rfl
 ·have h : ¬ l.length > n := by have : ¬ (((l.map encU1).length : Nat) : Int) > n := h
                                rw [List.length_map] at this; omega
  ((conv=>whnf)<;>repeat(with_reducible refine D1 ?_)<;>conv=>whnf)
  refine ⟨[], [], ?_⟩
  iterate 3 constructor
  refine ⟨⟨?_, ?_, ?_⟩, rfl, rfl, rfl⟩
  all_goals (repeat' first|with_reducible exact Lz.rfl|exact Lw.rfl|exact Lz.wrap (by omega)|(unfold goInt;with_reducible exact Lz.rfl)|exact flx _|constructor)
  exact Lz.of (by rw [List.take_of_length_le (by omega)])
theorem refPut_ok (n w : Nat) (h1 : 1 ≤ w) (h8 : w ≤ 8) (hn : n < 256 ^ w) : VC (E0 mx) 61 0 [.s (.int .u64 n), .s (.int .i64 w)] [] (RR (.tup [.sl 1 ((bigL w n).map encU1) false, .s (.int .i64 0)]) 0 []) := by
 refine VC.enterR (L0 mx) (show (E0 mx).func 61 = some Tryd.f61 by kernel_rfl) (fun _ _ => rfl) rfl rfl [] ?_
 ((conv=>whnf)<;>repeat(with_reducible refine D1 ?_)<;>conv=>whnf)
 (first|refine ⟨?_,?_⟩|refine nsplit ?_ ?_|refine bsplit ?_ ?_)<;>intro ha<;>have hz_:=True.intro<;>clear hz_
 ·exact absurd ha (by show ¬ (w : Int) < 1; omega)
 ((conv=>whnf)<;>repeat(with_reducible refine D1 ?_)<;>conv=>whnf)
 (first|refine ⟨?_,?_⟩|refine nsplit ?_ ?_|refine bsplit ?_ ?_)<;>intro hb<;>have hz_:=True.intro<;>clear hz_
 ·exact absurd hb (by show ¬ (w : Int) > 8; omega)
 ((conv=>whnf)<;>repeat(with_reducible refine D1 ?_)<;>conv=>whnf)
 refine ⟨fun k f o c => ∃ i : Nat, i ≤ w ∧ k = w - i ∧ c = 1 ∧ f = [(0, .s (.int .u64 ((n / 256 ^ i : Nat) : Int))), (1, .s (.int .i64 w)), (6, .tk 0), (7, .s (.int .i64 i))] ∧ o = [(0, .arr 1 true ((bigL i n).map encU1))], ⟨w, ?_⟩, ?_⟩
 ·refine ⟨[], [none], ?_⟩
  iterate 3 constructor
  refine ⟨⟨?_, ?_, ?_⟩, ⟨0, Nat.zero_le _, rfl, rfl, rfl, rfl⟩⟩
  all_goals (repeat' first|with_reducible exact Lz.rfl|exact Lw.rfl|exact Lz.wrap (by omega)|(unfold goInt;with_reducible exact Lz.rfl)|exact flx _|constructor)
  all_goals exact Lz.int (by simp)
 ·rintro k f1 o1 c1 ⟨i, hi, rfl, rfl, rfl, rfl⟩
  ((conv=>whnf)<;>repeat(with_reducible refine D1 ?_)<;>conv=>whnf)
  (first|refine ⟨?_,?_⟩|refine nsplit ?_ ?_|refine bsplit ?_ ?_)<;>intro h<;>have hz_:=True.intro<;>clear hz_
  ·have h : i < w := by have : (i : Int) < w := h
                        omega
   ((conv=>whnf)<;>repeat(with_reducible refine D1 ?_)<;>conv=>whnf)
   refine ⟨by simp [bigL_len]; omega, ?_⟩
   ((conv=>whnf)<;>repeat(with_reducible refine D1 ?_)<;>conv=>whnf)
   refine ⟨w - (i + 1), ?_, by omega⟩
   refine ⟨[], [some 2], ?_⟩
   iterate 3 constructor
   refine ⟨⟨?_, ?_, ?_⟩, ⟨i + 1, h, rfl, rfl, rfl, rfl⟩⟩
   all_goals (repeat' first|with_reducible exact Lz.rfl|exact Lw.rfl|exact Lz.wrap (by omega)|(unfold goInt;with_reducible exact Lz.rfl)|exact flx _|constructor)
   ·refine Lz.int ?_
    have h64 : n < 18446744073709551616 := Nat.lt_of_lt_of_le hn (Nat.le_trans (Nat.pow_le_pow_right (by decide) h8) (by decide))
    have hle : n / 256 ^ i ≤ n := Nat.div_le_self _ _
    rw [Nat.pow_succ, ← Nat.div_div_eq_div_mul]
    generalize n / 256 ^ i = q at hle
    rw [IntKind.wrap_u64, Int.tdiv_eq_ediv_of_nonneg (by omega)]
    omega
   ·first | refine Lw.of ?_ | refine Lz.of ?_
    rw [bigL_cons]
    generalize n / 256 ^ i = q
    rw [IntKind.wrap_u8, Int.tmod_eq_emod_of_nonneg (by omega)]
    show _ :: _ = [TV.s (Value.int IntKind.u8 ((q % 256 : Nat) : Int))] :: _
    have e : ((q : Int) % 256 % 256) = ((q % 256 : Nat) : Int) := by omega
    rw [e]
    rfl
  ·have hi' : i = w := by have : ¬ (i : Int) < w := h
                          omega
   subst hi'
   have h0 : n / 256 ^ i = 0 := Nat.div_eq_of_lt hn
   ((conv=>whnf)<;>repeat(with_reducible refine D1 ?_)<;>conv=>whnf)
   (first|refine ⟨?_,?_⟩|refine nsplit ?_ ?_|refine bsplit ?_ ?_)<;>intro hc<;>have hz_:=True.intro<;>clear hz_
   ·exact absurd hc (by show ¬ ((n / 256 ^ i : Nat) : Int) > 0; omega)
   ((conv=>whnf)<;>repeat(with_reducible refine D1 ?_)<;>conv=>whnf)
   exact ⟨[0], [], _, _, _, t3, rfl, rfl, rfl⟩
theorem big_ok (n w : Nat) (h1 : 1 ≤ w) (h8 : w ≤ 8) (hn : n < 256 ^ w) : VC (E0 mx) 40 0 [.s (.int .u64 n), .s (.int .i64 w)] [] (RR (.sl 1 ((bigL w n).map encU1) false) 0 []) := by
 refine VC.enterR (L0 mx) (show (E0 mx).func 40 = some Tryd.f40 by kernel_rfl) (fun _ _ => rfl) rfl rfl [] ?_
 ((conv=>whnf)<;>repeat(with_reducible refine D1 ?_)<;>conv=>whnf)
 refine ⟨[], [], _, _, _, _, refPut_ok n w h1 h8 hn, t3, ?_⟩
 rintro r o' c' ⟨rfl, rfl, rfl⟩
 ((conv=>whnf)<;>repeat(with_reducible refine D1 ?_)<;>conv=>whnf)
 exact ⟨[], [], _, _, _, t3, rfl, rfl, rfl⟩
end Go.M
namespace Go.M
open Go Go.Proofs
set_option maxRecDepth 100000
set_option maxHeartbeats 4000000
variable {mx : Int}
def noCmd : Cmd := ⟨0, 0, 0, 0⟩
theorem Cmd.range {c : Cmd} (he : 0 ≤ c.epoch) (h : c.check = 0) : (0 ≤ c.kind ∧ c.kind < 5) ∧ (0 ≤ c.chain ∧ c.chain < 4) ∧ 0 ≤ c.node ∧ c.node ≤ 24 := by
 unfold Cmd.check checkS at h
 split at h
 ·omega
 ·split at h
  ·split at h
   ·omega
   ·omega
  ·split at h
   ·omega
   ·omega
def cmdB (c : Cmd) : List Int := [c.kind, c.chain] ++ bigL 8 c.epoch.toNat ++ [c.node]
theorem cmdB_len (c : Cmd) : (cmdB c).length = 11 := by unfold cmdB; simp [bigL_len]
theorem cmdB_byte {c : Cmd} (he : 0 ≤ c.epoch) (h : c.check = 0) : ∀ x ∈ cmdB c, 0 ≤ x ∧ x < 256 := by
 obtain ⟨h1, h2, h3⟩ := Cmd.range he h
 intro x hx
 unfold cmdB at hx
 simp only [List.mem_append, List.mem_cons, List.mem_singleton, List.not_mem_nil, or_false] at hx
 rcases hx with ((hx | hx) | hx) | hx
 ·subst hx; omega
 ·subst hx; omega
 ·exact bigL_byte _ _ x hx
 ·subst hx; omega
def ofB (b : List Int) : Cmd := ⟨b.getD 0 0, b.getD 1 0, numL ((b.drop 2).take 8), b.getD 10 0⟩
theorem ofB_epoch (b : List Int) : 0 ≤ (ofB b).epoch ∧ (ofB b).epoch < 18446744073709551616 := numL_range _
structure GetR where
 s : InS
 c : Cmd
 e : Int
def getCmd (s : InS) : GetR := if (s.raw 11).1.e ≠ 0 then ⟨(s.raw 11).1, noCmd, (s.raw 11).1.e⟩ else if (ofB (s.raw 11).2).check ≠ 0 then ⟨(s.raw 11).1, noCmd, 4⟩ else ⟨(s.raw 11).1, ofB (s.raw 11).2, 0⟩
theorem raw11 {s : InS} (h : (s.raw 11).1.e = 0) : (s.raw 11).2.length = 11 ∧ s.e = 0 ∧ (s.raw 11) = (⟨s.b.drop 11, 0⟩, s.b.take 11) := by
 unfold InS.raw InS.next at h ⊢
 split at h
 ·rename_i h1; exact absurd h h1
 ·split at h
  ·exact absurd h (by show (3 : Int) ≠ 0; decide)
  ·rename_i h1 h2
   rw [if_neg h1, if_neg h2]
   refine ⟨?_, by omega, rfl⟩
   show (s.b.take 11).length = 11
   rw [List.length_take]; omega
theorem InS.get_cons (x : Int) (r : List Int) (hx : 0 ≤ x ∧ x < 256) : (InS.mk (x :: r) 0).get 1 = (⟨r, 0⟩, x) := by
 have hn : numL [x] = x := by
  show (0 * 256 + x) % 18446744073709551616 = x
  omega
 have := InS.upto_app [x] r 18446744073709551615 (by rw [hn]; omega)
 rw [hn] at this
 exact this
theorem read11 (b : List Int) (hl : b.length = 11) (hb : ∀ x ∈ b, 0 ≤ x ∧ x < 256) : ∃ r1 r2 r3 : List Int, (InS.mk b 0).get 1 = (⟨r1, 0⟩, (ofB b).kind) ∧ (InS.mk r1 0).get 1 = (⟨r2, 0⟩, (ofB b).chain) ∧ (InS.mk r2 0).get 8 = (⟨r3, 0⟩, (ofB b).epoch) ∧ (InS.mk r3 0).get 1 = (⟨[], 0⟩, (ofB b).node) ∧
 (∀ x ∈ r1, 0 ≤ x ∧ x < 256) ∧ (∀ x ∈ r2, 0 ≤ x ∧ x < 256) ∧ (∀ x ∈ r3, 0 ≤ x ∧ x < 256) := by
 match b, hl with
 | [b0, b1, b2, b3, b4, b5, b6, b7, b8, b9, b10], _ =>
  refine ⟨[b1, b2, b3, b4, b5, b6, b7, b8, b9, b10], [b2, b3, b4, b5, b6, b7, b8, b9, b10], [b10], InS.get_cons _ _ (hb _ (by simp)), InS.get_cons _ _ (hb _ (by simp)), ?_, InS.get_cons _ _ (hb _ (by simp)), fun x hx => hb x (List.mem_cons_of_mem _ hx), fun x hx => hb x (List.mem_cons_of_mem _ (List.mem_cons_of_mem _ hx)), fun x hx => hb x (by simp at hx; subst hx; simp)⟩
  have := InS.upto_app [b2, b3, b4, b5, b6, b7, b8, b9] [b10] 18446744073709551615 (by have := (numL_range [b2, b3, b4, b5, b6, b7, b8, b9]).2; omega)
  exact this
theorem wrapI {n : Int} (h : 0 ≤ n ∧ n < 256) : IntKind.i64.wrap n = n := IntWalk.i64_in _ (by omega)
theorem wrapU {n : Int} (h : 0 ≤ n ∧ n < 18446744073709551616) : IntKind.u64.wrap n = ((n.toNat : Nat) : Int) := by rw [IntKind.wrap_u64]; omega
theorem wrap8 {n : Int} (h : 0 ≤ n ∧ n < 256) : IntKind.u8.wrap n = n := by rw [IntKind.wrap_u8]; omega
def OutS.cmd (s : OutS) (c : Cmd) : OutS := (((s.num c.kind.toNat 1).num c.chain.toNat 1).num c.epoch.toNat 8).num c.node.toNat 1
theorem OutS.num_len (s : OutS) (n w : Nat) : (s.num n w).b.length ≤ s.b.length + w := by
 unfold OutS.num OutS.put OutS.fail
 split
 ·split
  ·omega
  ·split
   ·show s.b.length ≤ _; omega
   ·simp [bigL_len]
 ·split <;> simp
theorem OutS.num_in' {b : List Int} {m : Int} {n w : Nat} (hn : n < 256 ^ w) (hl : (b.length : Int) + w ≤ m) : OutS.num ⟨b, m, 0⟩ n w = ⟨b ++ bigL w n, m, 0⟩ := by
 unfold OutS.num OutS.put
 rw [if_pos hn, if_neg (by simp), if_neg (by rw [bigL_len]; show ¬ (w : Int) > m - (b.length : Int); omega)]
theorem big1 {n : Int} (h : 0 ≤ n ∧ n < 256) : bigL 1 n.toNat = [n] := by
 show [] ++ [((n.toNat % 256 : Nat) : Int)] = [n]
 simp; omega
theorem OutS.cmd_in (b : List Int) (m : Int) (c : Cmd) (he : 0 ≤ c.epoch ∧ c.epoch < 18446744073709551616) (h : c.check = 0) (hl : (b.length : Int) + 11 ≤ m) : OutS.cmd ⟨b, m, 0⟩ c = ⟨b ++ cmdB c, m, 0⟩ := by
 obtain ⟨h1, h2, h3⟩ := Cmd.range he.1 h
 unfold OutS.cmd
 rw [OutS.num_in' (n := c.kind.toNat) (by omega) (by omega), OutS.num_in' (n := c.chain.toNat) (by omega) (by simp only [List.length_append, bigL_len]; omega), OutS.num_in' (n := c.epoch.toNat) (by omega) (by simp only [List.length_append, bigL_len]; omega), OutS.num_in' (n := c.node.toNat) (by omega) (by simp only [List.length_append, bigL_len]; omega)]
 rw [big1 (n := c.kind) (by omega), big1 (n := c.chain) (by omega), big1 (n := c.node) (by omega)]
 unfold cmdB
 simp
theorem put_no (s : OutS) (c : Cmd) (h : c.check ≠ 0) : VC (E0 mx) 14 1 [.ptr 0 0, cT4 c] [(0, OutO s)] (RR (.s (.int .i64 c.check)) 1 [(0, OutO s)]) := by
 refine VC.enterR (L0 mx) (show (E0 mx).func 14 = some Tryd.f14 by kernel_rfl) (fun _ _ => rfl) rfl rfl [] ?_
 ((conv=>whnf)<;>repeat(with_reducible refine D1 ?_)<;>conv=>whnf)
 refine ⟨[], [], _, _, _, _, check_ok c.kind c.chain c.epoch c.node, t3, ?_⟩
 rintro r o' c' ⟨rfl, rfl, rfl⟩
 ((conv=>whnf)<;>repeat(with_reducible refine D1 ?_)<;>conv=>whnf)
 (first|refine ⟨?_,?_⟩|refine nsplit ?_ ?_|refine bsplit ?_ ?_)<;>intro h1<;>have hz_:=True.intro<;>clear hz_
 ·((conv=>whnf)<;>repeat(with_reducible refine D1 ?_)<;>conv=>whnf)
  exact ⟨[], [some 0], _, _, _, t3, rfl, rfl, rfl⟩
 ·exact absurd (Classical.not_not.1 h1) h
theorem put_cmd (s : OutS) (c : Cmd) (hs : s.ok) (hx : s.b.length ≤ 800000) (he : 0 ≤ c.epoch ∧ c.epoch < 18446744073709551616) (h : c.check = 0) : VC (E0 mx) 14 1 [.ptr 0 0, cT4 c] [(0, OutO s)] (RR (.s (.int .i64 0)) 1 [(0, OutO (s.cmd c))]) := by
 obtain ⟨r1, r2, r3⟩ := Cmd.range he.1 h
 have hc : checkS c.kind c.chain c.epoch c.node = 0 := h
 refine VC.enterR (L0 mx) (show (E0 mx).func 14 = some Tryd.f14 by kernel_rfl) (fun _ _ => rfl) rfl rfl [] ?_
 ((conv=>whnf)<;>repeat(with_reducible refine D1 ?_)<;>conv=>whnf)
 refine ⟨[], [], _, _, _, _, check_ok c.kind c.chain c.epoch c.node, t3, ?_⟩
 rintro r o' c' ⟨rfl, rfl, rfl⟩
 ((conv=>whnf)<;>repeat(with_reducible refine D1 ?_)<;>conv=>whnf)
 (first|refine ⟨?_,?_⟩|refine nsplit ?_ ?_|refine bsplit ?_ ?_)<;>intro h1<;>have hz_:=True.intro<;>clear hz_
 ·exact absurd hc h1
 ((conv=>whnf)<;>repeat(with_reducible refine D1 ?_)<;>conv=>whnf)
 have l1 := OutS.num_len s c.kind.toNat 1
 have k1 := OutS.ok_num (n := c.kind.toNat) (w := 1) hs
 refine ⟨[], [some 0], _, _, _, _, num_ok s c.kind.toNat 1 hs (by omega) (by decide) (by decide) (by omega), ⟨by ((repeat' first|with_reducible exact Lz.rfl|exact Lw.rfl|exact Lz.wrap (by omega)|(unfold goInt;with_reducible exact Lz.rfl)|exact flx _|constructor); all_goals (exact Lz.int (wrapU (by omega)))), by ((repeat' first|with_reducible exact Lz.rfl|exact Lw.rfl|exact Lz.wrap (by omega)|(unfold goInt;with_reducible exact Lz.rfl)|exact flx _|constructor); all_goals (exact Lz.int (wrapU (by omega)))), by rfl⟩, ?_⟩
 rintro r o' c' ⟨rfl, rfl, rfl⟩
 ((conv=>whnf)<;>repeat(with_reducible refine D1 ?_)<;>conv=>whnf)
 have l2 := OutS.num_len (s.num c.kind.toNat 1) c.chain.toNat 1
 have k2 := OutS.ok_num (n := c.chain.toNat) (w := 1) k1
 refine ⟨[], [some 0], _, _, _, _, num_ok (s.num c.kind.toNat 1) c.chain.toNat 1 k1 (by omega) (by decide) (by decide) (by omega), ⟨by ((repeat' first|with_reducible exact Lz.rfl|exact Lw.rfl|exact Lz.wrap (by omega)|(unfold goInt;with_reducible exact Lz.rfl)|exact flx _|constructor); all_goals (exact Lz.int (wrapU (by omega)))), by ((repeat' first|with_reducible exact Lz.rfl|exact Lw.rfl|exact Lz.wrap (by omega)|(unfold goInt;with_reducible exact Lz.rfl)|exact flx _|constructor); all_goals (exact Lz.int (wrapU (by omega)))), by rfl⟩, ?_⟩
 rintro r o' c' ⟨rfl, rfl, rfl⟩
 ((conv=>whnf)<;>repeat(with_reducible refine D1 ?_)<;>conv=>whnf)
 have l3 := OutS.num_len ((s.num c.kind.toNat 1).num c.chain.toNat 1) c.epoch.toNat 8
 have k3 := OutS.ok_num (n := c.epoch.toNat) (w := 8) k2
 refine ⟨[], [some 0], _, _, _, _, num_ok ((s.num c.kind.toNat 1).num c.chain.toNat 1) c.epoch.toNat 8 k2 (by omega) (by decide) (by decide) (by omega), ⟨by ((repeat' first|with_reducible exact Lz.rfl|exact Lw.rfl|exact Lz.wrap (by omega)|(unfold goInt;with_reducible exact Lz.rfl)|exact flx _|constructor); all_goals (exact Lz.int (by omega))), by ((repeat' first|with_reducible exact Lz.rfl|exact Lw.rfl|exact Lz.wrap (by omega)|(unfold goInt;with_reducible exact Lz.rfl)|exact flx _|constructor); all_goals (exact Lz.int (by omega))), by rfl⟩, ?_⟩
 rintro r o' c' ⟨rfl, rfl, rfl⟩
 ((conv=>whnf)<;>repeat(with_reducible refine D1 ?_)<;>conv=>whnf)
 refine ⟨[], [some 0], _, _, _, _, num_ok (((s.num c.kind.toNat 1).num c.chain.toNat 1).num c.epoch.toNat 8) c.node.toNat 1 k3 (by omega) (by decide) (by decide) (by omega), ⟨by ((repeat' first|with_reducible exact Lz.rfl|exact Lw.rfl|exact Lz.wrap (by omega)|(unfold goInt;with_reducible exact Lz.rfl)|exact flx _|constructor); all_goals (exact Lz.int (wrapU (by omega)))), by ((repeat' first|with_reducible exact Lz.rfl|exact Lw.rfl|exact Lz.wrap (by omega)|(unfold goInt;with_reducible exact Lz.rfl)|exact flx _|constructor); all_goals (exact Lz.int (wrapU (by omega)))), by rfl⟩, ?_⟩
 rintro r o' c' ⟨rfl, rfl, rfl⟩
 ((conv=>whnf)<;>repeat(with_reducible refine D1 ?_)<;>conv=>whnf)
 exact ⟨[], [some 0], _, _, _, t3, rfl, rfl, rfl⟩
theorem bytes_ok (c : Cmd) (he : 0 ≤ c.epoch ∧ c.epoch < 18446744073709551616) (h : c.check = 0) : VC (E0 mx) 16 0 [cT4 c] [] (RR (.sl 1 ((cmdB c).map encU1) false) 0 []) := by
 obtain ⟨r1, r2, r3⟩ := Cmd.range he.1 h
 refine VC.enterR (L0 mx) (show (E0 mx).func 16 = some Tryd.f16 by kernel_rfl) (fun _ _ => rfl) rfl rfl [] ?_
 ((conv=>whnf)<;>repeat(with_reducible refine D1 ?_)<;>conv=>whnf)
 refine ⟨[], [], _, _, _, _, big_ok c.epoch.toNat 8 (by decide) (by decide) (by omega), ⟨by ((repeat' first|with_reducible exact Lz.rfl|exact Lw.rfl|exact Lz.wrap (by omega)|(unfold goInt;with_reducible exact Lz.rfl)|exact flx _|constructor); all_goals (exact Lz.int (by omega))), by ((repeat' first|with_reducible exact Lz.rfl|exact Lw.rfl|exact Lz.wrap (by omega)|(unfold goInt;with_reducible exact Lz.rfl)|exact flx _|constructor); all_goals (exact Lz.int (by omega))), by rfl⟩, ?_⟩
 rintro r o' c' ⟨rfl, rfl, rfl⟩
 ((conv=>whnf)<;>repeat(with_reducible refine D1 ?_)<;>conv=>whnf)
 refine ⟨by simp [bigL_len], ?_⟩
 ((conv=>whnf)<;>repeat(with_reducible refine D1 ?_)<;>conv=>whnf)
 refine ⟨by simp [bigL_len], ?_⟩
 ((conv=>whnf)<;>repeat(with_reducible refine D1 ?_)<;>conv=>whnf)
 refine ⟨[4], [], ?_⟩
 iterate 3 constructor
 refine ⟨⟨?_, ?_, ?_⟩, rfl, rfl, rfl⟩
 all_goals (repeat' first|with_reducible exact Lz.rfl|exact Lw.rfl|exact Lz.wrap (by omega)|(unfold goInt;with_reducible exact Lz.rfl)|exact flx _|constructor)
 all_goals (first | refine Lw.of ?_ | refine Lz.of ?_)
 all_goals (unfold cmdB; rw [wrap8 (by omega), wrap8 (by omega), wrap8 (by omega)]; simp only [List.map_append, List.map_cons, List.map_nil]; first | rfl | (simp; done))
end Go.M
namespace Go.M
open Go Go.Proofs
set_option maxRecDepth 100000
set_option maxHeartbeats 4000000
variable {mx : Int}
theorem raw_byte {s : InS} (hb : ∀ x ∈ s.b, 0 ≤ x ∧ x < 256) : ∀ x ∈ (s.raw 11).2, 0 ≤ x ∧ x < 256 := by
 unfold InS.raw
 have := (InS.next_bytes (n := 11) hb).2
 cases hq : (s.next 11).2 with
 | none => simp
 | some l => exact this l hq
theorem raw_short {s : InS} : (s.raw 11).2.length ≤ 11 := by
 unfold InS.raw
 cases hq : (s.next 11).2 with
 | none => simp
 | some l => have := InS.next_len hq; show l.length ≤ _; omega
theorem InS.get_byte {s : InS} (hb : ∀ x ∈ s.b, 0 ≤ x ∧ x < 256) : 0 ≤ (s.get 1).2 ∧ (s.get 1).2 < 256 := ⟨InS.upto_range.1, InS.get1_lt hb⟩
theorem cmdGet_ok (s : InS) (hb : ∀ x ∈ s.b, 0 ≤ x ∧ x < 256) : VC (E0 mx) 22 1 [.ptr 0 0] [(0, InO s)] (RR (.tup [cT4 (getCmd s).c, .s (.int .i64 (getCmd s).e)]) 1 [(0, InO (getCmd s).s)]) := by
 have hr := raw_ok (mx := mx) s 11 (by decide)
 have hby := raw_byte hb
 have hsh := raw_short (s := s)
 have hl := fun h => raw11 (s := s) h
 unfold getCmd
 generalize hq : s.raw 11 = q at *
 obtain ⟨t, bs⟩ := q
 dsimp only at hby hsh hl ⊢
 refine VC.enterR (L0 mx) (show (E0 mx).func 22 = some Tryd.f22 by kernel_rfl) (fun _ _ => rfl) rfl rfl [] ?_
 ((conv=>whnf)<;>repeat(with_reducible refine D1 ?_)<;>conv=>whnf)
 refine ⟨[], [some 0], _, _, _, _, hr, t3, ?_⟩
 rintro r o' c' ⟨rfl, rfl, rfl⟩
 ((conv=>whnf)<;>repeat(with_reducible refine D1 ?_)<;>conv=>whnf)
 refine ⟨[], [], _, _, _, _, of_ok bs (by omega), t3, ?_⟩
 rintro r o' c' ⟨rfl, rfl, rfl⟩
 ((conv=>whnf)<;>repeat(with_reducible refine D1 ?_)<;>conv=>whnf)
 refine ⟨[], [some 0], _, _, _, _, err_ok t, t3, ?_⟩
 rintro r o' c' ⟨rfl, rfl, rfl⟩
 ((conv=>whnf)<;>repeat(with_reducible refine D1 ?_)<;>conv=>whnf)
 (first|refine ⟨?_,?_⟩|refine nsplit ?_ ?_|refine bsplit ?_ ?_)<;>intro he<;>have hz_:=True.intro<;>clear hz_
 ·have he : t.e ≠ 0 := he
  rw [if_pos he]
  ((conv=>whnf)<;>repeat(with_reducible refine D1 ?_)<;>conv=>whnf)
  exact ⟨[], [some 0], _, _, _, t3, rfl, rfl, rfl⟩
 ·have he : ¬ t.e ≠ 0 := he
  have he0 : t.e = 0 := by omega
  rw [if_neg he]
  ((conv=>whnf)<;>repeat(with_reducible refine D1 ?_)<;>conv=>whnf)
  obtain ⟨r1, r2, r3, e1, e2, e3, e4, b1, b2, b3⟩ := read11 bs (hl he0).1 hby
  have q1 := get_ok (mx := mx) ⟨bs, 0⟩ 1 (by decide) (by decide) hby
  have q2 := get_ok (mx := mx) ⟨r1, 0⟩ 1 (by decide) (by decide) b1
  have q3 := get_ok (mx := mx) ⟨r2, 0⟩ 8 (by decide) (by decide) b2
  have q4 := get_ok (mx := mx) ⟨r3, 0⟩ 1 (by decide) (by decide) b3
  rw [e1] at q1
  rw [e2] at q2
  rw [e3] at q3
  rw [e4] at q4
  have ho := ofB_epoch bs
  have k1 : 0 ≤ (ofB bs).kind ∧ (ofB bs).kind < 256 := by
   have := e1 ▸ (InS.get_byte (s := ⟨bs, 0⟩) hby); exact this
  have k2 : 0 ≤ (ofB bs).chain ∧ (ofB bs).chain < 256 := by
   have := e2 ▸ (InS.get_byte (s := ⟨r1, 0⟩) b1); exact this
  have k4 : 0 ≤ (ofB bs).node ∧ (ofB bs).node < 256 := by
   have := e4 ▸ (InS.get_byte (s := ⟨r3, 0⟩) b3); exact this
  have hck := check_ok (mx := mx) (ofB bs).kind (ofB bs).chain (ofB bs).epoch (ofB bs).node
  have hcd : (ofB bs).check = checkS (ofB bs).kind (ofB bs).chain (ofB bs).epoch (ofB bs).node := rfl
  rw [hcd]
  generalize hc : ofB bs = c at *
  refine ⟨[], [some 3], _, _, _, _, q1, t3, ?_⟩
  rintro r o' c' ⟨rfl, rfl, rfl⟩
  ((conv=>whnf)<;>repeat(with_reducible refine D1 ?_)<;>conv=>whnf)
  refine ⟨[], [some 3], _, _, _, _, q2, t3, ?_⟩
  rintro r o' c' ⟨rfl, rfl, rfl⟩
  ((conv=>whnf)<;>repeat(with_reducible refine D1 ?_)<;>conv=>whnf)
  refine ⟨[], [some 3], _, _, _, _, q3, t3, ?_⟩
  rintro r o' c' ⟨rfl, rfl, rfl⟩
  ((conv=>whnf)<;>repeat(with_reducible refine D1 ?_)<;>conv=>whnf)
  refine ⟨[], [some 3], _, _, _, _, q4, t3, ?_⟩
  rintro r o' c' ⟨rfl, rfl, rfl⟩
  ((conv=>whnf)<;>repeat(with_reducible refine D1 ?_)<;>conv=>whnf)
  refine ⟨[], [], _, _, _, _, hck, ⟨by ((repeat' first|with_reducible exact Lz.rfl|exact Lw.rfl|exact Lz.wrap (by omega)|(unfold goInt;with_reducible exact Lz.rfl)|exact flx _|constructor); all_goals (first | exact Lz.int (wrapI k1) | exact Lz.int (wrapI k2) | exact Lz.int (wrapI k4))), by ((repeat' first|with_reducible exact Lz.rfl|exact Lw.rfl|exact Lz.wrap (by omega)|(unfold goInt;with_reducible exact Lz.rfl)|exact flx _|constructor); all_goals (first | exact Lz.int (wrapI k1) | exact Lz.int (wrapI k2) | exact Lz.int (wrapI k4))), by rfl⟩, ?_⟩
  rintro r o' c' ⟨rfl, rfl, rfl⟩
  ((conv=>whnf)<;>repeat(with_reducible refine D1 ?_)<;>conv=>whnf)
  (first|refine ⟨?_,?_⟩|refine nsplit ?_ ?_|refine bsplit ?_ ?_)<;>intro h4<;>have hz_:=True.intro<;>clear hz_
  ·have h4 : checkS c.kind c.chain c.epoch c.node ≠ 0 := h4
   rw [if_pos h4]
   ((conv=>whnf)<;>repeat(with_reducible refine D1 ?_)<;>conv=>whnf)
   exact ⟨[], [some 0], _, _, _, t3, rfl, rfl, rfl⟩
  ·have h4 : ¬ checkS c.kind c.chain c.epoch c.node ≠ 0 := h4
   rw [if_neg h4]
   ((conv=>whnf)<;>repeat(with_reducible refine D1 ?_)<;>conv=>whnf)
   refine ⟨[], [some 0], ?_⟩
   iterate 3 constructor
   refine ⟨⟨?_, ?_, ?_⟩, rfl, rfl, rfl⟩
   all_goals (repeat' first|with_reducible exact Lz.rfl|exact Lw.rfl|exact Lz.wrap (by omega)|(unfold goInt;with_reducible exact Lz.rfl)|exact flx _|constructor)
   all_goals first | exact Lz.int (wrapI k1) | exact Lz.int (wrapI k2) | exact Lz.int (wrapI k4) | exact Lz.int he0
theorem refGet_ok (s : InS) (hb : ∀ x ∈ s.b, 0 ≤ x ∧ x < 256) : VC (E0 mx) 21 0 [InA s] [] (RR (.tup [InA (getCmd s).s, cT4 (getCmd s).c, .s (.int .i64 (getCmd s).e)]) 0 []) := by
 have hr := refRaw_ok (mx := mx) s 11 (by decide)
 have hby := raw_byte hb
 have hl := fun h => raw11 (s := s) h
 unfold getCmd
 generalize hq : s.raw 11 = q at *
 obtain ⟨t, bs⟩ := q
 dsimp only at hby hl ⊢
 refine VC.enterR (L0 mx) (show (E0 mx).func 21 = some Tryd.f21 by kernel_rfl) (fun _ _ => rfl) rfl rfl [] ?_
 ((conv=>whnf)<;>repeat(with_reducible refine D1 ?_)<;>conv=>whnf)
 refine ⟨[], [], _, _, _, _, hr, t3, ?_⟩
 rintro r o' c' ⟨rfl, rfl, rfl⟩
 ((conv=>whnf)<;>repeat(with_reducible refine D1 ?_)<;>conv=>whnf)
 (first|refine ⟨?_,?_⟩|refine nsplit ?_ ?_|refine bsplit ?_ ?_)<;>intro he<;>have hz_:=True.intro<;>clear hz_
 ·have he : t.e ≠ 0 := he
  rw [if_pos he]
  ((conv=>whnf)<;>repeat(with_reducible refine D1 ?_)<;>conv=>whnf)
  exact ⟨[], [], _, _, _, t3, rfl, rfl, rfl⟩
 ·have he : ¬ t.e ≠ 0 := he
  have he0 : t.e = 0 := by omega
  rw [if_neg he]
  obtain ⟨hl11, _, _⟩ := hl he0
  have ho := ofB_epoch bs
  match bs, hl11 with
  | [b0, b1, b2, b3, b4, b5, b6, b7, b8, b9, b10], _ =>
   have k1 := hby b0 (by simp)
   have k2 := hby b1 (by simp)
   have k4 := hby b10 (by simp)
   have hcd : (ofB [b0, b1, b2, b3, b4, b5, b6, b7, b8, b9, b10]).check = checkS b0 b1 (numL [b2, b3, b4, b5, b6, b7, b8, b9]) b10 := rfl
   have hcq : cT4 (ofB [b0, b1, b2, b3, b4, b5, b6, b7, b8, b9, b10]) = cmdT b0 b1 (numL [b2, b3, b4, b5, b6, b7, b8, b9]) b10 := rfl
   have ho : 0 ≤ numL [b2, b3, b4, b5, b6, b7, b8, b9] := ho.1
   rw [hcd]
   ((conv=>whnf)<;>repeat(with_reducible refine D1 ?_)<;>conv=>whnf)
   refine ⟨encU1 b0, ⟨by omega, rfl⟩, ?_⟩
   ((conv=>whnf)<;>repeat(with_reducible refine D1 ?_)<;>conv=>whnf)
   refine ⟨encU1 b1, ⟨by omega, rfl⟩, ?_⟩
   ((conv=>whnf)<;>repeat(with_reducible refine D1 ?_)<;>conv=>whnf)
   refine ⟨by simp, ?_⟩
   ((conv=>whnf)<;>repeat(with_reducible refine D1 ?_)<;>conv=>whnf)
   refine ⟨[], [], _, _, _, _, refNum_ok [b2, b3, b4, b5, b6, b7, b8, b9] (by simp), t3, ?_⟩
   rintro r o' c' ⟨rfl, rfl, rfl⟩
   ((conv=>whnf)<;>repeat(with_reducible refine D1 ?_)<;>conv=>whnf)
   refine ⟨encU1 b10, ⟨by omega, rfl⟩, ?_⟩
   ((conv=>whnf)<;>repeat(with_reducible refine D1 ?_)<;>conv=>whnf)
   refine ⟨[], [], _, _, _, _, refCheck_ok b0 b1 (numL [b2, b3, b4, b5, b6, b7, b8, b9]) b10 ho, ⟨by ((repeat' first|with_reducible exact Lz.rfl|exact Lw.rfl|exact Lz.wrap (by omega)|(unfold goInt;with_reducible exact Lz.rfl)|exact flx _|constructor); all_goals (first | exact Lz.int (wrapI k1) | exact Lz.int (wrapI k2) | exact Lz.int (wrapI k4))), by ((repeat' first|with_reducible exact Lz.rfl|exact Lw.rfl|exact Lz.wrap (by omega)|(unfold goInt;with_reducible exact Lz.rfl)|exact flx _|constructor); all_goals (first | exact Lz.int (wrapI k1) | exact Lz.int (wrapI k2) | exact Lz.int (wrapI k4))), by rfl⟩, ?_⟩
   rintro r o' c' ⟨rfl, rfl, rfl⟩
   ((conv=>whnf)<;>repeat(with_reducible refine D1 ?_)<;>conv=>whnf)
   (first|refine ⟨?_,?_⟩|refine nsplit ?_ ?_|refine bsplit ?_ ?_)<;>intro h4<;>have hz_:=True.intro<;>clear hz_
   ·have h4 : checkS b0 b1 (numL [b2, b3, b4, b5, b6, b7, b8, b9]) b10 ≠ 0 := h4
    rw [if_pos h4]
    ((conv=>whnf)<;>repeat(with_reducible refine D1 ?_)<;>conv=>whnf)
    exact ⟨[], [], _, _, _, t3, rfl, rfl, rfl⟩
   ·have h4 : ¬ checkS b0 b1 (numL [b2, b3, b4, b5, b6, b7, b8, b9]) b10 ≠ 0 := h4
    rw [if_neg h4]
    ((conv=>whnf)<;>repeat(with_reducible refine D1 ?_)<;>conv=>whnf)
    refine ⟨[], [], ?_⟩
    iterate 3 constructor
    refine ⟨⟨?_, ?_, ?_⟩, rfl, rfl, rfl⟩
    all_goals (repeat' first|with_reducible exact Lz.rfl|exact Lw.rfl|exact Lz.wrap (by omega)|(unfold goInt;with_reducible exact Lz.rfl)|exact flx _|constructor)
    all_goals first | exact Lz.int (wrapI k1) | exact Lz.int (wrapI k2) | exact Lz.int (wrapI k4) | exact Lz.int he0
end Go.M
namespace Go.M
open Go Go.Proofs
set_option maxRecDepth 100000
set_option maxHeartbeats 4000000
variable {mx : Int}
def decL (b : List Int) : Cmd × Int := if (getCmd ⟨b, 0⟩).e ≠ 0 then (noCmd, (getCmd ⟨b, 0⟩).e) else if (getCmd ⟨b, 0⟩).s.b ≠ [] then (noCmd, 4) else ((getCmd ⟨b, 0⟩).c, 0)
theorem getCmd_epoch (s : InS) : 0 ≤ (getCmd s).c.epoch ∧ (getCmd s).c.epoch < 18446744073709551616 := by
 unfold getCmd
 split
 ·exact ⟨Int.le_refl 0, by show (0 : Int) < _; decide⟩
 ·split
  ·exact ⟨Int.le_refl 0, by show (0 : Int) < _; decide⟩
  ·exact ofB_epoch _
theorem decL_epoch (b : List Int) : 0 ≤ (decL b).1.epoch ∧ (decL b).1.epoch < 18446744073709551616 := by
 unfold decL
 split
 ·exact ⟨Int.le_refl 0, by show (0 : Int) < _; decide⟩
 ·split
  ·exact ⟨Int.le_refl 0, by show (0 : Int) < _; decide⟩
  ·exact getCmd_epoch _
theorem cmdB_ofB (b : List Int) (hl : b.length = 11) (hb : ∀ x ∈ b, 0 ≤ x ∧ x < 256) : cmdB (ofB b) = b := by
 match b, hl with
 | [b0, b1, b2, b3, b4, b5, b6, b7, b8, b9, b10], _ =>
  have h8 : bigL 8 (numL [b2, b3, b4, b5, b6, b7, b8, b9]).toNat = [b2, b3, b4, b5, b6, b7, b8, b9] := by
   have c2 := hb b2 (by simp)
   have c3 := hb b3 (by simp)
   have c4 := hb b4 (by simp)
   have c5 := hb b5 (by simp)
   have c6 := hb b6 (by simp)
   have c7 := hb b7 (by simp)
   have c8 := hb b8 (by simp)
   have c9 := hb b9 (by simp)
   have e : numL [b2, b3, b4, b5, b6, b7, b8, b9] = ((((((b2 * 256 + b3) * 256 + b4) * 256 + b5) * 256 + b6) * 256 + b7) * 256 + b8) * 256 + b9 := by
    unfold numL
    simp only [List.foldl_cons, List.foldl_nil, numS]
    omega
   rw [e]
   simp only [bigL, List.nil_append, List.cons_append]
   refine List.cons_eq_cons.2 ⟨by omega, List.cons_eq_cons.2 ⟨by omega, List.cons_eq_cons.2 ⟨by omega, List.cons_eq_cons.2 ⟨by omega, List.cons_eq_cons.2 ⟨by omega, List.cons_eq_cons.2 ⟨by omega, List.cons_eq_cons.2 ⟨by omega, List.cons_eq_cons.2 ⟨by omega, rfl⟩⟩⟩⟩⟩⟩⟩⟩
  show [b0, b1] ++ bigL 8 (numL [b2, b3, b4, b5, b6, b7, b8, b9]).toNat ++ [b10] = _
  rw [h8]
  rfl
theorem decL_bytes (b : List Int) (hb : ∀ x ∈ b, 0 ≤ x ∧ x < 256) (h : (decL b).2 = 0) : (decL b).1.check = 0 ∧ cmdB (decL b).1 = b := by
 unfold decL at h ⊢
 split at h
 ·rename_i h1; exact absurd h h1
 ·split at h
  ·exact absurd h (by show (4 : Int) ≠ 0; decide)
  ·rename_i h1 h2
   rw [if_neg h1, if_neg h2]
   have h2 := Classical.not_not.1 h2
   have h1 := Classical.not_not.1 h1
   dsimp only
   unfold getCmd at h1 h2 ⊢
   split at h1
   ·rename_i h3; exact absurd h1 h3
   ·split at h1
    ·exact absurd h1 (by show (4 : Int) ≠ 0; decide)
    ·rename_i h3 h4
     rw [if_neg h3, if_neg h4] at h2 ⊢
     have h3 := Classical.not_not.1 h3
     have h4 := Classical.not_not.1 h4
     obtain ⟨r1, _, r3⟩ := raw11 h3
     refine ⟨h4, ?_⟩
     show cmdB (ofB ((InS.mk b 0).raw 11).2) = b
     rw [r3] at h2 r1 ⊢
     have h2 : b.drop 11 = [] := h2
     have r1 : (b.take 11).length = 11 := r1
     have e : b.take 11 = b := List.take_of_length_le (List.drop_eq_nil_iff.1 h2)
     rw [e] at r1
     show cmdB (ofB (b.take 11)) = b
     rw [e]
     exact cmdB_ofB b r1 hb
theorem decode_ok (b : List Int) (hl : b.length < 1000000) (hb : ∀ x ∈ b, 0 ≤ x ∧ x < 256) : VC (E0 mx) 28 0 [.sl 1 (b.map encU1) false] [] (RR (.tup [cT4 (decL b).1, .s (.int .i64 (decL b).2)]) 0 []) := by
 have hg := cmdGet_ok (mx := mx) ⟨b, 0⟩ hb
 have hlf := left_ok (mx := mx) (getCmd ⟨b, 0⟩).s
 unfold decL
 generalize getCmd ⟨b, 0⟩ = q at *
 refine VC.enterR (L0 mx) (show (E0 mx).func 28 = some Tryd.f28 by kernel_rfl) (fun _ _ => rfl) rfl rfl [] ?_
 ((conv=>whnf)<;>repeat(with_reducible refine D1 ?_)<;>conv=>whnf)
 refine ⟨[], [], _, _, _, _, of_ok b hl, t3, ?_⟩
 rintro r o' c' ⟨rfl, rfl, rfl⟩
 ((conv=>whnf)<;>repeat(with_reducible refine D1 ?_)<;>conv=>whnf)
 refine ⟨[], [some 1], _, _, _, _, hg, t3, ?_⟩
 rintro r o' c' ⟨rfl, rfl, rfl⟩
 ((conv=>whnf)<;>repeat(with_reducible refine D1 ?_)<;>conv=>whnf)
 (first|refine ⟨?_,?_⟩|refine nsplit ?_ ?_|refine bsplit ?_ ?_)<;>intro h1<;>have hz_:=True.intro<;>clear hz_
 ·have h1 : q.e ≠ 0 := h1
  rw [if_pos h1]
  ((conv=>whnf)<;>repeat(with_reducible refine D1 ?_)<;>conv=>whnf)
  exact ⟨[], [], _, _, _, t3, rfl, rfl, rfl⟩
 ·have h1 : ¬ q.e ≠ 0 := h1
  rw [if_neg h1]
  ((conv=>whnf)<;>repeat(with_reducible refine D1 ?_)<;>conv=>whnf)
  refine ⟨[], [some 1], _, _, _, _, hlf, t3, ?_⟩
  rintro r o' c' ⟨rfl, rfl, rfl⟩
  ((conv=>whnf)<;>repeat(with_reducible refine D1 ?_)<;>conv=>whnf)
  (first|refine ⟨?_,?_⟩|refine nsplit ?_ ?_|refine bsplit ?_ ?_)<;>intro h2<;>have hz_:=True.intro<;>clear hz_
  ·have h2 : q.s.b ≠ [] := by
    have h2 : (q.s.b.length : Int) > 0 := h2
    intro e
    rw [e] at h2
    exact absurd h2 (by decide)
   rw [if_pos h2]
   ((conv=>whnf)<;>repeat(with_reducible refine D1 ?_)<;>conv=>whnf)
   exact ⟨[], [], _, _, _, t3, rfl, rfl, rfl⟩
  ·have h2 : ¬ q.s.b ≠ [] := by
    have h2 : ¬ (q.s.b.length : Int) > 0 := h2
    intro e
    have := List.length_pos_iff.2 e
    omega
   rw [if_neg h2]
   ((conv=>whnf)<;>repeat(with_reducible refine D1 ?_)<;>conv=>whnf)
   exact ⟨[], [], _, _, _, t3, rfl, rfl, rfl⟩
theorem refDecode_ok (b : List Int) (hb : ∀ x ∈ b, 0 ≤ x ∧ x < 256) : VC (E0 mx) 30 0 [.sl 1 (b.map encU1) false] [] (RR (.tup [cT4 (decL b).1, .s (.int .i64 (decL b).2)]) 0 []) := by
 have hg := refGet_ok (mx := mx) ⟨b, 0⟩ hb
 unfold decL
 generalize getCmd ⟨b, 0⟩ = q at *
 refine VC.enterR (L0 mx) (show (E0 mx).func 30 = some Tryd.f30 by kernel_rfl) (fun _ _ => rfl) rfl rfl [] ?_
 ((conv=>whnf)<;>repeat(with_reducible refine D1 ?_)<;>conv=>whnf)
 refine ⟨[], [], _, _, _, _, hg, t3, ?_⟩
 rintro r o' c' ⟨rfl, rfl, rfl⟩
 ((conv=>whnf)<;>repeat(with_reducible refine D1 ?_)<;>conv=>whnf)
 (first|refine ⟨?_,?_⟩|refine nsplit ?_ ?_|refine bsplit ?_ ?_)<;>intro h1<;>have hz_:=True.intro<;>clear hz_
 ·have h1 : q.e ≠ 0 := h1
  rw [if_pos h1]
  ((conv=>whnf)<;>repeat(with_reducible refine D1 ?_)<;>conv=>whnf)
  exact ⟨[], [], _, _, _, t3, rfl, rfl, rfl⟩
 ·have h1 : ¬ q.e ≠ 0 := h1
  rw [if_neg h1]
  ((conv=>whnf)<;>repeat(with_reducible refine D1 ?_)<;>conv=>whnf)
  (first|refine ⟨?_,?_⟩|refine nsplit ?_ ?_|refine bsplit ?_ ?_)<;>intro h2<;>have hz_:=True.intro<;>clear hz_
  ·have h2 : q.s.b ≠ [] := by
    have h2 : (((q.s.b.map encU1).length : Nat) : Int) > 0 := h2
    intro e
    rw [e] at h2
    exact absurd h2 (by decide)
   rw [if_pos h2]
   ((conv=>whnf)<;>repeat(with_reducible refine D1 ?_)<;>conv=>whnf)
   exact ⟨[], [], _, _, _, t3, rfl, rfl, rfl⟩
  ·have h2 : ¬ q.s.b ≠ [] := by
    have h2 : ¬ (((q.s.b.map encU1).length : Nat) : Int) > 0 := h2
    rw [List.length_map] at h2
    intro e
    have := List.length_pos_iff.2 e
    omega
   rw [if_neg h2]
   ((conv=>whnf)<;>repeat(with_reducible refine D1 ?_)<;>conv=>whnf)
   exact ⟨[], [], _, _, _, t3, rfl, rfl, rfl⟩
def encL (c : Cmd) : List Int := if c.check = 0 then cmdB c else []
theorem encode_ok (c : Cmd) (he : 0 ≤ c.epoch ∧ c.epoch < 18446744073709551616) : VC (E0 mx) 24 0 [cT4 c] [] (RR (.tup [.sl 1 ((encL c).map encU1) false, .s (.int .i64 c.check)]) 0 []) := by
 have hok : OutS.ok ⟨[], 11, 0⟩ := ⟨by decide, by decide⟩
 unfold encL
 refine VC.enterR (L0 mx) (show (E0 mx).func 24 = some Tryd.f24 by kernel_rfl) (fun _ _ => rfl) rfl rfl [] ?_
 ((conv=>whnf)<;>repeat(with_reducible refine D1 ?_)<;>conv=>whnf)
 refine ⟨[], [], _, _, _, _, new_ok 11, t3, ?_⟩
 rintro r o' c' ⟨rfl, rfl, rfl⟩
 ((conv=>whnf)<;>repeat(with_reducible refine D1 ?_)<;>conv=>whnf)
 by_cases h : c.check = 0
 ·rw [if_pos h]
  have hp := put_cmd (mx := mx) ⟨[], 11, 0⟩ c hok (by simp) he h
  rw [OutS.cmd_in [] 11 c he h (by simp)] at hp
  have hd := done_ok (mx := mx) ⟨cmdB c, 11, 0⟩ ⟨by show (0 : Int) ≤ 11 ∧ (11 : Int) ≤ _; omega, by show ((cmdB c).length : Int) ≤ 11; rw [cmdB_len]; decide⟩ (by show (cmdB c).length ≤ _; rw [cmdB_len]; decide)
  rw [if_pos rfl] at hd
  refine ⟨[], [some 1], _, _, _, _, hp, t3, ?_⟩
  rintro r o' c' ⟨rfl, rfl, rfl⟩
  ((conv=>whnf)<;>repeat(with_reducible refine D1 ?_)<;>conv=>whnf)
  repeat ((first | (refine ⟨fun h_ => ?_, fun h_ => ?_⟩) | (refine nsplit (fun h_ => ?_) (fun h_ => ?_)) | (refine bsplit (fun h_ => ?_) (fun h_ => ?_))) <;> first | (exfalso; revert h_; decide; done) | (exact absurd rfl h_) | (have hz_ := True.intro; clear hz_; ((conv=>whnf)<;>repeat(with_reducible refine D1 ?_)<;>conv=>whnf)))
  refine ⟨[], [some 1], _, _, _, _, hd, t3, ?_⟩
  rintro r o' c' ⟨rfl, rfl, rfl⟩
  ((conv=>whnf)<;>repeat(with_reducible refine D1 ?_)<;>conv=>whnf)
  refine ⟨[], [], ?_⟩
  iterate 3 constructor
  refine ⟨⟨?_, ?_, ?_⟩, rfl, rfl, rfl⟩
  all_goals (repeat' first|with_reducible exact Lz.rfl|exact Lw.rfl|exact Lz.wrap (by omega)|(unfold goInt;with_reducible exact Lz.rfl)|exact flx _|constructor)
  all_goals exact Lz.int h.symm
 ·rw [if_neg h]
  refine ⟨[], [some 1], _, _, _, _, put_no ⟨[], 11, 0⟩ c h, t3, ?_⟩
  rintro r o' c' ⟨rfl, rfl, rfl⟩
  ((conv=>whnf)<;>repeat(with_reducible refine D1 ?_)<;>conv=>whnf)
  (first|refine ⟨?_,?_⟩|refine nsplit ?_ ?_|refine bsplit ?_ ?_)<;>intro h1<;>have hz_:=True.intro<;>clear hz_
  ·((conv=>whnf)<;>repeat(with_reducible refine D1 ?_)<;>conv=>whnf)
   exact ⟨[], [], _, _, _, t3, rfl, rfl, rfl⟩
  ·exact absurd (Classical.not_not.1 h1) h
theorem cmdsDecodes_ok (bs : List Int) (hb : ∀ x ∈ bs, 0 ≤ x ∧ x < 256) : VC (E0 mx) 6 0 [.sl 1 (bs.map encU1) false] [] (fun r _ _ => r = .s (.bool true)) := by
 have hbt : ∀ x ∈ bs.take 60, 0 ≤ x ∧ x < 256 := fun x hx => hb x (List.mem_of_mem_take hx)
 have h1 := decode_ok (mx := mx) (bs.take 60) (by rw [List.length_take]; omega) hbt
 have h2 := refDecode_ok (mx := mx) (bs.take 60) hbt
 have h3 := encode_ok (mx := mx) (decL (bs.take 60)).1 (decL_epoch _)
 have h4 := decL_bytes (bs.take 60) hbt
 refine VC.enterR (L0 mx) (show (E0 mx).func 6 = some Tryd.f6 by kernel_rfl) (fun _ _ => rfl) rfl rfl [] ?_
 ((conv=>whnf)<;>repeat(with_reducible refine D1 ?_)<;>conv=>whnf)
 refine ⟨[], [], _, _, _, _, cut_ok bs 60, t3, ?_⟩
 rintro r o' c' ⟨rfl, rfl, rfl⟩
 ((conv=>whnf)<;>repeat(with_reducible refine D1 ?_)<;>conv=>whnf)
 have hl : (bs.take 60).length < 1000000 := by rw [List.length_take]; omega
 generalize bs.take 60 = b at *
 generalize decL b = q at *
 obtain ⟨c, e⟩ := q
 dsimp only at h3 h4
 refine ⟨[], [], _, _, _, _, h1, t3, ?_⟩
 rintro r o' c' ⟨rfl, rfl, rfl⟩
 ((conv=>whnf)<;>repeat(with_reducible refine D1 ?_)<;>conv=>whnf)
 refine ⟨[], [], _, _, _, _, h2, t3, ?_⟩
 rintro r o' c' ⟨rfl, rfl, rfl⟩
 ((conv=>whnf)<;>repeat(with_reducible refine D1 ?_)<;>conv=>whnf)
 (first|refine ⟨?_,?_⟩|refine nsplit ?_ ?_|refine bsplit ?_ ?_)<;>intro q<;>have hz_:=True.intro<;>clear hz_
 ·exfalso; revert q; simp [veq1]
 ((conv=>whnf)<;>repeat(with_reducible refine D1 ?_)<;>conv=>whnf)
 (first|refine ⟨?_,?_⟩|refine nsplit ?_ ?_|refine bsplit ?_ ?_)<;>intro q<;>have hz_:=True.intro<;>clear hz_
 ·exact absurd rfl q
 ((conv=>whnf)<;>repeat(with_reducible refine D1 ?_)<;>conv=>whnf)
 refine ⟨[], [], _, _, _, _, h3, t3, ?_⟩
 rintro r o' c' ⟨rfl, rfl, rfl⟩
 ((conv=>whnf)<;>repeat(with_reducible refine D1 ?_)<;>conv=>whnf)
 by_cases h0 : e = 0
 ·obtain ⟨k1, k2⟩ := h4 h0
  have hs := same01_ok (mx := mx) b b hl
  rw [eqB_iff.2 rfl] at hs
  have he : encL c = b := by unfold encL; rw [if_pos k1]; exact k2
  (first|refine ⟨?_,?_⟩|refine nsplit ?_ ?_|refine bsplit ?_ ?_)<;>intro q<;>have hz_:=True.intro<;>clear hz_
  ·exact absurd h0 q
  ((conv=>whnf)<;>repeat(with_reducible refine D1 ?_)<;>conv=>whnf)
  (first|refine ⟨?_,?_⟩|refine nsplit ?_ ?_|refine bsplit ?_ ?_)<;>intro q2<;>have hz_:=True.intro<;>clear hz_
  rotate_left
  ·exact absurd k1 q2
  ((conv=>whnf)<;>repeat(with_reducible refine D1 ?_)<;>conv=>whnf)
  refine ⟨[], [], _, _, _, _, hs, ⟨by ((repeat' first|with_reducible exact Lz.rfl|exact Lw.rfl|exact Lz.wrap (by omega)|(unfold goInt;with_reducible exact Lz.rfl)|exact flx _|constructor); all_goals (exact Lz.of (by rw [he]))), by ((repeat' first|with_reducible exact Lz.rfl|exact Lw.rfl|exact Lz.wrap (by omega)|(unfold goInt;with_reducible exact Lz.rfl)|exact flx _|constructor); all_goals (exact Lz.of (by rw [he]))), by rfl⟩, ?_⟩
  rintro r o' c' ⟨rfl, rfl, rfl⟩
  ((conv=>whnf)<;>repeat(with_reducible refine D1 ?_)<;>conv=>whnf)
  refine ⟨[], [], _, _, _, _, awake_r, t3, ?_⟩
  rintro r o' c' ⟨rfl, rfl, rfl⟩
  ((conv=>whnf)<;>repeat(with_reducible refine D1 ?_)<;>conv=>whnf)
  exact ⟨[], [], [], .s (.bool true), [], ⟨.s Lz.rfl, .nil, rfl⟩, rfl⟩
 ·(first|refine ⟨?_,?_⟩|refine nsplit ?_ ?_|refine bsplit ?_ ?_)<;>intro q<;>have hz_:=True.intro<;>clear hz_
  rotate_left
  ·exact absurd (Classical.not_not.1 q) h0
  ((conv=>whnf)<;>repeat(with_reducible refine D1 ?_)<;>conv=>whnf)
  refine ⟨[], [], _, _, _, _, awake_r, t3, ?_⟩
  rintro r o' c' ⟨rfl, rfl, rfl⟩
  ((conv=>whnf)<;>repeat(with_reducible refine D1 ?_)<;>conv=>whnf)
  exact ⟨[], [], [], .s (.bool true), [], ⟨.s Lz.rfl, .nil, rfl⟩, rfl⟩
end Go.M
namespace Go.M
open Go Go.Proofs
set_option maxRecDepth 100000
set_option maxHeartbeats 4000000
variable {mx : Int}
@[reducible] def encC4 (c : Cmd) : List TV := [.s (.int .i64 c.kind), .s (.int .i64 c.chain), .s (.int .u64 c.epoch), .s (.int .i64 c.node)]
def allB (l : List Cmd) : List Int := l.flatMap encL
theorem encL_len (c : Cmd) : (encL c).length ≤ 11 := by
 unfold encL
 split
 ·exact Nat.le_of_eq (cmdB_len c)
 ·simp
theorem encL_byte {c : Cmd} (he : 0 ≤ c.epoch) : ∀ x ∈ encL c, 0 ≤ x ∧ x < 256 := by
 unfold encL
 split
 ·rename_i h; exact cmdB_byte he h
 ·simp
theorem allB_len : ∀ (l : List Cmd), (allB l).length ≤ 11 * l.length
 | [] => Nat.le_refl _
 | c :: l => by
  have h1 := allB_len l
  have h2 := encL_len c
  unfold allB at h1 ⊢
  simp only [List.flatMap_cons, List.length_append, List.length_cons]
  omega
theorem allB_byte {l : List Cmd} (he : ∀ c ∈ l, 0 ≤ c.epoch) : ∀ x ∈ allB l, 0 ≤ x ∧ x < 256 := fun x hx => by
 obtain ⟨c, hc, hx⟩ := List.mem_flatMap.1 hx
 exact encL_byte (he c hc) x hx
theorem allB_snoc (l : List Cmd) (c : Cmd) : allB (l ++ [c]) = allB l ++ encL c := by
 unfold allB; simp
theorem getCNil_ok : VC (E0 mx) 22 0 [nilP] [] (RR (.tup [cT4 noCmd, .s (.int .i64 2)]) 0 []) := by
 refine VC.enterR (L0 mx) (show (E0 mx).func 22 = some Tryd.f22 by kernel_rfl) (fun _ _ => rfl) rfl rfl [] ?_
 ((conv=>whnf)<;>repeat(with_reducible refine D1 ?_)<;>conv=>whnf)
 refine ⟨[], [], _, _, _, _, rawNil_ok 11, t3, ?_⟩
 rintro r o' c' ⟨rfl, rfl, rfl⟩
 ((conv=>whnf)<;>repeat(with_reducible refine D1 ?_)<;>conv=>whnf)
 refine ⟨[], [], _, _, _, _, of_ok [] (by decide), t3, ?_⟩
 rintro r o' c' ⟨rfl, rfl, rfl⟩
 ((conv=>whnf)<;>repeat(with_reducible refine D1 ?_)<;>conv=>whnf)
 refine ⟨[], [], _, _, _, _, errNil_ok, t3, ?_⟩
 rintro r o' c' ⟨rfl, rfl, rfl⟩
 ((conv=>whnf)<;>repeat(with_reducible refine D1 ?_)<;>conv=>whnf)
 repeat ((first | (refine ⟨fun h_ => ?_, fun h_ => ?_⟩) | (refine nsplit (fun h_ => ?_) (fun h_ => ?_)) | (refine bsplit (fun h_ => ?_) (fun h_ => ?_))) <;> first | (exfalso; revert h_; decide; done) | (exact absurd rfl h_) | (have hz_ := True.intro; clear hz_; ((conv=>whnf)<;>repeat(with_reducible refine D1 ?_)<;>conv=>whnf)))
 exact ⟨[], [], _, _, _, t3, rfl, rfl, rfl⟩
theorem getCmd_byte {s : InS} (hb : ∀ x ∈ s.b, 0 ≤ x ∧ x < 256) : ∀ x ∈ (getCmd s).s.b, 0 ≤ x ∧ x < 256 := by
 have h : ∀ x ∈ (s.raw 11).1.b, 0 ≤ x ∧ x < 256 := (InS.next_bytes (n := 11) hb).1
 unfold getCmd
 split
 ·exact h
 ·split <;> exact h
theorem cmdsGets_ok (l : List Cmd) (bs : List Int) (hl : l.length ≤ maxLen) (he : ∀ c ∈ l, 0 ≤ c.epoch ∧ c.epoch < 18446744073709551616) (hb : ∀ x ∈ bs, 0 ≤ x ∧ x < 256) :
 VC (E0 mx) 4 0 [.sl 4 (l.map encC4) false, .sl 1 (bs.map encU1) false] [] (fun r _ _ => r = .s (.bool true)) := by
 refine VC.enterR (L0 mx) (show (E0 mx).func 4 = some Tryd.f4 by kernel_rfl) (fun _ _ => rfl) rfl rfl [] ?_
 ((conv=>whnf)<;>repeat(with_reducible refine D1 ?_)<;>conv=>whnf)
 refine ⟨[], [], _, _, _, _, new_ok 2000, t3, ?_⟩
 rintro r o' c' ⟨rfl, rfl, rfl⟩
 ((conv=>whnf)<;>repeat(with_reducible refine D1 ?_)<;>conv=>whnf)
 refine ⟨fun k f o cc => ∃ i : Nat, i ≤ l.length ∧ i ≤ 20 ∧ k = l.length - i ∧ cc = 2 ∧ f = [(0, .sl 4 (l.map encC4) false), (1, .sl 1 (bs.map encU1) false), (5, .ptr 0 0), (6, .tk 1), (7, .s (.int .i64 i))] ∧
  o = [(0, OutO ⟨allB (l.take i), 2000, 0⟩), (1, .arr 1 true ((allB (l.take i)).map encU1))], ⟨l.length, ?_⟩, ?_⟩
 ·exact ⟨[], [some 0, none], _, _, _, t3, ⟨0, Nat.zero_le _, by decide, rfl, rfl, rfl, rfl⟩⟩
 ·rintro k f1 o1 c1 ⟨i, hi, hi2, rfl, rfl, rfl, rfl⟩
  have hal := allB_len (l.take i)
  rw [List.length_take] at hal
  ((conv=>whnf)<;>repeat(with_reducible refine D1 ?_)<;>conv=>whnf)
  (first|refine ⟨?_,?_⟩|refine nsplit ?_ ?_|refine bsplit ?_ ?_)<;>intro h<;>have hz_:=True.intro<;>clear hz_
  ·have h : i < l.length := lenlt.1 h
   have hec := he _ (List.getElem_mem h)
   have hst : allB (l.take (i + 1)) = allB (l.take i) ++ encL l[i] := by rw [take_snoc l i h, allB_snoc]
   ((conv=>whnf)<;>repeat(with_reducible refine D1 ?_)<;>conv=>whnf)
   (first|refine ⟨?_,?_⟩|refine nsplit ?_ ?_|refine bsplit ?_ ?_)<;>intro h20<;>have hz_:=True.intro<;>clear hz_
   ·have h20 : (i : Int) < 20 := h20
    ((conv=>whnf)<;>repeat(with_reducible refine D1 ?_)<;>conv=>whnf)
    refine idxI h ?_
    ((conv=>whnf)<;>repeat(with_reducible refine D1 ?_)<;>conv=>whnf)
    by_cases hc : l[i].check = 0
    ·have hen : encL l[i] = cmdB l[i] := by unfold encL; rw [if_pos hc]
     have hck : checkS l[i].kind l[i].chain l[i].epoch l[i].node = 0 := hc
     have hp := put_cmd (mx := mx) ⟨allB (l.take i), 2000, 0⟩ l[i] ⟨by show (0 : Int) ≤ 2000 ∧ (2000 : Int) ≤ _; omega, by show ((allB (l.take i)).length : Int) ≤ 2000; omega⟩ (by show (allB (l.take i)).length ≤ _; omega) hec hc
     rw [OutS.cmd_in _ _ l[i] hec hc (by omega), ← hen, ← hst] at hp
     have hrc := refCheck_ok (mx := mx) l[i].kind l[i].chain l[i].epoch l[i].node hec.1
     rw [hck] at hrc
     have hbt := bytes_ok (mx := mx) l[i] hec hc
     rw [← hen] at hbt
     have hll := encL_len l[i]
     refine ⟨[], [some 0], _, _, _, _, hp, t3, ?_⟩
     rintro r o' c' ⟨rfl, rfl, rfl⟩
     ((conv=>whnf)<;>repeat(with_reducible refine D1 ?_)<;>conv=>whnf)
     refine idxI h ?_
     ((conv=>whnf)<;>repeat(with_reducible refine D1 ?_)<;>conv=>whnf)
     refine ⟨[], [], _, _, _, _, hrc, t3, ?_⟩
     rintro r o' c' ⟨rfl, rfl, rfl⟩
     ((conv=>whnf)<;>repeat(with_reducible refine D1 ?_)<;>conv=>whnf)
     repeat ((first | (refine ⟨fun h_ => ?_, fun h_ => ?_⟩) | (refine nsplit (fun h_ => ?_) (fun h_ => ?_)) | (refine bsplit (fun h_ => ?_) (fun h_ => ?_))) <;> first | (exfalso; revert h_; decide; done) | (exact absurd rfl h_) | (have hz_ := True.intro; clear hz_; ((conv=>whnf)<;>repeat(with_reducible refine D1 ?_)<;>conv=>whnf)))
     refine idxI h ?_
     ((conv=>whnf)<;>repeat(with_reducible refine D1 ?_)<;>conv=>whnf)
     refine ⟨[], [], _, _, _, _, hbt, t3, ?_⟩
     rintro r o' c' ⟨rfl, rfl, rfl⟩
     ((conv=>whnf)<;>repeat(with_reducible refine D1 ?_)<;>conv=>whnf)
     refine ⟨by simp; omega, ?_⟩
     ((conv=>whnf)<;>repeat(with_reducible refine D1 ?_)<;>conv=>whnf)
     refine ⟨l.length - (i + 1), ?_, by omega⟩
     refine ⟨[], [some 0, some 3], ?_⟩
     iterate 3 constructor
     refine ⟨⟨?_, ?_, ?_⟩, ⟨i + 1, h, by omega, rfl, rfl, rfl, rfl⟩⟩
     all_goals (repeat' first|with_reducible exact Lz.rfl|exact Lw.rfl|exact Lz.wrap (by omega)|(unfold goInt;with_reducible exact Lz.rfl)|exact flx _|constructor)
     all_goals (first | refine Lw.of ?_ | refine Lz.of ?_)
     all_goals (rw [hst, List.map_append])
    ·have hen : encL l[i] = [] := by unfold encL; rw [if_neg hc]
     have hck : checkS l[i].kind l[i].chain l[i].epoch l[i].node = l[i].check := rfl
     have hp := put_no (mx := mx) ⟨allB (l.take i), 2000, 0⟩ l[i] hc
     have hrc := refCheck_ok (mx := mx) l[i].kind l[i].chain l[i].epoch l[i].node hec.1
     rw [hck] at hrc
     rw [hen, List.append_nil] at hst
     generalize l[i].check = w at *
     refine ⟨[], [some 0], _, _, _, _, hp, t3, ?_⟩
     rintro r o' c' ⟨rfl, rfl, rfl⟩
     ((conv=>whnf)<;>repeat(with_reducible refine D1 ?_)<;>conv=>whnf)
     refine idxI h ?_
     ((conv=>whnf)<;>repeat(with_reducible refine D1 ?_)<;>conv=>whnf)
     refine ⟨[], [], _, _, _, _, hrc, t3, ?_⟩
     rintro r o' c' ⟨rfl, rfl, rfl⟩
     ((conv=>whnf)<;>repeat(with_reducible refine D1 ?_)<;>conv=>whnf)
     (first|refine ⟨?_,?_⟩|refine nsplit ?_ ?_|refine bsplit ?_ ?_)<;>intro q<;>have hz_:=True.intro<;>clear hz_
     ·exact absurd rfl q
     ((conv=>whnf)<;>repeat(with_reducible refine D1 ?_)<;>conv=>whnf)
     (first|refine ⟨?_,?_⟩|refine nsplit ?_ ?_|refine bsplit ?_ ?_)<;>intro q<;>have hz_:=True.intro<;>clear hz_
     ·exact absurd q hc
     ((conv=>whnf)<;>repeat(with_reducible refine D1 ?_)<;>conv=>whnf)
     refine ⟨l.length - (i + 1), ?_, by omega⟩
     refine ⟨[], [some 0, some 1], ?_⟩
     iterate 3 constructor
     refine ⟨⟨?_, ?_, ?_⟩, ⟨i + 1, h, by omega, rfl, rfl, rfl, rfl⟩⟩
     all_goals (repeat' first|with_reducible exact Lz.rfl|exact Lw.rfl|exact Lz.wrap (by omega)|(unfold goInt;with_reducible exact Lz.rfl)|exact flx _|constructor)
     all_goals (first | refine Lw.of ?_ | refine Lz.of ?_)
     all_goals (rw [hst])
   ·((conv=>whnf)<;>repeat(with_reducible refine D1 ?_)<;>conv=>whnf)
    have hxb := allB_byte (l := l.take i) fun c hc => (he c (List.mem_of_mem_take hc)).1
    have hxl : (allB (l.take i)).length ≤ 220 := by omega
    have hd := done_ok (mx := mx) ⟨allB (l.take i), 2000, 0⟩ ⟨by show (0 : Int) ≤ 2000 ∧ (2000 : Int) ≤ _; omega, by show ((allB (l.take i)).length : Int) ≤ 2000; omega⟩ (by show (allB (l.take i)).length ≤ _; omega)
    rw [if_pos rfl] at hd
    have hbt : ∀ x ∈ bs.take 40, 0 ≤ x ∧ x < 256 := fun x hx => hb x (List.mem_of_mem_take hx)
    have hbl : (bs.take 40).length ≤ 40 := by rw [List.length_take]; omega
    have hct := cut_ok (mx := mx) bs 40
    dsimp only at hd
    generalize allB (l.take i) = xs at *
    generalize bs.take 40 = ys at *
    have hs := same01_ok (mx := mx) xs xs (by omega)
    rw [eqB_iff.2 rfl] at hs
    have hof := of_ok (mx := mx) (xs ++ ys) (by rw [List.length_append]; omega)
    have hab : ∀ x ∈ xs ++ ys, 0 ≤ x ∧ x < 256 := fun x hx => by
     rcases List.mem_append.1 hx with q | q
     ·exact hxb x q
     ·exact hbt x q
    refine ⟨[], [some 0], _, _, _, _, hd, t3, ?_⟩
    rintro r o' c' ⟨rfl, rfl, rfl⟩
    ((conv=>whnf)<;>repeat(with_reducible refine D1 ?_)<;>conv=>whnf)
    repeat ((first | (refine ⟨fun h_ => ?_, fun h_ => ?_⟩) | (refine nsplit (fun h_ => ?_) (fun h_ => ?_)) | (refine bsplit (fun h_ => ?_) (fun h_ => ?_))) <;> first | (exfalso; revert h_; decide; done) | (exact absurd rfl h_) | (have hz_ := True.intro; clear hz_; ((conv=>whnf)<;>repeat(with_reducible refine D1 ?_)<;>conv=>whnf)))
    refine ⟨[1], [], _, _, _, _, hs, t3, ?_⟩
    rintro r o' c' ⟨rfl, rfl, rfl⟩
    ((conv=>whnf)<;>repeat(with_reducible refine D1 ?_)<;>conv=>whnf)
    repeat ((first | (refine ⟨fun h_ => ?_, fun h_ => ?_⟩) | (refine nsplit (fun h_ => ?_) (fun h_ => ?_)) | (refine bsplit (fun h_ => ?_) (fun h_ => ?_))) <;> first | (exfalso; revert h_; decide; done) | (exact absurd rfl h_) | (have hz_ := True.intro; clear hz_; ((conv=>whnf)<;>repeat(with_reducible refine D1 ?_)<;>conv=>whnf)))
    refine ⟨[], [], _, _, _, _, hct, t3, ?_⟩
    rintro r o' c' ⟨rfl, rfl, rfl⟩
    ((conv=>whnf)<;>repeat(with_reducible refine D1 ?_)<;>conv=>whnf)
    refine ⟨by simp; omega, ?_⟩
    ((conv=>whnf)<;>repeat(with_reducible refine D1 ?_)<;>conv=>whnf)
    refine ⟨[3], [], _, _, _, _, hof, ⟨by ((repeat' first|with_reducible exact Lz.rfl|exact Lw.rfl|exact Lz.wrap (by omega)|(unfold goInt;with_reducible exact Lz.rfl)|exact flx _|constructor); all_goals (first | exact Lw.of (by rw [List.map_append]) | exact Lz.of (by rw [List.map_append]))), by ((repeat' first|with_reducible exact Lz.rfl|exact Lw.rfl|exact Lz.wrap (by omega)|(unfold goInt;with_reducible exact Lz.rfl)|exact flx _|constructor); all_goals (first | exact Lw.of (by rw [List.map_append]) | exact Lz.of (by rw [List.map_append]))), by rfl⟩, ?_⟩
    rintro r o' c' ⟨rfl, rfl, rfl⟩
    ((conv=>whnf)<;>repeat(with_reducible refine D1 ?_)<;>conv=>whnf)
    refine ⟨fun k f o cc => ∃ (j : Nat) (s : InS), j ≤ 25 ∧ k = 25 - j ∧ (∀ x ∈ s.b, 0 ≤ x ∧ x < 256) ∧ cc = 2 ∧ f = [(11, .ptr 0 0), (12, .ptr 1 0), (13, .s (.int .i64 j))] ∧ o = [(0, InO s), (1, InO s)], ⟨25, ?_⟩, ?_⟩
    ·refine ⟨[], [some 4, some 5], ?_⟩
     iterate 3 constructor
     refine ⟨⟨?_, ?_, ?_⟩, ⟨0, ⟨xs ++ ys, 0⟩, by decide, rfl, hab, rfl, rfl, rfl⟩⟩
     all_goals (repeat' first|with_reducible exact Lz.rfl|exact Lw.rfl|exact Lz.wrap (by omega)|(unfold goInt;with_reducible exact Lz.rfl)|exact flx _|constructor)
     all_goals first | exact Lw.of (by rw [List.map_append]) | exact Lz.of (by rw [List.map_append]) | trace_state
    ·rintro k f1 o1 c1 ⟨j, s, hj, rfl, hsb, rfl, rfl, rfl⟩
     have hg1 := refGet_ok (mx := mx) s hsb
     have hg2 := cmdGet_ok (mx := mx) s hsb
     have hg3 := getCmd_byte hsb
     have hlf := left_ok (mx := mx) (getCmd s).s
     ((conv=>whnf)<;>repeat(with_reducible refine D1 ?_)<;>conv=>whnf)
     (first|refine ⟨?_,?_⟩|refine nsplit ?_ ?_|refine bsplit ?_ ?_)<;>intro hj2<;>have hz_:=True.intro<;>clear hz_
     ·have hj2 : (j : Int) < 25 := hj2
      ((conv=>whnf)<;>repeat(with_reducible refine D1 ?_)<;>conv=>whnf)
      generalize getCmd s = q at *
      refine ⟨[], [], _, _, _, _, hg1, t3, ?_⟩
      rintro r o' c' ⟨rfl, rfl, rfl⟩
      ((conv=>whnf)<;>repeat(with_reducible refine D1 ?_)<;>conv=>whnf)
      refine ⟨[], [some 0], _, _, _, _, hg2, t3, ?_⟩
      rintro r o' c' ⟨rfl, rfl, rfl⟩
      ((conv=>whnf)<;>repeat(with_reducible refine D1 ?_)<;>conv=>whnf)
      (first|refine ⟨?_,?_⟩|refine nsplit ?_ ?_|refine bsplit ?_ ?_)<;>intro h<;>have hz_:=True.intro<;>clear hz_
      ·exfalso; revert h; simp [veq1]
      ((conv=>whnf)<;>repeat(with_reducible refine D1 ?_)<;>conv=>whnf)
      (first|refine ⟨?_,?_⟩|refine nsplit ?_ ?_|refine bsplit ?_ ?_)<;>intro h<;>have hz_:=True.intro<;>clear hz_
      ·exact absurd rfl h
      ((conv=>whnf)<;>repeat(with_reducible refine D1 ?_)<;>conv=>whnf)
      refine ⟨[], [some 0], _, _, _, _, hlf, t3, ?_⟩
      rintro r o' c' ⟨rfl, rfl, rfl⟩
      ((conv=>whnf)<;>repeat(with_reducible refine D1 ?_)<;>conv=>whnf)
      (first|refine ⟨?_,?_⟩|refine nsplit ?_ ?_|refine bsplit ?_ ?_)<;>intro h<;>have hz_:=True.intro<;>clear hz_
      ·exact absurd (by show (q.s.b.length : Int) = ((q.s.b.map encU1).length : Nat); rw [List.length_map]) h
      ((conv=>whnf)<;>repeat(with_reducible refine D1 ?_)<;>conv=>whnf)
      refine ⟨25 - (j + 1), ?_, by omega⟩
      exact ⟨[], [some 0, some 1], _, _, _, t3, ⟨j + 1, q.s, by omega, rfl, hg3, rfl, rfl, rfl⟩⟩
     ·((conv=>whnf)<;>repeat(with_reducible refine D1 ?_)<;>conv=>whnf)
      refine ⟨[], [], _, _, _, _, getCNil_ok, t3, ?_⟩
      rintro r o' c' ⟨rfl, rfl, rfl⟩
      ((conv=>whnf)<;>repeat(with_reducible refine D1 ?_)<;>conv=>whnf)
      repeat ((first | (refine ⟨fun h_ => ?_, fun h_ => ?_⟩) | (refine nsplit (fun h_ => ?_) (fun h_ => ?_)) | (refine bsplit (fun h_ => ?_) (fun h_ => ?_))) <;> first | (exfalso; revert h_; decide; done) | (exact absurd rfl h_) | (have hz_ := True.intro; clear hz_; ((conv=>whnf)<;>repeat(with_reducible refine D1 ?_)<;>conv=>whnf)))
      refine ⟨[], [], _, _, _, _, awake_r, t3, ?_⟩
      rintro r o' c' ⟨rfl, rfl, rfl⟩
      ((conv=>whnf)<;>repeat(with_reducible refine D1 ?_)<;>conv=>whnf)
      exact ⟨[], [], [], .s (.bool true), [], ⟨.s Lz.rfl, .nil, rfl⟩, rfl⟩
  ·((conv=>whnf)<;>repeat(with_reducible refine D1 ?_)<;>conv=>whnf)
   repeat ((first | (refine ⟨fun h_ => ?_, fun h_ => ?_⟩) | (refine nsplit (fun h_ => ?_) (fun h_ => ?_)) | (refine bsplit (fun h_ => ?_) (fun h_ => ?_))) <;> first | (exfalso; revert h_; decide; done) | (exact absurd rfl h_) | (have hz_ := True.intro; clear hz_; ((conv=>whnf)<;>repeat(with_reducible refine D1 ?_)<;>conv=>whnf)))
   have hxb := allB_byte (l := l.take i) fun c hc => (he c (List.mem_of_mem_take hc)).1
   have hxl : (allB (l.take i)).length ≤ 220 := by omega
   have hd := done_ok (mx := mx) ⟨allB (l.take i), 2000, 0⟩ ⟨by show (0 : Int) ≤ 2000 ∧ (2000 : Int) ≤ _; omega, by show ((allB (l.take i)).length : Int) ≤ 2000; omega⟩ (by show (allB (l.take i)).length ≤ _; omega)
   rw [if_pos rfl] at hd
   have hbt : ∀ x ∈ bs.take 40, 0 ≤ x ∧ x < 256 := fun x hx => hb x (List.mem_of_mem_take hx)
   have hbl : (bs.take 40).length ≤ 40 := by rw [List.length_take]; omega
   have hct := cut_ok (mx := mx) bs 40
   dsimp only at hd
   generalize allB (l.take i) = xs at *
   generalize bs.take 40 = ys at *
   have hs := same01_ok (mx := mx) xs xs (by omega)
   rw [eqB_iff.2 rfl] at hs
   have hof := of_ok (mx := mx) (xs ++ ys) (by rw [List.length_append]; omega)
   have hab : ∀ x ∈ xs ++ ys, 0 ≤ x ∧ x < 256 := fun x hx => by
    rcases List.mem_append.1 hx with q | q
    ·exact hxb x q
    ·exact hbt x q
   refine ⟨[], [some 0], _, _, _, _, hd, t3, ?_⟩
   rintro r o' c' ⟨rfl, rfl, rfl⟩
   ((conv=>whnf)<;>repeat(with_reducible refine D1 ?_)<;>conv=>whnf)
   repeat ((first | (refine ⟨fun h_ => ?_, fun h_ => ?_⟩) | (refine nsplit (fun h_ => ?_) (fun h_ => ?_)) | (refine bsplit (fun h_ => ?_) (fun h_ => ?_))) <;> first | (exfalso; revert h_; decide; done) | (exact absurd rfl h_) | (have hz_ := True.intro; clear hz_; ((conv=>whnf)<;>repeat(with_reducible refine D1 ?_)<;>conv=>whnf)))
   refine ⟨[1], [], _, _, _, _, hs, t3, ?_⟩
   rintro r o' c' ⟨rfl, rfl, rfl⟩
   ((conv=>whnf)<;>repeat(with_reducible refine D1 ?_)<;>conv=>whnf)
   repeat ((first | (refine ⟨fun h_ => ?_, fun h_ => ?_⟩) | (refine nsplit (fun h_ => ?_) (fun h_ => ?_)) | (refine bsplit (fun h_ => ?_) (fun h_ => ?_))) <;> first | (exfalso; revert h_; decide; done) | (exact absurd rfl h_) | (have hz_ := True.intro; clear hz_; ((conv=>whnf)<;>repeat(with_reducible refine D1 ?_)<;>conv=>whnf)))
   refine ⟨[], [], _, _, _, _, hct, t3, ?_⟩
   rintro r o' c' ⟨rfl, rfl, rfl⟩
   ((conv=>whnf)<;>repeat(with_reducible refine D1 ?_)<;>conv=>whnf)
   refine ⟨by simp; omega, ?_⟩
   ((conv=>whnf)<;>repeat(with_reducible refine D1 ?_)<;>conv=>whnf)
   refine ⟨[3], [], _, _, _, _, hof, ⟨by ((repeat' first|with_reducible exact Lz.rfl|exact Lw.rfl|exact Lz.wrap (by omega)|(unfold goInt;with_reducible exact Lz.rfl)|exact flx _|constructor); all_goals (first | exact Lw.of (by rw [List.map_append]) | exact Lz.of (by rw [List.map_append]))), by ((repeat' first|with_reducible exact Lz.rfl|exact Lw.rfl|exact Lz.wrap (by omega)|(unfold goInt;with_reducible exact Lz.rfl)|exact flx _|constructor); all_goals (first | exact Lw.of (by rw [List.map_append]) | exact Lz.of (by rw [List.map_append]))), by rfl⟩, ?_⟩
   rintro r o' c' ⟨rfl, rfl, rfl⟩
   ((conv=>whnf)<;>repeat(with_reducible refine D1 ?_)<;>conv=>whnf)
   refine ⟨fun k f o cc => ∃ (j : Nat) (s : InS), j ≤ 25 ∧ k = 25 - j ∧ (∀ x ∈ s.b, 0 ≤ x ∧ x < 256) ∧ cc = 2 ∧ f = [(11, .ptr 0 0), (12, .ptr 1 0), (13, .s (.int .i64 j))] ∧ o = [(0, InO s), (1, InO s)], ⟨25, ?_⟩, ?_⟩
   ·refine ⟨[], [some 4, some 5], ?_⟩
    iterate 3 constructor
    refine ⟨⟨?_, ?_, ?_⟩, ⟨0, ⟨xs ++ ys, 0⟩, by decide, rfl, hab, rfl, rfl, rfl⟩⟩
    all_goals (repeat' first|with_reducible exact Lz.rfl|exact Lw.rfl|exact Lz.wrap (by omega)|(unfold goInt;with_reducible exact Lz.rfl)|exact flx _|constructor)
    all_goals first | exact Lw.of (by rw [List.map_append]) | exact Lz.of (by rw [List.map_append]) | trace_state
   ·rintro k f1 o1 c1 ⟨j, s, hj, rfl, hsb, rfl, rfl, rfl⟩
    have hg1 := refGet_ok (mx := mx) s hsb
    have hg2 := cmdGet_ok (mx := mx) s hsb
    have hg3 := getCmd_byte hsb
    have hlf := left_ok (mx := mx) (getCmd s).s
    ((conv=>whnf)<;>repeat(with_reducible refine D1 ?_)<;>conv=>whnf)
    (first|refine ⟨?_,?_⟩|refine nsplit ?_ ?_|refine bsplit ?_ ?_)<;>intro hj2<;>have hz_:=True.intro<;>clear hz_
    ·have hj2 : (j : Int) < 25 := hj2
     ((conv=>whnf)<;>repeat(with_reducible refine D1 ?_)<;>conv=>whnf)
     generalize getCmd s = q at *
     refine ⟨[], [], _, _, _, _, hg1, t3, ?_⟩
     rintro r o' c' ⟨rfl, rfl, rfl⟩
     ((conv=>whnf)<;>repeat(with_reducible refine D1 ?_)<;>conv=>whnf)
     refine ⟨[], [some 0], _, _, _, _, hg2, t3, ?_⟩
     rintro r o' c' ⟨rfl, rfl, rfl⟩
     ((conv=>whnf)<;>repeat(with_reducible refine D1 ?_)<;>conv=>whnf)
     (first|refine ⟨?_,?_⟩|refine nsplit ?_ ?_|refine bsplit ?_ ?_)<;>intro h<;>have hz_:=True.intro<;>clear hz_
     ·exfalso; revert h; simp [veq1]
     ((conv=>whnf)<;>repeat(with_reducible refine D1 ?_)<;>conv=>whnf)
     (first|refine ⟨?_,?_⟩|refine nsplit ?_ ?_|refine bsplit ?_ ?_)<;>intro h<;>have hz_:=True.intro<;>clear hz_
     ·exact absurd rfl h
     ((conv=>whnf)<;>repeat(with_reducible refine D1 ?_)<;>conv=>whnf)
     refine ⟨[], [some 0], _, _, _, _, hlf, t3, ?_⟩
     rintro r o' c' ⟨rfl, rfl, rfl⟩
     ((conv=>whnf)<;>repeat(with_reducible refine D1 ?_)<;>conv=>whnf)
     (first|refine ⟨?_,?_⟩|refine nsplit ?_ ?_|refine bsplit ?_ ?_)<;>intro h<;>have hz_:=True.intro<;>clear hz_
     ·exact absurd (by show (q.s.b.length : Int) = ((q.s.b.map encU1).length : Nat); rw [List.length_map]) h
     ((conv=>whnf)<;>repeat(with_reducible refine D1 ?_)<;>conv=>whnf)
     refine ⟨25 - (j + 1), ?_, by omega⟩
     exact ⟨[], [some 0, some 1], _, _, _, t3, ⟨j + 1, q.s, by omega, rfl, hg3, rfl, rfl, rfl⟩⟩
    ·((conv=>whnf)<;>repeat(with_reducible refine D1 ?_)<;>conv=>whnf)
     refine ⟨[], [], _, _, _, _, getCNil_ok, t3, ?_⟩
     rintro r o' c' ⟨rfl, rfl, rfl⟩
     ((conv=>whnf)<;>repeat(with_reducible refine D1 ?_)<;>conv=>whnf)
     repeat ((first | (refine ⟨fun h_ => ?_, fun h_ => ?_⟩) | (refine nsplit (fun h_ => ?_) (fun h_ => ?_)) | (refine bsplit (fun h_ => ?_) (fun h_ => ?_))) <;> first | (exfalso; revert h_; decide; done) | (exact absurd rfl h_) | (have hz_ := True.intro; clear hz_; ((conv=>whnf)<;>repeat(with_reducible refine D1 ?_)<;>conv=>whnf)))
     refine ⟨[], [], _, _, _, _, awake_r, t3, ?_⟩
     rintro r o' c' ⟨rfl, rfl, rfl⟩
     ((conv=>whnf)<;>repeat(with_reducible refine D1 ?_)<;>conv=>whnf)
     exact ⟨[], [], [], .s (.bool true), [], ⟨.s Lz.rfl, .nil, rfl⟩, rfl⟩
end Go.M
namespace Go.M
open Go Go.Proofs Go.RowKit Go.Shelf
set_option maxRecDepth 1000000
def join36_ren : Go.Shelf.Ren := ⟨fun | 156 => 36 | 165 => 51 | 166 => 52 | 169 => 53 | 240 => 75 | 241 => 76 | 276 => 89 | 277 => 90 | n => n, fun | 31 => 60 | 9 => 9 | 3 => 3 | 4 => 4 | 0 => 0 | 20 => 20 | 72 => 90 | 76 => 92 | 70 => 88 | 37 => 35 | 75 => 66 | 127 => 112 | 164 => 126 | 5 => 5 | 80 => 94 | n => n, fun | n => n⟩
theorem join36 : Go.Proofs.Lays.n156 Tryd.prog join36_ren where
 mixed := by kernel_rfl
 f156 := Tryd.func36.trans (congrArg some (by kernel_rfl))
 f165 := Tryd.func51.trans (congrArg some (by kernel_rfl))
 f166 := Tryd.func52.trans (congrArg some (by kernel_rfl))
 f169 := Tryd.func53.trans (congrArg some (by kernel_rfl))
 f240 := Tryd.func75.trans (congrArg some (by kernel_rfl))
 f241 := Tryd.func76.trans (congrArg some (by kernel_rfl))
 f276 := Tryd.func89.trans (congrArg some (by kernel_rfl))
 f277 := Tryd.func90.trans (congrArg some (by kernel_rfl))
 t0 := Tryd.underlying0
 a0 := Tryd.isAgg0
 z0 := Tryd.sizeOf0
 v0 := Tryd.zeroValue0
 t3 := Tryd.underlying3
 a3 := Tryd.isAgg3
 z3 := Tryd.sizeOf3
 v3 := Tryd.zeroValue3
 t4 := Tryd.underlying4
 a4 := Tryd.isAgg4
 z4 := Tryd.sizeOf4
 v4 := Tryd.zeroValue4
 t9 := Tryd.underlying9
 a9 := Tryd.isAgg9
 z9 := Tryd.sizeOf9
 v9 := Tryd.zeroValue9
 t20 := Tryd.underlying20
 a20 := Tryd.isAgg20
 z20 := Tryd.sizeOf20
 v20 := Tryd.zeroValue20
 t31 := Tryd.underlying60
 a31 := Tryd.isAgg60
 z31 := Tryd.sizeOf60
 v31 := Tryd.zeroValue60
 t37 := Tryd.underlying35
 a37 := Tryd.isAgg35
 z37 := Tryd.sizeOf35
 v37 := Tryd.zeroValue35
 t70 := Tryd.underlying88
 a70 := Tryd.isAgg88
 z70 := Tryd.sizeOf88
 v70 := Tryd.zeroValue88
 t72 := Tryd.underlying90
 a72 := Tryd.isAgg90
 z72 := Tryd.sizeOf90
 v72 := Tryd.zeroValue90
 t75 := Tryd.underlying66
 a75 := Tryd.isAgg66
 z75 := Tryd.sizeOf66
 v75 := Tryd.zeroValue66
 t76 := Tryd.underlying92
 a76 := Tryd.isAgg92
 z76 := Tryd.sizeOf92
 v76 := Tryd.zeroValue92
 t127 := Tryd.underlying112
 a127 := Tryd.isAgg112
 z127 := Tryd.sizeOf112
 v127 := Tryd.zeroValue112
 t164 := Tryd.underlying126
 a164 := Tryd.isAgg126
 z164 := Tryd.sizeOf126
 v164 := Tryd.zeroValue126
theorem joinX : Builder.Extra Tryd.prog join36_ren where
 sizeBuilder := by kernel_rfl
 liesBuilder := by kernel_rfl
 t5 := Tryd.underlying5
 a5 := Tryd.isAgg5
 z5 := Tryd.sizeOf5
 v5 := Tryd.zeroValue5
 infoByte := by kernel_rfl
 cellsByte := by kernel_rfl
 sizeByte := by kernel_rfl
 neB5 := by decide
def split31_ren : Go.Shelf.Ren := ⟨fun | 146 => 31 | 221 => 48 | 268 => 66 | 138 => 67 | 143 => 68 | 195 => 83 | 197 => 84 | 218 => 85 | 219 => 86 | 260 => 96 | 217 => 97 | 225 => 98 | 224 => 99 | 267 => 100 | 266 => 103 | 314 => 104 | n => n, fun | 9 => 9 | 31 => 60 | 3 => 3 | 4 => 4 | 0 => 0 | 105 => 119 | 21 => 21 | 5 => 5 | 46 => 108 | 119 => 138 | 139 => 141 | 138 => 140 | 146 => 142 | 51 => 131 | n => n, fun | 1 => 4 | 3 => 5 | 4 => 6 | n => n⟩
theorem split31 : Go.Proofs.LaysM.n146 Tryd.prog split31_ren where
 mixed := by kernel_rfl
 f138 := Tryd.func67.trans (congrArg some (by kernel_rfl))
 f143 := Tryd.func68.trans (congrArg some (by kernel_rfl))
 f146 := Tryd.func31.trans (congrArg some (by kernel_rfl))
 f195 := Tryd.func83.trans (congrArg some (by kernel_rfl))
 f197 := Tryd.func84.trans (congrArg some (by kernel_rfl))
 f217 := Tryd.func97.trans (congrArg some (by kernel_rfl))
 f218 := Tryd.func85.trans (congrArg some (by kernel_rfl))
 f219 := Tryd.func86.trans (congrArg some (by kernel_rfl))
 f221 := Tryd.func48.trans (congrArg some (by kernel_rfl))
 f224 := Tryd.func99.trans (congrArg some (by kernel_rfl))
 f225 := Tryd.func98.trans (congrArg some (by kernel_rfl))
 f260 := Tryd.func96.trans (congrArg some (by kernel_rfl))
 f266 := Tryd.func103.trans (congrArg some (by kernel_rfl))
 f267 := Tryd.func100.trans (congrArg some (by kernel_rfl))
 f268 := Tryd.func66.trans (congrArg some (by kernel_rfl))
 f314 := Tryd.func104.trans (congrArg some (by kernel_rfl))
 t0 := Tryd.underlying0
 a0 := Tryd.isAgg0
 z0 := Tryd.sizeOf0
 v0 := Tryd.zeroValue0
 t3 := Tryd.underlying3
 a3 := Tryd.isAgg3
 z3 := Tryd.sizeOf3
 v3 := Tryd.zeroValue3
 t4 := Tryd.underlying4
 a4 := Tryd.isAgg4
 z4 := Tryd.sizeOf4
 v4 := Tryd.zeroValue4
 t5 := Tryd.underlying5
 a5 := Tryd.isAgg5
 z5 := Tryd.sizeOf5
 v5 := Tryd.zeroValue5
 t9 := Tryd.underlying9
 a9 := Tryd.isAgg9
 z9 := Tryd.sizeOf9
 v9 := Tryd.zeroValue9
 t21 := Tryd.underlying21
 a21 := Tryd.isAgg21
 z21 := Tryd.sizeOf21
 v21 := Tryd.zeroValue21
 t31 := Tryd.underlying60
 a31 := Tryd.isAgg60
 z31 := Tryd.sizeOf60
 v31 := Tryd.zeroValue60
 t46 := Tryd.underlying108
 a46 := Tryd.isAgg108
 z46 := Tryd.sizeOf108
 v46 := Tryd.zeroValue108
 t51 := Tryd.underlying131
 a51 := Tryd.isAgg131
 z51 := Tryd.sizeOf131
 v51 := Tryd.zeroValue131
 t105 := Tryd.underlying119
 a105 := Tryd.isAgg119
 z105 := Tryd.sizeOf119
 v105 := Tryd.zeroValue119
 t119 := Tryd.underlying138
 a119 := Tryd.isAgg138
 z119 := Tryd.sizeOf138
 t138 := Tryd.underlying140
 a138 := Tryd.isAgg140
 z138 := Tryd.sizeOf140
 v138 := Tryd.zeroValue140
 t139 := Tryd.underlying141
 a139 := Tryd.isAgg141
 z139 := Tryd.sizeOf141
 v139 := Tryd.zeroValue141
 t146 := Tryd.underlying142
 a146 := Tryd.isAgg142
 z146 := Tryd.sizeOf142
 v146 := Tryd.zeroValue142
 g1 := by kernel_rfl
 g3 := by kernel_rfl
 g4 := by kernel_rfl
 i0 := by kernel_rfl
 i3 := by kernel_rfl
 i4 := by kernel_rfl
 i5 := by kernel_rfl
 i9 := by kernel_rfl
 i21 := by kernel_rfl
 i31 := by kernel_rfl
 i46 := by kernel_rfl
 i51 := by kernel_rfl
 i105 := by kernel_rfl
 i138 := by kernel_rfl
 i139 := by kernel_rfl
 i146 := by kernel_rfl
 m1 := by kernel_rfl
 s1_3 := fun w h => Go.Proofs.cell_of_shapedOpen_int (zero := #[.int .i64 0]) (t := 3) h (of_decide_eq_true (by kernel_rfl)) (by kernel_rfl) rfl (by kernel_rfl) (by kernel_rfl) Tryd.underlying3
 m3 := by kernel_rfl
 m4 := by kernel_rfl
theorem joins : JoinsIn Tryd.prog 36 := joinsIn_of join36 joinX rfl
theorem mixed0 : Tryd.prog.follows .mixedOrders = true := by kernel_rfl
theorem splits : SplitsIn Tryd.prog 4 31 := splitsIn_of { split31 with } (by kernel_rfl) rfl rfl
theorem orcA (mx : Int) (base B : Nat) : OrcOk Tryd.prog (envT Tryd.prog (tabs0 mx) (orcP 4 [31] (orcJ [36] noOrc))) base B :=
 orcP_ok rfl (fun g hg => by simp only [List.mem_cons, List.not_mem_nil, or_false] at hg; subst hg; exact splits)
  (orcJ_ok (fun g hg => by simp only [List.mem_cons, List.not_mem_nil, or_false] at hg; subst hg; exact joins) (fun _ _ => noOrc_okT)) base B
theorem awake08 (mx : Int) : AwakeT Tryd.prog (tabs0 mx) 7 := awakeT_by (n := 5) mixed0 (tabsB0 mx) (orcA mx) (k := 100000) (by kernel_rfl)
theorem orc0 (mx : Int) (base B : Nat) : OrcOk Tryd.prog (E0 mx) base B := by
 refine orcP_ok rfl (fun g hg => ?_) (orcX_ok (tabsB0 mx) (fun g hg => ?_) (fun base B => orcV_ok (fun g hg => ?_) (fun g its hi k hk => ?_) base B)) base B
 ·simp only [List.mem_cons, List.not_mem_nil, or_false] at hg; subst hg; exact splits
 ·simp only [List.mem_cons, List.not_mem_nil, or_false] at hg
  subst hg
  exact awake08 mx
 ·simp at hg
 ·simp [look] at hi
end Go.M
namespace Go.M
open Go
def fieldsD (P : Program) (f : TypeId → DataW Unit → List Value → Bool) : List Field → List (DataW Unit) → Nat → List Value → Bool
 | [], _, _, vs => vs.isEmpty
 | x :: xs, d :: ds, o, vs => Nat.beq x.offset o && Nat.ble (P.cellsOf x.type) vs.length && f x.type d (vs.take (P.cellsOf x.type)) && fieldsD P f xs ds (o + P.cellsOf x.type) (vs.drop (P.cellsOf x.type))
 | _ :: _, [], _, _ => false
def repD (f : DataW Unit → List Value → Bool) (z : Nat) : Nat → List (DataW Unit) → List Value → Bool
 | 0, _, vs => vs.isEmpty
 | n + 1, d :: ds, vs => Nat.ble z vs.length && f d (vs.take z) && repD f z n ds (vs.drop z)
 | _ + 1, [], _ => false
def dB (P : Program) : Nat → TypeId → DataW Unit → List Value → Bool
 | 0, _, _, _ => false
 | n + 1, t, d, vs => match P.underlying t with
  | some .bool => (match d, vs with | .lit (.bool b), [.bool b'] => decide (b = b') | _, _ => false)
  | some (.int _) => (match d, vs with | .lit (.int k m), [.int k' m'] => decide (k = k') && decide (m = m') | _, _ => false)
  | some .string => (match d, vs with | .lit (.string l), [.string s] => decide (l = s.data.toList) | _, _ => false)
  | some (.struct fs) => (match d with | .agg ds => Nat.beq (P.cellsOf t) vs.length && fieldsD P (dB P n) fs.toList ds 0 vs | _ => false)
  | some (.array m e) => (match d with | .agg ds => Nat.beq (P.cellsOf t) vs.length && repD (dB P n e) (P.cellsOf e) m ds vs | _ => false)
  | _ => false
section
variable {P : Program}
theorem fields_d {f : TypeId → DataW Unit → List Value → Bool} {g : TypeId → DataW Unit → List Value → Prop} (hfg : ∀ t d vs cs, f t d vs = true → g t d cs → cs = vs) : ∀ {xs : List Field} {ds : List (DataW Unit)} {o : Nat} {vs cs : List Value},
 fieldsD P f xs ds o vs = true → cs.length = o + vs.length → (∀ (i : Nat) x d, xs[i]? = some x → ds[i]? = some d → g x.type d ((cs.drop x.offset).take (P.cellsOf x.type))) → cs.drop o = vs
 | [], ds, o, vs, cs, h, hl, _ => by
  simp only [fieldsD, List.isEmpty_iff] at h
  subst h
  rw [List.drop_of_length_le (by simp at hl; omega)]
 | x :: xs, [], o, vs, cs, h, hl, _ => by simp [fieldsD] at h
 | x :: xs, d :: ds, o, vs, cs, h, hl, hg => by
  simp only [fieldsD, Bool.and_eq_true, beq_iff, ble_iff] at h
  obtain ⟨⟨⟨h1, h2⟩, h3⟩, h4⟩ := h
  have k1 := hfg _ _ _ _ h3 (hg 0 x d rfl rfl)
  have k2 := fields_d hfg h4 (cs := cs) (by simp; omega) fun i y d' hy hd => hg (i + 1) y d' (by simpa using hy) (by simpa using hd)
  rw [← List.take_append_drop (P.cellsOf x.type) vs, ← k1, ← k2, h1, ← List.drop_drop, List.take_append_drop]
theorem rep_d {f : DataW Unit → List Value → Bool} {z : Nat} {g : DataW Unit → List Value → Prop} (hfg : ∀ d vs cs, f d vs = true → g d cs → cs = vs) : ∀ {n k : Nat} {ds : List (DataW Unit)} {vs cs : List Value},
 repD f z n ds vs = true → cs.length = k * z + vs.length → (∀ i d, i < n → ds[i]? = some d → g d ((cs.drop ((k + i) * z)).take z)) → cs.drop (k * z) = vs
 | 0, k, ds, vs, cs, h, hl, _ => by
  simp only [repD, List.isEmpty_iff] at h
  subst h
  rw [List.drop_of_length_le (by simp at hl; omega)]
 | n + 1, k, [], vs, cs, h, hl, hg => by simp [repD] at h
 | n + 1, k, d :: ds, vs, cs, h, hl, hg => by
  simp only [repD, Bool.and_eq_true, ble_iff] at h
  obtain ⟨⟨h1, h2⟩, h3⟩ := h
  have k1 := hfg _ _ _ h2 (hg 0 d (by omega) rfl)
  have k2 := rep_d (n := n) (k := k + 1) hfg h3 (cs := cs) (by simp [Nat.succ_mul]; omega) fun i d' hi hd => by
   have := hg (i + 1) d' (by omega) (by simpa using hd)
   rwa [show k + (i + 1) = k + 1 + i by omega] at this
  rw [Nat.add_zero] at k1
  rw [← List.take_append_drop z vs, ← k1, ← k2, Nat.succ_mul, ← List.drop_drop, List.take_append_drop]
theorem trod_cells {enc : TypeId × Value → Unit} {W : World} {base : Nat} {sp : Nat → Bool} {held : Bool} : ∀ (n : Nat) (t : TypeId) (d : DataW Unit) (vs : List Value), dB P n t d vs = true →
 ∀ (fuel : Nat) (cs : List Value) (p : List MemPlace), DataW.trod enc P W base sp held fuel t cs = some (d, p) → cs = vs := by
 intro n
 induction n with
 | zero => intro t d vs h; cases h
 | succ n ih =>
  intro t d vs h fuel cs p hr
  unfold dB at h
  split at h
  ·rename_i hu
   obtain ⟨b, rfl, e⟩ := DataW.trod_bool hu hr
   cases e
   split at h
   ·rename_i e
    cases e
    rw [of_decide_eq_true h]
   ·cases h
  ·rename_i k hu
   obtain ⟨m, rfl, e, _⟩ := DataW.trod_int hu hr
   cases e
   split at h
   ·rename_i e
    cases e
    simp only [Bool.and_eq_true] at h
    rw [of_decide_eq_true h.1, of_decide_eq_true h.2]
   ·cases h
  ·rename_i hu
   obtain ⟨s, rfl, e, _⟩ := DataW.trod_string hu hr
   cases e
   split at h
   ·rename_i s' e
    cases e
    have := of_decide_eq_true h
    have e2 : s.data = s'.data := Array.ext' this
    obtain ⟨a⟩ := s
    obtain ⟨b⟩ := s'
    simp only at e2
    rw [e2]
   ·cases h
  ·rename_i fs hu
   obtain ⟨xs, m, rfl, e, hl, hx, he⟩ := DataW.trod_struct hu hr
   cases e
   simp only [Bool.and_eq_true, beq_iff] at h
   obtain ⟨h1, h2⟩ := h
   have := fields_d (g := fun u d' l => ∃ q, DataW.trod enc P W base sp held m u l = some (d', q)) (fun u d' vs' cs' q1 ⟨q, hq⟩ => ih u d' vs' q1 m cs' q hq) h2 (cs := cs) (by omega) fun i x d' hi hd => by
    rw [he i x (by simpa using hi)]
    simp only [List.getElem?_map, Option.map_eq_some_iff] at hd
    obtain ⟨⟨d2, q⟩, hd, rfl⟩ := hd
    exact ⟨q, hd⟩
   simpa using this
  ·rename_i k e hu
   obtain ⟨xs, m, rfl, e', hl, hx, he⟩ := DataW.trod_array hu hr
   cases e'
   simp only [Bool.and_eq_true, beq_iff] at h
   obtain ⟨h1, h2⟩ := h
   have := rep_d (g := fun d' l => ∃ q, DataW.trod enc P W base sp held m e l = some (d', q)) (fun d' vs' cs' q1 ⟨q, hq⟩ => ih e d' vs' q1 m cs' q hq) (k := 0) h2 (cs := cs) (by omega) fun i d' hi hd => by
    rw [Nat.zero_add, he i hi]
    simp only [List.getElem?_map, Option.map_eq_some_iff] at hd
    obtain ⟨⟨d2, q⟩, hd, rfl⟩ := hd
    exact ⟨q, hd⟩
   simpa using this
  ·cases h
theorem laidVars_mem {W : World} : ∀ {laid : List (String × DataW Unit)} {ps : List MemPlace}, DataW.LaidVars P W laid ps → ∀ x ∈ laid, ∃ g t cs fuel p, P.globalNamed x.1 = some g ∧ (P.globals[g]?).map (·.type) = some t ∧ W.var? P x.1 = some cs ∧
      DataW.trod (fun _ => ()) P W 0 (fun _ => true) false fuel t cs.toList = some (x.2, p)
 | [], _, _, x, hx => by cases hx
 | y :: r, ps, ⟨g, t, cs, fuel, p, q, h1, h2, h3, h4, h5, _⟩, x, hx => by
  rcases List.mem_cons.1 hx with rfl | hx
  ·exact ⟨g, t, cs, fuel, p, h1, h2, h3, h4⟩
  ·exact laidVars_mem h5 x hx
def tabD (P : Program) (laid : List (String × DataW Unit)) (l : Tabs) : Bool := l.all fun p => laid.any fun x => (match P.globalNamed x.1 with | some g => Nat.beq g p.1 | none => false) && (match (P.globals[p.1]?).map (·.type) with | some t => dB P 100 t x.2 p.2 | none => false)
theorem laidT_of {laid : List (String × DataW Unit)} {l : Tabs} {W : World} (hB : tabD P laid l = true) (h : laidMet P laid W) : LaidT l W := by
 intro g vs hg
 obtain ⟨ps, hv, _⟩ := h
 have := List.all_eq_true.1 hB _ (look_mem hg)
 obtain ⟨x, hx, hc⟩ := List.any_eq_true.1 this
 obtain ⟨g', t, cs, fuel, p, h1, h2, h3, h4⟩ := laidVars_mem hv x hx
 rw [h1] at hc
 simp only [Bool.and_eq_true, beq_iff] at hc
 obtain ⟨rfl, hc⟩ := hc
 rw [h2] at hc
 have e := trod_cells 100 t x.2 vs hc fuel _ p h4
 unfold World.var? at h3
 rw [h1] at h3
 simp only [Option.bind_some] at h3
 split at h3
 ·rename_i c e' fr hh
  injection h3 with h3
  subst h3
  refine ⟨_, e', fr, hh, by rw [← e]; simp, fun i v hi => by rw [← e] at hi; simpa using hi⟩
 ·cases h3
end
end Go.M
namespace Go.M
open Go
theorem returns_shaped {H : Type} {enc : TypeId × Value → H} {a : Assume} {C : Checked} {os : Os} {f : FuncId} {fn : Func} {s : ChangeSpec} {conds : List PathCond} {apart fresh handsOn again : Bool} {X : World → Array Value → Prop}
 (hX : ∀ (w w' : World) (args : Array Value), w.heap = w'.heap → X w args → X w' args)
 (own : ownKnob C.prog.godebug = none) (started : os.Started) (noInit : C.prog.inits.idxOf? f = none) (hfn : C.prog.funcs[f]? = some fn)
 (witness : ∃ (w : World) (tape : Tape) (i : Input), w.os = os ∧ (w.forCall tape i).Shaped C.prog ∧ i.vars = [] ∧ Input.okWide C.prog (w.forCall tape i) .any w.heap.size f i ∧
  ((s.pre enc C.prog fn conds apart (w.forCall tape i).memory i.args ∧ X (w.forCall tape i).memory i.args) ∧ sizedMet enc C.prog fn (OpenSpec.ofChange s) apart (w.forCall tape i).memory i.args) ∧ a.holds C.prog (lone (Frame.enter C.prog f i.args .normal) [] (w.forCall tape i)))
 (contract : ∀ (W : World) (base : Nat) (args : Array Value) (ds gs : List (DataW H)) (before : List MemPlace), W.ShapedOpen C.prog →
  (∀ (j : Nat) t v, fn.params[j]? = some t → args[j]? = some v → Value.okWide C.prog W .any base t v) →
  DataW.Whole enc C.prog fn.params.toList s.vars apart W args.toList ds gs before → X W args →
  Calls C.prog f args W fun e W' => ∃ v, e = .returned v ∧ s.post enc C.prog fn apart fresh handsOn again W args v W') :
 ReturnsInHanded a C os f .any (fun w args => (s.pre enc C.prog fn conds apart w args ∧ X w args) ∧ sizedMet enc C.prog fn (OpenSpec.ofChange s) apart w args) (s.post enc C.prog fn apart fresh handsOn again) := by
 refine returnsInHanded_of_calls own started noInit witness ?_
 intro w tape i _ hsh _ hok hpre hholds
 obtain ⟨_, _, _, fn', hfn', _, _, _, _, hval⟩ := hok
 have e : fn' = fn := Option.some.inj (hfn'.symm.trans hfn)
 subst e
 obtain ⟨⟨⟨ds, gs, before, hw, hc⟩, hx⟩, hz⟩ := hpre
 have hw' := DataW.Whole.of_heap (w' := w.forCall tape i) (by rfl) hw
 refine (contract (w.forCall tape i) w.heap.size i.args ds gs before hsh hval hw' (hX _ _ _ (by rfl) hx)).mono fun e W' ⟨v, he, hp⟩ => ?_
 subst he
 exact ChangeSpec.post_blind hp
end Go.M
