/-
  Part 5 of the library that the proof leans on.
-/
import Derived.Shelf.SlIterI.Nil
import Derived.Shelf.Strings.OnBuilder
import Derived.KernelRfl
import Derived.Test.YtmookciakjmjiaaDoorChecked
import Derived.Lib.ItoaNum
import Derived.Lib.ItoaLen
import Derived.Shelf.Strconv.Itoa3
import Derived.Lib.AppendIntMem
import Derived.Test.YtmookciakjmjiaaDoorL4
namespace Go.M
open Go
def outK (base : Nat) : KV := fun v h' => match v with
 | .slice (some ⟨b, o, some z⟩) len _ => (readCells h' b o (len * z)).bind fun cs => grd (Nat.ble base b && Nat.blt 0 len && cs.all scalar) (some (.bool false :: goInt len :: goInt z :: cs))
 | v => grd (plain1 v) (some [.bool true, v])
def ansOf (h : AHeap) : Out → Option (Value × AHeap)
 | [.bool true, v] => grd (plain1 v) (some (v, h))
 | .bool false :: .int _ (.ofNat len) :: .int _ (.ofNat z) :: cs => some (.slice (some ⟨h.size, 0, some z⟩) len (len + 1), h.push (.cells cs h.size (h.size + 1) 0))
 | _ => none
noncomputable def confl (E : Env) (n : Nat) : CallF := fun g args h => (callK E h.size n g args h (outK h.size)).bind (ansOf h)
theorem HRel.ext {E : Env} {base B : Nat} {μ : Emb} {h : AHeap} {w w' : World} (H : HRel E base B μ h w) (hs : w.heap.size ≤ w'.heap.size) (hk : ∀ r, r < w.heap.size → w'.heap[r]? = w.heap[r]?) : HRel E base B μ h w' :=
 ⟨H.dom, H.high, fun b m hb => by
  obtain ⟨p, p', k1, k2, k3⟩ := H.obj b m hb
  exact ⟨p, p', k1, by rw [hk _ (H.lt hb)]; exact k2, k3⟩, H.own, H.alias, H.fam, H.glob, Nat.le_trans H.low hs, H.bsz, H.wf, H.root⟩
section
variable {P : Program} {E E0 : Env} {base B : Nat}
end
end Go.M
namespace Go.M
open Go
noncomputable def orcOf (P : Program) (fs : List Nat) (n : Nat) : FuncId → List Value → AHeap → Option (Value × AHeap) := fun g args h =>
 match fs.contains g with
 | true => confl (envOf P noOrc) n g args h
 | false => none
end Go.M
namespace Go.M
open Go
def insI (x : Int) : List Int → List Int
 | [] => [x]
 | y :: l => bif Int.blt' x y then x :: y :: l else y :: insI x l
where Int.blt' (x y : Int) : Bool := decide (x < y)
def sortI : List Int → List Int
 | [] => []
 | x :: l => insI x (sortI l)
def intsV : List Value → Option (List Int)
 | [] => some []
 | .int .i64 x :: l => (intsV l).bind fun r => some (x :: r)
 | _ => none
def outB (base : Nat) : KV := fun v h' => match v with
 | .slice (some ⟨b, o, some 1⟩) len _ => (readCells h' b o len).bind fun cs => (intsV cs).bind fun xs => grd (Nat.ble base b && Nat.blt 0 len) (some (.bool false :: goInt len :: (sortI xs).map (.int .i64)))
 | v => grd (plain1 v) (some [.bool true, v])
def ansB (h : AHeap) : Out → Option (Value × AHeap)
 | [.bool true, v] => grd (plain1 v) (some (v, h))
 | .bool false :: .int _ (.ofNat len) :: cs => (intsV cs).bind fun xs => some (.slice (some ⟨h.size, 0, some 1⟩) len (len + 1), h.push (.bag xs))
 | _ => none
noncomputable def conflB (E : Env) (n : Nat) : CallF := fun g args h => (callK E h.size n g args h (outB h.size)).bind (ansB h)
section
variable {P : Program} {E E0 : Env} {base B : Nat}
end
end Go.M
namespace Go.M
open Go
def insAll (x : Int) : List Int → List (List Int)
 | [] => [[x]]
 | y :: l => (x :: y :: l) :: (insAll x l).map (y :: ·)
def perms : List Int → List (List Int)
 | [] => [[]]
 | x :: l => (perms l).flatMap (insAll x)
def bagOf (h : AHeap) : List Value → Option (Nat × List Int)
 | [] => none
 | .slice (some ⟨b, _, some _⟩) _ cap :: l => (match Nat.beq cap 0, h.get b with
  | false, some (.bag cs) => some (b, cs)
  | _, _ => bagOf h l)
 | _ :: l => bagOf h l
def noRoot (h : AHeap) (b : Nat) : Bool := (List.range h.size).all fun c => match h.get c with
 | some (.cells _ f _ _) => !Nat.beq f b
 | _ => true
noncomputable def conflP (E : Env) (n : Nat) : CallF := fun g args h => (bagOf h args).bind fun r => grd (Nat.blt r.1 h.size && noRoot h r.1) <|
 (meet ((perms r.2).map fun l => callK E h.size n g args (h.put r.1 (.cells (l.map (.int .i64)) r.1 h.size 0)) (outK h.size))).bind (ansOf h)
section
variable {P : Program} {E E0 : Env} {base B : Nat}
end
end Go.M
namespace Go.M
open Go
noncomputable def orcAll (P : Program) (fs bs ps : List Nat) (n : Nat) : FuncId → List Value → AHeap → Option (Value × AHeap) := fun g args h =>
 match fs.contains g with
 | true => confl (envOf P noOrc) n g args h
 | false => match bs.contains g with
  | true => conflB (envOf P noOrc) n g args h
  | false => match ps.contains g with
   | true => conflP (envOf P noOrc) n g args h
   | false => none
end Go.M
namespace Go.M
open Go
def orcT (l : List Nat) : FuncId → List Value → AHeap → Option (Value × AHeap) := fun g args h => match memN g l, args with
 | true, [] => some (.bool true, h)
 | _, _ => none
def Awake (P : Program) (g : FuncId) : Prop := ∀ (W : World) (F : Fence) (n : Nat), Wide F → CallsIn F n P g #[] W fun e W' => e = .returned (.bool true) ∧ Go.RowKit.Below W.heap.size W W'
theorem orcT_ok {P : Program} {l : List Nat} (hl : ∀ g ∈ l, Awake P g) (base B : Nat) : OrcOk P (envOf P (orcT l)) base B := by
 intro μ h w g args args' v h' hc hr H F n hF
 have hc' : orcT l g args h = some (v, h') := hc
 unfold orcT at hc'
 split at hc'
 ·rename_i hg
  cases hc'
  have : args' = #[] := by
   have := hr.length
   simpa using this.symm
  subst this
  refine (hl g (memN_mem hg) w F n hF).mono ?_
  rintro e W' ⟨rfl, hb⟩
  exact ⟨_, μ, rfl, .lit rfl, ⟨H.ext hb.size fun r hr => hb.block r hr, ⟨hb.tape, hb.os, hb.output, hb.size, fun r hr _ => hb.block r hr⟩, μ.le_refl, fun b m h0 h1 => (by rw [h0] at h1; cases h1), fun _ _ _ => rfl, Nat.le_refl _⟩⟩
 ·cases hc'
end Go.M
namespace Go.M
open Go Go.RowKit Go.Maps Go.Sort Go.Shelf Go.Proofs
def SortsKeys (P : Program) (g k : FuncId) : Prop := ∀ (W : World) (Bm : Nat) (mb : Option Nat) (ks : List Int), W.cell? ⟨Bm, 0, none⟩ = some (.map mb) → ks.length ≤ 1099511627776 → (∀ x ∈ ks, IntKind.i64.min ≤ x ∧ x ≤ IntKind.i64.max) → ks.Nodup →
 (mb = none ∧ ks = [] ∨ ∃ (r : Nat) (es : Array MapEntry) (clock : Nat), mb = some r ∧ W.heap[r]? = some (.map es clock) ∧ StL es.toList clock ∧ es.toList.map (·.key) = ks.map (.int .i64)) →
 Calls P g #[.func (.func k) #[] #[.pointer (some ⟨Bm, 0, none⟩)]] W fun e w' => ∃ (v : Value) (t : TypeId), e = .returned v ∧ w'.ownsRow W.heap.size t 1 v ks.length ((ks.mergeSort fun x y => decide (x ≤ y)).map (.int .i64)) ∧ (v = .slice none 0 0 ↔ ks = []) ∧ Below W.heap.size W w'
end Go.M
namespace Go.M
open Go Go.RowKit
theorem calls_any {P : Program} {F : Fence} (hF : Wide F) {n : Nat} {f : FuncId} {args : Array Value} {w : World} {R : Ending → World → Prop} (h : Calls P f args w R) : CallsIn F n P f args w R := by
 have e : Machine.fenced P F = Machine.fenced P Fence.wide := funext fun m => propext ⟨fun _ => fenced_wide P m, fun _ g hg => ⟨fun ha => (by rw [hF.dead] at ha; cases ha), Or.inl (hF.fn _), fun f _ => hF.fn f, fun d hd => (by rw [hF.depth] at hd; cases hd)⟩⟩
 have h2 := callsIn_wide (n := n).2 h
 refine ⟨hF.fn f, fun cs _ => ?_⟩
 rw [e]
 exact h2.2 cs (room_wide _)
def intKs : List MapEntry → Option (List Int)
 | [] => some []
 | e :: l => match e.key, intKs l with
  | .int .i64 n, some ks => some (n :: ks)
  | _, _ => none
def boxMap (h : AHeap) (b : Nat) : Option (Option Nat) := match h.get b with
 | some (.cells [.map mb] f tip thr) => grd (Nat.beq f b && Nat.beq tip b && Nat.ble thr b) (some mb)
 | _ => none
instance (ev : List MapEntry) (clock : Nat) : Decidable (StL ev clock) := inferInstanceAs (Decidable (_ ∧ _))
def ksOk (ks : List Int) : Prop := ks.length ≤ 1099511627776 ∧ (∀ x ∈ ks, IntKind.i64.min ≤ x ∧ x ≤ IntKind.i64.max) ∧ ks.Nodup
instance (ks : List Int) : Decidable (ksOk ks) := inferInstanceAs (Decidable (_ ∧ _ ∧ _))
def keysAt (h : AHeap) : Option Nat → Option (List Int)
 | none => some []
 | some r => match h.get r with
  | some (.map ev clock) => (intKs ev).bind fun ks => grd (decide (StL ev clock) && decide (ksOk ks)) (some ks)
  | _ => none
def sortZ (ks : List Int) : List Int := ks.mergeSort fun x y => decide (x ≤ y)
def ansKs (h : AHeap) (ks : List Int) : Value × AHeap := match ks with
 | [] => (.slice none 0 0, h)
 | _ :: _ => (.slice (some ⟨h.size, 0, some 1⟩) ks.length (ks.length + 1), h.push (.cells ((sortZ ks).map (.int .i64)) h.size h.size 0))
def sortedK (its : List Nat) (args : List Value) (h : AHeap) : Option (Value × AHeap) := match args with
 | [.func (.func k) a c] => (match a.toList, c.toList with
  | [], [.pointer (some ⟨b, 0, none⟩)] => grd (memN k its) ((boxMap h b).bind fun mb => (keysAt h mb).bind fun ks => some (ansKs h ks))
  | _, _ => none)
 | _ => none
theorem boxMap_some {h : AHeap} {b : Nat} {mb : Option Nat} (hb : boxMap h b = some mb) : ∃ thr, h.get b = some (.cells [.map mb] b b thr) ∧ thr ≤ b := by
 unfold boxMap at hb
 split at hb
 ·rename_i mb' f tip thr hg
  simp only [grd_some, Bool.and_eq_true, beq_iff, ble_iff, Option.some.injEq] at hb
  obtain ⟨⟨⟨rfl, rfl⟩, ht⟩, rfl⟩ := hb
  exact ⟨thr, hg, ht⟩
 ·cases hb
theorem keysAt_some {h : AHeap} {r : Nat} {ks : List Int} (hk : keysAt h (some r) = some ks) : ∃ ev clock, h.get r = some (.map ev clock) ∧ intKs ev = some ks ∧ StL ev clock ∧ ksOk ks := by
 simp only [keysAt] at hk
 split at hk
 ·rename_i ev clock hg
  simp only [Option.bind_eq_some_iff, grd_some, Bool.and_eq_true, decide_eq_true_eq, Option.some.injEq] at hk
  obtain ⟨ks', hks, ⟨hst, hok⟩, rfl⟩ := hk
  exact ⟨ev, clock, hg, hks, hst, hok⟩
 ·cases hk
theorem ERels.born {μ : Emb} {ev ev' : List MapEntry} (h : ERels μ ev ev') : ev'.map (·.born) = ev.map (·.born) := by
 induction h with
 | nil => rfl
 | cons _ _ hb _ ih => simp [hb, ih]
theorem StL.iff {ev : List MapEntry} {clock : Nat} : StL ev clock ↔ (∀ b ∈ ev.map (·.born), b < clock) ∧ (ev.map (·.born)).Nodup := by
 unfold StL; simp
theorem ERels.ints {μ : Emb} {ev ev' : List MapEntry} (h : ERels μ ev ev') : ∀ {ks : List Int}, intKs ev = some ks → ev'.map (·.key) = ks.map (.int .i64) := by
 induction h with
 | nil => intro ks hk; simp [intKs] at hk; subst hk; rfl
 | cons hkey _ _ _ ih =>
  intro ks hk
  unfold intKs at hk
  split at hk
  ·rename_i n ks' h1 h2
   cases hk
   rw [h1] at hkey
   have := hkey.inv_scalar rfl
   simp [this, ih h2]
  ·cases hk
theorem sortedK_ok {P : Program} {E : Env} {base B : Nat} {its : List Nat} {g : FuncId} (hS : ∀ k ∈ its, SortsKeys P g k) {μ : Emb} {h h' : AHeap} {w : World} {args : List Value} {args' : Array Value} {v : Value}
 (hc : sortedK its args h = some (v, h')) (hr : VRels μ args args'.toList) (H : HRel E base B μ h w) : Calls P g args' w (RetPost E base B μ h w v h') := by
 unfold sortedK at hc
 split at hc
 ·rename_i k a c
  split at hc
  ·rename_i b ha hcc
   simp only [grd_some, Option.bind_eq_some_iff, Option.some.injEq] at hc
   obtain ⟨hk, mb, hbox, ks, hkeys, hans⟩ := hc
   obtain ⟨thr, hg, hthr⟩ := boxMap_some hbox
   -- the arguments in the world
   obtain ⟨v1, hv1, e1⟩ : ∃ v1, VRel μ (.func (.func k) a c) v1 ∧ args' = #[v1] := by
    obtain ⟨l⟩ := args'
    cases hr with
    | cons h1 h2 => cases h2; exact ⟨_, h1, rfl⟩
   subst e1
   cases hv1 with
   | lit hh => simp [plain1] at hh
   | func hs1 ha1 hs2 ha2 =>
    rename_i a' c'
    have ea : a' = #[] := by
     have h0 : a'.size = 0 := by rw [← hs1]; have := congrArg List.length ha; simpa using this
     exact Array.eq_empty_of_size_eq_zero h0
    subst ea
    have hc1 : c.size = 1 := by have := congrArg List.length hcc; simpa using this
    obtain ⟨p', ec⟩ : ∃ p', c' = #[p'] := by
     obtain ⟨l⟩ := c'
     rw [hc1] at hs2
     match l, hs2 with
     | [x], _ => exact ⟨x, rfl⟩
     | [], hs2 => simp at hs2
     | _ :: _ :: _, hs2 => simp at hs2
    subst ec
    have hp := ha2 0 (.pointer (some ⟨b, 0, none⟩)) p' (by rw [← Array.getElem?_toList, hcc]; rfl) rfl
    obtain ⟨m, hm, rfl⟩ := hp.inv_ptr
    have hs0 := H.root b m _ _ hm hg
    have hrd : h.rd b = some [.map mb] := rd_of (fam_of hg hg) hthr (by unfold AHeap.cellsOf; rw [hg])
    obtain ⟨cc, e, fr, q1, q2, q3, q4, q5⟩ := H.read hm hrd
    obtain ⟨vm, q6, q7⟩ := q5 0 (.map mb) rfl
    rw [hs0] at q6 ⊢
    obtain ⟨mb', rfl, hmap⟩ : ∃ mb', vm = .map mb' ∧ (mb' = none ∧ ks = [] ∨ ∃ (r : Nat) (es : Array MapEntry) (clock : Nat), mb' = some r ∧ w.heap[r]? = some (.map es clock) ∧ StL es.toList clock ∧ es.toList.map (·.key) = ks.map (.int .i64)) := by
     cases mb with
     | none =>
      cases q7 with
      | lit _ => exact ⟨none, rfl, .inl ⟨rfl, by simpa [keysAt] using hkeys.symm⟩⟩
     | some r =>
      obtain ⟨mr, w1, rfl⟩ := q7.inv_map
      refine ⟨_, rfl, .inr ?_⟩
      obtain ⟨ev, clock, hgr, hks, hst, hok⟩ := keysAt_some hkeys
      obtain ⟨o, o', k1, k2, k3⟩ := H.obj r mr w1
      rw [hgr] at k1; cases k1
      cases k3 with
      | map hs =>
       rename_i es'
       refine ⟨_, es', clock, rfl, k2, ?_, hs.ints hks⟩
       rw [StL.iff, hs.born, ← StL.iff]; exact hst
    have hok : ksOk ks := by
     cases mb with
     | none => simp [keysAt] at hkeys; subst hkeys; exact ⟨by simp, by simp, by simp⟩
     | some r =>
      obtain ⟨ev, clock, hgr, hks, hst, hok⟩ := keysAt_some hkeys
      exact hok
    have hcell : w.cell? ⟨m.r, 0, none⟩ = some (.map mb') := by
     unfold World.cell?
     simp only [q1, Option.isSome_none, Bool.false_eq_true, if_false]
     simpa using q6
    have := hS k (memN_mem hk) w m.r mb' ks hcell hok.1 hok.2.1 hok.2.2 hmap
    simp only [Nat.add_zero]
    refine this.mono ?_
    rintro en w' ⟨v', t, rfl, hrow, hnil, hb⟩
    have Hx := H.ext hb.size fun r hr => hb.block r hr
    have gr : Grow base μ w w' := ⟨hb.tape, hb.os, hb.output, hb.size, fun r hr _ => hb.block r hr⟩
    cases ks with
    | nil =>
     simp only [ansKs, Prod.mk.injEq] at hans
     obtain ⟨rfl, rfl⟩ := hans
     have := hnil.2 rfl
     subst this
     exact ⟨_, μ, rfl, .lit rfl, ⟨Hx, gr, μ.le_refl, fun b m h0 h1 => (by rw [h0] at h1; cases h1), fun _ _ _ => rfl, Nat.le_refl _⟩⟩
    | cons x0 l0 =>
     generalize hks0 : x0 :: l0 = ks at *
     have hlen : 0 < ks.length := by rw [← hks0]; simp
     have hans' : ansKs h ks = (.slice (some ⟨h.size, 0, some 1⟩) ks.length (ks.length + 1), h.push (.cells ((sortZ ks).map (.int .i64)) h.size h.size 0)) := by rw [← hks0]; rfl
     rw [hans'] at hans
     simp only [Prod.mk.injEq] at hans
     obtain ⟨rfl, rfl⟩ := hans
     obtain ⟨r1, ⟨_, r2⟩ | ⟨gb, cap, cur, rfl, r3, r4, r5, r6, r7, r8⟩⟩ := hrow
     ·omega
     ·let cs := (sortZ ks).map (Value.int .i64)
      have hcl : cs.length = ks.length := by simp [cs, sortZ]
      let m2 : MT := ⟨gb, 0, cur.size⟩
      have Hp := Hx.pushA (o := .cells cs h.size h.size 0) (fun _ _ _ _ hh => by cases hh; rfl)
      have hget : (h.push (.cells cs h.size h.size 0)).get h.size = some (.cells cs h.size h.size 0) := by rw [AHeap.get_push, if_pos rfl]
      have ho : ORel (upd μ h.size m2) (h.push (.cells cs h.size h.size 0)) base h.size m2 (.cells cs h.size h.size 0) (.cells cur t (0, 0)) := by
       refine .cells rfl (by show 0 + cs.length ≤ cur.size; omega) (fun _ => noFr0 _) fun _ i v hv => ?_
       have hi := (List.getElem?_eq_some_iff.1 hv).1
       have : cur.toList[i]? = some v := by
        have h5 : (cur.toList.take (ks.length * 1))[i]? = some v := by rw [r8]; exact hv
        rw [List.getElem?_take] at h5
        rwa [if_pos (by omega)] at h5
       refine ⟨v, by show cur[0 + i]? = some v; rw [Nat.zero_add]; simpa using this, ?_⟩
       obtain ⟨n, _, rfl⟩ := List.mem_map.1 (List.mem_of_getElem? hv)
       exact .int _ _ _
      have Ht := Hp.track (b := h.size) (m := m2) (by simp [AHeap.size_push]) hget H.fresh H.bsz (by have := H.low; show B ≤ gb; omega) r4
       (fun d md hd he => by have := H.lt hd; simp only [m2] at he; omega) (fun _ _ _ _ hh => by cases hh; exact ⟨rfl, Nat.le_refl _⟩) (fun _ _ _ => rfl) ho
      refine ⟨_, upd μ h.size m2, rfl, ?_, Ht, gr, upd_le H.fresh, fun d md h0 hd => ?_, fun d hd _ => by rw [AHeap.get_push, if_neg (by omega)], by simp [AHeap.size_push]⟩
      ·have := VRel.slice (μ := upd μ h.size m2) (b := h.size) (o := 0) (z := 1) (len := ks.length) (cap := ks.length + 1) (cap' := cap) (m := m2) (upd_self _ _ _) (by omega) r5 (fun h => by omega) (by show 0 + 0 + cap * 1 ≤ cur.size; omega)
       simpa [m2] using this
      ·by_cases ed : d = h.size
       ·subst ed
        rw [upd_self] at hd; cases hd
        exact ⟨Nat.le_refl _, H.bsz, .inl r3⟩
       ·rw [upd_ne _ _ ed, h0] at hd; cases hd
  ·cases hc
 ·cases hc
end Go.M
namespace Go.M
open Go Go.RowKit
def orcV (l : List Nat) (gs : List (Nat × List Nat)) : FuncId → List Value → AHeap → Option (Value × AHeap) := fun g args h => match memN g l with
 | true => (match args with | [] => some (.bool true, h) | _ => none)
 | false => match look gs g with
  | some its => sortedK its args h
  | none => none
theorem orcV_ok {P : Program} {l : List Nat} {gs : List (Nat × List Nat)} (hl : ∀ g ∈ l, Awake P g) (hs : ∀ g its, look gs g = some its → ∀ k ∈ its, SortsKeys P g k) (base B : Nat) : OrcOk P (envOf P (orcV l gs)) base B := by
 intro μ h w g args args' v h' hc hr H F n hF
 have hc' : orcV l gs g args h = some (v, h') := hc
 unfold orcV at hc'
 split at hc'
 ·rename_i hg
  split at hc'
  ·exact orcT_ok hl base B μ h w g [] args' v h' (by show orcT l g [] h = _; unfold orcT; rw [hg]; exact hc') hr ⟨H.dom, H.high, H.obj, H.own, H.alias, H.fam, H.glob, H.low, H.bsz, H.wf, H.root⟩ F n hF |>.mono fun e w' ⟨v', μ', h1, h2, h3⟩ =>
    ⟨v', μ', h1, h2, ⟨h3.rel.dom, h3.rel.high, h3.rel.obj, h3.rel.own, h3.rel.alias, h3.rel.fam, h3.rel.glob, h3.rel.low, h3.rel.bsz, h3.rel.wf, h3.rel.root⟩, h3.grow, h3.le, h3.new, h3.unt, h3.hsz⟩
  ·cases hc'
 ·split at hc'
  ·rename_i its hi
   exact calls_any hF (sortedK_ok (hs g its hi) hc' hr H)
  ·cases hc'
section
variable {E : Env}
def KeysO (ks : List Int) : TO → Prop
 | .map _ es => es.map (·.1) = ks.map (.int .i64)
 | .maq _ es op => op = [] ∧ es.map (·.1) = ks.map (.int .i64)
 | _ => False
end
end Go.M
namespace Go.M
open Go Go.RowKit
def OnInts (P : Program) (g : FuncId) (pre : List Value) (val : List Int → Value) (ok : List Int → Prop) : Prop :=
 ∀ (W : World) (l : List Int) (r o cap : Nat) (c : Array Value) (e : TypeId) (fr : Nat × Nat),
  W.heap[r]? = some (.cells c e fr) → l.length ≤ cap → o + cap ≤ c.size → (∀ (i : Nat) (x : Int), l[i]? = some x → c[o + i]? = some (.int .i64 x)) → ok l →
  Calls P g (List.toArray (pre ++ [Value.slice (some ⟨r, o, none⟩) l.length cap])) W fun en W' => en = .returned (val l) ∧ Below W.heap.size W W'
def bagK (val : List Value → List Int → Option Value) (args : List Value) (h : AHeap) : Option (Value × AHeap) := match args.reverse with
 | .slice (some ⟨b, 0, some 1⟩) len cap :: rp => (match h.get b with
  | some (.bag cs) => grd (Nat.beq len cs.length && Nat.ble len cap && Nat.blt 0 len && rp.all scalar) ((val rp.reverse cs).bind fun v => some (v, h))
  | _ => none)
 | _ => none
def BagOk (P : Program) (g : FuncId) (val : List Value → List Int → Option Value) : Prop :=
 ∀ pre cs v, (∀ u ∈ pre, scalar u = true) → val pre cs = some v → scalar v = true ∧ ∀ l : List Int, l.Perm cs → ∃ vf ok, OnInts P g pre vf ok ∧ ok l ∧ vf l = v
section
variable {E : Env}
end
end Go.M
namespace Go.M
open Go Go.RowKit Go.Maps Go.Sort Go.Shelf Go.Proofs
def CollectsKeys (P : Program) (g k : FuncId) : Prop := ∀ (W : World) (Bm : Nat) (mb : Option Nat) (ks : List Int), W.cell? ⟨Bm, 0, none⟩ = some (.map mb) → ks.length ≤ 1099511627776 → (∀ x ∈ ks, IntKind.i64.min ≤ x ∧ x ≤ IntKind.i64.max) → ks.Nodup →
 (mb = none ∧ ks = [] ∨ ∃ (r : Nat) (es : Array MapEntry) (clock : Nat), mb = some r ∧ W.heap[r]? = some (.map es clock) ∧ StL es.toList clock ∧ es.toList.map (·.key) = ks.map (.int .i64)) →
 Calls P g #[.func (.func k) #[] #[.pointer (some ⟨Bm, 0, none⟩)]] W fun e w' => ∃ (v : Value) (t : TypeId) (l : List Int), e = .returned v ∧ l.Perm ks ∧ w'.ownsRow W.heap.size t 1 v ks.length (l.map (.int .i64)) ∧ (v = .slice none 0 0 ↔ ks = []) ∧ Below W.heap.size W w'
def ansC (h : AHeap) (ks : List Int) : Value × AHeap := match ks with
 | [] => (.slice none 0 0, h)
 | _ :: _ => (.slice (some ⟨h.size, 0, some 1⟩) ks.length (ks.length + 1), h.push (.bag ks))
def collectK (its : List Nat) (args : List Value) (h : AHeap) : Option (Value × AHeap) := match args with
 | [.func (.func k) a c] => (match a.toList, c.toList with
  | [], [.pointer (some ⟨b, 0, none⟩)] => grd (memN k its) ((boxMap h b).bind fun mb => (keysAt h mb).bind fun ks => some (ansC h ks))
  | _, _ => none)
 | _ => none
end Go.M
namespace Go.M
open Go Go.RowKit
section
variable {X : Cx} {ρ : Gh} {F : Nat → Prop} {o : Ob} {c : Nat} {h : AHeap}
end
section
variable {E : Env}
end
abbrev BagF := List Value → List Int → Option Value
def orcW (l : List Nat) (gs cs : List (Nat × List Nat)) (bs : List (Nat × BagF)) : FuncId → List Value → AHeap → Option (Value × AHeap) := fun g args h => match look cs g with
 | some its => collectK its args h
 | none => match look bs g with
  | some val => bagK val args h
  | none => orcV l gs g args h
end Go.M
namespace Go.M
open Go
abbrev Tabs := List (Nat × List Value)
def envT (P : Program) (l : Tabs) (orc : FuncId → List Value → AHeap → Option (Value × AHeap)) : Env := { envOf P orc with tab := look l }
theorem envOkT (P : Program) (l : Tabs) (orc : FuncId → List Value → AHeap → Option (Value × AHeap)) : EnvOk P (envT P l orc) :=
 let h := envOk P orc
 ⟨h.desc, h.size, h.bytes, h.zero, h.eqOk, h.func⟩
def LaidT (l : Tabs) (W : World) : Prop := ∀ g cs, look l g = some cs → ∃ c e fr, W.heap[g]? = some (.cells c e fr) ∧ cs.length ≤ c.size ∧ ∀ (i : Nat) v, cs[i]? = some v → c[i]? = some v
def heapT (l : Tabs) : Nat → AHeap
 | 0 => h00
 | n + 1 => (heapT l n).push (.cells (match look l n with | some cs => cs | none => []) n (n + 1) 0)
def muT (l : Tabs) (n : Nat) (W : World) : Emb := fun g => match look l g, W.heap[g]?, Nat.blt g n with
 | some _, some (.cells c _ _), true => some ⟨g, 0, c.size⟩
 | _, _, _ => none
def tabsB (l : Tabs) (n : Nat) : Bool := l.all fun p => Nat.blt p.1 n && p.2.all tabV && (match look l p.1 with | some cs => eqLs cs p.2 | none => false)
def tabsIn (l : Tabs) (h : AHeap) : Bool := l.all fun p => match h.rd p.1, look l p.1 with | some cs, some cs' => eqLs cs cs' | _, _ => false
section
variable {P : Program} {l : Tabs} {n : Nat} {W : World}
theorem heapT_size : ∀ n, (heapT l n).size = n
 | 0 => rfl
 | n + 1 => by rw [heapT, AHeap.size_push, heapT_size n]
theorem heapT_get : ∀ n b, (heapT l n).get b = if b < n then some (.cells (match look l b with | some cs => cs | none => []) b (b + 1) 0) else none
 | 0, b => by simp; rfl
 | n + 1, b => by
  rw [heapT, AHeap.get_push, heapT_size n, heapT_get n b]
  by_cases e : b = n
  ·subst e; simp
  ·rw [if_neg e]
   by_cases h : b < n
   ·rw [if_pos h, if_pos (by omega)]
   ·rw [if_neg h, if_neg (by omega)]
theorem look_mem {α : Type} {l : List (Nat × α)} {g : Nat} {x : α} (h : look l g = some x) : (g, x) ∈ l := by
 induction l with
 | nil => simp [look] at h
 | cons p l ih =>
  unfold look at h
  split at h
  ·rename_i hb
   cases h
   rw [beq_iff] at hb; subst hb
   exact List.mem_cons_self
  ·exact List.mem_cons_of_mem _ (ih h)
theorem tabsB_ok (hB : tabsB l n = true) {g : Nat} {cs : List Value} (h : look l g = some cs) : g < n ∧ cs.all tabV = true := by
 have := List.all_eq_true.1 hB _ (look_mem h)
 simp only [Bool.and_eq_true, blt_iff] at this
 exact ⟨this.1.1, this.1.2⟩
theorem tabV_scalar {v : Value} (h : tabV v = true) : plain1 v = true := by
 unfold tabV at h; simp only [Bool.and_eq_true] at h; exact h.1
theorem arT (hB : tabsB l n = true) (hW : LaidT l W) : AR W (muT l n W) (heapT l n) := by
 have key : ∀ {b m}, muT l n W b = some m → ∃ cs c e fr, look l b = some cs ∧ W.heap[b]? = some (.cells c e fr) ∧ b < n ∧ m = ⟨b, 0, c.size⟩ := by
  intro b m h
  unfold muT at h
  split at h
  ·rename_i cs c e fr h1 h2 h3
   cases h
   exact ⟨cs, c, e, fr, h1, h2, blt_iff.1 h3, rfl⟩
  ·cases h
 refine ⟨fun b hb => ?_, fun b hb => ?_, fun b m hb => ?_, fun b m hb => ?_⟩
 ·rw [heapT_size] at hb; rw [heapT_get, if_neg (by omega)]
 ·rw [heapT_size] at hb; rw [heapT_get, if_pos hb]; exact ⟨_, rfl⟩
 ·obtain ⟨cs, c, e, fr, h1, h2, h3, rfl⟩ := key hb
  rw [heapT_size]; exact h3
 ·obtain ⟨cs, c, e, fr, h1, h2, h3, rfl⟩ := key hb
  obtain ⟨c', e', fr', q1, q2, q3⟩ := hW b cs h1
  rw [h2] at q1; cases q1
  refine ⟨cs, c, e, fr, by rw [heapT_get, if_pos h3, h1], h2, rfl, by simpa using q2, fun i v hv => ⟨v, by simpa using q3 i v hv, .lit ?_⟩⟩
  exact tabV_scalar (List.all_eq_true.1 (tabsB_ok hB h1).2 v (List.mem_of_getElem? hv))
theorem muT_glob (hB : tabsB l n = true) (hW : LaidT l W) {E : Env} (hE : E.tab = look l) (g : Nat) (hg : E.glob g = true) : ∃ m, muT l n W g = some m ∧ m.r = g ∧ m.s = 0 := by
 unfold Env.glob at hg
 rw [hE, Option.isSome_iff_exists] at hg
 obtain ⟨cs, h1⟩ := hg
 obtain ⟨c, e, fr, q1, q2, q3⟩ := hW g cs h1
 refine ⟨⟨g, 0, c.size⟩, ?_, rfl, rfl⟩
 unfold muT
 rw [h1, q1, blt_iff.2 (tabsB_ok hB h1).1]
theorem laid_of_rel {E : Env} (hE : E.tab = look l) {base B : Nat} {μ : Emb} {h : AHeap} {w : World} (H : HRel E base B μ h w) (hB : tabsB l n = true) (ht : tabsIn l h = true) : LaidT l w := by
 intro g cs hg
 obtain ⟨m, q1, q2, q3⟩ := H.glob g (by unfold Env.glob; rw [hE, hg]; rfl)
 have := List.all_eq_true.1 ht _ (look_mem hg)
 simp only [hg] at this
 split at this
 ·rename_i cs1 cs2 hr e
  cases e
  have ec := eqLs_eq this
  subst ec
  obtain ⟨c, e, fr, k1, k2, k3, _, k5⟩ := H.read q1 hr
  rw [q2] at k1
  rw [q3] at k3 k5
  refine ⟨c, e, fr, k1, by omega, fun i v hv => ?_⟩
  obtain ⟨v', p1, p2⟩ := k5 i v hv
  have hp := tabV_scalar (List.all_eq_true.1 (tabsB_ok hB hg).2 v (List.mem_of_getElem? hv))
  have hf := (List.all_eq_true.1 (tabsB_ok hB hg).2 v (List.mem_of_getElem? hv))
  have : v' = v := by
   cases p2 with
   | lit h => rfl
   | _ => simp [plain1] at hp
  subst this
  simpa using p1
 ·cases this
theorem tabsIn_of {E : Env} (hE : E.tab = look l) {F : Nat → Prop} {h : AHeap} (hB : tabsB l n = true) (N : TabOk E F h) : tabsIn l h = true := by
 refine List.all_eq_true.2 fun p hp => ?_
 have := List.all_eq_true.1 hB p hp
 simp only [Bool.and_eq_true] at this
 have h3 := this.2
 split at h3
 ·rename_i cs hl
  obtain ⟨_, n2, _⟩ := N p.1 cs (by rw [hE]; exact hl)
  rw [n2, hl]
  have e := eqLs_eq h3
  rw [e] at h3 ⊢
  exact h3
 ·cases h3
def AwakeT (P : Program) (l : Tabs) (g : FuncId) : Prop := ∀ (W : World) (F : Fence) (n : Nat), LaidT l W → Wide F → CallsIn F n P g #[] W fun e W' => e = .returned (.bool true) ∧ Go.RowKit.Below W.heap.size W W'
noncomputable def orcAllT (P : Program) (l : Tabs) (fs bs ps : List Nat) (n : Nat) : FuncId → List Value → AHeap → Option (Value × AHeap) := fun g args h =>
 match fs.contains g with
 | true => confl (envT P l noOrc) n g args h
 | false => match bs.contains g with
  | true => conflB (envT P l noOrc) n g args h
  | false => match ps.contains g with
   | true => conflP (envT P l noOrc) n g args h
   | false => none
theorem noOrc_okT {base B : Nat} : OrcOk P (envT P l noOrc) base B := fun μ h w g args args' v h' hr => by
 have : (none : Option (Value × AHeap)) = some (v, h') := hr
 cases this
theorem AR.hrelT {E : Env} {μ0 μ : Emb} {h : AHeap} (A : AR W μ h) (hle : μ0.le μ) (hg : ∀ g, E.glob g = true → ∃ m, μ0 g = some m ∧ m.r = g ∧ m.s = 0) : HRel E h.size W.heap.size μ h W :=
 let H := AR.hrel (E := envOf default noOrc) A (fun _ => rfl)
 ⟨H.dom, H.high, H.obj, H.own, H.alias, H.fam, fun g h => let ⟨m, q1, q2⟩ := hg g h; ⟨m, hle _ _ q1, q2⟩, H.low, H.bsz, H.wf, H.root⟩
def orcX (l : Tabs) (aw : List Nat) (rest : FuncId → List Value → AHeap → Option (Value × AHeap)) : FuncId → List Value → AHeap → Option (Value × AHeap) := fun g args h =>
 match memN g aw, args, tabsIn l h with
 | true, [], true => some (.bool true, h)
 | _, _, _ => rest g args h
theorem orcX_ok {aw : List Nat} {rest : FuncId → List Value → AHeap → Option (Value × AHeap)} (hB : tabsB l n = true) (ha : ∀ g ∈ aw, AwakeT P l g) (hr : ∀ base B, OrcOk P (envOf P rest) base B) (base B : Nat) : OrcOk P (envT P l (orcX l aw rest)) base B := by
 intro μ h w g args args' v h' hc hv H F k hF
 have hc' : orcX l aw rest g args h = some (v, h') := hc
 unfold orcX at hc'
 split at hc'
 ·rename_i h1 h2
  cases hc'
  have : args' = #[] := by
   have := hv.length
   simpa using this.symm
  subst this
  refine (ha g (memN_mem h1) w F k (laid_of_rel (E := envT P l (orcX l aw rest)) rfl H hB h2) hF).mono ?_
  rintro e W' ⟨rfl, hb⟩
  exact ⟨_, μ, rfl, .lit rfl, ⟨H.ext hb.size fun r hr => hb.block r hr, ⟨hb.tape, hb.os, hb.output, hb.size, fun r hr _ => hb.block r hr⟩, μ.le_refl, fun b m h0 h1 => (by rw [h0] at h1; cases h1), fun _ _ _ => rfl, Nat.le_refl _⟩⟩
 ·have H2 : HRel (envOf P rest) base B μ h w := ⟨H.dom, H.high, H.obj, H.own, H.alias, H.fam, fun g hg => by simp [Env.glob, envOf] at hg, H.low, H.bsz, H.wf, H.root⟩
  exact (hr base B μ h w g _ args' v h' hc' hv H2 F k hF).mono fun e w' ⟨v', μ', h1, h2, h3⟩ =>
   ⟨v', μ', h1, h2, ⟨h3.rel.dom, h3.rel.high, h3.rel.obj, h3.rel.own, h3.rel.alias, h3.rel.fam, fun g hg => let ⟨m, q1, q2⟩ := H.glob g hg; ⟨m, h3.le _ _ q1, q2⟩, h3.rel.low, h3.rel.bsz, h3.rel.wf, h3.rel.root⟩, h3.grow, h3.le, h3.new, h3.unt, h3.hsz⟩
end
section
open Go.ChangeShapes Go.WideShapes
variable {H : Type} {enc : TypeId × Value → H} {P : Program} {W : World} {base : Nat} {held : Bool}
theorem row_trueT {l : Tabs} {n : Nat} {E : Env} {g : FuncId} {ash : List ArgSh} {ts : List TypeId} {args : Array Value} {ds : List (DataW H)} {ps : List MemPlace} {base' : Nat} {r : Reach} (hE : EnvOk P E) (hO : ∀ base B, OrcOk P E base B) (hm : P.follows .mixedOrders = true)
 (hT : E.tab = look l) (hBT : tabsB l n = true) (hWT : LaidT l W)
 (hB : argsB P ts ash = true) (hD : DataW.TrodAll enc P W base (fun _ => true) held ts args.toList ds ps) (hv : ∀ (j : Nat) t v, ts[j]? = some t → args[j]? = some v → Value.okWide P W r base' t v)
 (hc : ∀ tvs, FitAs ash tvs → VC E g 0 tvs [] fun r _ _ => r = .s (.bool true)) : Calls P g args W fun e W' => e = .returned (.bool true) ∧ Go.RowKit.Below W.heap.size W W' := by
 obtain ⟨μ, h, tvs, vs0, A, hle, hgr, f, r, x⟩ := args_laid hB hD (fun j t v a b => hv j t v a (by simpa using b)) _ _ (arT hBT hWT)
 have hN : TabOk E (· < h.size) h := fun g cs hg => by
  rw [hT] at hg
  obtain ⟨h1, h2⟩ := tabsB_ok hBT hg
  have hs := hgr.1
  rw [heapT_size] at hs
  refine ⟨by omega, A.rd (cs := cs) ?_, h2⟩
  rw [hgr.2 g (by rw [heapT_size]; exact h1), heapT_get, if_pos h1, hg]
 obtain ⟨k, v, h', ρ', F', r', o', c', h1, rfl, h3, h4⟩ := hc tvs f h.size noG _ h _ vs0 hN A.mem (AR.mo (μ := μ)) r
 obtain ⟨rfl, _⟩ := h4.inv_s
 have := acall_ok hE (hO h.size W.heap.size) hm k μ h W g vs0 args _ h' h1 x (A.hrelT hle (muT_glob hBT hWT hT)) Fence.wide 0 Wide.wide
 refine (callsIn_wide.1 (this.mono ?_))
 rintro e W' ⟨v', μ', rfl, hv, S⟩
 have e := hv.inv_scalar rfl
 subst e
 exact ⟨rfl, S.grow.os, S.grow.tape, S.grow.output, S.grow.size, fun k hk => S.grow.keep k hk fun b m hb _ => A.dom b m hb⟩
end
end Go.M
namespace Go.M
open Go Go.RowKit Go.Shelf Go.Proofs
def JoinsIn (P : Program) (g : FuncId) : Prop := ∀ (bk o c : Nat) (xs : List ByteArray) (sep : ByteArray) (w : World), (∀ (j : Nat) x, xs[j]? = some x → w.cell? ⟨bk, o + j, none⟩ = some (.string x)) → bk < w.heap.size → xs.length ≤ 100000 → xs.length ≤ c →
 (Lib.join (xs.map (·.data.toList)) sep.data.toList).length ≤ 1000000 →
 Calls P g #[.slice (some ⟨bk, o, none⟩) xs.length c, .string sep] w fun e w' => e = .returned (.string ⟨(Lib.join (xs.map (·.data.toList)) sep.data.toList).toArray⟩) ∧ Below w.heap.size w w'
theorem joinsIn_of {P : Program} {ρ : Ren} (L : Lays.n156 P ρ) (X : Builder.Extra P ρ) {g : FuncId} (e : ρ.f 156 = g) : JoinsIn P g := fun bk o c xs sep w h1 h2 h3 h4 h5 => by
 subst e
 exact Any.strings_Join L X bk o c xs sep w h1 h2 (by omega) h4 (by omega)
def strsOf : List Value → Option (List ByteArray)
 | [] => some []
 | .string s :: l => (strsOf l).map (s :: ·)
 | _ :: _ => none
theorem strsOf_get : ∀ {l : List Value} {xs : List ByteArray}, strsOf l = some xs → xs.length = l.length ∧ ∀ (i : Nat) x, xs[i]? = some x → l[i]? = some (.string x)
 | [], xs, h => by cases h; exact ⟨rfl, fun i x hx => by simp at hx⟩
 | v :: l, xs, h => by
  cases v with
  | string s =>
   simp only [strsOf, Option.map_eq_some_iff] at h
   obtain ⟨ys, h, rfl⟩ := h
   obtain ⟨h1, h2⟩ := strsOf_get h
   refine ⟨by simp [h1], fun i x hx => ?_⟩
   cases i with
   | zero => simp at hx; subst hx; rfl
   | succ i => simp at hx; simpa using h2 i x hx
  | _ => cases h
def joinK (args : List Value) (h : AHeap) : Option (Value × AHeap) := match args with
 | [.slice (some ⟨b, o, some _⟩) len _, .string sep] => (readCells h b o len).bind fun cs => (strsOf cs).bind fun xs =>
  grd (Nat.blt 0 len && Nat.ble len 100000 && Nat.ble (Lib.join (xs.map (·.data.toList)) sep.data.toList).length 1000000) (Value.string ⟨(Lib.join (xs.map (·.data.toList)) sep.data.toList).toArray⟩, h)
 | _ => none
def orcJ (js : List Nat) (rest : FuncId → List Value → AHeap → Option (Value × AHeap)) : FuncId → List Value → AHeap → Option (Value × AHeap) := fun g args h =>
 match memN g js, joinK args h with
 | true, some r => some r
 | _, _ => rest g args h
section
variable {P : Program} {l : Tabs}
theorem joinK_ok {E : Env} {base B : Nat} {g : FuncId} (hJ : JoinsIn P g) {μ : Emb} {h h' : AHeap} {w : World} {args : List Value} {args' : Array Value} {v : Value}
 (hc : joinK args h = some (v, h')) (hr : VRels μ args args'.toList) (H : HRel E base B μ h w) : Calls P g args' w (RetPost E base B μ h w v h') := by
 unfold joinK at hc
 split at hc
 ·rename_i b o z len cap sep
  simp only [Option.bind_eq_some_iff, grd_some, Bool.and_eq_true, blt_iff, ble_iff, Option.some.injEq, Prod.mk.injEq] at hc
  obtain ⟨cs, hcs, xs, hxs, ⟨⟨h1, h2⟩, h3⟩, rfl, rfl⟩ := hc
  obtain ⟨v1, v2, hv1, hv2, e1⟩ : ∃ v1 v2, VRel μ (.slice (some ⟨b, o, some z⟩) len cap) v1 ∧ VRel μ (.string sep) v2 ∧ args' = #[v1, v2] := by
   obtain ⟨l⟩ := args'
   cases hr with
   | cons q1 q2 => cases q2 with
    | cons q2 q3 => cases q3; exact ⟨_, _, q1, q2, rfl⟩
  subst e1
  have e2 := hv2.inv_scalar rfl
  subst e2
  obtain ⟨y1, y2⟩ := strsOf_get hxs
  cases hv1 with
  | lit hh => simp [plain1] at hh
  | slice0 hh => simp at h1
  | slice hm k1 k2 k3 k4 =>
   rename_i cap' m
   obtain ⟨r1, r2⟩ := H.readCells hm hcs
   have hlen : len = xs.length := by omega
   subst hlen
   obtain ⟨o1, o2, _, q2, _⟩ := H.obj b m hm
   refine (hJ m.r (m.s + o) cap' xs sep w (fun j x hx => ?_) ?_ h2 k2 h3).mono ?_
   ·obtain ⟨v', p1, p2⟩ := r2 j _ (y2 j x hx)
    have := p2.inv_scalar rfl
    subst this
    exact p1
   ·exact (Array.getElem?_eq_some_iff.1 q2).1
   ·rintro e W' ⟨rfl, hb⟩
    exact ⟨_, μ, rfl, .lit rfl, ⟨H.ext hb.size fun r hr => hb.block r hr, ⟨hb.tape, hb.os, hb.output, hb.size, fun r hr _ => hb.block r hr⟩, μ.le_refl, fun b m h0 h1 => (by rw [h0] at h1; cases h1), fun _ _ _ => rfl, Nat.le_refl _⟩⟩
 ·cases hc
theorem orcJ_ok {js : List Nat} {rest : FuncId → List Value → AHeap → Option (Value × AHeap)} (hj : ∀ g ∈ js, JoinsIn P g) (hr : ∀ base B, OrcOk P (envT P l rest) base B) (base B : Nat) : OrcOk P (envT P l (orcJ js rest)) base B := by
 intro μ h w g args args' v h' hc hv H F k hF
 have hc' : orcJ js rest g args h = some (v, h') := hc
 unfold orcJ at hc'
 split at hc'
 ·rename_i r h1 h2
  cases hc'
  exact calls_any hF (joinK_ok (hj g (memN_mem h1)) h2 hv H)
 ·have H2 : HRel (envT P l rest) base B μ h w := ⟨H.dom, H.high, H.obj, H.own, H.alias, H.fam, H.glob, H.low, H.bsz, H.wf, H.root⟩
  exact (hr base B μ h w g _ args' v h' hc' hv H2 F k hF).mono fun e w' ⟨v', μ', h1, h2, h3⟩ =>
   ⟨v', μ', h1, h2, ⟨⟨h3.rel.dom, h3.rel.high, h3.rel.obj, h3.rel.own, h3.rel.alias, h3.rel.fam, h3.rel.glob, h3.rel.low, h3.rel.bsz, h3.rel.wf, h3.rel.root⟩, h3.grow, h3.le, h3.new, h3.unt, h3.hsz⟩⟩
theorem awakeT_by {n : Nat} {orc : FuncId → List Value → AHeap → Option (Value × AHeap)} (hm : P.follows .mixedOrders = true) (hB : tabsB l n = true) (hO : ∀ base B, OrcOk P (envT P l orc) base B) {k : Nat} {g : FuncId}
 (hr : gaveTrue (acall (envT P l orc) n k g [] (heapT l n)) = true) : AwakeT P l g := by
 intro W F j hW hF
 obtain ⟨h', hr⟩ := gaveTrue_some hr
 have A := arT hB hW
 have H : HRel (envT P l orc) n W.heap.size (muT l n W) (heapT l n) W := by
  have := A.hrelT (E := envT P l orc) (Emb.le_refl _) (muT_glob hB hW rfl)
  rwa [heapT_size] at this
 have := acall_ok (envOkT P l _) (hO n W.heap.size) hm k (muT l n W) (heapT l n) W g [] #[] (.bool true) h' hr .nil H F j hF
 refine this.mono ?_
 rintro e W' ⟨v', μ', rfl, hv, S⟩
 have e := hv.inv_scalar rfl
 subst e
 refine ⟨rfl, S.grow.os, S.grow.tape, S.grow.output, S.grow.size, fun k hk => S.grow.keep k hk fun b mt hb _ => ?_⟩
 have := A.dom b mt hb
 rwa [heapT_size] at this
end
end Go.M
namespace Go.M
open Go Go.RowKit
def PureIn (P : Program) (l : Tabs) (g : FuncId) (f : List Value → Option Value) : Prop :=
 ∀ (w : World) (vs : List Value) (v : Value), LaidT l w → f vs = some v → Calls P g vs.toArray w fun e w' => e = .returned v ∧ Below w.heap.size w w'
noncomputable def pureK (l : Tabs) (f : List Value → Option Value) (args : List Value) (h : AHeap) : Option (Value × AHeap) :=
 (f args).bind fun v => grd (args.all scalar && plain1 v && tabsIn l h) (v, h)
noncomputable def orcS (l : Tabs) (fs : List (Nat × (List Value → Option Value))) (rest : FuncId → List Value → AHeap → Option (Value × AHeap)) : FuncId → List Value → AHeap → Option (Value × AHeap) := fun g args h =>
 match (look fs g).bind fun f => pureK l f args h with
 | some r => some r
 | none => rest g args h
theorem VRels.plain {μ : Emb} : ∀ {l l' : List Value}, VRels μ l l' → l.all scalar = true → l' = l
 | _, _, .nil, _ => rfl
 | _, _, .cons h t, hp => by
  simp only [List.all_cons, Bool.and_eq_true] at hp
  rw [h.inv_scalar hp.1, VRels.plain t hp.2]
section
variable {P : Program} {l : Tabs} {n : Nat}
theorem orcS_ok {fs : List (Nat × (List Value → Option Value))} {rest : FuncId → List Value → AHeap → Option (Value × AHeap)} (hB : tabsB l n = true) (hf : ∀ g f, look fs g = some f → PureIn P l g f) (hr : ∀ base B, OrcOk P (envT P l rest) base B) (base B : Nat) : OrcOk P (envT P l (orcS l fs rest)) base B := by
 intro μ h w g args args' v h' hc hv H F k hF
 have hc' : orcS l fs rest g args h = some (v, h') := hc
 unfold orcS at hc'
 split at hc'
 ·rename_i r hq
  cases hc'
  simp only [Option.bind_eq_some_iff] at hq
  obtain ⟨f, hl, hq⟩ := hq
  unfold pureK at hq
  simp only [Option.bind_eq_some_iff, grd_some, Bool.and_eq_true, Option.some.injEq, Prod.mk.injEq] at hq
  obtain ⟨v0, hfa, ⟨⟨hp, hpv⟩, ht⟩, rfl, rfl⟩ := hq
  have e := VRels.plain hv hp
  have hW := laid_of_rel (E := envT P l (orcS l fs rest)) rfl H hB ht
  have := hf g f hl w args v0 hW hfa
  have e2 : args' = args.toArray := by rw [← e]
  subst e2
  refine (calls_any hF this).mono ?_
  rintro e W' ⟨rfl, hb⟩
  exact ⟨_, μ, rfl, .lit hpv, ⟨H.ext hb.size fun r hr => hb.block r hr, ⟨hb.tape, hb.os, hb.output, hb.size, fun r hr _ => hb.block r hr⟩, μ.le_refl, fun b m h0 h1 => (by rw [h0] at h1; cases h1), fun _ _ _ => rfl, Nat.le_refl _⟩⟩
 ·have H2 : HRel (envT P l rest) base B μ h w := ⟨H.dom, H.high, H.obj, H.own, H.alias, H.fam, H.glob, H.low, H.bsz, H.wf, H.root⟩
  exact (hr base B μ h w g _ args' v h' hc' hv H2 F k hF).mono fun e w' ⟨v', μ', h1, h2, h3⟩ =>
   ⟨v', μ', h1, h2, ⟨⟨h3.rel.dom, h3.rel.high, h3.rel.obj, h3.rel.own, h3.rel.alias, h3.rel.fam, h3.rel.glob, h3.rel.low, h3.rel.bsz, h3.rel.wf, h3.rel.root⟩, h3.grow, h3.le, h3.new, h3.unt, h3.hsz⟩⟩
theorem vrs_plains {c : Nat} {ρ : Gh} {F : Nat → Prop} {h : AHeap} : ∀ {vs m : List Value}, VRs c ρ F h (vs.map .s) m → m = vs ∧ vs.all plain1 = true
 | [], m, H => by rw [H.inv_nil]; exact ⟨rfl, rfl⟩
 | v :: vs, m, H => by
  obtain ⟨x, m1, rfl, h1, h2⟩ := H.inv_cons
  obtain ⟨rfl, hp⟩ := h1.inv_s
  obtain ⟨rfl, hq⟩ := vrs_plains h2
  exact ⟨rfl, by simp [hp, hq]⟩
theorem VC.pureO {fs : List (Nat × (List Value → Option Value))} {rest : FuncId → List Value → AHeap → Option (Value × AHeap)} {g : FuncId} {f : List Value → Option Value} {vs : List Value} {v : Value} {c0 : Nat} {o0 : Ob} (hB : tabsB l n = true)
 (hfn : ((envT P l (orcS l fs rest)).func g).isSome = true) (hl : look fs g = some f) (hv : f vs = some v) (hs : vs.all scalar = true) (hp : plain1 v = true) :
 VC (envT P l (orcS l fs rest)) g c0 (vs.map .s) o0 (fun r o c => r = .s v ∧ c = c0 ∧ o = o0) := by
 intro base ρ F h S vargs hN hM hO hA
 obtain ⟨fn, hfn⟩ := Option.isSome_iff_exists.1 hfn
 obtain ⟨rfl, _⟩ := vrs_plains hA
 have ho : (envT P l (orcS l fs rest)).orc g vargs h = some (v, h) := by
  show orcS l fs rest g vargs h = _
  unfold orcS
  rw [hl]
  simp only [Option.bind_some]
  unfold pureK
  rw [hv]
  simp only [Option.bind_some, hs, hp, tabsIn_of (E := envT P l (orcS l fs rest)) rfl hB hN, Bool.and_self, grd, if_true]
 refine ⟨0, v, h, ρ, F, .s v, o0, c0, ?_, ⟨rfl, rfl, rfl⟩, hM, .s hp⟩
 unfold acall acallB
 rw [hfn]
 simp only [Option.bind_some, ho]
theorem strsOf_of : ∀ {cs : List Value} {xs : List ByteArray}, cs.length = xs.length → (∀ (i : Nat) x, xs[i]? = some x → cs[i]? = some (.string x)) → strsOf cs = some xs
 | [], [], _, _ => rfl
 | v :: cs, x :: xs, hl, h => by
  have h0 := h 0 x rfl
  simp at h0
  subst h0
  simp only [strsOf]
  rw [strsOf_of (by simpa using hl) fun i y hy => by simpa using h (i + 1) y (by simpa using hy)]
  rfl
 | [], _ :: _, hl, _ => by simp at hl
 | _ :: _, [], hl, _ => by simp at hl
@[reducible] def encS (s : ByteArray) : List TV := [.s (.string s)]
theorem VC.joinO {E : Env} {g : FuncId} (hfn : (E.func g).isSome = true) (ho : ∀ args h r, joinK args h = some r → E.orc g args h = some r) {xs : List ByteArray} {sep : ByteArray} {fl : Bool} {c0 : Nat} {o0 : Ob} (hne : 0 < xs.length) (hl : xs.length ≤ 100000)
 (hj : (Lib.join (xs.map (·.data.toList)) sep.data.toList).length ≤ 1000000) :
 VC E g c0 [.sl 1 (xs.map encS) fl, .s (.string sep)] o0 (fun r o c => r = .s (.string ⟨(Lib.join (xs.map (·.data.toList)) sep.data.toList).toArray⟩) ∧ c = c0 ∧ o = o0) := by
 intro base ρ F h S vargs hN hM hO hA
 obtain ⟨fn, hfn⟩ := Option.isSome_iff_exists.1 hfn
 obtain ⟨v1, m1, rfl, h1, hA⟩ := hA.inv_cons
 obtain ⟨v2, m2, rfl, h2, hA⟩ := hA.inv_cons
 obtain rfl := hA.inv_nil
 obtain ⟨rfl, _⟩ := h2.inv_s
 have key : joinK [v1, .string sep] h = some (.string ⟨(Lib.join (xs.map (·.data.toList)) sep.data.toList).toArray⟩, h) := by
  cases h1 with
  | nil he =>
   have : xs.length = 0 := by have := congrArg List.length he; simpa using this
   omega
  | sl hF hr hz hlen hcap hfl hle he hfz hc =>
   rename_i b o len cap cs
   have hlen : xs.length = len := by simpa using hlen
   have hrd : readCells h b o len = some ((cs.drop o).take len) := by
    unfold readCells
    rw [hr]
    simp only [Option.bind_some, takeN_some, List.length_drop, and_true]
    omega
   have hst : strsOf ((cs.drop o).take len) = some xs := by
    refine strsOf_of (by simp; omega) fun i x hx => ?_
    have hi : i < xs.length := (List.getElem?_eq_some_iff.1 hx).1
    obtain ⟨v, hv⟩ : ∃ v, cs[o + i * 1 + 0]? = some v := ⟨cs[o + i * 1 + 0]'(by omega), by simp⟩
    have := hc i 0 (encS x) (.s (.string x)) v (by rw [List.getElem?_map, hx]; rfl) rfl hv
    obtain ⟨rfl, _⟩ := this.inv_s
    rw [List.getElem?_take, if_pos (by omega), List.getElem?_drop]
    simpa using hv
   unfold joinK
   simp only [hrd, Option.bind_some, hst]
   rw [grd_some]
   exact ⟨by simp only [Bool.and_eq_true, blt_iff, ble_iff]; omega, rfl⟩
 refine ⟨0, _, h, ρ, F, .s _, o0, c0, ?_, ⟨rfl, rfl, rfl⟩, hM, .s rfl⟩
 unfold acall acallB
 rw [hfn]
 simp only [Option.bind_some, ho _ _ _ key]
end
end Go.M
namespace Go.M
open Go
theorem bsplit {b : Bool} {A B : Prop} (hA : b = true → A) (hB : b = false → B) : (match (generalizing := false) b with | true => A | false => B) := by
 cases b with
 | true => exact hA rfl
 | false => exact hB rfl
theorem nsplit {b : Bool} {A B : Prop} (hA : b = false → A) (hB : b = true → B) : (match (generalizing := false) !b with | true => A | false => B) := by
 cases b with
 | true => exact hB rfl
 | false => exact hA rfl
@[reducible] def RR (r0 : TV) (c0 : Nat) (o0 : Ob) : TV → Ob → Nat → Prop := fun r o c => r = r0 ∧ c = c0 ∧ o = o0
theorem bool_eq {a b : Bool} (h : a = b) : Value.bool a = Value.bool b := congrArg _ h
theorem idxI {α : Type} {enc : α → List TV} {l : List α} {n : Nat} {K : List TV → Prop} (h : n < l.length) (hK : K (enc l[n])) : ∃ e, (0 ≤ (n : Int) ∧ (l.map enc)[(n : Int).toNat]? = some e) ∧ K e :=
 ⟨enc l[n], ⟨by omega, by simp [h]⟩, hK⟩
theorem wrap_small (n : Nat) (h : n ≤ 1099511627776) : IntKind.i64.wrap ((n : Int) + 1) = ((n + 1 : Nat) : Int) := by
 rw [IntWalk.i64_in _ (by omega)]; rfl
theorem lenlt {α : Type} {f : α → List TV} {l : List α} {i : Nat} : ((i : Int) < (((l.map f).length : Nat) : Int)) ↔ i < l.length := by simp
theorem flx : ∀ b : Bool, (!b || b) = true
 | true => rfl
 | false => rfl
theorem Lz.int {k : IntKind} {a b : Int} (h : a = b) : Lz (Value.int k a) (Value.int k b) := .of (congrArg _ h)
theorem Lz.wrap {n : Nat} (h : n ≤ 1099511627776) : Lz (Value.int .i64 (IntKind.i64.wrap ((n : Int) + 1))) (Value.int .i64 ((n + 1 : Nat) : Int)) := .of (congrArg _ (wrap_small n h))
def smalls : List Nat := [0, 1, 2, 3, 4, 5, 6, 7, 8, 9, 10, 11, 12, 13, 14, 15, 16, 17, 18, 19, 20, 21, 22, 23, 24, 25, 26, 27, 28, 29, 30, 31, 32, 33, 34, 35, 36, 37, 38, 39, 40]
def forceNL (n : Nat) (K : Nat → Prop) (l : List Nat) : Prop := @List.rec Nat (fun _ => Prop) (K n) (fun k _ ih => match Nat.beq n k with | true => K k | false => ih) l
theorem forceNL_eq (n : Nat) (K : Nat → Prop) : ∀ l, forceNL n K l = K n
 | [] => rfl
 | k :: l => by
  show (match Nat.beq n k with | true => K k | false => forceNL n K l) = K n
  cases h : Nat.beq n k with
  | true => rw [beq_iff.1 h]
  | false => exact forceNL_eq n K l
def forceN (n : Nat) (K : Nat → Prop) : Prop := forceNL n K smalls
theorem forceN_eq (n : Nat) : forceN n = fun K => K n := by funext K; exact forceNL_eq n K _
def forceC (v : TV) (K : TV → Prop) : Prop := match v with
 | .j => K .j
 | .s v => K (.s v)
 | .sl z es fl => forceN z fun z => K (.sl z es fl)
 | .tk n => forceN n fun n => K (.tk n)
 | .ptr n o => forceN n fun n => forceN o fun o => K (.ptr n o)
 | .ep e o => forceN o fun o => K (.ep e o)
 | .wp n i o => forceN n fun n => forceN o fun o => K (.wp n i o)
 | .mp n => forceN n fun n => K (.mp n)
 | .bg n len => forceN n fun n => K (.bg n len)
 | .sv n i => forceN n fun n => K (.sv n i)
 | .agg cs => K (.agg cs)
 | .tup cs => K (.tup cs)
 | .ifc t v => K (.ifc t v)
 | .clo g a c => K (.clo g a c)
 | .own y => K (.own y)
theorem forceC_eq (v : TV) : forceC v = fun K => K v := by funext K; cases v <;> simp [forceC, forceN_eq]
def forceL (F : TV → (TV → Prop) → Prop) (l : List TV) : (List TV → Prop) → Prop := @List.rec TV (fun _ => (List TV → Prop) → Prop) (fun K => K []) (fun v _ ih K => F v fun v => ih fun l => K (v :: l)) l
theorem forceL_eq {F : TV → (TV → Prop) → Prop} (hF : ∀ v, F v = fun K => K v) : ∀ l, forceL F l = fun K => K l
 | [] => rfl
 | v :: l => by
  have ih := forceL_eq hF l
  funext K
  show F v (fun v => forceL F l fun l => K (v :: l)) = K (v :: l)
  rw [hF, ih]
def forceA (v : TV) (K : TV → Prop) : Prop := match v with
 | .j => K .j
 | .s v => K (.s v)
 | .sl z es fl => forceN z fun z => K (.sl z es fl)
 | .tk n => forceN n fun n => K (.tk n)
 | .ptr n o => forceN n fun n => forceN o fun o => K (.ptr n o)
 | .ep e o => forceN o fun o => K (.ep e o)
 | .wp n i o => forceN n fun n => forceN o fun o => K (.wp n i o)
 | .mp n => forceN n fun n => K (.mp n)
 | .bg n len => forceN n fun n => K (.bg n len)
 | .sv n i => forceN n fun n => K (.sv n i)
 | .agg cs => forceL forceC cs fun cs => K (.agg cs)
 | .tup cs => K (.tup cs)
 | .ifc t v => K (.ifc t v)
 | .clo g a c => forceL forceC a fun a => forceL forceC c fun c => K (.clo g a c)
 | .own y => K (.own y)
theorem forceA_eq (v : TV) : forceA v = fun K => K v := by funext K; cases v <;> simp [forceA, forceN_eq, forceL_eq forceC_eq]
def forceV (v : TV) (K : TV → Prop) : Prop := match v with
 | .j => K .j
 | .s v => K (.s v)
 | .sl z es fl => forceN z fun z => K (.sl z es fl)
 | .tk n => forceN n fun n => K (.tk n)
 | .ptr n o => forceN n fun n => forceN o fun o => K (.ptr n o)
 | .ep e o => forceN o fun o => K (.ep e o)
 | .wp n i o => forceN n fun n => forceN o fun o => K (.wp n i o)
 | .mp n => forceN n fun n => K (.mp n)
 | .bg n len => forceN n fun n => K (.bg n len)
 | .sv n i => forceN n fun n => K (.sv n i)
 | .agg cs => forceL forceC cs fun cs => K (.agg cs)
 | .tup cs => forceL forceA cs fun cs => K (.tup cs)
 | .ifc t v => forceA v fun v => K (.ifc t v)
 | .clo g a c => forceL forceC a fun a => forceL forceC c fun c => K (.clo g a c)
 | .own y => K (.own y)
theorem forceV_eq (v : TV) : forceV v = fun K => K v := by funext K; cases v <;> simp [forceV, forceN_eq, forceL_eq forceC_eq, forceL_eq forceA_eq, forceA_eq]
def forceQ (q : List (Nat × List TV)) : (List (Nat × List TV) → Prop) → Prop := @List.rec (Nat × List TV) (fun _ => (List (Nat × List TV) → Prop) → Prop) (fun K => K []) (fun p _ ih K => forceL forceC p.2 fun x => ih fun l => K ((p.1, x) :: l)) q
theorem forceQ_eq : ∀ q, forceQ q = fun K => K q
 | [] => rfl
 | p :: q => by
  have ih := forceQ_eq q
  funext K
  show forceL forceC p.2 (fun x => forceQ q fun l => K ((p.1, x) :: l)) = K (p :: q)
  rw [forceL_eq forceC_eq, ih]
def forceM (q : List (Value × TV)) : (List (Value × TV) → Prop) → Prop := @List.rec (Value × TV) (fun _ => (List (Value × TV) → Prop) → Prop) (fun K => K []) (fun p _ ih K => forceA p.2 fun x => ih fun l => K ((p.1, x) :: l)) q
theorem forceM_eq : ∀ q, forceM q = fun K => K q
 | [] => rfl
 | p :: q => by
  have ih := forceM_eq q
  funext K
  show forceA p.2 (fun x => forceM q fun l => K ((p.1, x) :: l)) = K (p :: q)
  rw [forceA_eq, ih]
def forceT (x : TO) (K : TO → Prop) : Prop := match x with
 | .cells cs => forceL forceC cs fun cs => K (.cells cs)
 | .map kd es => forceN kd fun kd => K (.map kd es)
 | .arr z w es => forceN z fun z => match w with | true => K (.arr z true es) | false => K (.arr z false es)
 | .arq z es op => forceN z fun z => forceQ op fun op => K (.arq z es op)
 | .maq kd es op => forceN kd fun kd => forceM op fun op => K (.maq kd es op)
 | .bag ks => K (.bag ks)
theorem forceT_eq (x : TO) : forceT x = fun K => K x := by
 funext K
 cases x with
 | cells cs => simp [forceT, forceL_eq forceC_eq]
 | map kd es => simp [forceT, forceN_eq]
 | arr z w es => cases w <;> simp [forceT, forceN_eq]
 | arq z es op => simp [forceT, forceN_eq, forceQ_eq]
 | maq kd es op => simp [forceT, forceN_eq, forceM_eq]
 | bag ks => rfl
def forceO (o : Ob) : (Ob → Prop) → Prop := @List.rec (Nat × TO) (fun _ => (Ob → Prop) → Prop) (fun K => K []) (fun p _ ih K => forceN p.1 fun n => forceT p.2 fun x => ih fun l => K ((n, x) :: l)) o
theorem forceO_eq : ∀ o, forceO o = fun K => K o
 | [] => rfl
 | p :: o => by
  have ih := forceO_eq o
  funext K
  show forceN p.1 (fun n => forceT p.2 fun x => forceO o fun l => K ((n, x) :: l)) = K (p :: o)
  rw [forceN_eq, forceT_eq, ih]
def strict (l : VL) (v : TV) (o : Ob) (c : Nat) (K : TV → Ob → Nat → Prop) : Prop := match l with
 | .pure => forceV v fun v => K v o c
 | .alloc => forceV v fun v => forceO o fun o => forceN c fun c => K v o c
 | .rdF => forceV v fun v => K v o c
 | .rdO _ => forceV v fun v => forceO o fun o => forceN c fun c => K v o c
 | .rdN _ _ _ => forceV v fun v => forceO o fun o => forceN c fun c => K v o c
 | .eff _ => forceV v fun v => forceO o fun o => forceN c fun c => K v o c
 | .effI _ => forceV v fun v => forceO o fun o => forceN c fun c => K v o c
 | .effG => forceV v fun v => forceO o fun o => forceN c fun c => K v o c
 | .bad => forceV v fun v => K v o c
theorem strict_eq (l : VL) (v : TV) (o : Ob) (c : Nat) : strict l v o c = fun K => K v o c := by
 funext K; cases l <;> simp [strict, forceV_eq, forceO_eq, forceN_eq]
def wopsR (E : Env) (vc : VCs) (n : Nat) (ops : List Oper) (l : List Oper) : Fr → Ob → Nat → RK → Prop :=
 @List.rec Oper (fun _ => Fr → Ob → Nat → RK → Prop) (fun f o c K => K f o c)
  (fun p _ ih f o c K => wguard ops p f
   (wop E vc p.op f o c fun v o' c' l => strict l v o' c' fun v o' c' => wput p.dst n v f fun f' => ih f' o' c' K)
   (wput p.dst n (.tup []) f fun f' => ih f' o c K)) l
theorem wopsR_eq (E : Env) (vc : VCs) (n : Nat) (ops : List Oper) : ∀ (l : List Oper) f o c K, wopsR E vc n ops l f o c K = wops E vc n ops l f o c K := by
 intro l
 induction l with
 | nil => intro f o c K; rfl
 | cons p rest ih =>
  intro f o c K
  have e : (fun f' o' c' (K : RK) => wopsR E vc n ops rest f' o' c' K) = fun f' o' c' K => wops E vc n ops rest f' o' c' K := by funext a b d e; exact ih a b d e
  show wguard ops p f (wop E vc p.op f o c fun v o' c' l => strict l v o' c' fun v o' c' => wput p.dst n v f fun f' => (fun f' o' c' (K : RK) => wopsR E vc n ops rest f' o' c' K) f' o' c' K) (wput p.dst n (.tup []) f fun f' => (fun f' o' c' (K : RK) => wopsR E vc n ops rest f' o' c' K) f' o c K) = _
  rw [e]
  simp only [strict_eq]
  rfl
def wopsLR (E : Env) (vc : VCs) (n : Nat) (ops : List Oper) (l : List Oper) : Fr → Ob → Nat → List VN → (List VN → RK) → Prop :=
 @List.rec Oper (fun _ => Fr → Ob → Nat → List VN → (List VN → RK) → Prop) (fun f o c lg K => K lg f o c)
  (fun p _ ih f o c lg K => wguard ops p f
   (wop E vc p.op f o c fun v o' c' l => strict l v o' c' fun v o' c' => wput p.dst n v f fun f' => ih f' o' c' (lg ++ [(l, o)]) K)
   (wput p.dst n (.tup []) f fun f' => ih f' o c (lg ++ [(.pure, o)]) K)) l
theorem wopsLR_eq (E : Env) (vc : VCs) (n : Nat) (ops : List Oper) : ∀ (l : List Oper) f o c lg K, wopsLR E vc n ops l f o c lg K = wopsL E vc n ops l f o c lg K := by
 intro l
 induction l with
 | nil => intro f o c lg K; rfl
 | cons p rest ih =>
  intro f o c lg K
  have e : (fun f' o' c' lg (K : List VN → RK) => wopsLR E vc n ops rest f' o' c' lg K) = fun f' o' c' lg K => wopsL E vc n ops rest f' o' c' lg K := by funext a b d g e; exact ih a b d g e
  show wguard ops p f (wop E vc p.op f o c fun v o' c' l => strict l v o' c' fun v o' c' => wput p.dst n v f fun f' => (fun f' o' c' lg (K : List VN → RK) => wopsLR E vc n ops rest f' o' c' lg K) f' o' c' (lg ++ [(l, o)]) K) (wput p.dst n (.tup []) f fun f' => (fun f' o' c' lg (K : List VN → RK) => wopsLR E vc n ops rest f' o' c' lg K) f' o c (lg ++ [(.pure, o)]) K) = _
  rw [e]
  simp only [strict_eq]
  rfl
structure Drawn (b : Bool) (K : Prop) : Prop where
 ok : b = true
 go : K
theorem drawn_eq (b : Bool) (K : Prop) : Drawn b K = (match (generalizing := false) b with | true => K | false => False) := by
 cases b with
 | true => exact propext ⟨fun h => h.go, fun h => ⟨rfl, h⟩⟩
 | false => exact propext (Iff.intro (fun h => by cases h.ok) (fun h => False.elim h))
abbrev WP := Fr → Ob → Nat → CK → Prop
def wpR (E : Env) (vc : VCs) (n c0 : Nat) (cuts : List Nat) (code : Code) : WP :=
 @Code.rec (fun _ => WP)
  (fun f o c Q => Q .normal f o c)
  (fun _ ops draw f o c Q => (match draw with
  | false => wopsR E vc n ops.toList ops.toList f o c fun f' o' c' => Q .normal f' o' c'
  | true => Drawn (staticOk ops.toList && dstsIn n ops.toList) (wopsLR E vc n ops.toList ops.toList f o c [] fun lg f' o' c' => Drawn (drawOk (befores ops.toList []) o' 0 lg) (Q .normal f' o' c'))))
  (fun _ _ iha ihb f o c Q => iha f o c fun ex f' o' c' => (match ex with
  | .normal => ihb f' o' c' Q
  | .exit id => Q (.exit id) f' o' c'
  | .ret => Q .ret f' o' c'))
  (fun q _ _ iht ihe f o c Q => (match evOk E q with
  | false => False
  | true => (match evT E f q with
   | .s (.bool b) => (match b with
    | true => iht f o c Q
    | false => ihe f o c Q)
   | _ => False)))
  (fun id _ ih f o c Q => (match memN id cuts with
  | false => ih f o c fun ex f' o' c' => (match ex with
   | .exit id' => (match Nat.beq id' id with
    | true => Q .normal f' o' c'
    | false => Q (.exit id') f' o' c')
   | .normal => Q .normal f' o' c'
   | .ret => Q .ret f' o' c')
  | true => ∃ Mid : RK, (ih f o c fun ex f' o' c' => (match ex with
   | .exit id' => (match Nat.beq id' id with
    | true => toldAs c0 f' o' c' Mid
    | false => Q (.exit id') f' o' c')
   | .normal => toldAs c0 f' o' c' Mid
   | .ret => Q .ret f' o' c')) ∧ ∀ f' o' c', Mid f' o' c' → Q .normal f' o' c'))
  (fun _ ih f o c Q => ∃ Inv : Nat → Fr → Ob → Nat → Prop, (∃ k, toldAs c0 f o c (Inv k)) ∧
   ∀ k f1 o1 c1, Inv k f1 o1 c1 → ih f1 o1 c1 fun ex f' o' c' => (match ex with
    | .normal => ∃ k', toldAs c0 f' o' c' (Inv k') ∧ k' < k
    | .exit id => Q (.exit id) f' o' c'
    | .ret => Q .ret f' o' c'))
  (fun _ _ _ _ _ _ _ _ _ _ => False)
  (fun id f o c Q => Q (.exit id) f o c)
  (fun _ _ _ _ _ _ => False)
  (fun _ _ _ _ _ => False)
  (fun _ _ _ _ _ => False)
  (fun f o c Q => Q .ret f o c)
  (fun _ _ _ _ _ => False) code
theorem wpR_eq (E : Env) (vc : VCs) (n c0 : Nat) (cuts : List Nat) : ∀ (code : Code) f o c Q, wpR E vc n c0 cuts code f o c Q = wp E vc n c0 cuts code f o c Q := by
 intro code
 induction code with
 | region id ops draw =>
  intro f o c Q
  have e1 : (fun K => wopsR E vc n ops.toList ops.toList f o c K) = fun K => wops E vc n ops.toList ops.toList f o c K := by funext K; exact wopsR_eq ..
  have e2 : (fun lg K => wopsLR E vc n ops.toList ops.toList f o c lg K) = fun lg K => wopsL E vc n ops.toList ops.toList f o c lg K := by funext lg K; exact wopsLR_eq ..
  show (match draw with
  | false => (fun K => wopsR E vc n ops.toList ops.toList f o c K) fun f' o' c' => Q .normal f' o' c'
  | true => Drawn (staticOk ops.toList && dstsIn n ops.toList) ((fun lg K => wopsLR E vc n ops.toList ops.toList f o c lg K) [] fun lg f' o' c' => Drawn (drawOk (befores ops.toList []) o' 0 lg) (Q .normal f' o' c'))) = _
  rw [e1, e2]
  simp only [drawn_eq]
  cases draw <;> rfl
 | seq a b iha ihb =>
  intro f o c Q
  have e1 : (fun f o c Q => wpR E vc n c0 cuts a f o c Q) = fun f o c Q => wp E vc n c0 cuts a f o c Q := by funext f o c Q; exact iha ..
  have e2 : (fun f o c Q => wpR E vc n c0 cuts b f o c Q) = fun f o c Q => wp E vc n c0 cuts b f o c Q := by funext f o c Q; exact ihb ..
  show ((fun f o c Q => wpR E vc n c0 cuts a f o c Q) f o c fun ex f' o' c' => (match ex with
  | .normal => (fun f o c Q => wpR E vc n c0 cuts b f o c Q) f' o' c' Q
  | .exit id => Q (.exit id) f' o' c'
  | .ret => Q .ret f' o' c')) = _
  rw [e1, e2]
  rfl
 | cond q t e iht ihe =>
  intro f o c Q
  have e1 : (fun f o c Q => wpR E vc n c0 cuts t f o c Q) = fun f o c Q => wp E vc n c0 cuts t f o c Q := by funext f o c Q; exact iht ..
  have e2 : (fun f o c Q => wpR E vc n c0 cuts e f o c Q) = fun f o c Q => wp E vc n c0 cuts e f o c Q := by funext f o c Q; exact ihe ..
  show (match evOk E q with
  | false => False
  | true => (match evT E f q with
   | .s (.bool b) => (match b with
    | true => (fun f o c Q => wpR E vc n c0 cuts t f o c Q) f o c Q
    | false => (fun f o c Q => wpR E vc n c0 cuts e f o c Q) f o c Q)
   | _ => False)) = _
  rw [e1, e2]
  rfl
 | block id b ih =>
  intro f o c Q
  have e1 : (fun f o c Q => wpR E vc n c0 cuts b f o c Q) = fun f o c Q => wp E vc n c0 cuts b f o c Q := by funext f o c Q; exact ih ..
  show (match memN id cuts with
  | false => (fun f o c Q => wpR E vc n c0 cuts b f o c Q) f o c fun ex f' o' c' => (match ex with
   | .exit id' => (match Nat.beq id' id with
    | true => Q .normal f' o' c'
    | false => Q (.exit id') f' o' c')
   | .normal => Q .normal f' o' c'
   | .ret => Q .ret f' o' c')
  | true => ∃ Mid : RK, ((fun f o c Q => wpR E vc n c0 cuts b f o c Q) f o c fun ex f' o' c' => (match ex with
   | .exit id' => (match Nat.beq id' id with
    | true => toldAs c0 f' o' c' Mid
    | false => Q (.exit id') f' o' c')
   | .normal => toldAs c0 f' o' c' Mid
   | .ret => Q .ret f' o' c')) ∧ ∀ f' o' c', Mid f' o' c' → Q .normal f' o' c') = _
  rw [e1]
  rfl
 | loop b ih =>
  intro f o c Q
  have e1 : (fun f o c Q => wpR E vc n c0 cuts b f o c Q) = fun f o c Q => wp E vc n c0 cuts b f o c Q := by funext f o c Q; exact ih ..
  show (∃ Inv : Nat → Fr → Ob → Nat → Prop, (∃ k, toldAs c0 f o c (Inv k)) ∧
   ∀ k f1 o1 c1, Inv k f1 o1 c1 → (fun f o c Q => wpR E vc n c0 cuts b f o c Q) f1 o1 c1 fun ex f' o' c' => (match ex with
    | .normal => ∃ k', toldAs c0 f' o' c' (Inv k') ∧ k' < k
    | .exit id => Q (.exit id) f' o' c'
    | .ret => Q .ret f' o' c')) = _
  rw [e1]
  rfl
 | _ => intros; rfl
theorem VC.enterR {E T : Env} (L : EnvLe T E) {g : FuncId} {fn : Func} {code : Code} {c0 : Nat} {args : List TV} {o0 : Ob} {R : TV → Ob → Nat → Prop} (hf : E.func g = some fn) (ho : ∀ a h, E.orc g a h = none) (hb : fn.body = some code) (hlen : Nat.ble args.length fn.ntmps = true)
 (cuts : List Nat) (hw : wpR T (VC E) fn.ntmps c0 cuts code (argsF 0 args) o0 c0 (wret T c0 fn.results.toList R)) : VC E g c0 args o0 R :=
 VC.enter L hf ho hb hlen cuts (by rw [← wpR_eq]; exact hw)
theorem D1 {b : Bool} {K : Prop} (k : K) (h : b = true := by kernel_rfl) : Drawn b K := ⟨h, k⟩
theorem t3 {a b c : Prop} (h1 : a := by (repeat' first|with_reducible exact Lz.rfl|exact Lw.rfl|exact Lz.wrap (by omega)|(unfold goInt;with_reducible exact Lz.rfl)|exact flx _|constructor)) (h2 : b := by (repeat' first|with_reducible exact Lz.rfl|exact Lw.rfl|exact Lz.wrap (by omega)|(unfold goInt;with_reducible exact Lz.rfl)|exact flx _|constructor)) (h3 : c := by rfl) : a ∧ b ∧ c := ⟨h1, h2, h3⟩
end Go.M
namespace Go.M
open Go Go.Proofs
def pow0 : List Value := (List.range 20).map fun k => .int .u64 ((10 ^ k : Nat) : Int)
def tabs0 : Tabs := [(0, pow0)]
def fmtU : List Value → Option Value
 | [.int .u64 n, .int .i64 b] => grd (decide (0 ≤ n ∧ n < 18446744073709551616 ∧ b = 10)) (Value.string ⟨(Lib.decDigits n.toNat).toArray⟩)
 | _ => none
def itoaS : List Value → Option Value
 | [.int .i64 n] => grd (decide (0 ≤ n ∧ n < 100)) (Value.string ⟨(Lib.decDigits n.toNat).toArray⟩)
 | _ => none
def pure0 : List (Nat × (List Value → Option Value)) := [(61, fmtU), (42, itoaS)]
noncomputable def E0 := envT Tryd.prog tabs0 (orcS tabs0 pure0 (orcJ [44] (orcX tabs0 [6] (orcV [] []))))
noncomputable def T0 := tE E0 [31]
set_option maxRecDepth 100000
theorem rows0 : [31].all (eqRow E0) = true := by kernel_rfl
theorem L0 : EnvLe T0 E0 := tE_le (fun t z h => by
 simp only [E0, envT, envOf, Option.bind_eq_some_iff, grd_some, Option.some.injEq] at h
 obtain ⟨i, h1, z', h2, h3, rfl⟩ := h
 exact h3) rows0
theorem tabsB0 : tabsB tabs0 1 = true := by kernel_rfl
theorem awake_r : VC E0 6 0 [] [] (RR (.s (.bool true)) 0 []) := by
 intro base ρ F h S vargs hN hM hO hA
 obtain ⟨fn, hf⟩ := Option.isSome_iff_exists.1 (show (E0.func 6).isSome = true by kernel_rfl)
 obtain rfl := hA.inv_nil
 have ho : E0.orc 6 [] h = some (.bool true, h) := by
  show orcX tabs0 [6] (orcV [] []) 6 [] h = _
  unfold orcX
  rw [show memN 6 [6] = true from rfl, tabsIn_of (E := E0) rfl tabsB0 hN]
 refine ⟨0, .bool true, h, ρ, F, .s (.bool true), [], 0, ?_, ⟨rfl, rfl, rfl⟩, hM, .s rfl⟩
 unfold acall acallB
 rw [hf]
 simp only [Option.bind_some, ho]
theorem itoa_ok (n : Int) (h0 : 0 ≤ n) (h1 : n < 100) (c0 : Nat) (o0 : Ob) : VC E0 42 c0 [.s (.int .i64 n)] o0 (RR (.s (.string ⟨(Lib.decDigits n.toNat).toArray⟩)) c0 o0) :=
 VC.pureO (fs := pure0) (f := itoaS) (vs := [.int .i64 n]) (v := .string ⟨(Lib.decDigits n.toNat).toArray⟩) tabsB0 (by kernel_rfl) rfl (grd_some.2 ⟨decide_eq_true ⟨h0, h1⟩, rfl⟩) rfl rfl
theorem fmt61_ok (n : Int) (h0 : 0 ≤ n) (h1 : n < 18446744073709551616) (c0 : Nat) (o0 : Ob) : VC E0 61 c0 [.s (.int .u64 n), .s (.int .i64 10)] o0 (RR (.s (.string ⟨(Lib.decDigits n.toNat).toArray⟩)) c0 o0) :=
 VC.pureO (fs := pure0) (f := fmtU) (vs := [.int .u64 n, .int .i64 10]) (v := .string ⟨(Lib.decDigits n.toNat).toArray⟩) tabsB0 (by kernel_rfl) rfl (grd_some.2 ⟨decide_eq_true ⟨h0, h1, rfl⟩, rfl⟩) rfl rfl
theorem joinS_ok (xs : List ByteArray) (sep : ByteArray) (hne : 0 < xs.length) (hl : xs.length ≤ 100000) (hj : (Lib.join (xs.map (·.data.toList)) sep.data.toList).length ≤ 1000000) (c0 : Nat) (o0 : Ob) :
 VC E0 44 c0 [.sl 1 (xs.map encS) false, .s (.string sep)] o0 (RR (.s (.string ⟨(Lib.join (xs.map (·.data.toList)) sep.data.toList).toArray⟩)) c0 o0) :=
 VC.joinO (by kernel_rfl) (fun args h r hr => by
  show orcJ [44] _ 44 args h = _
  unfold orcJ
  rw [show memN 44 [44] = true from rfl, hr]) hne hl hj
end Go.M
namespace Go.M
open Go Go.Proofs
set_option maxRecDepth 100000
set_option maxHeartbeats 4000000
@[reducible] def encI1 (n : Int) : List TV := [.s (.int .i64 n)]
noncomputable def eqB {α : Type} (a b : α) : Bool := @decide (a = b) (Classical.propDecidable _)
theorem eqB_iff {α : Type} {a b : α} : eqB a b = true ↔ a = b := by unfold eqB; simp
theorem eqB_false {α : Type} {a b : α} : eqB a b = false ↔ a ≠ b := by unfold eqB; simp
theorem take_snoc {α : Type} (l : List α) (i : Nat) (h : i < l.length) : l.take (i + 1) = l.take i ++ [l[i]] := by rw [List.take_succ_eq_append_getElem h]
def checkS (k ch ep nd : Int) : Int := if k < 0 ∨ k ≥ 5 then 1 else if k = 0 then (if ch ≠ 0 ∨ ep ≠ 0 ∨ nd ≠ 0 then 4 else 0) else if ch < 0 ∨ ch ≥ 4 ∨ ep < 1 ∨ nd < 1 ∨ nd > 24 then 4 else 0
@[reducible] def cmdT (k ch ep nd : Int) : TV := .agg [.s (.int .i64 k), .s (.int .i64 ch), .s (.int .u64 ep), .s (.int .i64 nd)]
structure Cmd where
 kind : Int
 chain : Int
 epoch : Int
 node : Int
@[reducible] def cT4 (c : Cmd) : TV := cmdT c.kind c.chain c.epoch c.node
def Cmd.check (c : Cmd) : Int := checkS c.kind c.chain c.epoch c.node
def noCmd : Cmd := ⟨0, 0, 0, 0⟩
theorem has04_ok (l : List Int) (x : Int) (hl : l.length < 1000000) : VC E0 41 0 [.sl 1 (l.map encI1) false, .s (.int .i64 x)] [] (RR (.s (.bool (decide (x ∈ l)))) 0 []) := by
 refine VC.enterR L0 (show E0.func 41 = some Tryd.f41 by kernel_rfl) (fun _ _ => rfl) rfl rfl [] ?_
 ((conv=>whnf)<;>repeat(with_reducible refine D1 ?_)<;>conv=>whnf)
 refine ⟨fun k f o c => ∃ j : Nat, j ≤ l.length ∧ k = l.length - j ∧ x ∉ l.take j ∧ c = 0 ∧ f = [(0, .sl 1 (l.map encI1) false), (1, .s (.int .i64 x)), (5, .s (.int .i64 j))] ∧ o = [], ⟨l.length, ?_⟩, ?_⟩
 ·exact ⟨[], [], _, _, _, t3, ⟨0, Nat.zero_le _, rfl, by simp, rfl, rfl, rfl⟩⟩
 ·rintro k f1 o1 c1 ⟨j, hj, rfl, hn, rfl, rfl, rfl⟩
  ((conv=>whnf)<;>repeat(with_reducible refine D1 ?_)<;>conv=>whnf)
  (first|refine ⟨?_,?_⟩|refine nsplit ?_ ?_|refine bsplit ?_ ?_)<;>intro h<;>have hz_:=True.intro<;>clear hz_
  ·have h : j < l.length := lenlt.1 h
   ((conv=>whnf)<;>repeat(with_reducible refine D1 ?_)<;>conv=>whnf)
   refine idxI h ?_
   ((conv=>whnf)<;>repeat(with_reducible refine D1 ?_)<;>conv=>whnf)
   (first|refine ⟨?_,?_⟩|refine nsplit ?_ ?_|refine bsplit ?_ ?_)<;>intro he<;>have hz_:=True.intro<;>clear hz_
   ·have he : l[j] = x := he
    ((conv=>whnf)<;>repeat(with_reducible refine D1 ?_)<;>conv=>whnf)
    refine ⟨[], [], ?_⟩
    iterate 3 constructor
    refine ⟨⟨?_, ?_, ?_⟩, rfl, rfl, rfl⟩
    all_goals (repeat' first|with_reducible exact Lz.rfl|exact Lw.rfl|exact Lz.wrap (by omega)|(unfold goInt;with_reducible exact Lz.rfl)|exact flx _|constructor)
    exact Lz.of (bool_eq (Eq.symm (decide_eq_true (he ▸ List.getElem_mem h))))
   ·have he : ¬ l[j] = x := he
    ((conv=>whnf)<;>repeat(with_reducible refine D1 ?_)<;>conv=>whnf)
    refine ⟨l.length - (j + 1), ?_, by omega⟩
    exact ⟨[], [], _, _, _, t3, ⟨j + 1, h, rfl, (by rw [List.take_succ_eq_append_getElem h]; simp only [List.mem_append, List.mem_singleton, not_or]; exact ⟨hn, fun e => he e.symm⟩), rfl, rfl, rfl⟩⟩
  ·have hj' : j = l.length := by have := mt lenlt.2 h
                                 omega
   subst hj'
   rw [List.take_length] at hn
   ((conv=>whnf)<;>repeat(with_reducible refine D1 ?_)<;>conv=>whnf)
   refine ⟨[], [], ?_⟩
   iterate 3 constructor
   refine ⟨⟨?_, ?_, ?_⟩, rfl, rfl, rfl⟩
   all_goals (repeat' first|with_reducible exact Lz.rfl|exact Lw.rfl|exact Lz.wrap (by omega)|(unfold goInt;with_reducible exact Lz.rfl)|exact flx _|constructor)
   exact Lz.of (bool_eq (Eq.symm (decide_eq_false hn)))
end Go.M
namespace Go.M
open Go Go.Proofs
set_option maxRecDepth 100000
set_option maxHeartbeats 2000000
structure CF where
 chain : Int
 epoch : Int
 nodes : List Int
 fresh : Bool
 join : Int
def encCF (c : CF) : List TV := [.s (.int .i64 c.chain), .s (.int .u64 c.epoch), .sl 1 (c.nodes.map encI1) false, .s (.bool c.fresh), .s (.int .i64 c.join)]
theorem indexI_ok (l : List Int) (x : Int) (hl : l.length < 1000000) : VC E0 59 0 [.sl 1 (l.map encI1) false, .s (.int .i64 x)] []
 (fun r o c => ∃ i : Int, r = .s (.int .i64 i) ∧ (0 ≤ i ↔ x ∈ l) ∧ c = 0 ∧ o = []) := by
 refine VC.enterR L0 (show E0.func 59 = some Tryd.f59 by kernel_rfl) (fun _ _ => rfl) rfl rfl [] ?_
 ((conv=>whnf)<;>repeat(with_reducible refine D1 ?_)<;>conv=>whnf)
 refine ⟨fun k f o c => ∃ j : Nat, j ≤ l.length ∧ k = l.length - j ∧ x ∉ l.take j ∧ c = 0 ∧ f = [(0, .sl 1 (l.map encI1) false), (1, .s (.int .i64 x)), (7, .s (.int .i64 l.length)), (8, .s (.int .i64 j))] ∧ o = [], ⟨l.length, ?_⟩, ?_⟩
 ·refine ⟨[], [], ?_⟩
  iterate 3 constructor
  refine ⟨⟨?_, ?_, ?_⟩, ⟨0, Nat.zero_le _, rfl, by simp, rfl, rfl, rfl⟩⟩
  all_goals (repeat' first|with_reducible exact Lz.rfl|exact Lw.rfl|exact Lz.wrap (by omega)|(unfold goInt;with_reducible exact Lz.rfl)|exact flx _|constructor)
  exact Lz.int (by rw [List.length_map])
 ·rintro k f1 o1 c1 ⟨j, hj, rfl, hn, rfl, rfl, rfl⟩
  ((conv=>whnf)<;>repeat(with_reducible refine D1 ?_)<;>conv=>whnf)
  (first|refine ⟨?_,?_⟩|refine nsplit ?_ ?_|refine bsplit ?_ ?_)<;>intro h<;>have hz_:=True.intro<;>clear hz_
  ·have h : j < l.length := by have : (j : Int) < (l.length : Nat) := h
                               omega
   ((conv=>whnf)<;>repeat(with_reducible refine D1 ?_)<;>conv=>whnf)
   refine idxI h ?_
   ((conv=>whnf)<;>repeat(with_reducible refine D1 ?_)<;>conv=>whnf)
   (first|refine ⟨?_,?_⟩|refine nsplit ?_ ?_|refine bsplit ?_ ?_)<;>intro he<;>have hz_:=True.intro<;>clear hz_
   ·have he : x = l[j] := he
    ((conv=>whnf)<;>repeat(with_reducible refine D1 ?_)<;>conv=>whnf)
    exact ⟨[], [], _, _, _, t3, _, rfl, ⟨fun _ => he ▸ List.getElem_mem h, fun _ => Int.natCast_nonneg j⟩, rfl, rfl⟩
   ·have he : ¬ x = l[j] := he
    ((conv=>whnf)<;>repeat(with_reducible refine D1 ?_)<;>conv=>whnf)
    refine ⟨l.length - (j + 1), ?_, by omega⟩
    exact ⟨[], [], _, _, _, t3, ⟨j + 1, h, rfl, (by rw [List.take_succ_eq_append_getElem h]; simp only [List.mem_append, List.mem_singleton, not_or]; exact ⟨hn, he⟩), rfl, rfl, rfl⟩⟩
  ·have hj' : j = l.length := by have : ¬ (j : Int) < (l.length : Nat) := h
                                 omega
   subst hj'
   rw [List.take_length] at hn
   ((conv=>whnf)<;>repeat(with_reducible refine D1 ?_)<;>conv=>whnf)
   exact ⟨[], [], _, _, _, t3, _, rfl, ⟨fun h => absurd h (by decide), fun h => absurd h hn⟩, rfl, rfl⟩
theorem containsI_ok (l : List Int) (x : Int) (hl : l.length < 1000000) : VC E0 40 0 [.sl 1 (l.map encI1) false, .s (.int .i64 x)] [] (RR (.s (.bool (decide (x ∈ l)))) 0 []) := by
 refine VC.enterR L0 (show E0.func 40 = some Tryd.f40 by kernel_rfl) (fun _ _ => rfl) rfl rfl [] ?_
 ((conv=>whnf)<;>repeat(with_reducible refine D1 ?_)<;>conv=>whnf)
 refine ⟨[], [], _, _, _, _, indexI_ok l x hl, t3, ?_⟩
 rintro r o' c' ⟨i, rfl, hi, rfl, rfl⟩
 ((conv=>whnf)<;>repeat(with_reducible refine D1 ?_)<;>conv=>whnf)
 (first|refine ⟨?_,?_⟩|refine nsplit ?_ ?_|refine bsplit ?_ ?_)<;>intro hge<;>have hz_:=True.intro<;>clear hz_
 ·have hge : i ≥ 0 := hge
  ((conv=>whnf)<;>repeat(with_reducible refine D1 ?_)<;>conv=>whnf)
  refine ⟨[], [], ?_⟩
  iterate 3 constructor
  refine ⟨⟨?_, ?_, ?_⟩, rfl, rfl, rfl⟩
  all_goals (repeat' first|with_reducible exact Lz.rfl|exact Lw.rfl|exact Lz.wrap (by omega)|(unfold goInt;with_reducible exact Lz.rfl)|exact flx _|constructor)
  exact Lz.of (bool_eq (Eq.symm (decide_eq_true (hi.1 hge))))
 ·have hge : ¬ i ≥ 0 := hge
  ((conv=>whnf)<;>repeat(with_reducible refine D1 ?_)<;>conv=>whnf)
  refine ⟨[], [], ?_⟩
  iterate 3 constructor
  refine ⟨⟨?_, ?_, ?_⟩, rfl, rfl, rfl⟩
  all_goals (repeat' first|with_reducible exact Lz.rfl|exact Lw.rfl|exact Lz.wrap (by omega)|(unfold goInt;with_reducible exact Lz.rfl)|exact flx _|constructor)
  exact Lz.of (bool_eq (Eq.symm (decide_eq_false (mt hi.2 hge))))
theorem cloneI_ok (l : List Int) (hl : l.length < 1000000) : VC E0 47 0 [.sl 1 (l.map encI1) false] [] (RR (.tk 0) 1 [(0, .arr 1 true (l.map encI1))]) := by
 refine VC.enterR L0 (show E0.func 47 = some Tryd.f47 by kernel_rfl) (fun _ _ => rfl) rfl rfl [] ?_
 ((conv=>whnf)<;>repeat(with_reducible refine D1 ?_)<;>conv=>whnf)
 refine ⟨fun h => ?_, ?_⟩
 ·have h : l = [] := by simpa using h
  subst h
  ((conv=>whnf)<;>repeat(with_reducible refine D1 ?_)<;>conv=>whnf)
  exact ⟨[], [none], _, _, _, t3, rfl, rfl, rfl⟩
 ·((conv=>whnf)<;>repeat(with_reducible refine D1 ?_)<;>conv=>whnf)
  refine ⟨by simp; omega, ?_⟩
  ((conv=>whnf)<;>repeat(with_reducible refine D1 ?_)<;>conv=>whnf)
  exact ⟨[], [some 1], _, _, _, t3, rfl, rfl, rfl⟩
def nodeB (n : Int) : Bool := decide (1 ≤ n ∧ n ≤ 24)
theorem node_ok (n : Int) : VC E0 57 0 [.s (.int .i64 n)] [] (RR (.s (.bool (nodeB n))) 0 []) := by
 refine VC.enterR L0 (show E0.func 57 = some Tryd.f57 by kernel_rfl) (fun _ _ => rfl) rfl rfl [] ?_
 ((conv=>whnf)<;>repeat(with_reducible refine D1 ?_)<;>conv=>whnf)
 (first|refine ⟨?_,?_⟩|refine nsplit ?_ ?_|refine bsplit ?_ ?_)<;>intro h1<;>have hz_:=True.intro<;>clear hz_
 ·have h1 : n ≥ 1 := h1
  ((conv=>whnf)<;>repeat(with_reducible refine D1 ?_)<;>conv=>whnf)
  (first|refine ⟨?_,?_⟩|refine nsplit ?_ ?_|refine bsplit ?_ ?_)<;>intro h2<;>have hz_:=True.intro<;>clear hz_
  ·have h2 : n ≤ 24 := h2
   ((conv=>whnf)<;>repeat(with_reducible refine D1 ?_)<;>conv=>whnf)
   refine ⟨[], [], ?_⟩
   iterate 3 constructor
   refine ⟨⟨?_, ?_, ?_⟩, rfl, rfl, rfl⟩
   all_goals (repeat' first|with_reducible exact Lz.rfl|exact Lw.rfl|exact Lz.wrap (by omega)|(unfold goInt;with_reducible exact Lz.rfl)|exact flx _|constructor)
   exact Lz.of (bool_eq (Eq.symm (decide_eq_true ⟨h1, h2⟩)))
  ·have h2 : ¬ n ≤ 24 := h2
   ((conv=>whnf)<;>repeat(with_reducible refine D1 ?_)<;>conv=>whnf)
   refine ⟨[], [], ?_⟩
   iterate 3 constructor
   refine ⟨⟨?_, ?_, ?_⟩, rfl, rfl, rfl⟩
   all_goals (repeat' first|with_reducible exact Lz.rfl|exact Lw.rfl|exact Lz.wrap (by omega)|(unfold goInt;with_reducible exact Lz.rfl)|exact flx _|constructor)
   exact Lz.of (bool_eq (Eq.symm (decide_eq_false fun h => h2 h.2)))
 ·have h1 : ¬ n ≥ 1 := h1
  ((conv=>whnf)<;>repeat(with_reducible refine D1 ?_)<;>conv=>whnf)
  refine ⟨[], [], ?_⟩
  iterate 3 constructor
  refine ⟨⟨?_, ?_, ?_⟩, rfl, rfl, rfl⟩
  all_goals (repeat' first|with_reducible exact Lz.rfl|exact Lw.rfl|exact Lz.wrap (by omega)|(unfold goInt;with_reducible exact Lz.rfl)|exact flx _|constructor)
  exact Lz.of (bool_eq (Eq.symm (decide_eq_false fun h => h1 h.1)))
def unlikeP (l : List Int) : Prop := l.Nodup ∧ ∀ n ∈ l, 1 ≤ n ∧ n ≤ 24
instance (l : List Int) : Decidable (unlikeP l) := inferInstanceAs (Decidable (_ ∧ _))
theorem unlike_snoc (l : List Int) (n : Int) : unlikeP (l ++ [n]) ↔ unlikeP l ∧ (1 ≤ n ∧ n ≤ 24) ∧ n ∉ l := by
 unfold unlikeP
 rw [List.nodup_append]
 constructor
 ·rintro ⟨⟨h1, _, h2⟩, h3⟩
  exact ⟨⟨h1, fun m hm => h3 m (List.mem_append_left _ hm)⟩, h3 n (by simp), fun hm => h2 n hm n (by simp) rfl⟩
 ·rintro ⟨⟨h1, h2⟩, h3, h4⟩
  refine ⟨⟨h1, by simp, fun a ha b hb => ?_⟩, fun m hm => ?_⟩
  ·simp at hb; subst hb; rintro rfl; exact h4 ha
  ·rcases List.mem_append.1 hm with q | q
   ·exact h2 m q
   ·simp at q; subst q; exact h3
theorem unlike_take {l : List Int} {i : Nat} (h : unlikeP l) : unlikeP (l.take i) := ⟨(List.take_sublist i l).nodup h.1, fun n hn => h.2 n (List.mem_of_mem_take hn)⟩
theorem unlikeC (l : List Int) (hl : l.length < 1000000) : VC E0 33 0 [.sl 1 (l.map encI1) false] [] (RR (.s (.bool (decide (unlikeP l)))) 0 []) := by
 refine VC.enterR L0 (show E0.func 33 = some Tryd.f33 by kernel_rfl) (fun _ _ => rfl) rfl rfl [] ?_
 ((conv=>whnf)<;>repeat(with_reducible refine D1 ?_)<;>conv=>whnf)
 refine ⟨fun k f o c => ∃ j : Nat, j ≤ l.length ∧ k = l.length - j ∧ unlikeP (l.take j) ∧ c = 0 ∧ f = [(0, .sl 1 (l.map encI1) false), (5, .sl 1 (l.map encI1) false), (6, .s (.int .i64 l.length)), (7, .s (.int .i64 j))] ∧ o = [], ⟨l.length, ?_⟩, ?_⟩
 ·refine ⟨[], [], ?_⟩
  iterate 3 constructor
  refine ⟨⟨?_, ?_, ?_⟩, ⟨0, Nat.zero_le _, rfl, ⟨by simp, by simp⟩, rfl, rfl, rfl⟩⟩
  all_goals (repeat' first|with_reducible exact Lz.rfl|exact Lw.rfl|exact Lz.wrap (by omega)|(unfold goInt;with_reducible exact Lz.rfl)|exact flx _|constructor)
  exact Lz.int (by rw [List.length_map])
 ·rintro k f1 o1 c1 ⟨j, hj, rfl, hn, rfl, rfl, rfl⟩
  ((conv=>whnf)<;>repeat(with_reducible refine D1 ?_)<;>conv=>whnf)
  (first|refine ⟨?_,?_⟩|refine nsplit ?_ ?_|refine bsplit ?_ ?_)<;>intro h<;>have hz_:=True.intro<;>clear hz_
  ·have h : j < l.length := by have : (j : Int) < (l.length : Nat) := h
                               omega
   ((conv=>whnf)<;>repeat(with_reducible refine D1 ?_)<;>conv=>whnf)
   refine idxI h ?_
   ((conv=>whnf)<;>repeat(with_reducible refine D1 ?_)<;>conv=>whnf)
   have hs := unlike_snoc (l.take j) l[j]
   rw [← List.take_succ_eq_append_getElem h] at hs
   refine ⟨[], [], _, _, _, _, node_ok l[j], t3, ?_⟩
   rintro r o' c' ⟨rfl, rfl, rfl⟩
   have hz_ := True.intro
   clear hz_
   cases hb : nodeB l[j]
   ·have hb : ¬ (1 ≤ l[j] ∧ l[j] ≤ 24) := of_decide_eq_false hb
    ((conv=>whnf)<;>repeat(with_reducible refine D1 ?_)<;>conv=>whnf)
    refine ⟨[], [], ?_⟩
    iterate 3 constructor
    refine ⟨⟨?_, ?_, ?_⟩, rfl, rfl, rfl⟩
    all_goals (repeat' first|with_reducible exact Lz.rfl|exact Lw.rfl|exact Lz.wrap (by omega)|(unfold goInt;with_reducible exact Lz.rfl)|exact flx _|constructor)
    exact Lz.of (bool_eq (Eq.symm (decide_eq_false fun q => hb (hs.1 (unlike_take q)).2.1)))
   ·have hb : 1 ≤ l[j] ∧ l[j] ≤ 24 := of_decide_eq_true hb
    ((conv=>whnf)<;>repeat(with_reducible refine D1 ?_)<;>conv=>whnf)
    refine ⟨⟨by omega, by omega, by simp; omega⟩, ?_⟩
    ((conv=>whnf)<;>repeat(with_reducible refine D1 ?_)<;>conv=>whnf)
    refine ⟨[], [], _, _, _, _, containsI_ok (l.take j) l[j] (by simp; omega), ⟨by ((repeat' first|with_reducible exact Lz.rfl|exact Lw.rfl|exact Lz.wrap (by omega)|(unfold goInt;with_reducible exact Lz.rfl)|exact flx _|constructor); all_goals (exact Lz.of (by simp [List.map_take]))), by ((repeat' first|with_reducible exact Lz.rfl|exact Lw.rfl|exact Lz.wrap (by omega)|(unfold goInt;with_reducible exact Lz.rfl)|exact flx _|constructor); all_goals (exact Lz.of (by simp [List.map_take]))), by rfl⟩, ?_⟩
    rintro r o' c' ⟨rfl, rfl, rfl⟩
    ((conv=>whnf)<;>repeat(with_reducible refine D1 ?_)<;>conv=>whnf)
    by_cases hm : l[j] ∈ l.take j
    ·rw [decide_eq_true hm]
     ((conv=>whnf)<;>repeat(with_reducible refine D1 ?_)<;>conv=>whnf)
     refine ⟨[], [], ?_⟩
     iterate 3 constructor
     refine ⟨⟨?_, ?_, ?_⟩, rfl, rfl, rfl⟩
     all_goals (repeat' first|with_reducible exact Lz.rfl|exact Lw.rfl|exact Lz.wrap (by omega)|(unfold goInt;with_reducible exact Lz.rfl)|exact flx _|constructor)
     exact Lz.of (bool_eq (Eq.symm (decide_eq_false fun q => (hs.1 (unlike_take q)).2.2 hm)))
    ·rw [decide_eq_false hm]
     ((conv=>whnf)<;>repeat(with_reducible refine D1 ?_)<;>conv=>whnf)
     refine ⟨l.length - (j + 1), ?_, by omega⟩
     exact ⟨[], [], _, _, _, t3, ⟨j + 1, h, rfl, hs.2 ⟨hn, hb, hm⟩, rfl, rfl, rfl⟩⟩
  ·have hj' : j = l.length := by have : ¬ (j : Int) < (l.length : Nat) := h
                                 omega
   subst hj'
   rw [List.take_length] at hn
   ((conv=>whnf)<;>repeat(with_reducible refine D1 ?_)<;>conv=>whnf)
   refine ⟨[], [], ?_⟩
   iterate 3 constructor
   refine ⟨⟨?_, ?_, ?_⟩, rfl, rfl, rfl⟩
   all_goals (repeat' first|with_reducible exact Lz.rfl|exact Lw.rfl|exact Lz.wrap (by omega)|(unfold goInt;with_reducible exact Lz.rfl)|exact flx _|constructor)
   exact Lz.of (bool_eq (Eq.symm (decide_eq_true hn)))
end Go.M
namespace Go.M
open Go Go.Proofs
set_option maxRecDepth 100000
set_option maxHeartbeats 2000000
def standL (c : CF) : List Int := c.nodes ++ (if c.join = 0 then [] else [c.join])
theorem standL_len (c : CF) : (standL c).length ≤ c.nodes.length + 1 := by unfold standL; split <;> simp
theorem everybodyC (c : CF) (hl : c.nodes.length < 100000) : VC E0 34 0 [.agg (encCF c)] [] (RR (.tk 0) 1 [(0, .arr 1 true ((standL c).map encI1))]) := by
 refine VC.enterR L0 (show E0.func 34 = some Tryd.f34 by kernel_rfl) (fun _ _ => rfl) rfl rfl [] ?_
 ((conv=>whnf)<;>repeat(with_reducible refine D1 ?_)<;>conv=>whnf)
 (first|refine ⟨?_,?_⟩|refine nsplit ?_ ?_|refine bsplit ?_ ?_)<;>intro hj<;>have hz_:=True.intro<;>clear hz_
 ·have hj : c.join = 0 := hj
  ((conv=>whnf)<;>repeat(with_reducible refine D1 ?_)<;>conv=>whnf)
  refine ⟨[], [], _, _, _, _, cloneI_ok c.nodes (by omega), t3, ?_⟩
  rintro r o' c' ⟨rfl, rfl, rfl⟩
  ((conv=>whnf)<;>repeat(with_reducible refine D1 ?_)<;>conv=>whnf)
  refine ⟨[], [some 1], ?_⟩
  iterate 3 constructor
  refine ⟨⟨?_, ?_, ?_⟩, rfl, rfl, rfl⟩
  all_goals (repeat' first|with_reducible exact Lz.rfl|exact Lw.rfl|exact Lz.wrap (by omega)|(unfold goInt;with_reducible exact Lz.rfl)|exact flx _|constructor)
  exact Lz.of (by unfold standL; simp [hj])
 ·have hj : ¬ c.join = 0 := hj
  ((conv=>whnf)<;>repeat(with_reducible refine D1 ?_)<;>conv=>whnf)
  refine ⟨[], [], _, _, _, _, cloneI_ok c.nodes (by omega), t3, ?_⟩
  rintro r o' c' ⟨rfl, rfl, rfl⟩
  ((conv=>whnf)<;>repeat(with_reducible refine D1 ?_)<;>conv=>whnf)
  refine ⟨by simp; omega, ?_⟩
  ((conv=>whnf)<;>repeat(with_reducible refine D1 ?_)<;>conv=>whnf)
  refine ⟨[], [some 3], ?_⟩
  iterate 3 constructor
  refine ⟨⟨?_, ?_, ?_⟩, rfl, rfl, rfl⟩
  all_goals (repeat' first|with_reducible exact Lz.rfl|exact Lw.rfl|exact Lz.wrap (by omega)|(unfold goInt;with_reducible exact Lz.rfl)|exact flx _|constructor)
  exact Lz.of (by unfold standL; simp [hj])
theorem refUnlikeC (l : List Int) (hl : l.length < 1000000) : VC E0 35 0 [.sl 1 (l.map encI1) false] [] (RR (.s (.bool (decide (unlikeP l)))) 0 []) := by
 refine VC.enterR L0 (show E0.func 35 = some Tryd.f35 by kernel_rfl) (fun _ _ => rfl) rfl rfl [] ?_
 ((conv=>whnf)<;>repeat(with_reducible refine D1 ?_)<;>conv=>whnf)
 refine ⟨fun k f o c => ∃ j : Nat, j ≤ l.length ∧ k = l.length - j ∧ unlikeP (l.take j) ∧ c = 0 ∧ f = [(0, .sl 1 (l.map encI1) false), (3, .s (.int .i64 j))] ∧ o = [], ⟨l.length, ?_⟩, ?_⟩
 ·exact ⟨[], [], _, _, _, t3, ⟨0, Nat.zero_le _, rfl, ⟨by simp, by simp⟩, rfl, rfl, rfl⟩⟩
 ·rintro k f1 o1 c1 ⟨j, hj, rfl, hn, rfl, rfl, rfl⟩
  ((conv=>whnf)<;>repeat(with_reducible refine D1 ?_)<;>conv=>whnf)
  (first|refine ⟨?_,?_⟩|refine nsplit ?_ ?_|refine bsplit ?_ ?_)<;>intro h<;>have hz_:=True.intro<;>clear hz_
  ·have h : j < l.length := lenlt.1 h
   have hs := unlike_snoc (l.take j) l[j]
   rw [← List.take_succ_eq_append_getElem h] at hs
   ((conv=>whnf)<;>repeat(with_reducible refine D1 ?_)<;>conv=>whnf)
   refine idxI h ?_
   ((conv=>whnf)<;>repeat(with_reducible refine D1 ?_)<;>conv=>whnf)
   (first|refine ⟨?_,?_⟩|refine nsplit ?_ ?_|refine bsplit ?_ ?_)<;>intro h1<;>have hz_:=True.intro<;>clear hz_
   ·have h1 : l[j] < 1 := h1
    ((conv=>whnf)<;>repeat(with_reducible refine D1 ?_)<;>conv=>whnf)
    refine ⟨[], [], ?_⟩
    iterate 3 constructor
    refine ⟨⟨?_, ?_, ?_⟩, rfl, rfl, rfl⟩
    all_goals (repeat' first|with_reducible exact Lz.rfl|exact Lw.rfl|exact Lz.wrap (by omega)|(unfold goInt;with_reducible exact Lz.rfl)|exact flx _|constructor)
    exact Lz.of (bool_eq (Eq.symm (decide_eq_false fun q => by have := (hs.1 (unlike_take q)).2.1; omega)))
   ·have h1 : ¬ l[j] < 1 := h1
    ((conv=>whnf)<;>repeat(with_reducible refine D1 ?_)<;>conv=>whnf)
    refine idxI h ?_
    ((conv=>whnf)<;>repeat(with_reducible refine D1 ?_)<;>conv=>whnf)
    (first|refine ⟨?_,?_⟩|refine nsplit ?_ ?_|refine bsplit ?_ ?_)<;>intro h2<;>have hz_:=True.intro<;>clear hz_
    ·have h2 : l[j] > 24 := h2
     ((conv=>whnf)<;>repeat(with_reducible refine D1 ?_)<;>conv=>whnf)
     refine ⟨[], [], ?_⟩
     iterate 3 constructor
     refine ⟨⟨?_, ?_, ?_⟩, rfl, rfl, rfl⟩
     all_goals (repeat' first|with_reducible exact Lz.rfl|exact Lw.rfl|exact Lz.wrap (by omega)|(unfold goInt;with_reducible exact Lz.rfl)|exact flx _|constructor)
     exact Lz.of (bool_eq (Eq.symm (decide_eq_false fun q => by have := (hs.1 (unlike_take q)).2.1; omega)))
    ·have h2 : ¬ l[j] > 24 := h2
     ((conv=>whnf)<;>repeat(with_reducible refine D1 ?_)<;>conv=>whnf)
     refine ⟨⟨by omega, by omega, by simp; omega⟩, ?_⟩
     ((conv=>whnf)<;>repeat(with_reducible refine D1 ?_)<;>conv=>whnf)
     refine idxI h ?_
     ((conv=>whnf)<;>repeat(with_reducible refine D1 ?_)<;>conv=>whnf)
     refine ⟨[], [], _, _, _, _, has04_ok (l.take j) l[j] (by simp; omega), ⟨by ((repeat' first|with_reducible exact Lz.rfl|exact Lw.rfl|exact Lz.wrap (by omega)|(unfold goInt;with_reducible exact Lz.rfl)|exact flx _|constructor); all_goals (exact Lz.of (by simp [List.map_take]))), by ((repeat' first|with_reducible exact Lz.rfl|exact Lw.rfl|exact Lz.wrap (by omega)|(unfold goInt;with_reducible exact Lz.rfl)|exact flx _|constructor); all_goals (exact Lz.of (by simp [List.map_take]))), by rfl⟩, ?_⟩
     rintro r o' c' ⟨rfl, rfl, rfl⟩
     ((conv=>whnf)<;>repeat(with_reducible refine D1 ?_)<;>conv=>whnf)
     by_cases hm : l[j] ∈ l.take j
     ·rw [decide_eq_true hm]
      ((conv=>whnf)<;>repeat(with_reducible refine D1 ?_)<;>conv=>whnf)
      refine ⟨[], [], ?_⟩
      iterate 3 constructor
      refine ⟨⟨?_, ?_, ?_⟩, rfl, rfl, rfl⟩
      all_goals (repeat' first|with_reducible exact Lz.rfl|exact Lw.rfl|exact Lz.wrap (by omega)|(unfold goInt;with_reducible exact Lz.rfl)|exact flx _|constructor)
      exact Lz.of (bool_eq (Eq.symm (decide_eq_false fun q => (hs.1 (unlike_take q)).2.2 hm)))
     ·rw [decide_eq_false hm]
      ((conv=>whnf)<;>repeat(with_reducible refine D1 ?_)<;>conv=>whnf)
      refine ⟨l.length - (j + 1), ?_, by omega⟩
      exact ⟨[], [], _, _, _, t3, ⟨j + 1, h, rfl, hs.2 ⟨hn, by omega, hm⟩, rfl, rfl, rfl⟩⟩
  ·have hj' : j = l.length := by have := mt lenlt.2 h
                                 omega
   subst hj'
   rw [List.take_length] at hn
   ((conv=>whnf)<;>repeat(with_reducible refine D1 ?_)<;>conv=>whnf)
   refine ⟨[], [], ?_⟩
   iterate 3 constructor
   refine ⟨⟨?_, ?_, ?_⟩, rfl, rfl, rfl⟩
   all_goals (repeat' first|with_reducible exact Lz.rfl|exact Lw.rfl|exact Lz.wrap (by omega)|(unfold goInt;with_reducible exact Lz.rfl)|exact flx _|constructor)
   exact Lz.of (bool_eq (Eq.symm (decide_eq_true hn)))
theorem standsC (c : CF) (hl : c.nodes.length < 100000) : VC E0 36 0 [.agg (encCF c)] [] (RR (.tk 0) 1 [(0, .arr 1 true ((standL c).map encI1))]) := by
 refine VC.enterR L0 (show E0.func 36 = some Tryd.f36 by kernel_rfl) (fun _ _ => rfl) rfl rfl [] ?_
 ((conv=>whnf)<;>repeat(with_reducible refine D1 ?_)<;>conv=>whnf)
 refine ⟨by simp; omega, ?_⟩
 ((conv=>whnf)<;>repeat(with_reducible refine D1 ?_)<;>conv=>whnf)
 (first|refine ⟨?_,?_⟩|refine nsplit ?_ ?_|refine bsplit ?_ ?_)<;>intro hj<;>have hz_:=True.intro<;>clear hz_
 ·have hj : ¬ c.join = 0 := hj
  ((conv=>whnf)<;>repeat(with_reducible refine D1 ?_)<;>conv=>whnf)
  refine ⟨by simp; omega, ?_⟩
  ((conv=>whnf)<;>repeat(with_reducible refine D1 ?_)<;>conv=>whnf)
  refine ⟨[], [some 3], ?_⟩
  iterate 3 constructor
  refine ⟨⟨?_, ?_, ?_⟩, rfl, rfl, rfl⟩
  all_goals (repeat' first|with_reducible exact Lz.rfl|exact Lw.rfl|exact Lz.wrap (by omega)|(unfold goInt;with_reducible exact Lz.rfl)|exact flx _|constructor)
  exact Lz.of (by unfold standL; simp [hj])
 ·have hj : c.join = 0 := Classical.not_not.1 hj
  ((conv=>whnf)<;>repeat(with_reducible refine D1 ?_)<;>conv=>whnf)
  refine ⟨[], [some 1], ?_⟩
  iterate 3 constructor
  refine ⟨⟨?_, ?_, ?_⟩, rfl, rfl, rfl⟩
  all_goals (repeat' first|with_reducible exact Lz.rfl|exact Lw.rfl|exact Lz.wrap (by omega)|(unfold goInt;with_reducible exact Lz.rfl)|exact flx _|constructor)
  exact Lz.of (by unfold standL; simp [hj])
def rightP (c : CF) : Prop := (0 ≤ c.chain ∧ c.chain < 4) ∧ 1 ≤ c.epoch ∧ (1 ≤ c.nodes.length ∧ c.nodes.length ≤ 5) ∧ (c.fresh = true → 2 ≤ c.nodes.length ∧ c.join = 0) ∧ unlikeP (standL c)
instance (c : CF) : Decidable (rightP c) := inferInstanceAs (Decidable (_ ∧ _))
theorem right_ok (c : CF) : VC E0 13 0 [.agg (encCF c)] [] (RR (.s (.bool (decide (rightP c)))) 0 []) := by
 have hsl := standL_len c
 refine VC.enterR L0 (show E0.func 13 = some Tryd.f13 by kernel_rfl) (fun _ _ => rfl) rfl rfl [] ?_
 ((conv=>whnf)<;>repeat(with_reducible refine D1 ?_)<;>conv=>whnf)
 (first|refine ⟨?_,?_⟩|refine nsplit ?_ ?_|refine bsplit ?_ ?_)<;>intro h1<;>have hz_:=True.intro<;>clear hz_
 ·have h1 : c.chain < 0 := h1
  ((conv=>whnf)<;>repeat(with_reducible refine D1 ?_)<;>conv=>whnf)
  refine ⟨[], [], ?_⟩
  iterate 3 constructor
  refine ⟨⟨?_, ?_, ?_⟩, rfl, rfl, rfl⟩
  all_goals (repeat' first|with_reducible exact Lz.rfl|exact Lw.rfl|exact Lz.wrap (by omega)|(unfold goInt;with_reducible exact Lz.rfl)|exact flx _|constructor)
  exact Lz.of (bool_eq (Eq.symm (decide_eq_false fun q => by obtain ⟨⟨_, _⟩, _, ⟨_, _⟩, _, _⟩ := q; omega)))
 have h1 : ¬ c.chain < 0 := h1
 ((conv=>whnf)<;>repeat(with_reducible refine D1 ?_)<;>conv=>whnf)
 (first|refine ⟨?_,?_⟩|refine nsplit ?_ ?_|refine bsplit ?_ ?_)<;>intro h2<;>have hz_:=True.intro<;>clear hz_
 ·have h2 : c.chain ≥ 4 := h2
  ((conv=>whnf)<;>repeat(with_reducible refine D1 ?_)<;>conv=>whnf)
  refine ⟨[], [], ?_⟩
  iterate 3 constructor
  refine ⟨⟨?_, ?_, ?_⟩, rfl, rfl, rfl⟩
  all_goals (repeat' first|with_reducible exact Lz.rfl|exact Lw.rfl|exact Lz.wrap (by omega)|(unfold goInt;with_reducible exact Lz.rfl)|exact flx _|constructor)
  exact Lz.of (bool_eq (Eq.symm (decide_eq_false fun q => by obtain ⟨⟨_, _⟩, _, ⟨_, _⟩, _, _⟩ := q; omega)))
 have h2 : ¬ c.chain ≥ 4 := h2
 ((conv=>whnf)<;>repeat(with_reducible refine D1 ?_)<;>conv=>whnf)
 (first|refine ⟨?_,?_⟩|refine nsplit ?_ ?_|refine bsplit ?_ ?_)<;>intro h3<;>have hz_:=True.intro<;>clear hz_
 ·have h3 : c.epoch < 1 := h3
  ((conv=>whnf)<;>repeat(with_reducible refine D1 ?_)<;>conv=>whnf)
  refine ⟨[], [], ?_⟩
  iterate 3 constructor
  refine ⟨⟨?_, ?_, ?_⟩, rfl, rfl, rfl⟩
  all_goals (repeat' first|with_reducible exact Lz.rfl|exact Lw.rfl|exact Lz.wrap (by omega)|(unfold goInt;with_reducible exact Lz.rfl)|exact flx _|constructor)
  exact Lz.of (bool_eq (Eq.symm (decide_eq_false fun q => by obtain ⟨⟨_, _⟩, _, ⟨_, _⟩, _, _⟩ := q; omega)))
 have h3 : ¬ c.epoch < 1 := h3
 ((conv=>whnf)<;>repeat(with_reducible refine D1 ?_)<;>conv=>whnf)
 (first|refine ⟨?_,?_⟩|refine nsplit ?_ ?_|refine bsplit ?_ ?_)<;>intro h4<;>have hz_:=True.intro<;>clear hz_
 ·have h4 : (((c.nodes.map encI1).length : Nat) : Int) < 1 := h4
  rw [List.length_map] at h4
  ((conv=>whnf)<;>repeat(with_reducible refine D1 ?_)<;>conv=>whnf)
  refine ⟨[], [], ?_⟩
  iterate 3 constructor
  refine ⟨⟨?_, ?_, ?_⟩, rfl, rfl, rfl⟩
  all_goals (repeat' first|with_reducible exact Lz.rfl|exact Lw.rfl|exact Lz.wrap (by omega)|(unfold goInt;with_reducible exact Lz.rfl)|exact flx _|constructor)
  exact Lz.of (bool_eq (Eq.symm (decide_eq_false fun q => by obtain ⟨⟨_, _⟩, _, ⟨_, _⟩, _, _⟩ := q; omega)))
 have h4 : ¬ (((c.nodes.map encI1).length : Nat) : Int) < 1 := h4
 rw [List.length_map] at h4
 ((conv=>whnf)<;>repeat(with_reducible refine D1 ?_)<;>conv=>whnf)
 (first|refine ⟨?_,?_⟩|refine nsplit ?_ ?_|refine bsplit ?_ ?_)<;>intro h5<;>have hz_:=True.intro<;>clear hz_
 ·have h5 : (((c.nodes.map encI1).length : Nat) : Int) > 5 := h5
  rw [List.length_map] at h5
  ((conv=>whnf)<;>repeat(with_reducible refine D1 ?_)<;>conv=>whnf)
  refine ⟨[], [], ?_⟩
  iterate 3 constructor
  refine ⟨⟨?_, ?_, ?_⟩, rfl, rfl, rfl⟩
  all_goals (repeat' first|with_reducible exact Lz.rfl|exact Lw.rfl|exact Lz.wrap (by omega)|(unfold goInt;with_reducible exact Lz.rfl)|exact flx _|constructor)
  exact Lz.of (bool_eq (Eq.symm (decide_eq_false fun q => by obtain ⟨⟨_, _⟩, _, ⟨_, _⟩, _, _⟩ := q; omega)))
 have h5 : ¬ (((c.nodes.map encI1).length : Nat) : Int) > 5 := h5
 rw [List.length_map] at h5
 ((conv=>whnf)<;>repeat(with_reducible refine D1 ?_)<;>conv=>whnf)
 cases hf : c.fresh
 ·((conv=>whnf)<;>repeat(with_reducible refine D1 ?_)<;>conv=>whnf)
  refine ⟨[], [], _, _, _, _, everybodyC c (by omega), ⟨by ((repeat' first|with_reducible exact Lz.rfl|exact Lw.rfl|exact Lz.wrap (by omega)|(unfold goInt;with_reducible exact Lz.rfl)|exact flx _|constructor); all_goals (exact Lz.of (bool_eq hf.symm))), by ((repeat' first|with_reducible exact Lz.rfl|exact Lw.rfl|exact Lz.wrap (by omega)|(unfold goInt;with_reducible exact Lz.rfl)|exact flx _|constructor); all_goals (exact Lz.of (bool_eq hf.symm))), by rfl⟩, ?_⟩
  rintro r o' c' ⟨rfl, rfl, rfl⟩
  ((conv=>whnf)<;>repeat(with_reducible refine D1 ?_)<;>conv=>whnf)
  refine ⟨[1], [], _, _, _, _, unlikeC (standL c) (by omega), t3, ?_⟩
  rintro r o' c' ⟨rfl, rfl, rfl⟩
  ((conv=>whnf)<;>repeat(with_reducible refine D1 ?_)<;>conv=>whnf)
  refine ⟨[], [], ?_⟩
  iterate 3 constructor
  refine ⟨⟨?_, ?_, ?_⟩, rfl, rfl, rfl⟩
  all_goals (repeat' first|with_reducible exact Lz.rfl|exact Lw.rfl|exact Lz.wrap (by omega)|(unfold goInt;with_reducible exact Lz.rfl)|exact flx _|constructor)
  exact Lz.of (bool_eq (decide_eq_decide.2 ⟨fun q => ⟨⟨by omega, by omega⟩, by omega, ⟨by omega, by omega⟩, (fun e => absurd (hf.symm.trans e) (by decide)), q⟩, fun q => q.2.2.2.2⟩))
 ·((conv=>whnf)<;>repeat(with_reducible refine D1 ?_)<;>conv=>whnf)
  (first|refine ⟨?_,?_⟩|refine nsplit ?_ ?_|refine bsplit ?_ ?_)<;>intro h6<;>have hz_:=True.intro<;>clear hz_
  ·have h6 : (((c.nodes.map encI1).length : Nat) : Int) < 2 := h6
   rw [List.length_map] at h6
   ((conv=>whnf)<;>repeat(with_reducible refine D1 ?_)<;>conv=>whnf)
   refine ⟨[], [], ?_⟩
   iterate 3 constructor
   refine ⟨⟨?_, ?_, ?_⟩, rfl, rfl, rfl⟩
   all_goals (repeat' first|with_reducible exact Lz.rfl|exact Lw.rfl|exact Lz.wrap (by omega)|(unfold goInt;with_reducible exact Lz.rfl)|exact flx _|constructor)
   exact Lz.of (bool_eq (Eq.symm (decide_eq_false fun q => by have := q.2.2.2.1 hf; omega)))
  have h6 : ¬ (((c.nodes.map encI1).length : Nat) : Int) < 2 := h6
  rw [List.length_map] at h6
  ((conv=>whnf)<;>repeat(with_reducible refine D1 ?_)<;>conv=>whnf)
  (first|refine ⟨?_,?_⟩|refine nsplit ?_ ?_|refine bsplit ?_ ?_)<;>intro h7<;>have hz_:=True.intro<;>clear hz_
  ·have h7 : c.join ≠ 0 := h7
   ((conv=>whnf)<;>repeat(with_reducible refine D1 ?_)<;>conv=>whnf)
   refine ⟨[], [], ?_⟩
   iterate 3 constructor
   refine ⟨⟨?_, ?_, ?_⟩, rfl, rfl, rfl⟩
   all_goals (repeat' first|with_reducible exact Lz.rfl|exact Lw.rfl|exact Lz.wrap (by omega)|(unfold goInt;with_reducible exact Lz.rfl)|exact flx _|constructor)
   exact Lz.of (bool_eq (Eq.symm (decide_eq_false fun q => by have := q.2.2.2.1 hf; omega)))
  have h7 : c.join = 0 := Classical.not_not.1 h7
  ((conv=>whnf)<;>repeat(with_reducible refine D1 ?_)<;>conv=>whnf)
  refine ⟨[], [], _, _, _, _, everybodyC c (by omega), ⟨by ((repeat' first|with_reducible exact Lz.rfl|exact Lw.rfl|exact Lz.wrap (by omega)|(unfold goInt;with_reducible exact Lz.rfl)|exact flx _|constructor); all_goals (exact Lz.of (bool_eq hf.symm))), by ((repeat' first|with_reducible exact Lz.rfl|exact Lw.rfl|exact Lz.wrap (by omega)|(unfold goInt;with_reducible exact Lz.rfl)|exact flx _|constructor); all_goals (exact Lz.of (bool_eq hf.symm))), by rfl⟩, ?_⟩
  rintro r o' c' ⟨rfl, rfl, rfl⟩
  ((conv=>whnf)<;>repeat(with_reducible refine D1 ?_)<;>conv=>whnf)
  refine ⟨[1], [], _, _, _, _, unlikeC (standL c) (by omega), t3, ?_⟩
  rintro r o' c' ⟨rfl, rfl, rfl⟩
  ((conv=>whnf)<;>repeat(with_reducible refine D1 ?_)<;>conv=>whnf)
  refine ⟨[], [], ?_⟩
  iterate 3 constructor
  refine ⟨⟨?_, ?_, ?_⟩, rfl, rfl, rfl⟩
  all_goals (repeat' first|with_reducible exact Lz.rfl|exact Lw.rfl|exact Lz.wrap (by omega)|(unfold goInt;with_reducible exact Lz.rfl)|exact flx _|constructor)
  exact Lz.of (bool_eq (decide_eq_decide.2 ⟨fun q => ⟨⟨by omega, by omega⟩, by omega, ⟨by omega, by omega⟩, (fun e => ⟨by omega, h7⟩), q⟩, fun q => q.2.2.2.2⟩))
theorem refRight_ok (c : CF) (he : 0 ≤ c.epoch) : VC E0 14 0 [.agg (encCF c)] [] (RR (.s (.bool (decide (rightP c)))) 0 []) := by
 have hsl := standL_len c
 refine VC.enterR L0 (show E0.func 14 = some Tryd.f14 by kernel_rfl) (fun _ _ => rfl) rfl rfl [] ?_
 ((conv=>whnf)<;>repeat(with_reducible refine D1 ?_)<;>conv=>whnf)
 (first|refine ⟨?_,?_⟩|refine nsplit ?_ ?_|refine bsplit ?_ ?_)<;>intro h1<;>have hz_:=True.intro<;>clear hz_
 ·have h1 : c.chain < 0 := h1
  ((conv=>whnf)<;>repeat(with_reducible refine D1 ?_)<;>conv=>whnf)
  refine ⟨[], [], ?_⟩
  iterate 3 constructor
  refine ⟨⟨?_, ?_, ?_⟩, rfl, rfl, rfl⟩
  all_goals (repeat' first|with_reducible exact Lz.rfl|exact Lw.rfl|exact Lz.wrap (by omega)|(unfold goInt;with_reducible exact Lz.rfl)|exact flx _|constructor)
  exact Lz.of (bool_eq (Eq.symm (decide_eq_false fun q => by obtain ⟨⟨_, _⟩, _, ⟨_, _⟩, _, _⟩ := q; omega)))
 have h1 : ¬ c.chain < 0 := h1
 ((conv=>whnf)<;>repeat(with_reducible refine D1 ?_)<;>conv=>whnf)
 (first|refine ⟨?_,?_⟩|refine nsplit ?_ ?_|refine bsplit ?_ ?_)<;>intro h2<;>have hz_:=True.intro<;>clear hz_
 ·have h2 : c.chain > 3 := h2
  ((conv=>whnf)<;>repeat(with_reducible refine D1 ?_)<;>conv=>whnf)
  refine ⟨[], [], ?_⟩
  iterate 3 constructor
  refine ⟨⟨?_, ?_, ?_⟩, rfl, rfl, rfl⟩
  all_goals (repeat' first|with_reducible exact Lz.rfl|exact Lw.rfl|exact Lz.wrap (by omega)|(unfold goInt;with_reducible exact Lz.rfl)|exact flx _|constructor)
  exact Lz.of (bool_eq (Eq.symm (decide_eq_false fun q => by obtain ⟨⟨_, _⟩, _, ⟨_, _⟩, _, _⟩ := q; omega)))
 have h2 : ¬ c.chain > 3 := h2
 ((conv=>whnf)<;>repeat(with_reducible refine D1 ?_)<;>conv=>whnf)
 (first|refine ⟨?_,?_⟩|refine nsplit ?_ ?_|refine bsplit ?_ ?_)<;>intro h3<;>have hz_:=True.intro<;>clear hz_
 ·have h3 : c.epoch = 0 := h3
  ((conv=>whnf)<;>repeat(with_reducible refine D1 ?_)<;>conv=>whnf)
  refine ⟨[], [], ?_⟩
  iterate 3 constructor
  refine ⟨⟨?_, ?_, ?_⟩, rfl, rfl, rfl⟩
  all_goals (repeat' first|with_reducible exact Lz.rfl|exact Lw.rfl|exact Lz.wrap (by omega)|(unfold goInt;with_reducible exact Lz.rfl)|exact flx _|constructor)
  exact Lz.of (bool_eq (Eq.symm (decide_eq_false fun q => by obtain ⟨⟨_, _⟩, _, ⟨_, _⟩, _, _⟩ := q; omega)))
 have h3 : ¬ c.epoch = 0 := h3
 ((conv=>whnf)<;>repeat(with_reducible refine D1 ?_)<;>conv=>whnf)
 (first|refine ⟨?_,?_⟩|refine nsplit ?_ ?_|refine bsplit ?_ ?_)<;>intro h4<;>have hz_:=True.intro<;>clear hz_
 ·have h4 : (((c.nodes.map encI1).length : Nat) : Int) = 0 := h4
  rw [List.length_map] at h4
  ((conv=>whnf)<;>repeat(with_reducible refine D1 ?_)<;>conv=>whnf)
  refine ⟨[], [], ?_⟩
  iterate 3 constructor
  refine ⟨⟨?_, ?_, ?_⟩, rfl, rfl, rfl⟩
  all_goals (repeat' first|with_reducible exact Lz.rfl|exact Lw.rfl|exact Lz.wrap (by omega)|(unfold goInt;with_reducible exact Lz.rfl)|exact flx _|constructor)
  exact Lz.of (bool_eq (Eq.symm (decide_eq_false fun q => by obtain ⟨⟨_, _⟩, _, ⟨_, _⟩, _, _⟩ := q; omega)))
 have h4 : ¬ (((c.nodes.map encI1).length : Nat) : Int) = 0 := h4
 rw [List.length_map] at h4
 ((conv=>whnf)<;>repeat(with_reducible refine D1 ?_)<;>conv=>whnf)
 (first|refine ⟨?_,?_⟩|refine nsplit ?_ ?_|refine bsplit ?_ ?_)<;>intro h5<;>have hz_:=True.intro<;>clear hz_
 ·have h5 : (((c.nodes.map encI1).length : Nat) : Int) > 5 := h5
  rw [List.length_map] at h5
  ((conv=>whnf)<;>repeat(with_reducible refine D1 ?_)<;>conv=>whnf)
  refine ⟨[], [], ?_⟩
  iterate 3 constructor
  refine ⟨⟨?_, ?_, ?_⟩, rfl, rfl, rfl⟩
  all_goals (repeat' first|with_reducible exact Lz.rfl|exact Lw.rfl|exact Lz.wrap (by omega)|(unfold goInt;with_reducible exact Lz.rfl)|exact flx _|constructor)
  exact Lz.of (bool_eq (Eq.symm (decide_eq_false fun q => by obtain ⟨⟨_, _⟩, _, ⟨_, _⟩, _, _⟩ := q; omega)))
 have h5 : ¬ (((c.nodes.map encI1).length : Nat) : Int) > 5 := h5
 rw [List.length_map] at h5
 ((conv=>whnf)<;>repeat(with_reducible refine D1 ?_)<;>conv=>whnf)
 cases hf : c.fresh
 ·((conv=>whnf)<;>repeat(with_reducible refine D1 ?_)<;>conv=>whnf)
  refine ⟨[], [], _, _, _, _, standsC c (by omega), ⟨by ((repeat' first|with_reducible exact Lz.rfl|exact Lw.rfl|exact Lz.wrap (by omega)|(unfold goInt;with_reducible exact Lz.rfl)|exact flx _|constructor); all_goals (exact Lz.of (bool_eq hf.symm))), by ((repeat' first|with_reducible exact Lz.rfl|exact Lw.rfl|exact Lz.wrap (by omega)|(unfold goInt;with_reducible exact Lz.rfl)|exact flx _|constructor); all_goals (exact Lz.of (bool_eq hf.symm))), by rfl⟩, ?_⟩
  rintro r o' c' ⟨rfl, rfl, rfl⟩
  ((conv=>whnf)<;>repeat(with_reducible refine D1 ?_)<;>conv=>whnf)
  refine ⟨[1], [], _, _, _, _, refUnlikeC (standL c) (by omega), t3, ?_⟩
  rintro r o' c' ⟨rfl, rfl, rfl⟩
  ((conv=>whnf)<;>repeat(with_reducible refine D1 ?_)<;>conv=>whnf)
  refine ⟨[], [], ?_⟩
  iterate 3 constructor
  refine ⟨⟨?_, ?_, ?_⟩, rfl, rfl, rfl⟩
  all_goals (repeat' first|with_reducible exact Lz.rfl|exact Lw.rfl|exact Lz.wrap (by omega)|(unfold goInt;with_reducible exact Lz.rfl)|exact flx _|constructor)
  exact Lz.of (bool_eq (decide_eq_decide.2 ⟨fun q => ⟨⟨by omega, by omega⟩, by omega, ⟨by omega, by omega⟩, (fun e => absurd (hf.symm.trans e) (by decide)), q⟩, fun q => q.2.2.2.2⟩))
 ·((conv=>whnf)<;>repeat(with_reducible refine D1 ?_)<;>conv=>whnf)
  (first|refine ⟨?_,?_⟩|refine nsplit ?_ ?_|refine bsplit ?_ ?_)<;>intro h6<;>have hz_:=True.intro<;>clear hz_
  ·have h6 : (((c.nodes.map encI1).length : Nat) : Int) = 1 := h6
   rw [List.length_map] at h6
   ((conv=>whnf)<;>repeat(with_reducible refine D1 ?_)<;>conv=>whnf)
   refine ⟨[], [], ?_⟩
   iterate 3 constructor
   refine ⟨⟨?_, ?_, ?_⟩, rfl, rfl, rfl⟩
   all_goals (repeat' first|with_reducible exact Lz.rfl|exact Lw.rfl|exact Lz.wrap (by omega)|(unfold goInt;with_reducible exact Lz.rfl)|exact flx _|constructor)
   exact Lz.of (bool_eq (Eq.symm (decide_eq_false fun q => by have := q.2.2.2.1 hf; omega)))
  have h6 : ¬ (((c.nodes.map encI1).length : Nat) : Int) = 1 := h6
  rw [List.length_map] at h6
  ((conv=>whnf)<;>repeat(with_reducible refine D1 ?_)<;>conv=>whnf)
  (first|refine ⟨?_,?_⟩|refine nsplit ?_ ?_|refine bsplit ?_ ?_)<;>intro h7<;>have hz_:=True.intro<;>clear hz_
  ·have h7 : c.join ≠ 0 := h7
   ((conv=>whnf)<;>repeat(with_reducible refine D1 ?_)<;>conv=>whnf)
   refine ⟨[], [], ?_⟩
   iterate 3 constructor
   refine ⟨⟨?_, ?_, ?_⟩, rfl, rfl, rfl⟩
   all_goals (repeat' first|with_reducible exact Lz.rfl|exact Lw.rfl|exact Lz.wrap (by omega)|(unfold goInt;with_reducible exact Lz.rfl)|exact flx _|constructor)
   exact Lz.of (bool_eq (Eq.symm (decide_eq_false fun q => by have := q.2.2.2.1 hf; omega)))
  have h7 : c.join = 0 := Classical.not_not.1 h7
  ((conv=>whnf)<;>repeat(with_reducible refine D1 ?_)<;>conv=>whnf)
  refine ⟨[], [], _, _, _, _, standsC c (by omega), ⟨by ((repeat' first|with_reducible exact Lz.rfl|exact Lw.rfl|exact Lz.wrap (by omega)|(unfold goInt;with_reducible exact Lz.rfl)|exact flx _|constructor); all_goals (exact Lz.of (bool_eq hf.symm))), by ((repeat' first|with_reducible exact Lz.rfl|exact Lw.rfl|exact Lz.wrap (by omega)|(unfold goInt;with_reducible exact Lz.rfl)|exact flx _|constructor); all_goals (exact Lz.of (bool_eq hf.symm))), by rfl⟩, ?_⟩
  rintro r o' c' ⟨rfl, rfl, rfl⟩
  ((conv=>whnf)<;>repeat(with_reducible refine D1 ?_)<;>conv=>whnf)
  refine ⟨[1], [], _, _, _, _, refUnlikeC (standL c) (by omega), t3, ?_⟩
  rintro r o' c' ⟨rfl, rfl, rfl⟩
  ((conv=>whnf)<;>repeat(with_reducible refine D1 ?_)<;>conv=>whnf)
  refine ⟨[], [], ?_⟩
  iterate 3 constructor
  refine ⟨⟨?_, ?_, ?_⟩, rfl, rfl, rfl⟩
  all_goals (repeat' first|with_reducible exact Lz.rfl|exact Lw.rfl|exact Lz.wrap (by omega)|(unfold goInt;with_reducible exact Lz.rfl)|exact flx _|constructor)
  exact Lz.of (bool_eq (decide_eq_decide.2 ⟨fun q => ⟨⟨by omega, by omega⟩, by omega, ⟨by omega, by omega⟩, (fun e => ⟨by omega, h7⟩), q⟩, fun q => q.2.2.2.2⟩))
end Go.M
namespace Go.M
open Go Go.Proofs
set_option maxRecDepth 100000
set_option maxHeartbeats 2000000
def allS (l : List CF) : List Int := l.flatMap standL
theorem allS_snoc (l : List CF) (j : Nat) (h : j < l.length) : allS (l.take (j + 1)) = allS (l.take j) ++ standL l[j] := by
 unfold allS; rw [List.take_succ_eq_append_getElem h, List.flatMap_append]; simp
def eachP (l : List CF) : Prop := ∀ (i : Nat) (h : i < l.length), l[i].chain = (i : Int) ∧ rightP l[i]
def allP (l : List CF) : Prop := (1 ≤ l.length ∧ l.length ≤ 4) ∧ eachP l ∧ unlikeP (allS l)
theorem eachP_snoc {l : List CF} {j : Nat} (h : j < l.length) (hj : eachP (l.take j)) (h1 : l[j].chain = (j : Int)) (h2 : rightP l[j]) : eachP (l.take (j + 1)) := by
 intro i hi
 have hi' : i < j + 1 := by rw [List.length_take] at hi; omega
 rw [List.getElem_take]
 by_cases e : i = j
 ·subst e; exact ⟨h1, h2⟩
 ·have := hj i (by rw [List.length_take]; omega)
  rwa [List.getElem_take] at this
theorem allS_len {l : List CF} (h : eachP l) : (allS l).length ≤ 6 * l.length := by
 unfold allS
 have : ∀ l : List CF, (∀ c ∈ l, rightP c) → (l.flatMap standL).length ≤ 6 * l.length := by
  intro l
  induction l with
  | nil => simp
  | cons c l ih =>
   intro h
   have h1 := ih fun c hc => h c (List.mem_cons_of_mem _ hc)
   have h2 := standL_len c
   have h3 := (h c List.mem_cons_self).2.2.1
   rw [List.flatMap_cons, List.length_append, List.length_cons]
   omega
 refine this l fun c hc => ?_
 obtain ⟨i, hi, rfl⟩ := List.mem_iff_getElem.1 hc
 exact (h i hi).2
open Classical in
open Classical in
theorem all_okC (l : List CF) : VC E0 15 0 [.sl 5 (l.map encCF) false] [] (RR (.s (.bool (decide (allP l)))) 0 []) := by
 refine VC.enterR L0 (show E0.func 15 = some Tryd.f15 by kernel_rfl) (fun _ _ => rfl) rfl rfl [] ?_
 ((conv=>whnf)<;>repeat(with_reducible refine D1 ?_)<;>conv=>whnf)
 (first|refine ⟨?_,?_⟩|refine nsplit ?_ ?_|refine bsplit ?_ ?_)<;>intro h1<;>have hz_:=True.intro<;>clear hz_
 ·have h1 : (((l.map encCF).length : Nat) : Int) < 1 := h1
  rw [List.length_map] at h1
  ((conv=>whnf)<;>repeat(with_reducible refine D1 ?_)<;>conv=>whnf)
  refine ⟨[], [], ?_⟩
  iterate 3 constructor
  refine ⟨⟨?_, ?_, ?_⟩, rfl, rfl, rfl⟩
  all_goals (repeat' first|with_reducible exact Lz.rfl|exact Lw.rfl|exact Lz.wrap (by omega)|(unfold goInt;with_reducible exact Lz.rfl)|exact flx _|constructor)
  exact Lz.of (bool_eq (Eq.symm (decide_eq_false fun q => by have := q.1.1; omega)))
 have h1 : ¬ (((l.map encCF).length : Nat) : Int) < 1 := h1
 rw [List.length_map] at h1
 ((conv=>whnf)<;>repeat(with_reducible refine D1 ?_)<;>conv=>whnf)
 (first|refine ⟨?_,?_⟩|refine nsplit ?_ ?_|refine bsplit ?_ ?_)<;>intro h2<;>have hz_:=True.intro<;>clear hz_
 ·have h2 : (((l.map encCF).length : Nat) : Int) > 4 := h2
  rw [List.length_map] at h2
  ((conv=>whnf)<;>repeat(with_reducible refine D1 ?_)<;>conv=>whnf)
  refine ⟨[], [], ?_⟩
  iterate 3 constructor
  refine ⟨⟨?_, ?_, ?_⟩, rfl, rfl, rfl⟩
  all_goals (repeat' first|with_reducible exact Lz.rfl|exact Lw.rfl|exact Lz.wrap (by omega)|(unfold goInt;with_reducible exact Lz.rfl)|exact flx _|constructor)
  exact Lz.of (bool_eq (Eq.symm (decide_eq_false fun q => by have := q.1.2; omega)))
 have h2 : ¬ (((l.map encCF).length : Nat) : Int) > 4 := h2
 rw [List.length_map] at h2
 ((conv=>whnf)<;>repeat(with_reducible refine D1 ?_)<;>conv=>whnf)
 refine ⟨fun k f o c => ∃ j : Nat, j ≤ l.length ∧ k = l.length - j ∧ eachP (l.take j) ∧ c = 1 ∧ f = [(0, .sl 5 (l.map encCF) false), (3, .tk 0), (14, .sl 5 (l.map encCF) false), (15, .s (.int .i64 l.length)), (16, .s (.int .i64 j))] ∧ o = [(0, .arr 1 true ((allS (l.take j)).map encI1))], ⟨l.length, ?_⟩, ?_⟩
 ·refine ⟨[], [none], ?_⟩
  iterate 3 constructor
  refine ⟨⟨?_, ?_, ?_⟩, ⟨0, Nat.zero_le _, rfl, (fun i hi => absurd hi (by simp)), rfl, rfl, rfl⟩⟩
  all_goals (repeat' first|with_reducible exact Lz.rfl|exact Lw.rfl|exact Lz.wrap (by omega)|(unfold goInt;with_reducible exact Lz.rfl)|exact flx _|constructor)
  all_goals first | exact Lz.int (by rw [List.length_map]) | exact Lz.of (by simp [allS])
 ·rintro k f1 o1 c1 ⟨j, hj, rfl, hn, rfl, rfl, rfl⟩
  ((conv=>whnf)<;>repeat(with_reducible refine D1 ?_)<;>conv=>whnf)
  (first|refine ⟨?_,?_⟩|refine nsplit ?_ ?_|refine bsplit ?_ ?_)<;>intro h<;>have hz_:=True.intro<;>clear hz_
  ·have h : j < l.length := by have : (j : Int) < (l.length : Nat) := h
                               omega
   ((conv=>whnf)<;>repeat(with_reducible refine D1 ?_)<;>conv=>whnf)
   refine idxI h ?_
   ((conv=>whnf)<;>repeat(with_reducible refine D1 ?_)<;>conv=>whnf)
   (first|refine ⟨?_,?_⟩|refine nsplit ?_ ?_|refine bsplit ?_ ?_)<;>intro hc<;>have hz_:=True.intro<;>clear hz_
   ·have hc : l[j].chain ≠ (j : Int) := hc
    ((conv=>whnf)<;>repeat(with_reducible refine D1 ?_)<;>conv=>whnf)
    refine ⟨[], [], ?_⟩
    iterate 3 constructor
    refine ⟨⟨?_, ?_, ?_⟩, rfl, rfl, rfl⟩
    all_goals (repeat' first|with_reducible exact Lz.rfl|exact Lw.rfl|exact Lz.wrap (by omega)|(unfold goInt;with_reducible exact Lz.rfl)|exact flx _|constructor)
    exact Lz.of (bool_eq (Eq.symm (decide_eq_false fun q => hc (q.2.1 j h).1)))
   ·have hc : l[j].chain = (j : Int) := Classical.not_not.1 hc
    ((conv=>whnf)<;>repeat(with_reducible refine D1 ?_)<;>conv=>whnf)
    refine ⟨[], [], _, _, _, _, right_ok l[j], t3, ?_⟩
    rintro r o' c' ⟨rfl, rfl, rfl⟩
    ((conv=>whnf)<;>repeat(with_reducible refine D1 ?_)<;>conv=>whnf)
    by_cases hr : rightP l[j]
    ·rw [decide_eq_true hr]
     ((conv=>whnf)<;>repeat(with_reducible refine D1 ?_)<;>conv=>whnf)
     refine ⟨[], [], _, _, _, _, everybodyC l[j] (by have := hr.2.2.1; omega), t3, ?_⟩
     rintro r o' c' ⟨rfl, rfl, rfl⟩
     ((conv=>whnf)<;>repeat(with_reducible refine D1 ?_)<;>conv=>whnf)
     have hsl := standL_len l[j]
     have hal := allS_len hn
     have h5 := hr.2.2.1
     have htl : (l.take j).length ≤ 4 := by rw [List.length_take]; omega
     refine ⟨by simp; omega, ?_⟩
     ((conv=>whnf)<;>repeat(with_reducible refine D1 ?_)<;>conv=>whnf)
     refine ⟨l.length - (j + 1), ?_, by omega⟩
     refine ⟨[], [some 3], ?_⟩
     iterate 3 constructor
     refine ⟨⟨?_, ?_, ?_⟩, ⟨j + 1, h, rfl, eachP_snoc h hn hc hr, rfl, rfl, rfl⟩⟩
     all_goals (repeat' first|with_reducible exact Lz.rfl|exact Lw.rfl|exact Lz.wrap (by omega)|(unfold goInt;with_reducible exact Lz.rfl)|exact flx _|constructor)
     exact Lz.of (by rw [allS_snoc l j h, List.map_append])
    ·rw [decide_eq_false hr]
     ((conv=>whnf)<;>repeat(with_reducible refine D1 ?_)<;>conv=>whnf)
     refine ⟨[], [], ?_⟩
     iterate 3 constructor
     refine ⟨⟨?_, ?_, ?_⟩, rfl, rfl, rfl⟩
     all_goals (repeat' first|with_reducible exact Lz.rfl|exact Lw.rfl|exact Lz.wrap (by omega)|(unfold goInt;with_reducible exact Lz.rfl)|exact flx _|constructor)
     exact Lz.of (bool_eq (Eq.symm (decide_eq_false fun q => hr (q.2.1 j h).2)))
  ·have hj' : j = l.length := by have : ¬ (j : Int) < (l.length : Nat) := h
                                 omega
   subst hj'
   rw [List.take_length] at hn
   rw [List.take_length]
   ((conv=>whnf)<;>repeat(with_reducible refine D1 ?_)<;>conv=>whnf)
   refine ⟨[0], [], _, _, _, _, unlikeC (allS l) (by have := allS_len hn; omega), t3, ?_⟩
   rintro r o' c' ⟨rfl, rfl, rfl⟩
   ((conv=>whnf)<;>repeat(with_reducible refine D1 ?_)<;>conv=>whnf)
   refine ⟨[], [], ?_⟩
   iterate 3 constructor
   refine ⟨⟨?_, ?_, ?_⟩, rfl, rfl, rfl⟩
   all_goals (repeat' first|with_reducible exact Lz.rfl|exact Lw.rfl|exact Lz.wrap (by omega)|(unfold goInt;with_reducible exact Lz.rfl)|exact flx _|constructor)
   exact Lz.of (bool_eq (decide_eq_decide.2 ⟨fun q => ⟨⟨by omega, by omega⟩, hn, q⟩, fun q => q.2.2⟩))
open Classical in
open Classical in
theorem refAll_okC (l : List CF) (hep : ∀ c ∈ l, 0 ≤ c.epoch) (hl : l.length < 10000) : VC E0 16 0 [.sl 5 (l.map encCF) false] [] (RR (.s (.bool (decide (allP l)))) 0 []) := by
 refine VC.enterR L0 (show E0.func 16 = some Tryd.f16 by kernel_rfl) (fun _ _ => rfl) rfl rfl [] ?_
 ((conv=>whnf)<;>repeat(with_reducible refine D1 ?_)<;>conv=>whnf)
 refine ⟨fun k f o c => ∃ j : Nat, j ≤ l.length ∧ k = l.length - j ∧ eachP (l.take j) ∧ c = 1 ∧ f = [(0, .sl 5 (l.map encCF) false), (3, .tk 0), (4, .s (.int .i64 j))] ∧ o = [(0, .arr 1 true ((allS (l.take j)).map encI1))], ⟨l.length, ?_⟩, ?_⟩
 ·exact ⟨[], [none], _, _, _, t3, ⟨0, Nat.zero_le _, rfl, (fun i hi => absurd hi (by simp)), rfl, rfl, rfl⟩⟩
 ·rintro k f1 o1 c1 ⟨j, hj, rfl, hn, rfl, rfl, rfl⟩
  ((conv=>whnf)<;>repeat(with_reducible refine D1 ?_)<;>conv=>whnf)
  (first|refine ⟨?_,?_⟩|refine nsplit ?_ ?_|refine bsplit ?_ ?_)<;>intro h<;>have hz_:=True.intro<;>clear hz_
  ·have h : j < l.length := lenlt.1 h
   ((conv=>whnf)<;>repeat(with_reducible refine D1 ?_)<;>conv=>whnf)
   refine idxI h ?_
   ((conv=>whnf)<;>repeat(with_reducible refine D1 ?_)<;>conv=>whnf)
   refine ⟨[], [], _, _, _, _, refRight_ok l[j] (hep _ (List.getElem_mem h)), t3, ?_⟩
   rintro r o' c' ⟨rfl, rfl, rfl⟩
   ((conv=>whnf)<;>repeat(with_reducible refine D1 ?_)<;>conv=>whnf)
   by_cases hr : rightP l[j]
   ·rw [decide_eq_true hr]
    ((conv=>whnf)<;>repeat(with_reducible refine D1 ?_)<;>conv=>whnf)
    refine idxI h ?_
    ((conv=>whnf)<;>repeat(with_reducible refine D1 ?_)<;>conv=>whnf)
    (first|refine ⟨?_,?_⟩|refine nsplit ?_ ?_|refine bsplit ?_ ?_)<;>intro hc<;>have hz_:=True.intro<;>clear hz_
    ·have hc : l[j].chain ≠ (j : Int) := hc
     ((conv=>whnf)<;>repeat(with_reducible refine D1 ?_)<;>conv=>whnf)
     refine ⟨[], [], ?_⟩
     iterate 3 constructor
     refine ⟨⟨?_, ?_, ?_⟩, rfl, rfl, rfl⟩
     all_goals (repeat' first|with_reducible exact Lz.rfl|exact Lw.rfl|exact Lz.wrap (by omega)|(unfold goInt;with_reducible exact Lz.rfl)|exact flx _|constructor)
     exact Lz.of (bool_eq (Eq.symm (decide_eq_false fun q => hc (q.2.1 j h).1)))
    ·have hc : l[j].chain = (j : Int) := Classical.not_not.1 hc
     ((conv=>whnf)<;>repeat(with_reducible refine D1 ?_)<;>conv=>whnf)
     refine idxI h ?_
     ((conv=>whnf)<;>repeat(with_reducible refine D1 ?_)<;>conv=>whnf)
     refine ⟨[], [], _, _, _, _, standsC l[j] (by have := hr.2.2.1; omega), t3, ?_⟩
     rintro r o' c' ⟨rfl, rfl, rfl⟩
     ((conv=>whnf)<;>repeat(with_reducible refine D1 ?_)<;>conv=>whnf)
     have hsl := standL_len l[j]
     have hal := allS_len hn
     have h5 := hr.2.2.1
     have htl : (l.take j).length ≤ l.length := by rw [List.length_take]; omega
     refine ⟨by simp; omega, ?_⟩
     ((conv=>whnf)<;>repeat(with_reducible refine D1 ?_)<;>conv=>whnf)
     refine ⟨l.length - (j + 1), ?_, by omega⟩
     refine ⟨[], [some 2], ?_⟩
     iterate 3 constructor
     refine ⟨⟨?_, ?_, ?_⟩, ⟨j + 1, h, rfl, eachP_snoc h hn hc hr, rfl, rfl, rfl⟩⟩
     all_goals (repeat' first|with_reducible exact Lz.rfl|exact Lw.rfl|exact Lz.wrap (by omega)|(unfold goInt;with_reducible exact Lz.rfl)|exact flx _|constructor)
     exact Lz.of (by rw [allS_snoc l j h, List.map_append])
   ·rw [decide_eq_false hr]
    ((conv=>whnf)<;>repeat(with_reducible refine D1 ?_)<;>conv=>whnf)
    refine ⟨[], [], ?_⟩
    iterate 3 constructor
    refine ⟨⟨?_, ?_, ?_⟩, rfl, rfl, rfl⟩
    all_goals (repeat' first|with_reducible exact Lz.rfl|exact Lw.rfl|exact Lz.wrap (by omega)|(unfold goInt;with_reducible exact Lz.rfl)|exact flx _|constructor)
    exact Lz.of (bool_eq (Eq.symm (decide_eq_false fun q => hr (q.2.1 j h).2)))
  ·have hj' : j = l.length := by have := mt lenlt.2 h
                                 omega
   subst hj'
   rw [List.take_length] at hn
   rw [List.take_length]
   ((conv=>whnf)<;>repeat(with_reducible refine D1 ?_)<;>conv=>whnf)
   (first|refine ⟨?_,?_⟩|refine nsplit ?_ ?_|refine bsplit ?_ ?_)<;>intro h1<;>have hz_:=True.intro<;>clear hz_
   ·have h1 : (((l.map encCF).length : Nat) : Int) ≥ 1 := h1
    rw [List.length_map] at h1
    ((conv=>whnf)<;>repeat(with_reducible refine D1 ?_)<;>conv=>whnf)
    (first|refine ⟨?_,?_⟩|refine nsplit ?_ ?_|refine bsplit ?_ ?_)<;>intro h2<;>have hz_:=True.intro<;>clear hz_
    ·have h2 : (((l.map encCF).length : Nat) : Int) ≤ 4 := h2
     rw [List.length_map] at h2
     ((conv=>whnf)<;>repeat(with_reducible refine D1 ?_)<;>conv=>whnf)
     refine ⟨[0], [], _, _, _, _, refUnlikeC (allS l) (by have := allS_len hn; omega), t3, ?_⟩
     rintro r o' c' ⟨rfl, rfl, rfl⟩
     ((conv=>whnf)<;>repeat(with_reducible refine D1 ?_)<;>conv=>whnf)
     refine ⟨[], [], ?_⟩
     iterate 3 constructor
     refine ⟨⟨?_, ?_, ?_⟩, rfl, rfl, rfl⟩
     all_goals (repeat' first|with_reducible exact Lz.rfl|exact Lw.rfl|exact Lz.wrap (by omega)|(unfold goInt;with_reducible exact Lz.rfl)|exact flx _|constructor)
     exact Lz.of (bool_eq (decide_eq_decide.2 ⟨fun q => ⟨⟨by omega, by omega⟩, hn, q⟩, fun q => q.2.2⟩))
    ·have h2 : ¬ (((l.map encCF).length : Nat) : Int) ≤ 4 := h2
     rw [List.length_map] at h2
     ((conv=>whnf)<;>repeat(with_reducible refine D1 ?_)<;>conv=>whnf)
     refine ⟨[], [], ?_⟩
     iterate 3 constructor
     refine ⟨⟨?_, ?_, ?_⟩, rfl, rfl, rfl⟩
     all_goals (repeat' first|with_reducible exact Lz.rfl|exact Lw.rfl|exact Lz.wrap (by omega)|(unfold goInt;with_reducible exact Lz.rfl)|exact flx _|constructor)
     exact Lz.of (bool_eq (Eq.symm (decide_eq_false fun q => by have := q.1.2; omega)))
   ·have h1 : ¬ (((l.map encCF).length : Nat) : Int) ≥ 1 := h1
    rw [List.length_map] at h1
    ((conv=>whnf)<;>repeat(with_reducible refine D1 ?_)<;>conv=>whnf)
    refine ⟨[], [], ?_⟩
    iterate 3 constructor
    refine ⟨⟨?_, ?_, ?_⟩, rfl, rfl, rfl⟩
    all_goals (repeat' first|with_reducible exact Lz.rfl|exact Lw.rfl|exact Lz.wrap (by omega)|(unfold goInt;with_reducible exact Lz.rfl)|exact flx _|constructor)
    exact Lz.of (bool_eq (Eq.symm (decide_eq_false fun q => by have := q.1.1; omega)))
end Go.M
namespace Go.M
open Go Go.Proofs
set_option maxRecDepth 100000
set_option maxHeartbeats 2000000
theorem same04_ok (l m : List Int) (hl : l.length < 1000000) : VC E0 17 0 [.sl 1 (l.map encI1) false, .sl 1 (m.map encI1) false] [] (RR (.s (.bool (eqB l m))) 0 []) := by
 refine VC.enterR L0 (show E0.func 17 = some Tryd.f17 by kernel_rfl) (fun _ _ => rfl) rfl rfl [] ?_
 ((conv=>whnf)<;>repeat(with_reducible refine D1 ?_)<;>conv=>whnf)
 (first|refine ⟨?_,?_⟩|refine nsplit ?_ ?_|refine bsplit ?_ ?_)<;>intro hlm<;>have hz_:=True.intro<;>clear hz_
 ·((conv=>whnf)<;>repeat(with_reducible refine D1 ?_)<;>conv=>whnf)
  refine ⟨[], [], ?_⟩
  iterate 3 constructor
  refine ⟨⟨?_, ?_, ?_⟩, rfl, rfl, rfl⟩
  all_goals (repeat' first|with_reducible exact Lz.rfl|exact Lw.rfl|exact Lz.wrap (by omega)|(unfold goInt;with_reducible exact Lz.rfl)|exact flx _|constructor)
  refine Lz.of (bool_eq (Eq.symm (eqB_false.2 fun e => hlm (by subst e; rfl))))
 ·have hlm : l.length = m.length := by simp at hlm; omega
  ((conv=>whnf)<;>repeat(with_reducible refine D1 ?_)<;>conv=>whnf)
  refine ⟨fun k f o c => ∃ i : Nat, i ≤ l.length ∧ k = l.length - i ∧ l.take i = m.take i ∧ c = 0 ∧ f = [(0, .sl 1 (l.map encI1) false), (1, .sl 1 (m.map encI1) false), (5, .s (.int .i64 i))] ∧ o = [], ⟨l.length, ?_⟩, ?_⟩
  ·exact ⟨[], [], _, _, _, t3, ⟨0, Nat.zero_le _, rfl, rfl, rfl, rfl, rfl⟩⟩
  ·rintro k f1 o1 c1 ⟨i, hi, rfl, ht, rfl, rfl, rfl⟩
   ((conv=>whnf)<;>repeat(with_reducible refine D1 ?_)<;>conv=>whnf)
   (first|refine ⟨?_,?_⟩|refine nsplit ?_ ?_|refine bsplit ?_ ?_)<;>intro h<;>have hz_:=True.intro<;>clear hz_
   ·have h := lenlt.1 h
    have h2 : i < m.length := by omega
    ((conv=>whnf)<;>repeat(with_reducible refine D1 ?_)<;>conv=>whnf)
    refine idxI h ?_
    ((conv=>whnf)<;>repeat(with_reducible refine D1 ?_)<;>conv=>whnf)
    refine idxI h2 ?_
    ((conv=>whnf)<;>repeat(with_reducible refine D1 ?_)<;>conv=>whnf)
    (first|refine ⟨?_,?_⟩|refine nsplit ?_ ?_|refine bsplit ?_ ?_)<;>intro hv<;>have hz_:=True.intro<;>clear hz_
    ·have hv : l[i] ≠ m[i] := hv
     ((conv=>whnf)<;>repeat(with_reducible refine D1 ?_)<;>conv=>whnf)
     refine ⟨[], [], ?_⟩
     iterate 3 constructor
     refine ⟨⟨?_, ?_, ?_⟩, rfl, rfl, rfl⟩
     all_goals (repeat' first|with_reducible exact Lz.rfl|exact Lw.rfl|exact Lz.wrap (by omega)|(unfold goInt;with_reducible exact Lz.rfl)|exact flx _|constructor)
     refine Lz.of (bool_eq (Eq.symm (eqB_false.2 fun e => hv (by subst e; rfl))))
    ·have hv : l[i] = m[i] := Classical.not_not.1 hv
     ((conv=>whnf)<;>repeat(with_reducible refine D1 ?_)<;>conv=>whnf)
     refine ⟨l.length - (i + 1), ?_, by omega⟩
     exact ⟨[], [], _, _, _, t3, ⟨i + 1, h, rfl, by rw [take_snoc l i h, take_snoc m i h2, ht, hv], rfl, rfl, rfl⟩⟩
   ·have h := mt lenlt.2 h
    ((conv=>whnf)<;>repeat(with_reducible refine D1 ?_)<;>conv=>whnf)
    refine ⟨[], [], ?_⟩
    iterate 3 constructor
    refine ⟨⟨?_, ?_, ?_⟩, rfl, rfl, rfl⟩
    all_goals (repeat' first|with_reducible exact Lz.rfl|exact Lw.rfl|exact Lz.wrap (by omega)|(unfold goInt;with_reducible exact Lz.rfl)|exact flx _|constructor)
    refine Lz.of (bool_eq (Eq.symm (eqB_iff.2 ?_)))
    rw [← List.take_of_length_le (Nat.not_lt.1 h), ht, List.take_of_length_le (by omega)]
theorem CF.ext' {a b : CF} (h1 : a.chain = b.chain) (h2 : a.epoch = b.epoch) (h3 : a.nodes = b.nodes) (h4 : a.fresh = b.fresh) (h5 : a.join = b.join) : a = b := by
 cases a; cases b; simp_all
theorem sameCF_ok (a b : CF) (hl : a.nodes.length < 1000000) : VC E0 25 0 [.agg (encCF a), .agg (encCF b)] [] (RR (.s (.bool (eqB a b))) 0 []) := by
 refine VC.enterR L0 (show E0.func 25 = some Tryd.f25 by kernel_rfl) (fun _ _ => rfl) rfl rfl [] ?_
 ((conv=>whnf)<;>repeat(with_reducible refine D1 ?_)<;>conv=>whnf)
 (first|refine ⟨?_,?_⟩|refine nsplit ?_ ?_|refine bsplit ?_ ?_)<;>intro h1<;>have hz_:=True.intro<;>clear hz_
 rotate_left
 ·have h1 : ¬ a.chain = b.chain := h1
  ((conv=>whnf)<;>repeat(with_reducible refine D1 ?_)<;>conv=>whnf)
  refine ⟨[], [], ?_⟩
  iterate 3 constructor
  refine ⟨⟨?_, ?_, ?_⟩, rfl, rfl, rfl⟩
  all_goals (repeat' first|with_reducible exact Lz.rfl|exact Lw.rfl|exact Lz.wrap (by omega)|(unfold goInt;with_reducible exact Lz.rfl)|exact flx _|constructor)
  exact Lz.of (bool_eq (Eq.symm (eqB_false.2 fun e => h1 (by rw [e]))))
 have h1 : a.chain = b.chain := h1
 ((conv=>whnf)<;>repeat(with_reducible refine D1 ?_)<;>conv=>whnf)
 (first|refine ⟨?_,?_⟩|refine nsplit ?_ ?_|refine bsplit ?_ ?_)<;>intro h2<;>have hz_:=True.intro<;>clear hz_
 rotate_left
 ·have h2 : ¬ a.epoch = b.epoch := h2
  ((conv=>whnf)<;>repeat(with_reducible refine D1 ?_)<;>conv=>whnf)
  refine ⟨[], [], ?_⟩
  iterate 3 constructor
  refine ⟨⟨?_, ?_, ?_⟩, rfl, rfl, rfl⟩
  all_goals (repeat' first|with_reducible exact Lz.rfl|exact Lw.rfl|exact Lz.wrap (by omega)|(unfold goInt;with_reducible exact Lz.rfl)|exact flx _|constructor)
  exact Lz.of (bool_eq (Eq.symm (eqB_false.2 fun e => h2 (by rw [e]))))
 have h2 : a.epoch = b.epoch := h2
 ((conv=>whnf)<;>repeat(with_reducible refine D1 ?_)<;>conv=>whnf)
 cases h3 : (a.fresh == b.fresh)
 ·((conv=>whnf)<;>repeat(with_reducible refine D1 ?_)<;>conv=>whnf)
  refine ⟨[], [], ?_⟩
  iterate 3 constructor
  refine ⟨⟨?_, ?_, ?_⟩, rfl, rfl, rfl⟩
  all_goals (repeat' first|with_reducible exact Lz.rfl|exact Lw.rfl|exact Lz.wrap (by omega)|(unfold goInt;with_reducible exact Lz.rfl)|exact flx _|constructor)
  exact Lz.of (bool_eq (Eq.symm (eqB_false.2 fun e => by rw [e] at h3; simp at h3)))
 ((conv=>whnf)<;>repeat(with_reducible refine D1 ?_)<;>conv=>whnf)
 (first|refine ⟨?_,?_⟩|refine nsplit ?_ ?_|refine bsplit ?_ ?_)<;>intro h4<;>have hz_:=True.intro<;>clear hz_
 rotate_left
 ·have h4 : ¬ a.join = b.join := h4
  ((conv=>whnf)<;>repeat(with_reducible refine D1 ?_)<;>conv=>whnf)
  refine ⟨[], [], ?_⟩
  iterate 3 constructor
  refine ⟨⟨?_, ?_, ?_⟩, rfl, rfl, rfl⟩
  all_goals (repeat' first|with_reducible exact Lz.rfl|exact Lw.rfl|exact Lz.wrap (by omega)|(unfold goInt;with_reducible exact Lz.rfl)|exact flx _|constructor)
  exact Lz.of (bool_eq (Eq.symm (eqB_false.2 fun e => h4 (by rw [e]))))
 have h4 : a.join = b.join := h4
 ((conv=>whnf)<;>repeat(with_reducible refine D1 ?_)<;>conv=>whnf)
 refine ⟨[], [], _, _, _, _, same04_ok a.nodes b.nodes hl, t3, ?_⟩
 rintro r o' c' ⟨rfl, rfl, rfl⟩
 ((conv=>whnf)<;>repeat(with_reducible refine D1 ?_)<;>conv=>whnf)
 refine ⟨[], [], ?_⟩
 iterate 3 constructor
 refine ⟨⟨?_, ?_, ?_⟩, rfl, rfl, rfl⟩
 all_goals (repeat' first|with_reducible exact Lz.rfl|exact Lw.rfl|exact Lz.wrap (by omega)|(unfold goInt;with_reducible exact Lz.rfl)|exact flx _|constructor)
 refine Lz.of (bool_eq ?_)
 by_cases hn : a.nodes = b.nodes
 ·rw [eqB_iff.2 hn, eqB_iff.2 (CF.ext' h1 h2 hn (by simpa using h3) h4)]
 ·rw [eqB_false.2 hn, eqB_false.2 fun e => hn (by rw [e])]
theorem sameAll_ok (l m : List CF) (hl : l.length < 1000000) (hn : ∀ c ∈ l, c.nodes.length < 1000000) : VC E0 12 0 [.sl 5 (l.map encCF) false, .sl 5 (m.map encCF) false] [] (RR (.s (.bool (eqB l m))) 0 []) := by
 refine VC.enterR L0 (show E0.func 12 = some Tryd.f12 by kernel_rfl) (fun _ _ => rfl) rfl rfl [] ?_
 ((conv=>whnf)<;>repeat(with_reducible refine D1 ?_)<;>conv=>whnf)
 (first|refine ⟨?_,?_⟩|refine nsplit ?_ ?_|refine bsplit ?_ ?_)<;>intro hlm<;>have hz_:=True.intro<;>clear hz_
 ·((conv=>whnf)<;>repeat(with_reducible refine D1 ?_)<;>conv=>whnf)
  refine ⟨[], [], ?_⟩
  iterate 3 constructor
  refine ⟨⟨?_, ?_, ?_⟩, rfl, rfl, rfl⟩
  all_goals (repeat' first|with_reducible exact Lz.rfl|exact Lw.rfl|exact Lz.wrap (by omega)|(unfold goInt;with_reducible exact Lz.rfl)|exact flx _|constructor)
  refine Lz.of (bool_eq (Eq.symm (eqB_false.2 fun e => hlm (by subst e; rfl))))
 ·have hlm : l.length = m.length := by simp at hlm; omega
  ((conv=>whnf)<;>repeat(with_reducible refine D1 ?_)<;>conv=>whnf)
  refine ⟨fun k f o c => ∃ i : Nat, i ≤ l.length ∧ k = l.length - i ∧ l.take i = m.take i ∧ c = 0 ∧ f = [(0, .sl 5 (l.map encCF) false), (1, .sl 5 (m.map encCF) false), (5, .s (.int .i64 i))] ∧ o = [], ⟨l.length, ?_⟩, ?_⟩
  ·exact ⟨[], [], _, _, _, t3, ⟨0, Nat.zero_le _, rfl, rfl, rfl, rfl, rfl⟩⟩
  ·rintro k f1 o1 c1 ⟨i, hi, rfl, ht, rfl, rfl, rfl⟩
   ((conv=>whnf)<;>repeat(with_reducible refine D1 ?_)<;>conv=>whnf)
   (first|refine ⟨?_,?_⟩|refine nsplit ?_ ?_|refine bsplit ?_ ?_)<;>intro h<;>have hz_:=True.intro<;>clear hz_
   ·have h := lenlt.1 h
    have h2 : i < m.length := by omega
    ((conv=>whnf)<;>repeat(with_reducible refine D1 ?_)<;>conv=>whnf)
    refine idxI h ?_
    ((conv=>whnf)<;>repeat(with_reducible refine D1 ?_)<;>conv=>whnf)
    refine idxI h2 ?_
    ((conv=>whnf)<;>repeat(with_reducible refine D1 ?_)<;>conv=>whnf)
    refine ⟨[], [], _, _, _, _, sameCF_ok l[i] m[i] (hn _ (List.getElem_mem h)), t3, ?_⟩
    rintro r o' c' ⟨rfl, rfl, rfl⟩
    have hz_ := True.intro
    clear hz_
    cases hv : eqB l[i] m[i]
    ·((conv=>whnf)<;>repeat(with_reducible refine D1 ?_)<;>conv=>whnf)
     refine ⟨[], [], ?_⟩
     iterate 3 constructor
     refine ⟨⟨?_, ?_, ?_⟩, rfl, rfl, rfl⟩
     all_goals (repeat' first|with_reducible exact Lz.rfl|exact Lw.rfl|exact Lz.wrap (by omega)|(unfold goInt;with_reducible exact Lz.rfl)|exact flx _|constructor)
     refine Lz.of (bool_eq (Eq.symm (eqB_false.2 fun e => eqB_false.1 hv (by subst e; rfl))))
    ·((conv=>whnf)<;>repeat(with_reducible refine D1 ?_)<;>conv=>whnf)
     refine ⟨l.length - (i + 1), ?_, by omega⟩
     exact ⟨[], [], _, _, _, t3, ⟨i + 1, h, rfl, by rw [take_snoc l i h, take_snoc m i h2, ht, eqB_iff.1 hv], rfl, rfl, rfl⟩⟩
   ·have h := mt lenlt.2 h
    ((conv=>whnf)<;>repeat(with_reducible refine D1 ?_)<;>conv=>whnf)
    refine ⟨[], [], ?_⟩
    iterate 3 constructor
    refine ⟨⟨?_, ?_, ?_⟩, rfl, rfl, rfl⟩
    all_goals (repeat' first|with_reducible exact Lz.rfl|exact Lw.rfl|exact Lz.wrap (by omega)|(unfold goInt;with_reducible exact Lz.rfl)|exact flx _|constructor)
    refine Lz.of (bool_eq (Eq.symm (eqB_iff.2 ?_)))
    rw [← List.take_of_length_le (Nat.not_lt.1 h), ht, List.take_of_length_le (by omega)]
end Go.M
namespace Go.M
open Go Go.Proofs
set_option maxRecDepth 100000
set_option maxHeartbeats 2000000
def withoutL (l : List Int) (n : Int) : List Int := l.filter fun x => decide (x ≠ n)
def settledL (c : CF) : List Int := if c.fresh = true then c.nodes.take (c.nodes.length - 1) else c.nodes
theorem refSettled_ok (c : CF) (he : 0 ≤ c.epoch) (hr : rightP c) : VC E0 19 0 [.agg (encCF c)] [] (RR (.sl 1 ((settledL c).map encI1) false) 0 []) := by
 have h5 := hr.2.2.1
 refine VC.enterR L0 (show E0.func 19 = some Tryd.f19 by kernel_rfl) (fun _ _ => rfl) rfl rfl [] ?_
 ((conv=>whnf)<;>repeat(with_reducible refine D1 ?_)<;>conv=>whnf)
 refine ⟨[], [], _, _, _, _, refRight_ok c he, t3, ?_⟩
 rintro r o' c' ⟨rfl, rfl, rfl⟩
 rw [decide_eq_true hr]
 ((conv=>whnf)<;>repeat(with_reducible refine D1 ?_)<;>conv=>whnf)
 cases hf : c.fresh
 ·((conv=>whnf)<;>repeat(with_reducible refine D1 ?_)<;>conv=>whnf)
  refine ⟨by simp, ?_⟩
  ((conv=>whnf)<;>repeat(with_reducible refine D1 ?_)<;>conv=>whnf)
  refine ⟨[], [], ?_⟩
  iterate 3 constructor
  refine ⟨⟨?_, ?_, ?_⟩, rfl, rfl, rfl⟩
  all_goals (repeat' first|with_reducible exact Lz.rfl|exact Lw.rfl|exact Lz.wrap (by omega)|(unfold goInt;with_reducible exact Lz.rfl)|exact flx _|constructor)
  exact Lz.of (by unfold settledL; rw [hf]; simp [← List.map_take])
 ·((conv=>whnf)<;>repeat(with_reducible refine D1 ?_)<;>conv=>whnf)
  have hw : IntKind.i64.wrap ((((c.nodes.map encI1).length : Nat) : Int) - 1) = ((c.nodes.length - 1 : Nat) : Int) := by
   rw [List.length_map, IntWalk.i64_in _ (by omega)]; omega
  refine ⟨by rw [hw, List.length_map]; omega, ?_⟩
  ((conv=>whnf)<;>repeat(with_reducible refine D1 ?_)<;>conv=>whnf)
  refine ⟨[], [], ?_⟩
  iterate 3 constructor
  refine ⟨⟨?_, ?_, ?_⟩, rfl, rfl, rfl⟩
  all_goals (repeat' first|with_reducible exact Lz.rfl|exact Lw.rfl|exact Lz.wrap (by omega)|(unfold goInt;with_reducible exact Lz.rfl)|exact flx _|constructor)
  refine Lz.of ?_
  unfold settledL
  rw [hf, if_pos rfl, hw]
  simp [List.map_take]
theorem refUsed_ok (l : List CF) (n : Int) (hl : l.length < 10000) (hn : ∀ c ∈ l, c.nodes.length < 10000) : VC E0 21 0 [.sl 5 (l.map encCF) false, .s (.int .i64 n)] [] (RR (.s (.bool (decide (n ∈ allS l)))) 0 []) := by
 refine VC.enterR L0 (show E0.func 21 = some Tryd.f21 by kernel_rfl) (fun _ _ => rfl) rfl rfl [] ?_
 ((conv=>whnf)<;>repeat(with_reducible refine D1 ?_)<;>conv=>whnf)
 refine ⟨fun k f o c => ∃ j : Nat, j ≤ l.length ∧ k = l.length - j ∧ n ∉ allS (l.take j) ∧ c = 0 ∧ f = [(0, .sl 5 (l.map encCF) false), (1, .s (.int .i64 n)), (5, .s (.int .i64 j))] ∧ o = [], ⟨l.length, ?_⟩, ?_⟩
 ·exact ⟨[], [], _, _, _, t3, ⟨0, Nat.zero_le _, rfl, by simp [allS], rfl, rfl, rfl⟩⟩
 ·rintro k f1 o1 c1 ⟨j, hj, rfl, hnm, rfl, rfl, rfl⟩
  ((conv=>whnf)<;>repeat(with_reducible refine D1 ?_)<;>conv=>whnf)
  (first|refine ⟨?_,?_⟩|refine nsplit ?_ ?_|refine bsplit ?_ ?_)<;>intro h<;>have hz_:=True.intro<;>clear hz_
  ·have h : j < l.length := lenlt.1 h
   have hcn := hn _ (List.getElem_mem h)
   have hsl := standL_len l[j]
   ((conv=>whnf)<;>repeat(with_reducible refine D1 ?_)<;>conv=>whnf)
   refine idxI h ?_
   ((conv=>whnf)<;>repeat(with_reducible refine D1 ?_)<;>conv=>whnf)
   refine ⟨[], [], _, _, _, _, standsC l[j] (by omega), t3, ?_⟩
   rintro r o' c' ⟨rfl, rfl, rfl⟩
   ((conv=>whnf)<;>repeat(with_reducible refine D1 ?_)<;>conv=>whnf)
   refine ⟨[0], [], _, _, _, _, has04_ok (standL l[j]) n (by omega), t3, ?_⟩
   rintro r o' c' ⟨rfl, rfl, rfl⟩
   by_cases hm : n ∈ standL l[j]
   ·rw [decide_eq_true hm]
    ((conv=>whnf)<;>repeat(with_reducible refine D1 ?_)<;>conv=>whnf)
    refine ⟨[], [], ?_⟩
    iterate 3 constructor
    refine ⟨⟨?_, ?_, ?_⟩, rfl, rfl, rfl⟩
    all_goals (repeat' first|with_reducible exact Lz.rfl|exact Lw.rfl|exact Lz.wrap (by omega)|(unfold goInt;with_reducible exact Lz.rfl)|exact flx _|constructor)
    exact Lz.of (bool_eq (Eq.symm (decide_eq_true (List.mem_flatMap.2 ⟨_, List.getElem_mem h, hm⟩))))
   ·rw [decide_eq_false hm]
    ((conv=>whnf)<;>repeat(with_reducible refine D1 ?_)<;>conv=>whnf)
    refine ⟨l.length - (j + 1), ?_, by omega⟩
    exact ⟨[], [], _, _, _, t3, ⟨j + 1, h, rfl, by rw [allS_snoc l j h, List.mem_append]; exact not_or.2 ⟨hnm, hm⟩, rfl, rfl, rfl⟩⟩
  ·have hj' : j = l.length := by have := mt lenlt.2 h
                                 omega
   subst hj'
   rw [List.take_length] at hnm
   ((conv=>whnf)<;>repeat(with_reducible refine D1 ?_)<;>conv=>whnf)
   refine ⟨[], [], ?_⟩
   iterate 3 constructor
   refine ⟨⟨?_, ?_, ?_⟩, rfl, rfl, rfl⟩
   all_goals (repeat' first|with_reducible exact Lz.rfl|exact Lw.rfl|exact Lz.wrap (by omega)|(unfold goInt;with_reducible exact Lz.rfl)|exact flx _|constructor)
   exact Lz.of (bool_eq (Eq.symm (decide_eq_false hnm)))
end Go.M
namespace Go.M
open Go Go.Proofs
set_option maxRecDepth 100000
set_option maxHeartbeats 2000000
def lastL (c : CF) : Int := c.nodes.getLast?.getD 0
def canF (x : CF) : Int := if x.epoch = 18446744073709551615 then 9 else 0
def canR (l : List CF) (x : CF) (c : Cmd) : Int :=
 if c.kind = 1 then (if c.node ∉ standL x then 7 else if (withoutL (settledL x) c.node).length = 0 then 12 else canF x)
 else if c.kind = 2 then (if c.node ∈ allS l then 8 else if x.join ≠ 0 ∨ x.fresh = true then 12 else if x.nodes.length = 5 then 9 else canF x)
 else if c.kind = 3 then (if x.join ≠ c.node then 7 else if x.nodes.length = 5 then 9 else canF x)
 else (if x.fresh = false ∨ lastL x ≠ c.node then 7 else canF x)
end Go.M
namespace Go.M
open Go Go.Proofs
set_option maxRecDepth 100000
set_option maxHeartbeats 2000000
open Classical in
noncomputable def canL (l : List CF) (c : Cmd) : Int :=
 if ¬ allP l then 1 else if c.check ≠ 0 then c.check else if c.kind = 0 then 0 else
 match l[c.chain.toNat]? with
 | none => 7
 | some x => if x.epoch ≠ c.epoch then 10 else canR l x c
theorem settled_ok (c : CF) (h5 : 1 ≤ c.nodes.length ∧ c.nodes.length ≤ 5) : VC E0 37 0 [.agg (encCF c)] [] (RR (.tk 0) 1 [(0, .arr 1 true ((settledL c).map encI1))]) := by
 refine VC.enterR L0 (show E0.func 37 = some Tryd.f37 by kernel_rfl) (fun _ _ => rfl) rfl rfl [] ?_
 ((conv=>whnf)<;>repeat(with_reducible refine D1 ?_)<;>conv=>whnf)
 cases hf : c.fresh
 ·((conv=>whnf)<;>repeat(with_reducible refine D1 ?_)<;>conv=>whnf)
  refine ⟨[], [], _, _, _, _, cloneI_ok c.nodes (by omega), t3, ?_⟩
  rintro r o' c' ⟨rfl, rfl, rfl⟩
  ((conv=>whnf)<;>repeat(with_reducible refine D1 ?_)<;>conv=>whnf)
  refine ⟨[], [some 1], ?_⟩
  iterate 3 constructor
  refine ⟨⟨?_, ?_, ?_⟩, rfl, rfl, rfl⟩
  all_goals (repeat' first|with_reducible exact Lz.rfl|exact Lw.rfl|exact Lz.wrap (by omega)|(unfold goInt;with_reducible exact Lz.rfl)|exact flx _|constructor)
  exact Lz.of (by unfold settledL; rw [hf]; simp)
 ·((conv=>whnf)<;>repeat(with_reducible refine D1 ?_)<;>conv=>whnf)
  have hw : IntKind.i64.wrap ((((c.nodes.map encI1).length : Nat) : Int) - 1) = ((c.nodes.length - 1 : Nat) : Int) := by
   rw [List.length_map, IntWalk.i64_in _ (by omega)]; omega
  refine ⟨by rw [hw, List.length_map]; omega, ?_⟩
  ((conv=>whnf)<;>repeat(with_reducible refine D1 ?_)<;>conv=>whnf)
  refine ⟨[], [], _, _, _, _, cloneI_ok (c.nodes.take (c.nodes.length - 1)) (by rw [List.length_take]; omega), ⟨by ((repeat' first|with_reducible exact Lz.rfl|exact Lw.rfl|exact Lz.wrap (by omega)|(unfold goInt;with_reducible exact Lz.rfl)|exact flx _|constructor); all_goals (exact Lz.of (by rw [hw]; simp [List.map_take]))), by ((repeat' first|with_reducible exact Lz.rfl|exact Lw.rfl|exact Lz.wrap (by omega)|(unfold goInt;with_reducible exact Lz.rfl)|exact flx _|constructor); all_goals (exact Lz.of (by rw [hw]; simp [List.map_take]))), by rfl⟩, ?_⟩
  rintro r o' c' ⟨rfl, rfl, rfl⟩
  ((conv=>whnf)<;>repeat(with_reducible refine D1 ?_)<;>conv=>whnf)
  refine ⟨[], [some 1], ?_⟩
  iterate 3 constructor
  refine ⟨⟨?_, ?_, ?_⟩, rfl, rfl, rfl⟩
  all_goals (repeat' first|with_reducible exact Lz.rfl|exact Lw.rfl|exact Lz.wrap (by omega)|(unfold goInt;with_reducible exact Lz.rfl)|exact flx _|constructor)
  exact Lz.of (by unfold settledL; rw [hf]; simp)
end Go.M
namespace Go.M
open Go Go.Proofs
set_option maxRecDepth 100000
set_option maxHeartbeats 2000000
@[reducible] def stN (n : Int) : Ob := [(0, .cells [.s (.int .i64 n)])]
def otherB (n m : Int) : Bool := decide (m ≠ n)
def standB (n : Int) (c : CF) : Bool := decide (n ∈ standL c)
theorem usedOneC (n : Int) (c : CF) (h : c.nodes.length < 10000) : VC E0 39 1 [.agg (encCF c), .ptr 0 0] (stN n) (RR (.s (.bool (standB n c))) 1 (stN n)) := by
 have hsl := standL_len c
 refine VC.enterR L0 (show E0.func 39 = some Tryd.f39 by kernel_rfl) (fun _ _ => rfl) rfl rfl [] ?_
 ((conv=>whnf)<;>repeat(with_reducible refine D1 ?_)<;>conv=>whnf)
 refine ⟨[], [], _, _, _, _, everybodyC c (by omega), t3, ?_⟩
 rintro r o' c' ⟨rfl, rfl, rfl⟩
 ((conv=>whnf)<;>repeat(with_reducible refine D1 ?_)<;>conv=>whnf)
 refine ⟨[2], [], _, _, _, _, containsI_ok (standL c) n (by omega), t3, ?_⟩
 rintro r o' c' ⟨rfl, rfl, rfl⟩
 ((conv=>whnf)<;>repeat(with_reducible refine D1 ?_)<;>conv=>whnf)
 exact ⟨[], [some 0], _, _, _, t3, rfl, rfl, rfl⟩
theorem idxUC (n : Int) (vs : List CF) (hl : vs.length < 1000000) (hn : ∀ c ∈ vs, c.nodes.length < 10000) : VC E0 58 1 [.sl 5 (vs.map encCF) false, .clo 39 [] [.ptr 0 0]] (stN n)
 (fun r o c' => ∃ i : Int, r = .s (.int .i64 i) ∧ c' = 1 ∧ o = stN n ∧ ((i = -1 ∧ ∀ v ∈ vs, standB n v = false) ∨ 0 ≤ i ∧ ∃ v ∈ vs, standB n v = true)) := by
 have hnm : ∀ {j : Nat} (h : j < vs.length), vs[j].nodes.length < 10000 := fun h => hn _ (List.getElem_mem h)
 refine VC.enterR L0 (show E0.func 58 = some Tryd.f58 by kernel_rfl) (fun _ _ => rfl) rfl rfl [] ?_
 ((conv=>whnf)<;>repeat(with_reducible refine D1 ?_)<;>conv=>whnf)
 refine ⟨fun k f o c' => ∃ j : Nat, j ≤ vs.length ∧ k = vs.length - j ∧ (∀ v ∈ vs.take j, standB n v = false) ∧ c' = 1 ∧ f = [(0, .sl 5 (vs.map encCF) false), (1, .clo 39 [] [.ptr 0 0]), (7, .s (.int .i64 vs.length)), (8, .s (.int .i64 j))] ∧ o = stN n, ⟨vs.length, ?_⟩, ?_⟩
 ·refine ⟨[], [some 0], ?_⟩
  iterate 3 constructor
  refine ⟨⟨?_, ?_, ?_⟩, ⟨0, Nat.zero_le _, rfl, by simp, rfl, rfl, rfl⟩⟩
  all_goals (repeat' first|with_reducible exact Lz.rfl|exact Lw.rfl|exact Lz.wrap (by omega)|(unfold goInt;with_reducible exact Lz.rfl)|exact flx _|constructor)
  all_goals first | exact Lz.of (by simp [goInt]) | exact Lz.rfl
 ·rintro k f1 o1 c1 ⟨j, hj, rfl, hb, rfl, rfl, rfl⟩
  ((conv=>whnf)<;>repeat(with_reducible refine D1 ?_)<;>conv=>whnf)
  (first|refine ⟨?_,?_⟩|refine nsplit ?_ ?_|refine bsplit ?_ ?_)<;>intro h<;>have hz_:=True.intro<;>clear hz_
  ·have h : j < vs.length := by simpa using h
   ((conv=>whnf)<;>repeat(with_reducible refine D1 ?_)<;>conv=>whnf)
   refine idxI h ?_
   ((conv=>whnf)<;>repeat(with_reducible refine D1 ?_)<;>conv=>whnf)
   refine ⟨[], [some 0], _, _, _, _, usedOneC n vs[j] (hnm h), t3, ?_⟩
   rintro r o' c' ⟨rfl, rfl, rfl⟩
   have hz_ := True.intro
   clear hz_
   cases hv : standB n vs[j]
   ·((conv=>whnf)<;>repeat(with_reducible refine D1 ?_)<;>conv=>whnf)
    refine ⟨vs.length - (j + 1), ?_, by omega⟩
    exact ⟨[], [some 0], _, _, _, t3, ⟨j + 1, h, rfl, by intro v hv'; rw [List.take_succ_eq_append_getElem h] at hv'; rcases List.mem_append.1 hv' with h1 | h1; exact hb v h1; simp at h1; subst h1; exact hv, rfl, rfl, rfl⟩⟩
   ·((conv=>whnf)<;>repeat(with_reducible refine D1 ?_)<;>conv=>whnf)
    exact ⟨[], [some 0], _, _, _, t3, (j : Int), rfl, rfl, rfl, .inr ⟨by omega, _, List.getElem_mem h, hv⟩⟩
  ·have h' : j = vs.length := by have : ¬ j < vs.length := by simpa using h
                                 omega
   subst h'
   rw [List.take_length] at hb
   ((conv=>whnf)<;>repeat(with_reducible refine D1 ?_)<;>conv=>whnf)
   exact ⟨[], [some 0], _, _, _, t3, -1, rfl, rfl, rfl, .inl ⟨rfl, hb⟩⟩
theorem containsUC (n : Int) (vs : List CF) (hl : vs.length < 1000000) (hn : ∀ c ∈ vs, c.nodes.length < 10000) : VC E0 38 1 [.sl 5 (vs.map encCF) false, .clo 39 [] [.ptr 0 0]] (stN n) (RR (.s (.bool (vs.any (standB n)))) 1 (stN n)) := by
 refine VC.enterR L0 (show E0.func 38 = some Tryd.f38 by kernel_rfl) (fun _ _ => rfl) rfl rfl [] ?_
 ((conv=>whnf)<;>repeat(with_reducible refine D1 ?_)<;>conv=>whnf)
 refine ⟨[], [some 0], _, _, _, _, idxUC n vs hl hn, t3, ?_⟩
 rintro r o' c' ⟨i, rfl, rfl, rfl, hi⟩
 ((conv=>whnf)<;>repeat(with_reducible refine D1 ?_)<;>conv=>whnf)
 (first|refine ⟨?_,?_⟩|refine nsplit ?_ ?_|refine bsplit ?_ ?_)<;>intro h<;>have hz_:=True.intro<;>clear hz_
 ·have h : i ≥ 0 := h
  ((conv=>whnf)<;>repeat(with_reducible refine D1 ?_)<;>conv=>whnf)
  refine ⟨[], [some 0], ?_⟩
  iterate 3 constructor
  refine ⟨⟨?_, ?_, ?_⟩, rfl, rfl, rfl⟩
  all_goals (repeat' first|with_reducible exact Lz.rfl|exact Lw.rfl|exact Lz.wrap (by omega)|(unfold goInt;with_reducible exact Lz.rfl)|exact flx _|constructor)
  refine Lz.of (bool_eq (Eq.symm ?_))
  rcases hi with ⟨e, _⟩ | ⟨_, v, hv, hs⟩
  ·omega
  ·exact List.any_eq_true.2 ⟨v, hv, hs⟩
 ·have h : ¬ i ≥ 0 := h
  ((conv=>whnf)<;>repeat(with_reducible refine D1 ?_)<;>conv=>whnf)
  refine ⟨[], [some 0], ?_⟩
  iterate 3 constructor
  refine ⟨⟨?_, ?_, ?_⟩, rfl, rfl, rfl⟩
  all_goals (repeat' first|with_reducible exact Lz.rfl|exact Lw.rfl|exact Lz.wrap (by omega)|(unfold goInt;with_reducible exact Lz.rfl)|exact flx _|constructor)
  refine Lz.of (bool_eq (Eq.symm ?_))
  rcases hi with ⟨_, hall⟩ | ⟨e, _⟩
  ·exact List.any_eq_false.2 fun v hv => by rw [hall v hv]; simp
  ·omega
theorem any_stand (l : List CF) (n : Int) : l.any (standB n) = decide (n ∈ allS l) := by
 rw [Bool.eq_iff_iff, List.any_eq_true, decide_eq_true_iff]
 unfold allS standB
 rw [List.mem_flatMap]
 exact ⟨fun ⟨x, h, q⟩ => ⟨x, h, of_decide_eq_true q⟩, fun ⟨x, h, q⟩ => ⟨x, h, decide_eq_true q⟩⟩
theorem used_ok (l : List CF) (n : Int) (hl : l.length < 10000) (hn : ∀ c ∈ l, c.nodes.length < 10000) : VC E0 20 0 [.sl 5 (l.map encCF) false, .s (.int .i64 n)] [] (RR (.s (.bool (decide (n ∈ allS l)))) 0 []) := by
 refine VC.enterR L0 (show E0.func 20 = some Tryd.f20 by kernel_rfl) (fun _ _ => rfl) rfl rfl [] ?_
 ((conv=>whnf)<;>repeat(with_reducible refine D1 ?_)<;>conv=>whnf)
 refine ⟨[], [some 0], _, _, _, _, containsUC n l (by omega) hn, t3, ?_⟩
 rintro r o' c' ⟨rfl, rfl, rfl⟩
 rw [any_stand]
 ((conv=>whnf)<;>repeat(with_reducible refine D1 ?_)<;>conv=>whnf)
 exact ⟨[], [], _, _, _, t3, rfl, rfl, rfl⟩
end Go.M
namespace Go.M
open Go Go.Proofs
set_option maxRecDepth 100000
set_option maxHeartbeats 2000000
def canK (l : List CF) (x : CF) (k n : Int) : Int :=
 if k = 1 then (if n ∉ standL x then 7 else if (settledL x).any (otherB n) = false then 12 else 0)
 else if k = 2 then (if n ∈ allS l then 8 else if x.join ≠ 0 ∨ x.fresh = true then 12 else if x.nodes.length ≥ 5 then 9 else 0)
 else if k = 3 then (if x.join ≠ n then 7 else if x.nodes.length ≥ 5 then 9 else 0)
 else (if x.fresh = false ∨ lastL x ≠ n then 7 else 0)
end Go.M
namespace Go.M
open Go Go.Proofs
set_option maxRecDepth 100000
set_option maxHeartbeats 4000000
end Go.M
namespace Go.M
open Go Go.Proofs
set_option maxRecDepth 100000
set_option maxHeartbeats 4000000
def madeL (x : CF) (k n : Int) : CF :=
 if k = 1 then (if x.join = n then ⟨x.chain, x.epoch + 1, x.nodes, x.fresh, 0⟩ else ⟨x.chain, x.epoch + 1, withoutL x.nodes n, x.fresh && decide (lastL x ≠ n), x.join⟩)
 else if k = 2 then ⟨x.chain, x.epoch + 1, x.nodes, x.fresh, n⟩
 else if k = 3 then ⟨x.chain, x.epoch + 1, x.nodes ++ [n], true, 0⟩
 else ⟨x.chain, x.epoch + 1, x.nodes, false, x.join⟩
noncomputable def doL (l : List CF) (c : Cmd) : List CF × Bool :=
 if canL l c ≠ 0 then (l, false) else if c.kind = 0 then (l, true) else
 match l[c.chain.toNat]? with
 | none => (l, true)
 | some x => (l.set c.chain.toNat (madeL x c.kind c.node), true)
end Go.M
namespace Go.M
open Go Go.Proofs
set_option maxRecDepth 100000
set_option maxHeartbeats 4000000
structure okE (l : List CF) : Prop where
 len : l.length ≤ 6
 ep : ∀ c ∈ l, 0 ≤ c.epoch ∧ c.epoch ≤ 18446744073709551615
 n6 : ∀ c ∈ l, c.nodes.length ≤ 6
end Go.M
namespace Go.M
open Go Go.Proofs
set_option maxRecDepth 100000
set_option maxHeartbeats 4000000
theorem own_ok (c : CF) (hn : c.nodes.length < 1000000) : VC E0 27 0 [.agg (encCF c)] [] (RR (.agg (encCF c)) 0 []) := by
 refine VC.enterR L0 (show E0.func 27 = some Tryd.f27 by kernel_rfl) (fun _ _ => rfl) rfl rfl [] ?_
 ((conv=>whnf)<;>repeat(with_reducible refine D1 ?_)<;>conv=>whnf)
 refine ⟨[], [], _, _, _, _, cloneI_ok c.nodes hn, t3, ?_⟩
 rintro r o' c' ⟨rfl, rfl, rfl⟩
 ((conv=>whnf)<;>repeat(with_reducible refine D1 ?_)<;>conv=>whnf)
 exact ⟨[2], [], _, _, _, t3, rfl, rfl, rfl⟩
@[reducible] def zCF : List TV := [.s (.int .i64 0), .s (.int .u64 0), .sl 0 [] true, .s (.bool false), .s (.int .i64 0)]
def copyE (l : List CF) (j : Nat) : List (List TV) := (l.take j).map encCF ++ List.replicate (l.length - j) zCF
theorem copyE_len (l : List CF) (j : Nat) (h : j ≤ l.length) : (copyE l j).length = l.length := by unfold copyE; simp; omega
theorem copyE_set (l : List CF) (j : Nat) (h : j < l.length) : (copyE l j).set j (encCF l[j]) = copyE l (j + 1) := by
 unfold copyE
 have e : l.length - j = (l.length - (j + 1)) + 1 := by omega
 have hlen : ((l.take j).map encCF).length = j := by rw [List.length_map, List.length_take]; omega
 rw [e, List.replicate_succ, List.set_append, if_neg (by omega), hlen, Nat.sub_self, List.take_succ_eq_append_getElem h, List.map_append, List.append_assoc]
 rfl
theorem copyE_get (l : List CF) (j : Nat) (h : j < l.length) : (copyE l j)[j]? = some zCF := by
 unfold copyE
 have e : l.length - j = (l.length - (j + 1)) + 1 := by omega
 have hlen : ((l.take j).map encCF).length = j := by rw [List.length_map, List.length_take]; omega
 rw [e, List.replicate_succ, List.getElem?_append_right (by omega), hlen, Nat.sub_self]
 rfl
theorem copy_ok (l : List CF) (hl : l.length < 10000) (hn : ∀ c ∈ l, c.nodes.length < 1000000) : VC E0 7 0 [.sl 5 (l.map encCF) false] [] (RR (.tk 0) 1 [(0, .arr 5 true (l.map encCF))]) := by
 refine VC.enterR L0 (show E0.func 7 = some Tryd.f7 by kernel_rfl) (fun _ _ => rfl) rfl rfl [] ?_
 ((conv=>whnf)<;>repeat(with_reducible refine D1 ?_)<;>conv=>whnf)
 refine ⟨⟨by omega, by omega, by simp; omega⟩, ?_⟩
 ((conv=>whnf)<;>repeat(with_reducible refine D1 ?_)<;>conv=>whnf)
 refine ⟨fun k f o c => ∃ j : Nat, j ≤ l.length ∧ k = l.length - j ∧ c = 1 ∧ f = [(3, .tk 0), (9, .sl 5 (l.map encCF) false), (10, .s (.int .i64 l.length)), (11, .s (.int .i64 j))] ∧ o = [(0, .arr 5 true (copyE l j))], ⟨l.length, ?_⟩, ?_⟩
 ·refine ⟨[], [some 0], ?_⟩
  iterate 3 constructor
  refine ⟨⟨?_, ?_, ?_⟩, ⟨0, Nat.zero_le _, rfl, rfl, rfl, rfl⟩⟩
  all_goals (repeat' first|with_reducible exact Lz.rfl|exact Lw.rfl|exact Lz.wrap (by omega)|(unfold goInt;with_reducible exact Lz.rfl)|exact flx _|constructor)
  ·exact Lz.int (by rw [List.length_map])
  ·exact Lz.of (by simp [copyE]; exact .inr rfl)
 ·rintro k f1 o1 c1 ⟨j, hj, rfl, rfl, rfl, rfl⟩
  ((conv=>whnf)<;>repeat(with_reducible refine D1 ?_)<;>conv=>whnf)
  (first|refine ⟨?_,?_⟩|refine nsplit ?_ ?_|refine bsplit ?_ ?_)<;>intro h<;>have hz_:=True.intro<;>clear hz_
  ·have h : j < l.length := by have : (j : Int) < (l.length : Nat) := h
                               omega
   ((conv=>whnf)<;>repeat(with_reducible refine D1 ?_)<;>conv=>whnf)
   refine idxI h ?_
   ((conv=>whnf)<;>repeat(with_reducible refine D1 ?_)<;>conv=>whnf)
   refine ⟨[], [], _, _, _, _, own_ok l[j] (hn _ (List.getElem_mem h)), t3, ?_⟩
   rintro r o' c' ⟨rfl, rfl, rfl⟩
   ((conv=>whnf)<;>repeat(with_reducible refine D1 ?_)<;>conv=>whnf)
   refine ⟨⟨by omega, by rw [copyE_len l j hj]; omega⟩, ?_⟩
   ((conv=>whnf)<;>repeat(with_reducible refine D1 ?_)<;>conv=>whnf)
   refine ⟨zCF, by rw [Int.toNat_natCast]; exact copyE_get l j h, ?_⟩
   ((conv=>whnf)<;>repeat(with_reducible refine D1 ?_)<;>conv=>whnf)
   refine ⟨l.length - (j + 1), ?_, by omega⟩
   refine ⟨[], [some 0], ?_⟩
   iterate 3 constructor
   refine ⟨⟨?_, ?_, ?_⟩, ⟨j + 1, h, rfl, rfl, rfl, rfl⟩⟩
   all_goals (repeat' first|with_reducible exact Lz.rfl|exact Lw.rfl|exact Lz.wrap (by omega)|(unfold goInt;with_reducible exact Lz.rfl)|exact flx _|constructor)
   exact Lz.of (by rw [Int.toNat_natCast]; exact copyE_set l j h)
  ·have hj' : j = l.length := by have : ¬ (j : Int) < (l.length : Nat) := h
                                 omega
   subst hj'
   have hc : copyE l l.length = l.map encCF := by unfold copyE; simp
   rw [hc]
   ((conv=>whnf)<;>repeat(with_reducible refine D1 ?_)<;>conv=>whnf)
   exact ⟨[], [some 0], _, _, _, t3, rfl, rfl, rfl⟩
end Go.M
namespace Go.M
open Go Go.Proofs
set_option maxRecDepth 100000
set_option maxHeartbeats 4000000
@[reducible] def ownCF (c : CF) : List TV := [.s (.int .i64 c.chain), .s (.int .u64 c.epoch), .own (.arr 1 true (c.nodes.map encI1)), .s (.bool c.fresh), .s (.int .i64 c.join)]
@[reducible] def namCF (c : CF) (n : Nat) : List TV := [.s (.int .i64 c.chain), .s (.int .u64 c.epoch), .tk n, .s (.bool c.fresh), .s (.int .i64 c.join)]
def pickE (p : Nat → Bool) (i : Nat) (c : CF) : List TV := match p i with
 | true => ownCF c
 | false => encCF c
def mixE (p : Nat → Bool) (l : List CF) : List (List TV) := l.mapIdx (pickE p)
def mixC (p : Nat → Bool) (l : List CF) (j : Nat) : List (List TV) := mixE p (l.take j) ++ List.replicate (l.length - j) zCF
end Go.M
namespace Go.M
open Go Go.Proofs
set_option maxRecDepth 100000
set_option maxHeartbeats 4000000
def isB (n m : Int) : Bool := decide (m = n)
@[reducible] def stR (n : Int) (vs : List Int) : Ob := [(0, .arr 1 true (vs.map encI1)), (1, .cells [.s (.int .i64 n)])]
end Go.M
namespace Go.M
open Go Go.Proofs
set_option maxRecDepth 100000
set_option maxHeartbeats 4000000
@[reducible] def stM (c : CF) : Ob := [(0, .arr 1 true (c.nodes.map encI1))]
def doK (x : CF) (k n : Int) : CF :=
 if k = 1 then (if x.join = n then ⟨x.chain, x.epoch, x.nodes, x.fresh, 0⟩ else ⟨x.chain, x.epoch, withoutL x.nodes n, x.fresh && decide (lastL x ≠ n), x.join⟩)
 else if k = 2 then ⟨x.chain, x.epoch, x.nodes, x.fresh, n⟩
 else if k = 3 then ⟨x.chain, x.epoch, x.nodes ++ [n], true, 0⟩
 else ⟨x.chain, x.epoch, x.nodes, false, x.join⟩
end Go.M
namespace Go.M
open Go Go.Proofs
set_option maxRecDepth 100000
set_option maxHeartbeats 4000000
end Go.M
namespace Go.M
open Go Go.Proofs
set_option maxRecDepth 100000
set_option maxHeartbeats 4000000
def encC4 (c : Cmd) : List TV := [.s (.int .i64 c.kind), .s (.int .i64 c.chain), .s (.int .u64 c.epoch), .s (.int .i64 c.node)]
structure okF (l : List CF) : Prop where
 len : l.length ≤ 6
 ep : ∀ c ∈ l, 0 ≤ c.epoch ∧ c.epoch ≤ 18446744073709551615
 n30 : ∀ c ∈ l, c.nodes.length ≤ 30
theorem wrap_big (n : Nat) (h : n < 9223372036854775807) : IntKind.i64.wrap ((n : Int) + 1) = ((n + 1 : Nat) : Int) := by
 rw [IntWalk.i64_in _ (by omega)]; rfl
theorem few_ok (l : List CF) (hl : l.length ≤ maxLen) : VC E0 5 0 [.sl 5 (l.map encCF) false] [] (fun r o c => ∃ b : Bool, r = .s (.bool b) ∧ c = 0 ∧ o = [] ∧ (b = true → l.length ≤ 6 ∧ ∀ x ∈ l, x.nodes.length ≤ 30)) := by
 have hl : l.length ≤ 9223372036854775807 := hl
 refine VC.enterR L0 (show E0.func 5 = some Tryd.f5 by kernel_rfl) (fun _ _ => rfl) rfl rfl [] ?_
 ((conv=>whnf)<;>repeat(with_reducible refine D1 ?_)<;>conv=>whnf)
 refine ⟨fun k f o c => ∃ j : Nat, j ≤ l.length ∧ k = l.length - j ∧ (∀ x ∈ l.take j, x.nodes.length ≤ 30) ∧ c = 0 ∧ f = [(0, .sl 5 (l.map encCF) false), (3, .s (.int .i64 j))] ∧ o = [], ⟨l.length, ?_⟩, ?_⟩
 ·exact ⟨[], [], _, _, _, t3, ⟨0, Nat.zero_le _, rfl, by simp, rfl, rfl, rfl⟩⟩
 ·rintro k f1 o1 c1 ⟨j, hj, rfl, hn, rfl, rfl, rfl⟩
  ((conv=>whnf)<;>repeat(with_reducible refine D1 ?_)<;>conv=>whnf)
  (first|refine ⟨?_,?_⟩|refine nsplit ?_ ?_|refine bsplit ?_ ?_)<;>intro h<;>have hz_:=True.intro<;>clear hz_
  ·have h : j < l.length := lenlt.1 h
   ((conv=>whnf)<;>repeat(with_reducible refine D1 ?_)<;>conv=>whnf)
   refine idxI h ?_
   ((conv=>whnf)<;>repeat(with_reducible refine D1 ?_)<;>conv=>whnf)
   (first|refine ⟨?_,?_⟩|refine nsplit ?_ ?_|refine bsplit ?_ ?_)<;>intro he<;>have hz_:=True.intro<;>clear hz_
   ·((conv=>whnf)<;>repeat(with_reducible refine D1 ?_)<;>conv=>whnf)
    exact ⟨[], [], _, _, _, t3, false, rfl, rfl, rfl, by simp⟩
   ·have he : ¬ ((((l[j].nodes.map encI1).length : Nat) : Int) > 30) := he
    rw [List.length_map] at he
    ((conv=>whnf)<;>repeat(with_reducible refine D1 ?_)<;>conv=>whnf)
    refine ⟨l.length - (j + 1), ?_, by omega⟩
    refine ⟨[], [], ?_⟩
    iterate 3 constructor
    refine ⟨⟨?_, ?_, ?_⟩, ⟨j + 1, h, rfl, (fun x hx => by rw [List.take_succ_eq_append_getElem h] at hx; rcases List.mem_append.1 hx with q | q; exact hn x q; simp at q; subst q; omega), rfl, rfl, rfl⟩⟩
    all_goals (repeat' first|with_reducible exact Lz.rfl|exact Lw.rfl|exact Lz.wrap (by omega)|(unfold goInt;with_reducible exact Lz.rfl)|exact flx _|constructor)
    exact .of (congrArg _ (wrap_big j (by omega)))
  ·have hj' : j = l.length := by have := mt lenlt.2 h
                                 omega
   subst hj'
   rw [List.take_length] at hn
   ((conv=>whnf)<;>repeat(with_reducible refine D1 ?_)<;>conv=>whnf)
   (first|refine ⟨?_,?_⟩|refine nsplit ?_ ?_|refine bsplit ?_ ?_)<;>intro h6<;>have hz_:=True.intro<;>clear hz_
   ·have h6 : (((l.map encCF).length : Nat) : Int) ≤ 6 := h6
    rw [List.length_map] at h6
    ((conv=>whnf)<;>repeat(with_reducible refine D1 ?_)<;>conv=>whnf)
    exact ⟨[], [], _, _, _, t3, true, rfl, rfl, rfl, fun _ => ⟨by omega, hn⟩⟩
   ·((conv=>whnf)<;>repeat(with_reducible refine D1 ?_)<;>conv=>whnf)
    exact ⟨[], [], _, _, _, t3, false, rfl, rfl, rfl, by simp⟩
end Go.M
namespace Go.M
open Go Go.Proofs
set_option maxRecDepth 100000
set_option maxHeartbeats 4000000
theorem equal_ok (l m : List Int) (hl : l.length < 1000000) : VC E0 46 0 [.sl 1 (l.map encI1) false, .sl 1 (m.map encI1) false] [] (RR (.s (.bool (eqB l m))) 0 []) := by
 refine VC.enterR L0 (show E0.func 46 = some Tryd.f46 by kernel_rfl) (fun _ _ => rfl) rfl rfl [] ?_
 ((conv=>whnf)<;>repeat(with_reducible refine D1 ?_)<;>conv=>whnf)
 (first|refine ⟨?_,?_⟩|refine nsplit ?_ ?_|refine bsplit ?_ ?_)<;>intro hlm<;>have hz_:=True.intro<;>clear hz_
 ·((conv=>whnf)<;>repeat(with_reducible refine D1 ?_)<;>conv=>whnf)
  refine ⟨[], [], ?_⟩
  iterate 3 constructor
  refine ⟨⟨?_, ?_, ?_⟩, rfl, rfl, rfl⟩
  all_goals (repeat' first|with_reducible exact Lz.rfl|exact Lw.rfl|exact Lz.wrap (by omega)|(unfold goInt;with_reducible exact Lz.rfl)|exact flx _|constructor)
  refine Lz.of (bool_eq (Eq.symm (eqB_false.2 fun e => hlm (by subst e; rfl))))
 ·have hlm : l.length = m.length := by simp at hlm; omega
  ((conv=>whnf)<;>repeat(with_reducible refine D1 ?_)<;>conv=>whnf)
  refine ⟨fun k f o c => ∃ i : Nat, i ≤ l.length ∧ k = l.length - i ∧ l.take i = m.take i ∧ c = 0 ∧ f = [(0, .sl 1 (l.map encI1) false), (1, .sl 1 (m.map encI1) false), (12, .s (.int .i64 l.length)), (13, .s (.int .i64 i))] ∧ o = [], ⟨l.length, ?_⟩, ?_⟩
  ·refine ⟨[], [], ?_⟩
   iterate 3 constructor
   refine ⟨⟨?_, ?_, ?_⟩, ⟨0, Nat.zero_le _, rfl, rfl, rfl, rfl, rfl⟩⟩
   all_goals (repeat' first|with_reducible exact Lz.rfl|exact Lw.rfl|exact Lz.wrap (by omega)|(unfold goInt;with_reducible exact Lz.rfl)|exact flx _|constructor)
   exact Lz.of (by simp [goInt])
  ·rintro k f1 o1 c1 ⟨i, hi, rfl, ht, rfl, rfl, rfl⟩
   ((conv=>whnf)<;>repeat(with_reducible refine D1 ?_)<;>conv=>whnf)
   (first|refine ⟨?_,?_⟩|refine nsplit ?_ ?_|refine bsplit ?_ ?_)<;>intro h<;>have hz_:=True.intro<;>clear hz_
   ·have h : i < l.length := by simpa using h
    have h2 : i < m.length := by omega
    ((conv=>whnf)<;>repeat(with_reducible refine D1 ?_)<;>conv=>whnf)
    refine idxI h ?_
    ((conv=>whnf)<;>repeat(with_reducible refine D1 ?_)<;>conv=>whnf)
    refine idxI h2 ?_
    ((conv=>whnf)<;>repeat(with_reducible refine D1 ?_)<;>conv=>whnf)
    (first|refine ⟨?_,?_⟩|refine nsplit ?_ ?_|refine bsplit ?_ ?_)<;>intro hv<;>have hz_:=True.intro<;>clear hz_
    ·have hv : l[i] ≠ m[i] := hv
     ((conv=>whnf)<;>repeat(with_reducible refine D1 ?_)<;>conv=>whnf)
     refine ⟨[], [], ?_⟩
     iterate 3 constructor
     refine ⟨⟨?_, ?_, ?_⟩, rfl, rfl, rfl⟩
     all_goals (repeat' first|with_reducible exact Lz.rfl|exact Lw.rfl|exact Lz.wrap (by omega)|(unfold goInt;with_reducible exact Lz.rfl)|exact flx _|constructor)
     refine Lz.of (bool_eq (Eq.symm (eqB_false.2 fun e => hv (by subst e; rfl))))
    ·have hv : l[i] = m[i] := Classical.not_not.1 hv
     ((conv=>whnf)<;>repeat(with_reducible refine D1 ?_)<;>conv=>whnf)
     refine ⟨l.length - (i + 1), ?_, by omega⟩
     exact ⟨[], [], _, _, _, t3, ⟨i + 1, h, rfl, by rw [take_snoc l i h, take_snoc m i h2, ht, hv], rfl, rfl, rfl⟩⟩
   ·have h : ¬ i < l.length := by simpa using h
    ((conv=>whnf)<;>repeat(with_reducible refine D1 ?_)<;>conv=>whnf)
    refine ⟨[], [], ?_⟩
    iterate 3 constructor
    refine ⟨⟨?_, ?_, ?_⟩, rfl, rfl, rfl⟩
    all_goals (repeat' first|with_reducible exact Lz.rfl|exact Lw.rfl|exact Lz.wrap (by omega)|(unfold goInt;with_reducible exact Lz.rfl)|exact flx _|constructor)
    refine Lz.of (bool_eq (Eq.symm (eqB_iff.2 ?_)))
    rw [← List.take_of_length_le (Nat.not_lt.1 h), ht, List.take_of_length_le (by omega)]
theorem sameC_ok (a b : CF) (hl : a.nodes.length < 1000000) : VC E0 24 0 [.agg (encCF a), .agg (encCF b)] [] (RR (.s (.bool (eqB a b))) 0 []) := by
 refine VC.enterR L0 (show E0.func 24 = some Tryd.f24 by kernel_rfl) (fun _ _ => rfl) rfl rfl [] ?_
 ((conv=>whnf)<;>repeat(with_reducible refine D1 ?_)<;>conv=>whnf)
 (first|refine ⟨?_,?_⟩|refine nsplit ?_ ?_|refine bsplit ?_ ?_)<;>intro h1<;>have hz_:=True.intro<;>clear hz_
 rotate_left
 ·have h1 : ¬ a.chain = b.chain := h1
  ((conv=>whnf)<;>repeat(with_reducible refine D1 ?_)<;>conv=>whnf)
  refine ⟨[], [], ?_⟩
  iterate 3 constructor
  refine ⟨⟨?_, ?_, ?_⟩, rfl, rfl, rfl⟩
  all_goals (repeat' first|with_reducible exact Lz.rfl|exact Lw.rfl|exact Lz.wrap (by omega)|(unfold goInt;with_reducible exact Lz.rfl)|exact flx _|constructor)
  exact Lz.of (bool_eq (Eq.symm (eqB_false.2 fun e => h1 (by rw [e]))))
 have h1 : a.chain = b.chain := h1
 ((conv=>whnf)<;>repeat(with_reducible refine D1 ?_)<;>conv=>whnf)
 (first|refine ⟨?_,?_⟩|refine nsplit ?_ ?_|refine bsplit ?_ ?_)<;>intro h2<;>have hz_:=True.intro<;>clear hz_
 rotate_left
 ·have h2 : ¬ a.epoch = b.epoch := h2
  ((conv=>whnf)<;>repeat(with_reducible refine D1 ?_)<;>conv=>whnf)
  refine ⟨[], [], ?_⟩
  iterate 3 constructor
  refine ⟨⟨?_, ?_, ?_⟩, rfl, rfl, rfl⟩
  all_goals (repeat' first|with_reducible exact Lz.rfl|exact Lw.rfl|exact Lz.wrap (by omega)|(unfold goInt;with_reducible exact Lz.rfl)|exact flx _|constructor)
  exact Lz.of (bool_eq (Eq.symm (eqB_false.2 fun e => h2 (by rw [e]))))
 have h2 : a.epoch = b.epoch := h2
 ((conv=>whnf)<;>repeat(with_reducible refine D1 ?_)<;>conv=>whnf)
 cases h3 : (a.fresh == b.fresh)
 ·((conv=>whnf)<;>repeat(with_reducible refine D1 ?_)<;>conv=>whnf)
  refine ⟨[], [], ?_⟩
  iterate 3 constructor
  refine ⟨⟨?_, ?_, ?_⟩, rfl, rfl, rfl⟩
  all_goals (repeat' first|with_reducible exact Lz.rfl|exact Lw.rfl|exact Lz.wrap (by omega)|(unfold goInt;with_reducible exact Lz.rfl)|exact flx _|constructor)
  exact Lz.of (bool_eq (Eq.symm (eqB_false.2 fun e => by rw [e] at h3; simp at h3)))
 ((conv=>whnf)<;>repeat(with_reducible refine D1 ?_)<;>conv=>whnf)
 (first|refine ⟨?_,?_⟩|refine nsplit ?_ ?_|refine bsplit ?_ ?_)<;>intro h4<;>have hz_:=True.intro<;>clear hz_
 rotate_left
 ·have h4 : ¬ a.join = b.join := h4
  ((conv=>whnf)<;>repeat(with_reducible refine D1 ?_)<;>conv=>whnf)
  refine ⟨[], [], ?_⟩
  iterate 3 constructor
  refine ⟨⟨?_, ?_, ?_⟩, rfl, rfl, rfl⟩
  all_goals (repeat' first|with_reducible exact Lz.rfl|exact Lw.rfl|exact Lz.wrap (by omega)|(unfold goInt;with_reducible exact Lz.rfl)|exact flx _|constructor)
  exact Lz.of (bool_eq (Eq.symm (eqB_false.2 fun e => h4 (by rw [e]))))
 have h4 : a.join = b.join := h4
 ((conv=>whnf)<;>repeat(with_reducible refine D1 ?_)<;>conv=>whnf)
 refine ⟨[], [], _, _, _, _, equal_ok a.nodes b.nodes hl, t3, ?_⟩
 rintro r o' c' ⟨rfl, rfl, rfl⟩
 ((conv=>whnf)<;>repeat(with_reducible refine D1 ?_)<;>conv=>whnf)
 refine ⟨[], [], ?_⟩
 iterate 3 constructor
 refine ⟨⟨?_, ?_, ?_⟩, rfl, rfl, rfl⟩
 all_goals (repeat' first|with_reducible exact Lz.rfl|exact Lw.rfl|exact Lz.wrap (by omega)|(unfold goInt;with_reducible exact Lz.rfl)|exact flx _|constructor)
 refine Lz.of (bool_eq ?_)
 by_cases hn : a.nodes = b.nodes
 ·rw [eqB_iff.2 hn, eqB_iff.2 (CF.ext' h1 h2 hn (by simpa using h3) h4)]
 ·rw [eqB_false.2 hn, eqB_false.2 fun e => hn (by rw [e])]
theorem refSettledNo_ok (c : CF) (he : 0 ≤ c.epoch) (hr : ¬ rightP c) : VC E0 19 0 [.agg (encCF c)] [] (RR (.sl 0 [] true) 0 []) := by
 refine VC.enterR L0 (show E0.func 19 = some Tryd.f19 by kernel_rfl) (fun _ _ => rfl) rfl rfl [] ?_
 ((conv=>whnf)<;>repeat(with_reducible refine D1 ?_)<;>conv=>whnf)
 refine ⟨[], [], _, _, _, _, refRight_ok c he, t3, ?_⟩
 rintro r o' c' ⟨rfl, rfl, rfl⟩
 rw [decide_eq_false hr]
 ((conv=>whnf)<;>repeat(with_reducible refine D1 ?_)<;>conv=>whnf)
 exact ⟨[], [], _, _, _, t3, rfl, rfl, rfl⟩
theorem settledC_ok (c : CF) (hr : rightP c) : VC E0 18 0 [.agg (encCF c)] [] (RR (.tk 0) 1 [(0, .arr 1 true ((settledL c).map encI1))]) := by
 refine VC.enterR L0 (show E0.func 18 = some Tryd.f18 by kernel_rfl) (fun _ _ => rfl) rfl rfl [] ?_
 ((conv=>whnf)<;>repeat(with_reducible refine D1 ?_)<;>conv=>whnf)
 refine ⟨[], [], _, _, _, _, right_ok c, t3, ?_⟩
 rintro r o' c' ⟨rfl, rfl, rfl⟩
 rw [decide_eq_true hr]
 ((conv=>whnf)<;>repeat(with_reducible refine D1 ?_)<;>conv=>whnf)
 refine ⟨[], [], _, _, _, _, settled_ok c hr.2.2.1, t3, ?_⟩
 rintro r o' c' ⟨rfl, rfl, rfl⟩
 ((conv=>whnf)<;>repeat(with_reducible refine D1 ?_)<;>conv=>whnf)
 exact ⟨[], [some 1], _, _, _, t3, rfl, rfl, rfl⟩
theorem settledNo_ok (c : CF) (hr : ¬ rightP c) : VC E0 18 0 [.agg (encCF c)] [] (RR (.sl 0 [] true) 0 []) := by
 refine VC.enterR L0 (show E0.func 18 = some Tryd.f18 by kernel_rfl) (fun _ _ => rfl) rfl rfl [] ?_
 ((conv=>whnf)<;>repeat(with_reducible refine D1 ?_)<;>conv=>whnf)
 refine ⟨[], [], _, _, _, _, right_ok c, t3, ?_⟩
 rintro r o' c' ⟨rfl, rfl, rfl⟩
 rw [decide_eq_false hr]
 ((conv=>whnf)<;>repeat(with_reducible refine D1 ?_)<;>conv=>whnf)
 exact ⟨[], [], _, _, _, t3, rfl, rfl, rfl⟩
end Go.M
namespace Go.M
open Go Go.Proofs
set_option maxRecDepth 100000
set_option maxHeartbeats 4000000
def decB (n : Nat) : ByteArray := ⟨(Lib.decDigits n).toArray⟩
theorem decB_small {n : Nat} (h : n < 10) : decB n = ⟨#[UInt8.ofNat (48 + n)]⟩ := by
 unfold decB
 rw [Lib.decDigits, dif_pos h]
theorem decB_big {n : Nat} (h : ¬ n < 10) : decB n = decB (n / 10) ++ decB (n % 10) := by
 rw [decB_small (n := n % 10) (by omega)]
 apply ByteArray.ext
 show (Lib.decDigits n).toArray = _
 rw [Lib.decDigits, dif_neg h]
 simp [ByteArray.data_append, decB]
theorem decB_len (n : Nat) (h : n < 18446744073709551616) : (decB n).size ≤ 20 := by
 show (Lib.decDigits n).toArray.size ≤ 20
 rw [List.size_toArray, Lib.decDigits_length]
 exact Lib.nDigits_le20 n h
theorem digits_ok (n : Nat) (h : n < 18446744073709551616) : VC E0 45 0 [.s (.int .u64 n)] [] (RR (.s (.string (decB n))) 0 []) := by
 induction n using Nat.strongRecOn with
 | _ n ih =>
  refine VC.enterR L0 (show E0.func 45 = some Tryd.f45 by kernel_rfl) (fun _ _ => rfl) rfl rfl [] ?_
  ((conv=>whnf)<;>repeat(with_reducible refine D1 ?_)<;>conv=>whnf)
  (first|refine ⟨?_,?_⟩|refine nsplit ?_ ?_|refine bsplit ?_ ?_)<;>intro h1<;>have hz_:=True.intro<;>clear hz_
  ·have h1 : (n : Int) < 10 := h1
   ((conv=>whnf)<;>repeat(with_reducible refine D1 ?_)<;>conv=>whnf)
   have w1 : IntKind.u64.wrap (48 + (n : Int)) = ((48 + n : Nat) : Int) := by rw [IntKind.wrap_u64]; omega
   have w2 : IntKind.u8.wrap ((48 + n : Nat) : Int) = ((48 + n : Nat) : Int) := by rw [IntKind.wrap_u8]; omega
   refine ⟨[((48 + n : Nat) : Int)], by rw [w1, w2]; rfl, ?_⟩
   ((conv=>whnf)<;>repeat(with_reducible refine D1 ?_)<;>conv=>whnf)
   refine ⟨[], [], ?_⟩
   iterate 3 constructor
   refine ⟨⟨?_, ?_, ?_⟩, rfl, rfl, rfl⟩
   all_goals (repeat' first|with_reducible exact Lz.rfl|exact Lw.rfl|exact Lz.wrap (by omega)|(unfold goInt;with_reducible exact Lz.rfl)|exact flx _|constructor)
   refine Lz.of (congrArg _ ?_)
   rw [decB_small (by omega)]
   unfold strOf
   apply ByteArray.ext
   simp only [List.map_cons, List.map_nil, Int.toNat_natCast]
  ·have h1 : ¬ (n : Int) < 10 := h1
   ((conv=>whnf)<;>repeat(with_reducible refine D1 ?_)<;>conv=>whnf)
   have w1 : IntKind.u64.wrap ((n : Int).tdiv 10) = ((n / 10 : Nat) : Int) := by
    rw [IntKind.wrap_u64, Int.tdiv_eq_ediv_of_nonneg (by omega)]; omega
   have w2 : IntKind.u64.wrap ((n : Int).tmod 10) = ((n % 10 : Nat) : Int) := by
    rw [IntKind.wrap_u64, Int.tmod_eq_emod_of_nonneg (by omega)]; omega
   refine ⟨[], [], _, _, _, _, ih (n / 10) (by omega) (by omega), ⟨by ((repeat' first|with_reducible exact Lz.rfl|exact Lw.rfl|exact Lz.wrap (by omega)|(unfold goInt;with_reducible exact Lz.rfl)|exact flx _|constructor); all_goals (exact Lz.of (congrArg _ w1))), by ((repeat' first|with_reducible exact Lz.rfl|exact Lw.rfl|exact Lz.wrap (by omega)|(unfold goInt;with_reducible exact Lz.rfl)|exact flx _|constructor); all_goals (exact Lz.of (congrArg _ w1))), by rfl⟩, ?_⟩
   rintro r o' c' ⟨rfl, rfl, rfl⟩
   ((conv=>whnf)<;>repeat(with_reducible refine D1 ?_)<;>conv=>whnf)
   refine ⟨[], [], _, _, _, _, ih (n % 10) (by omega) (by omega), ⟨by ((repeat' first|with_reducible exact Lz.rfl|exact Lw.rfl|exact Lz.wrap (by omega)|(unfold goInt;with_reducible exact Lz.rfl)|exact flx _|constructor); all_goals (exact Lz.of (congrArg _ w2))), by ((repeat' first|with_reducible exact Lz.rfl|exact Lw.rfl|exact Lz.wrap (by omega)|(unfold goInt;with_reducible exact Lz.rfl)|exact flx _|constructor); all_goals (exact Lz.of (congrArg _ w2))), by rfl⟩, ?_⟩
   rintro r o' c' ⟨rfl, rfl, rfl⟩
   ((conv=>whnf)<;>repeat(with_reducible refine D1 ?_)<;>conv=>whnf)
   have hs1 := decB_len (n / 10) (by omega)
   have hs2 := decB_len (n % 10) (by omega)
   refine ⟨by omega, ?_⟩
   ((conv=>whnf)<;>repeat(with_reducible refine D1 ?_)<;>conv=>whnf)
   refine ⟨[], [], ?_⟩
   iterate 3 constructor
   refine ⟨⟨?_, ?_, ?_⟩, rfl, rfl, rfl⟩
   all_goals (repeat' first|with_reducible exact Lz.rfl|exact Lw.rfl|exact Lz.wrap (by omega)|(unfold goInt;with_reducible exact Lz.rfl)|exact flx _|constructor)
   exact Lz.of (congrArg _ (decB_big (by omega)).symm)
theorem bsz (a : Array UInt8) : (⟨a⟩ : ByteArray).size = a.size := rfl
@[reducible] def headT (c : CF) : ByteArray := ⟨#[99, 104, 97, 105, 110, 32]⟩ ++ decB c.chain.toNat ++ ⟨#[32, 101, 112, 111, 99, 104, 32]⟩ ++ decB c.epoch.toNat ++ ⟨#[58]⟩
def nodesT (acc : ByteArray) (l : List Int) : ByteArray := l.foldl (fun a n => a ++ ⟨#[32]⟩ ++ decB n.toNat) acc
theorem nodesT_snoc (acc : ByteArray) (l : List Int) (n : Int) : nodesT acc (l ++ [n]) = nodesT acc l ++ ⟨#[32]⟩ ++ decB n.toNat := by
 unfold nodesT
 rw [List.foldl_append]
 rfl
theorem nodesT_len : ∀ (l : List Int) (acc : ByteArray), (∀ n ∈ l, 1 ≤ n ∧ n ≤ 24) → (nodesT acc l).size ≤ acc.size + 21 * l.length
 | [], acc, _ => Nat.le_refl _
 | n :: l, acc, h => by
  have h1 := nodesT_len l (acc ++ ⟨#[32]⟩ ++ decB n.toNat) fun x hx => h x (List.mem_cons_of_mem _ hx)
  have hn := h n List.mem_cons_self
  have h2 := decB_len n.toNat (by omega)
  show (nodesT (acc ++ ⟨#[32]⟩ ++ decB n.toNat) l).size ≤ _
  simp only [ByteArray.size_append, bsz, List.size_toArray, List.length_cons, List.length_nil] at h1 ⊢
  omega
def starT (c : CF) (t : ByteArray) : ByteArray := if c.fresh = true then t ++ ⟨#[42]⟩ else t
def plusT (c : CF) (t : ByteArray) : ByteArray := if c.join ≠ 0 then t ++ ⟨#[32, 43]⟩ ++ decB c.join.toNat else t
def textT (c : CF) : ByteArray := plusT c (starT c (nodesT (headT c) c.nodes))
theorem refText_ok (c : CF) (he : 0 ≤ c.epoch ∧ c.epoch < 18446744073709551616) (hr : rightP c) : VC E0 23 0 [.agg (encCF c)] [] (RR (.s (.string (textT c))) 0 []) := by
 have hr' := hr
 obtain ⟨⟨h1, h2⟩, _, h5, hfr, hun⟩ := hr'
 have w1 : IntKind.u64.wrap c.chain = ((c.chain.toNat : Nat) : Int) := by rw [IntKind.wrap_u64]; omega
 have w2 : c.epoch = ((c.epoch.toNat : Nat) : Int) := by omega
 have hs1 := decB_len c.chain.toNat (by omega)
 have hs2 := decB_len c.epoch.toNat (by omega)
 refine VC.enterR L0 (show E0.func 23 = some Tryd.f23 by kernel_rfl) (fun _ _ => rfl) rfl rfl [] ?_
 ((conv=>whnf)<;>repeat(with_reducible refine D1 ?_)<;>conv=>whnf)
 refine ⟨[], [], _, _, _, _, refRight_ok c he.1, t3, ?_⟩
 rintro r o' c' ⟨rfl, rfl, rfl⟩
 rw [decide_eq_true hr]
 ((conv=>whnf)<;>repeat(with_reducible refine D1 ?_)<;>conv=>whnf)
 refine ⟨[], [], _, _, _, _, digits_ok c.chain.toNat (by omega), ⟨by ((repeat' first|with_reducible exact Lz.rfl|exact Lw.rfl|exact Lz.wrap (by omega)|(unfold goInt;with_reducible exact Lz.rfl)|exact flx _|constructor); all_goals (exact Lz.of (congrArg _ w1))), by ((repeat' first|with_reducible exact Lz.rfl|exact Lw.rfl|exact Lz.wrap (by omega)|(unfold goInt;with_reducible exact Lz.rfl)|exact flx _|constructor); all_goals (exact Lz.of (congrArg _ w1))), by rfl⟩, ?_⟩
 rintro r o' c' ⟨rfl, rfl, rfl⟩
 ((conv=>whnf)<;>repeat(with_reducible refine D1 ?_)<;>conv=>whnf)
 refine ⟨by simp only [ByteArray.size_append, bsz, List.size_toArray, List.length_cons, List.length_nil]; omega, ?_⟩
 ((conv=>whnf)<;>repeat(with_reducible refine D1 ?_)<;>conv=>whnf)
 refine ⟨by simp only [ByteArray.size_append, bsz, List.size_toArray, List.length_cons, List.length_nil]; omega, ?_⟩
 ((conv=>whnf)<;>repeat(with_reducible refine D1 ?_)<;>conv=>whnf)
 refine ⟨[], [], _, _, _, _, digits_ok c.epoch.toNat (by omega), ⟨by ((repeat' first|with_reducible exact Lz.rfl|exact Lw.rfl|exact Lz.wrap (by omega)|(unfold goInt;with_reducible exact Lz.rfl)|exact flx _|constructor); all_goals (exact Lz.of (congrArg _ w2))), by ((repeat' first|with_reducible exact Lz.rfl|exact Lw.rfl|exact Lz.wrap (by omega)|(unfold goInt;with_reducible exact Lz.rfl)|exact flx _|constructor); all_goals (exact Lz.of (congrArg _ w2))), by rfl⟩, ?_⟩
 rintro r o' c' ⟨rfl, rfl, rfl⟩
 ((conv=>whnf)<;>repeat(with_reducible refine D1 ?_)<;>conv=>whnf)
 refine ⟨by simp only [ByteArray.size_append, bsz, List.size_toArray, List.length_cons, List.length_nil]; omega, ?_⟩
 ((conv=>whnf)<;>repeat(with_reducible refine D1 ?_)<;>conv=>whnf)
 refine ⟨by simp only [ByteArray.size_append, bsz, List.size_toArray, List.length_cons, List.length_nil]; omega, ?_⟩
 ((conv=>whnf)<;>repeat(with_reducible refine D1 ?_)<;>conv=>whnf)
 have hall : ∀ n ∈ c.nodes, 1 ≤ n ∧ n ≤ 24 := fun n hn => hun.2 n (by unfold standL; exact List.mem_append_left _ hn)
 have hhd : (headT c).size ≤ 54 := by
  simp only [ByteArray.size_append, bsz, List.size_toArray, List.length_cons, List.length_nil]; omega
 refine ⟨fun k f o cc => ∃ i : Nat, i ≤ c.nodes.length ∧ k = c.nodes.length - i ∧ cc = 1 ∧ f = [(1, .ptr 0 0), (3, .s (.string (nodesT (headT c) (c.nodes.take i)))), (4, .s (.int .i64 i))] ∧ o = [(0, .cells (encCF c))], ⟨c.nodes.length, ?_⟩, ?_⟩
 ·exact ⟨[], [some 0], _, _, _, t3, ⟨0, Nat.zero_le _, rfl, rfl, rfl, rfl⟩⟩
 ·rintro k f1 o1 c1 ⟨i, hi, rfl, rfl, rfl, rfl⟩
  have hsz := nodesT_len (c.nodes.take i) (headT c) fun n hn => hall n (List.mem_of_mem_take hn)
  rw [List.length_take] at hsz
  ((conv=>whnf)<;>repeat(with_reducible refine D1 ?_)<;>conv=>whnf)
  (first|refine ⟨?_,?_⟩|refine nsplit ?_ ?_|refine bsplit ?_ ?_)<;>intro h<;>have hz_:=True.intro<;>clear hz_
  ·have h := lenlt.1 h
   have hn := hall _ (List.getElem_mem h)
   have hs3 := decB_len c.nodes[i].toNat (by omega)
   have w3 : IntKind.u64.wrap c.nodes[i] = ((c.nodes[i].toNat : Nat) : Int) := by rw [IntKind.wrap_u64]; omega
   ((conv=>whnf)<;>repeat(with_reducible refine D1 ?_)<;>conv=>whnf)
   refine ⟨by simp only [ByteArray.size_append, bsz, List.size_toArray, List.length_cons, List.length_nil]; omega, ?_⟩
   ((conv=>whnf)<;>repeat(with_reducible refine D1 ?_)<;>conv=>whnf)
   refine idxI h ?_
   ((conv=>whnf)<;>repeat(with_reducible refine D1 ?_)<;>conv=>whnf)
   refine ⟨[], [], _, _, _, _, digits_ok c.nodes[i].toNat (by omega), ⟨by ((repeat' first|with_reducible exact Lz.rfl|exact Lw.rfl|exact Lz.wrap (by omega)|(unfold goInt;with_reducible exact Lz.rfl)|exact flx _|constructor); all_goals (exact Lz.of (congrArg _ w3))), by ((repeat' first|with_reducible exact Lz.rfl|exact Lw.rfl|exact Lz.wrap (by omega)|(unfold goInt;with_reducible exact Lz.rfl)|exact flx _|constructor); all_goals (exact Lz.of (congrArg _ w3))), by rfl⟩, ?_⟩
   rintro r o' c' ⟨rfl, rfl, rfl⟩
   ((conv=>whnf)<;>repeat(with_reducible refine D1 ?_)<;>conv=>whnf)
   refine ⟨by simp only [ByteArray.size_append, bsz, List.size_toArray, List.length_cons, List.length_nil]; omega, ?_⟩
   ((conv=>whnf)<;>repeat(with_reducible refine D1 ?_)<;>conv=>whnf)
   refine ⟨c.nodes.length - (i + 1), ?_, by omega⟩
   refine ⟨[], [some 0], ?_⟩
   iterate 3 constructor
   refine ⟨⟨?_, ?_, ?_⟩, ⟨i + 1, h, rfl, rfl, rfl, rfl⟩⟩
   all_goals (repeat' first|with_reducible exact Lz.rfl|exact Lw.rfl|exact Lz.wrap (by omega)|(unfold goInt;with_reducible exact Lz.rfl)|exact flx _|constructor)
   exact Lz.of (congrArg _ (by rw [take_snoc c.nodes i h, nodesT_snoc]))
  ·have hi' : i = c.nodes.length := by have := mt lenlt.2 h
                                       omega
   subst hi'
   rw [List.take_length] at hsz ⊢
   have hj24 : c.join ≠ 0 → 1 ≤ c.join ∧ c.join ≤ 24 := fun hj => hun.2 c.join (by unfold standL; rw [if_neg hj]; simp)
   cases hf : c.fresh
   ·((conv=>whnf)<;>repeat(with_reducible refine D1 ?_)<;>conv=>whnf)
    (first|refine ⟨?_,?_⟩|refine nsplit ?_ ?_|refine bsplit ?_ ?_)<;>intro hj<;>have hz_:=True.intro<;>clear hz_
    ·have hj : c.join ≠ 0 := hj
     have hjr := hj24 hj
     have w4 : IntKind.u64.wrap c.join = ((c.join.toNat : Nat) : Int) := by rw [IntKind.wrap_u64]; omega
     have hs4 := decB_len c.join.toNat (by omega)
     ((conv=>whnf)<;>repeat(with_reducible refine D1 ?_)<;>conv=>whnf)
     refine ⟨by simp only [ByteArray.size_append, bsz, List.size_toArray, List.length_cons, List.length_nil]; omega, ?_⟩
     ((conv=>whnf)<;>repeat(with_reducible refine D1 ?_)<;>conv=>whnf)
     refine ⟨[], [], _, _, _, _, digits_ok c.join.toNat (by omega), ⟨by ((repeat' first|with_reducible exact Lz.rfl|exact Lw.rfl|exact Lz.wrap (by omega)|(unfold goInt;with_reducible exact Lz.rfl)|exact flx _|constructor); all_goals (exact Lz.of (congrArg _ w4))), by ((repeat' first|with_reducible exact Lz.rfl|exact Lw.rfl|exact Lz.wrap (by omega)|(unfold goInt;with_reducible exact Lz.rfl)|exact flx _|constructor); all_goals (exact Lz.of (congrArg _ w4))), by rfl⟩, ?_⟩
     rintro r o' c' ⟨rfl, rfl, rfl⟩
     ((conv=>whnf)<;>repeat(with_reducible refine D1 ?_)<;>conv=>whnf)
     refine ⟨by simp only [ByteArray.size_append, bsz, List.size_toArray, List.length_cons, List.length_nil]; omega, ?_⟩
     ((conv=>whnf)<;>repeat(with_reducible refine D1 ?_)<;>conv=>whnf)
     refine ⟨[], [], ?_⟩
     iterate 3 constructor
     refine ⟨⟨?_, ?_, ?_⟩, rfl, rfl, rfl⟩
     all_goals (repeat' first|with_reducible exact Lz.rfl|exact Lw.rfl|exact Lz.wrap (by omega)|(unfold goInt;with_reducible exact Lz.rfl)|exact flx _|constructor)
     exact Lz.of (congrArg _ (by unfold textT plusT starT; rw [hf, if_pos hj]; rfl))
    ·have hj : ¬ c.join ≠ 0 := hj
     ((conv=>whnf)<;>repeat(with_reducible refine D1 ?_)<;>conv=>whnf)
     refine ⟨[], [], ?_⟩
     iterate 3 constructor
     refine ⟨⟨?_, ?_, ?_⟩, rfl, rfl, rfl⟩
     all_goals (repeat' first|with_reducible exact Lz.rfl|exact Lw.rfl|exact Lz.wrap (by omega)|(unfold goInt;with_reducible exact Lz.rfl)|exact flx _|constructor)
     exact Lz.of (congrArg _ (by unfold textT plusT starT; rw [hf, if_neg hj]; rfl))
   ·have hj0 := (hfr hf).2
    ((conv=>whnf)<;>repeat(with_reducible refine D1 ?_)<;>conv=>whnf)
    refine ⟨by simp only [ByteArray.size_append, bsz, List.size_toArray, List.length_cons, List.length_nil]; omega, ?_⟩
    ((conv=>whnf)<;>repeat(with_reducible refine D1 ?_)<;>conv=>whnf)
    (first|refine ⟨?_,?_⟩|refine nsplit ?_ ?_|refine bsplit ?_ ?_)<;>intro hj<;>have hz_:=True.intro<;>clear hz_
    ·exact absurd hj0 hj
    ·have hj : ¬ c.join ≠ 0 := hj
     ((conv=>whnf)<;>repeat(with_reducible refine D1 ?_)<;>conv=>whnf)
     refine ⟨[], [], ?_⟩
     iterate 3 constructor
     refine ⟨⟨?_, ?_, ?_⟩, rfl, rfl, rfl⟩
     all_goals (repeat' first|with_reducible exact Lz.rfl|exact Lw.rfl|exact Lz.wrap (by omega)|(unfold goInt;with_reducible exact Lz.rfl)|exact flx _|constructor)
     exact Lz.of (congrArg _ (by unfold textT plusT starT; rw [hf, if_neg hj, if_pos rfl]))
end Go.M
namespace Go.M
open Go Go.Proofs
set_option maxRecDepth 100000
set_option maxHeartbeats 4000000
theorem fmt43_ok (n : Int) (h0 : 0 ≤ n) (h1 : n < 18446744073709551616) : VC E0 43 0 [.s (.int .u64 n), .s (.int .i64 10)] [] (RR (.s (.string (decB n.toNat))) 0 []) := by
 refine VC.enterR L0 (show E0.func 43 = some Tryd.f43 by kernel_rfl) (fun _ _ => rfl) rfl rfl [] ?_
 ((conv=>whnf)<;>repeat(with_reducible refine D1 ?_)<;>conv=>whnf)
 refine ⟨[], [], _, _, _, _, fmt61_ok n h0 h1 0 [], t3, ?_⟩
 rintro r o' c' ⟨rfl, rfl, rfl⟩
 ((conv=>whnf)<;>repeat(with_reducible refine D1 ?_)<;>conv=>whnf)
 exact ⟨[], [], _, _, _, t3, rfl, rfl, rfl⟩
theorem textNo_ok (c : CF) (hr : ¬ rightP c) : VC E0 22 0 [.agg (encCF c)] [] (RR (.s (.string ⟨#[]⟩)) 0 []) := by
 refine VC.enterR L0 (show E0.func 22 = some Tryd.f22 by kernel_rfl) (fun _ _ => rfl) rfl rfl [] ?_
 ((conv=>whnf)<;>repeat(with_reducible refine D1 ?_)<;>conv=>whnf)
 refine ⟨[], [], _, _, _, _, right_ok c, t3, ?_⟩
 rintro r o' c' ⟨rfl, rfl, rfl⟩
 rw [decide_eq_false hr]
 ((conv=>whnf)<;>repeat(with_reducible refine D1 ?_)<;>conv=>whnf)
 exact ⟨[], [], _, _, _, t3, rfl, rfl, rfl⟩
theorem refTextNo_ok (c : CF) (he : 0 ≤ c.epoch) (hr : ¬ rightP c) : VC E0 23 0 [.agg (encCF c)] [] (RR (.s (.string ⟨#[]⟩)) 0 []) := by
 refine VC.enterR L0 (show E0.func 23 = some Tryd.f23 by kernel_rfl) (fun _ _ => rfl) rfl rfl [] ?_
 ((conv=>whnf)<;>repeat(with_reducible refine D1 ?_)<;>conv=>whnf)
 refine ⟨[], [], _, _, _, _, refRight_ok c he, t3, ?_⟩
 rintro r o' c' ⟨rfl, rfl, rfl⟩
 rw [decide_eq_false hr]
 ((conv=>whnf)<;>repeat(with_reducible refine D1 ?_)<;>conv=>whnf)
 exact ⟨[], [], _, _, _, t3, rfl, rfl, rfl⟩
@[reducible] def baseX (c : CF) : List ByteArray := [⟨#[99, 104, 97, 105, 110]⟩, decB c.chain.toNat, ⟨#[101, 112, 111, 99, 104]⟩, decB c.epoch.toNat ++ ⟨#[58]⟩]
def nodesX (l : List Int) : List ByteArray := l.map fun n => decB n.toNat
theorem nodesX_snoc (c : CF) (l : List Int) (n : Int) : (baseX c ++ nodesX (l ++ [n])).map encS = (baseX c ++ nodesX l).map encS ++ [encS (decB n.toNat)] := by
 unfold nodesX
 rw [List.map_append (f := fun n : Int => decB n.toNat), ← List.append_assoc, List.map_append (f := encS)]
 rfl
theorem nodesT_data : ∀ (l : List Int) (acc : ByteArray), (nodesT acc l).data.toList = acc.data.toList ++ Lib.joinTail [32] ((nodesX l).map (·.data.toList))
 | [], acc => by simp [nodesT, nodesX, Lib.joinTail]
 | n :: l, acc => by
  show (nodesT (acc ++ ⟨#[32]⟩ ++ decB n.toNat) l).data.toList = _
  rw [nodesT_data l]
  simp [Lib.joinTail, nodesX, ByteArray.data_append]
theorem join_base (c : CF) : Lib.join ((baseX c ++ nodesX c.nodes).map (·.data.toList)) [32] = (nodesT (headT c) c.nodes).data.toList := by
 rw [nodesT_data, List.map_append]
 show Lib.join ((ByteArray.mk #[99, 104, 97, 105, 110]).data.toList :: _) [32] = _
 rw [Lib.join_cons]
 simp [Lib.joinTail, ByteArray.data_append]
theorem join_snoc (x : List UInt8) (r : List (List UInt8)) (y sep : List UInt8) : Lib.join (x :: r ++ [y]) sep = Lib.join (x :: r) sep ++ sep ++ y := by
 rw [List.cons_append, Lib.join_cons, Lib.join_cons]
 simp [Lib.joinTail]
theorem text_ok (c : CF) (he : 0 ≤ c.epoch ∧ c.epoch < 18446744073709551616) (hr : rightP c) : VC E0 22 0 [.agg (encCF c)] [] (RR (.s (.string (textT c))) 0 []) := by
 have hr' := hr
 obtain ⟨⟨h1, h2⟩, _, h5, hfr, hun⟩ := hr'
 have hs1 := decB_len c.chain.toNat (by omega)
 have hs2 := decB_len c.epoch.toNat (by omega)
 refine VC.enterR L0 (show E0.func 22 = some Tryd.f22 by kernel_rfl) (fun _ _ => rfl) rfl rfl [] ?_
 ((conv=>whnf)<;>repeat(with_reducible refine D1 ?_)<;>conv=>whnf)
 refine ⟨[], [], _, _, _, _, right_ok c, t3, ?_⟩
 rintro r o' c' ⟨rfl, rfl, rfl⟩
 rw [decide_eq_true hr]
 ((conv=>whnf)<;>repeat(with_reducible refine D1 ?_)<;>conv=>whnf)
 refine ⟨[], [], _, _, _, _, itoa_ok c.chain (by omega) (by omega) 0 [], t3, ?_⟩
 rintro r o' c' ⟨rfl, rfl, rfl⟩
 ((conv=>whnf)<;>repeat(with_reducible refine D1 ?_)<;>conv=>whnf)
 refine ⟨[], [], _, _, _, _, fmt43_ok c.epoch he.1 he.2, t3, ?_⟩
 rintro r o' c' ⟨rfl, rfl, rfl⟩
 ((conv=>whnf)<;>repeat(with_reducible refine D1 ?_)<;>conv=>whnf)
 refine ⟨by simp only [ByteArray.size_append, bsz, List.size_toArray, List.length_cons, List.length_nil]; omega, ?_⟩
 ((conv=>whnf)<;>repeat(with_reducible refine D1 ?_)<;>conv=>whnf)
 have hall : ∀ n ∈ c.nodes, 1 ≤ n ∧ n ≤ 24 := fun n hn => hun.2 n (by unfold standL; exact List.mem_append_left _ hn)
 refine ⟨fun k f o cc => ∃ i : Nat, i ≤ c.nodes.length ∧ k = c.nodes.length - i ∧ cc = 2 ∧ f = [(1, .ptr 0 0), (3, .tk 1), (18, .sl 1 (c.nodes.map encI1) false), (19, .s (.int .i64 c.nodes.length)), (20, .s (.int .i64 i))] ∧
  o = [(0, .cells (encCF c)), (1, .arr 1 true ((baseX c ++ nodesX (c.nodes.take i)).map encS))], ⟨c.nodes.length, ?_⟩, ?_⟩
 ·refine ⟨[], [some 0, some 1], ?_⟩
  iterate 3 constructor
  refine ⟨⟨?_, ?_, ?_⟩, ⟨0, Nat.zero_le _, rfl, rfl, rfl, rfl⟩⟩
  all_goals (repeat' first|with_reducible exact Lz.rfl|exact Lw.rfl|exact Lz.wrap (by omega)|(unfold goInt;with_reducible exact Lz.rfl)|exact flx _|constructor)
  all_goals first | exact Lz.of (by simp [goInt]) | exact Lw.of rfl | trace_state
 ·rintro k f1 o1 c1 ⟨i, hi, rfl, rfl, rfl, rfl⟩
  ((conv=>whnf)<;>repeat(with_reducible refine D1 ?_)<;>conv=>whnf)
  (first|refine ⟨?_,?_⟩|refine nsplit ?_ ?_|refine bsplit ?_ ?_)<;>intro h<;>have hz_:=True.intro<;>clear hz_
  ·have h : i < c.nodes.length := by simpa using h
   have hn := hall _ (List.getElem_mem h)
   ((conv=>whnf)<;>repeat(with_reducible refine D1 ?_)<;>conv=>whnf)
   refine idxI h ?_
   ((conv=>whnf)<;>repeat(with_reducible refine D1 ?_)<;>conv=>whnf)
   refine ⟨[], [], _, _, _, _, itoa_ok c.nodes[i] (by omega) (by omega) 0 [], t3, ?_⟩
   rintro r o' c' ⟨rfl, rfl, rfl⟩
   ((conv=>whnf)<;>repeat(with_reducible refine D1 ?_)<;>conv=>whnf)
   refine ⟨by simp [nodesX]; omega, ?_⟩
   ((conv=>whnf)<;>repeat(with_reducible refine D1 ?_)<;>conv=>whnf)
   refine ⟨c.nodes.length - (i + 1), ?_, by omega⟩
   refine ⟨[], [some 0, some 3], ?_⟩
   iterate 3 constructor
   refine ⟨⟨?_, ?_, ?_⟩, ⟨i + 1, h, rfl, rfl, rfl, rfl⟩⟩
   all_goals (repeat' first|with_reducible exact Lz.rfl|exact Lw.rfl|exact Lz.wrap (by omega)|(unfold goInt;with_reducible exact Lz.rfl)|exact flx _|constructor)
   all_goals first | exact Lw.of (by rw [take_snoc c.nodes i h]; exact (nodesX_snoc c _ _).symm) | trace_state
  ·have hi' : i = c.nodes.length := by have : ¬ i < c.nodes.length := by simpa using h
                                       omega
   subst hi'
   rw [List.take_length]
   generalize hX : baseX c ++ nodesX c.nodes = xs
   have hx : xs.length ≤ 9 ∧ 0 < xs.length := by
    rw [← hX]; simp [nodesX]; omega
   have hfin : ∀ ys : List ByteArray, 0 < ys.length → ys.length ≤ 100 → (Lib.join (ys.map (·.data.toList)) [32]).length ≤ 1000000 → VC E0 44 0 [.sl 1 (ys.map encS) false, .s (.string ⟨#[32]⟩)] [] (RR (.s (.string ⟨(Lib.join (ys.map (·.data.toList)) [32]).toArray⟩)) 0 []) := fun ys y1 y2 y3 => joinS_ok ys ⟨#[32]⟩ y1 (by omega) y3 0 []
   obtain ⟨ch, ep, nd, fr, jn⟩ := c
   cases fr
   ·((conv=>whnf)<;>repeat(with_reducible refine D1 ?_)<;>conv=>whnf)
    (first|refine ⟨?_,?_⟩|refine nsplit ?_ ?_|refine bsplit ?_ ?_)<;>intro hj<;>have hz_:=True.intro<;>clear hz_
    ·have hj : jn ≠ 0 := hj
     have hjr : 1 ≤ jn ∧ jn ≤ 24 := hun.2 jn (by unfold standL; rw [if_neg hj]; simp)
     have hs4 := decB_len jn.toNat (by omega)
     ((conv=>whnf)<;>repeat(with_reducible refine D1 ?_)<;>conv=>whnf)
     refine ⟨[], [], _, _, _, _, itoa_ok jn (by omega) (by omega) 0 [], t3, ?_⟩
     rintro r o' c' ⟨rfl, rfl, rfl⟩
     ((conv=>whnf)<;>repeat(with_reducible refine D1 ?_)<;>conv=>whnf)
     refine ⟨by show 1 + (decB jn.toNat).size ≤ _; omega, ?_⟩
     ((conv=>whnf)<;>repeat(with_reducible refine D1 ?_)<;>conv=>whnf)
     refine ⟨by simp; omega, ?_⟩
     ((conv=>whnf)<;>repeat(with_reducible refine D1 ?_)<;>conv=>whnf)
     subst hX
     have hln := nodesT_len nd (headT ⟨ch, ep, nd, false, jn⟩) hall
     dsimp only at hs1 hs2
     have hhd : (headT ⟨ch, ep, nd, false, jn⟩).size ≤ 54 := by
      simp only [ByteArray.size_append, bsz, List.size_toArray, List.length_cons, List.length_nil]; omega
     have hjo := join_base ⟨ch, ep, nd, false, jn⟩
     have h5' : nd.length ≤ 5 := h5.2
     have hjs : Lib.join ((baseX ⟨ch, ep, nd, false, jn⟩ ++ nodesX nd ++ [⟨#[43]⟩ ++ decB jn.toNat]).map (·.data.toList)) [32] = (nodesT (headT ⟨ch, ep, nd, false, jn⟩) nd).data.toList ++ [32] ++ (⟨#[43]⟩ ++ decB jn.toNat : ByteArray).data.toList := by
      rw [← hjo, List.map_append]
      exact join_snoc _ _ _ _
     have hjl : (Lib.join ((baseX ⟨ch, ep, nd, false, jn⟩ ++ nodesX nd ++ [⟨#[43]⟩ ++ decB jn.toNat]).map (·.data.toList)) [32]).length ≤ 1000000 := by
      rw [hjs, List.length_append, List.length_append, Array.length_toList, Array.length_toList]
      show (nodesT (headT ⟨ch, ep, nd, false, jn⟩) nd).size + 1 + (⟨#[43]⟩ ++ decB jn.toNat : ByteArray).size ≤ _
      rw [ByteArray.size_append]
      show _ + 1 + (1 + (decB jn.toNat).size) ≤ _
      omega
     refine ⟨[3], [], _, _, _, _, hfin _ (by simp) (by simp [nodesX]; omega) hjl, ⟨by ((repeat' first|with_reducible exact Lz.rfl|exact Lw.rfl|exact Lz.wrap (by omega)|(unfold goInt;with_reducible exact Lz.rfl)|exact flx _|constructor); all_goals (exact Lz.of (by simp only [List.map_append]; rfl))), by ((repeat' first|with_reducible exact Lz.rfl|exact Lw.rfl|exact Lz.wrap (by omega)|(unfold goInt;with_reducible exact Lz.rfl)|exact flx _|constructor); all_goals (exact Lz.of (by simp only [List.map_append]; rfl))), by rfl⟩, ?_⟩
     rintro r o' c' ⟨rfl, rfl, rfl⟩
     ((conv=>whnf)<;>repeat(with_reducible refine D1 ?_)<;>conv=>whnf)
     refine ⟨[], [], ?_⟩
     iterate 3 constructor
     refine ⟨⟨?_, ?_, ?_⟩, rfl, rfl, rfl⟩
     all_goals (repeat' first|with_reducible exact Lz.rfl|exact Lw.rfl|exact Lz.wrap (by omega)|(unfold goInt;with_reducible exact Lz.rfl)|exact flx _|constructor)
     refine Lz.of (congrArg _ ?_)
     apply ByteArray.ext
     rw [hjs]
     unfold textT plusT starT
     rw [if_pos hj]
     simp [ByteArray.data_append]
    ·((conv=>whnf)<;>repeat(with_reducible refine D1 ?_)<;>conv=>whnf)
     have hj : ¬ jn ≠ 0 := hj
     subst hX
     have hln := nodesT_len nd (headT ⟨ch, ep, nd, false, jn⟩) hall
     dsimp only at hs1 hs2
     have hhd : (headT ⟨ch, ep, nd, false, jn⟩).size ≤ 54 := by
      simp only [ByteArray.size_append, bsz, List.size_toArray, List.length_cons, List.length_nil]; omega
     have hjo := join_base ⟨ch, ep, nd, false, jn⟩
     have hjl : (Lib.join ((baseX ⟨ch, ep, nd, false, jn⟩ ++ nodesX nd).map (·.data.toList)) [32]).length ≤ 1000000 := by
      rw [hjo, Array.length_toList]
      show (nodesT _ _).size ≤ _
      have h5' : nd.length ≤ 5 := h5.2
      show (nodesT (headT ⟨ch, ep, nd, false, jn⟩) nd).size ≤ _
      omega
     refine ⟨[1], [], _, _, _, _, hfin _ hx.2 (by omega) hjl, ⟨by ((repeat' first|with_reducible exact Lz.rfl|exact Lw.rfl|exact Lz.wrap (by omega)|(unfold goInt;with_reducible exact Lz.rfl)|exact flx _|constructor); all_goals (skip)), by ((repeat' first|with_reducible exact Lz.rfl|exact Lw.rfl|exact Lz.wrap (by omega)|(unfold goInt;with_reducible exact Lz.rfl)|exact flx _|constructor); all_goals (skip)), by rfl⟩, ?_⟩
     rintro r o' c' ⟨rfl, rfl, rfl⟩
     ((conv=>whnf)<;>repeat(with_reducible refine D1 ?_)<;>conv=>whnf)
     refine ⟨[], [], ?_⟩
     iterate 3 constructor
     refine ⟨⟨?_, ?_, ?_⟩, rfl, rfl, rfl⟩
     all_goals (repeat' first|with_reducible exact Lz.rfl|exact Lw.rfl|exact Lz.wrap (by omega)|(unfold goInt;with_reducible exact Lz.rfl)|exact flx _|constructor)
     refine Lz.of (congrArg _ ?_)
     apply ByteArray.ext
     rw [hjo]
     unfold textT plusT starT
     rw [if_neg hj]
     simp
   ·obtain ⟨hm2, hj0⟩ := hfr rfl
    have hm2 : 2 ≤ nd.length := hm2
    have hne : nd ≠ [] := fun e => by rw [e] at hm2; simp at hm2
    obtain ⟨ini, z, hz⟩ : ∃ ini z, nd = ini ++ [z] := ⟨nd.dropLast, nd.getLast hne, (List.dropLast_concat_getLast hne).symm⟩
    have hzr := hall z (by rw [hz]; simp)
    have hzs := decB_len z.toNat (by omega)
    have hzl : nd.length = ini.length + 1 := by rw [hz]; simp
    have hjo := join_base ⟨ch, ep, ini, true, jn⟩
    have hbl : 0 < (baseX ⟨ch, ep, ini, true, jn⟩ ++ nodesX ini).length := by simp
    have hxs : xs = (baseX ⟨ch, ep, ini, true, jn⟩ ++ nodesX ini) ++ [decB z.toNat] := by
     rw [← hX]
     show baseX _ ++ nodesX nd = _
     rw [hz]
     simp [nodesX]
    have hjs : Lib.join (((baseX ⟨ch, ep, ini, true, jn⟩ ++ nodesX ini) ++ [decB z.toNat ++ ⟨#[42]⟩]).map (·.data.toList)) [32] = (nodesT (headT ⟨ch, ep, ini, true, jn⟩) ini).data.toList ++ [32] ++ (decB z.toNat ++ ⟨#[42]⟩ : ByteArray).data.toList := by
     rw [← hjo, List.map_append]
     exact join_snoc _ _ _ _
    have hln := nodesT_len ini (headT ⟨ch, ep, ini, true, jn⟩) fun n hn => hall n (by rw [hz]; exact List.mem_append_left _ hn)
    dsimp only at hs1 hs2
    have hhd : (headT ⟨ch, ep, ini, true, jn⟩).size ≤ 54 := by
     simp only [ByteArray.size_append, bsz, List.size_toArray, List.length_cons, List.length_nil]; omega
    have h5' : nd.length ≤ 5 := h5.2
    have hjl : (Lib.join (((baseX ⟨ch, ep, ini, true, jn⟩ ++ nodesX ini) ++ [decB z.toNat ++ ⟨#[42]⟩]).map (·.data.toList)) [32]).length ≤ 1000000 := by
     rw [hjs, List.length_append, List.length_append, Array.length_toList, Array.length_toList]
     show (nodesT (headT ⟨ch, ep, ini, true, jn⟩) ini).size + 1 + (decB z.toNat ++ ⟨#[42]⟩ : ByteArray).size ≤ _
     rw [ByteArray.size_append]
     show _ + 1 + ((decB z.toNat).size + 1) ≤ _
     omega
    have hfi : ByteArray.mk (Lib.join (((baseX ⟨ch, ep, ini, true, jn⟩ ++ nodesX ini) ++ [decB z.toNat ++ ⟨#[42]⟩]).map (·.data.toList)) [32]).toArray = textT ⟨ch, ep, nd, true, jn⟩ := by
     apply ByteArray.ext
     rw [hjs]
     unfold textT plusT starT
     rw [if_neg (fun e => e hj0), if_pos rfl]
     show _ = ((nodesT (headT ⟨ch, ep, nd, true, jn⟩) nd) ++ ⟨#[42]⟩).data
     rw [hz, nodesT_snoc]
     simp [ByteArray.data_append]
    have hy9 : (baseX ⟨ch, ep, ini, true, jn⟩ ++ nodesX ini).length ≤ 8 := by simp [nodesX]; omega
    clear hjo hjs hX hln hhd
    generalize baseX ⟨ch, ep, ini, true, jn⟩ ++ nodesX ini = ys at *
    subst hxs
    have hw : IntKind.i64.wrap (((((ys ++ [decB z.toNat]).map encS).length : Nat) : Int) - 1) = ((ys.length : Nat) : Int) := by
     rw [List.length_map, List.length_append, IntWalk.i64_in _ (by simp; omega)]; simp
    have hset : ((ys ++ [decB z.toNat]).map encS).set (IntKind.i64.wrap (((((ys ++ [decB z.toNat]).map encS).length : Nat) : Int) - 1)).toNat (encS (decB z.toNat ++ ⟨#[42]⟩)) = (ys ++ [decB z.toNat ++ ⟨#[42]⟩]).map encS := by
     rw [hw, Int.toNat_natCast, ← List.map_set, List.set_append_right _ _ (Nat.le_refl _), Nat.sub_self]
     rfl
    ((conv=>whnf)<;>repeat(with_reducible refine D1 ?_)<;>conv=>whnf)
    refine ⟨by rw [hw]; simp; omega, ?_⟩
    ((conv=>whnf)<;>repeat(with_reducible refine D1 ?_)<;>conv=>whnf)
    have hgl : ((ys ++ [decB z.toNat]).map encS)[(IntKind.i64.wrap (((((ys ++ [decB z.toNat]).map encS).length : Nat) : Int) - 1)).toNat]? = some (encS (decB z.toNat)) := by
     rw [hw, Int.toNat_natCast, List.getElem?_map, List.getElem?_append_right (Nat.le_refl _), Nat.sub_self]; rfl
    refine ⟨_, hgl, ?_⟩
    ((conv=>whnf)<;>repeat(with_reducible refine D1 ?_)<;>conv=>whnf)
    refine ⟨by show (decB z.toNat).size + 1 ≤ _; omega, ?_⟩
    ((conv=>whnf)<;>repeat(with_reducible refine D1 ?_)<;>conv=>whnf)
    refine ⟨by rw [hw]; simp; omega, ?_⟩
    ((conv=>whnf)<;>repeat(with_reducible refine D1 ?_)<;>conv=>whnf)
    refine ⟨_, hgl, ?_⟩
    ((conv=>whnf)<;>repeat(with_reducible refine D1 ?_)<;>conv=>whnf)
    (first|refine ⟨?_,?_⟩|refine nsplit ?_ ?_|refine bsplit ?_ ?_)<;>intro hj<;>have hz_:=True.intro<;>clear hz_
    ·exact absurd hj0 hj
    ((conv=>whnf)<;>repeat(with_reducible refine D1 ?_)<;>conv=>whnf)
    refine ⟨[1], [], _, _, _, _, hfin _ (by simp) (by simp; omega) hjl, ⟨by ((repeat' first|with_reducible exact Lz.rfl|exact Lw.rfl|exact Lz.wrap (by omega)|(unfold goInt;with_reducible exact Lz.rfl)|exact flx _|constructor); all_goals (first | exact Lz.of hset.symm | exact Lz.of hset)), by ((repeat' first|with_reducible exact Lz.rfl|exact Lw.rfl|exact Lz.wrap (by omega)|(unfold goInt;with_reducible exact Lz.rfl)|exact flx _|constructor); all_goals (first | exact Lz.of hset.symm | exact Lz.of hset)), by rfl⟩, ?_⟩
    rintro r o' c' ⟨rfl, rfl, rfl⟩
    ((conv=>whnf)<;>repeat(with_reducible refine D1 ?_)<;>conv=>whnf)
    refine ⟨[], [], ?_⟩
    iterate 3 constructor
    refine ⟨⟨?_, ?_, ?_⟩, rfl, rfl, rfl⟩
    all_goals (repeat' first|with_reducible exact Lz.rfl|exact Lw.rfl|exact Lz.wrap (by omega)|(unfold goInt;with_reducible exact Lz.rfl)|exact flx _|constructor)
    exact Lz.of (congrArg _ hfi)
end Go.M
namespace Go.M
open Go Go.Proofs
set_option maxRecDepth 100000
set_option maxHeartbeats 4000000
theorem settledL_len (c : CF) : (settledL c).length ≤ c.nodes.length := by
 unfold settledL
 split <;> simp
open Classical in
open Classical in
theorem confIs_ok (l : List CF) (c : CF) (n : Int) (hl : l.length ≤ maxLen) (hep : ∀ c ∈ l, 0 ≤ c.epoch ∧ c.epoch ≤ 18446744073709551615) (he : 0 ≤ c.epoch ∧ c.epoch ≤ 18446744073709551615) :
 VC E0 4 0 [.sl 5 (l.map encCF) false, .agg (encCF c), .s (.int .i64 n)] [] (fun r _ _ => r = .s (.bool true)) := by
 refine VC.enterR L0 (show E0.func 4 = some Tryd.f4 by kernel_rfl) (fun _ _ => rfl) rfl rfl [] ?_
 ((conv=>whnf)<;>repeat(with_reducible refine D1 ?_)<;>conv=>whnf)
 refine ⟨[], [], _, _, _, _, few_ok l hl, t3, ?_⟩
 rintro r o cc ⟨b, rfl, rfl, rfl, hb⟩
 have hz_ := True.intro
 clear hz_
 cases b
 ·((conv=>whnf)<;>repeat(with_reducible refine D1 ?_)<;>conv=>whnf)
  refine ⟨[], [], _, _, _, _, awake_r, t3, ?_⟩
  rintro r o' c' ⟨rfl, rfl, rfl⟩
  ((conv=>whnf)<;>repeat(with_reducible refine D1 ?_)<;>conv=>whnf)
  exact ⟨[], [], [], .s (.bool true), [], ⟨.s Lz.rfl, .nil, rfl⟩, rfl⟩
 ((conv=>whnf)<;>repeat(with_reducible refine D1 ?_)<;>conv=>whnf)
 have hbl := hb rfl
 refine ⟨[1], [], _, _, _, _, few_ok [c] (by simp [maxLen]), t3, ?_⟩
 rintro r o cc ⟨b, rfl, rfl, rfl, hc⟩
 have hz_ := True.intro
 clear hz_
 cases b
 ·((conv=>whnf)<;>repeat(with_reducible refine D1 ?_)<;>conv=>whnf)
  refine ⟨[], [], _, _, _, _, awake_r, t3, ?_⟩
  rintro r o' c' ⟨rfl, rfl, rfl⟩
  ((conv=>whnf)<;>repeat(with_reducible refine D1 ?_)<;>conv=>whnf)
  exact ⟨[], [], [], .s (.bool true), [], ⟨.s Lz.rfl, .nil, rfl⟩, rfl⟩
 ((conv=>whnf)<;>repeat(with_reducible refine D1 ?_)<;>conv=>whnf)
 have hcl := (hc rfl).2 c (by simp)
 have hsl := settledL_len c
 by_cases hr : rightP c
 ·refine ⟨[], [], _, _, _, _, right_ok c, t3, ?_⟩
  rintro r o c' ⟨rfl, rfl, rfl⟩
  rw [decide_eq_true hr]
  ((conv=>whnf)<;>repeat(with_reducible refine D1 ?_)<;>conv=>whnf)
  refine ⟨[], [], _, _, _, _, refRight_ok c he.1, t3, ?_⟩
  rintro r o c' ⟨rfl, rfl, rfl⟩
  rw [decide_eq_true hr]
  ((conv=>whnf)<;>repeat(with_reducible refine D1 ?_)<;>conv=>whnf)
  have hA1 := all_okC l
  have hA2 := refAll_okC l (fun x hx => (hep x hx).1) (by omega)
  generalize decide (allP l) = a at hA1 hA2
  have hU1 := used_ok l n (by omega) fun x hx => by have := hbl.2 x hx; omega
  have hU2 := refUsed_ok l n (by omega) fun x hx => by have := hbl.2 x hx; omega
  generalize decide (n ∈ allS l) = u at hU1 hU2
  have hS := sameAll_ok l l (by omega) fun x hx => by have := hbl.2 x hx; omega
  rw [eqB_iff.2 rfl] at hS
  have hC := sameC_ok c c (by omega)
  rw [eqB_iff.2 rfl] at hC
  refine ⟨[], [], _, _, _, _, hA1, t3, ?_⟩
  rintro r o' c' ⟨rfl, rfl, rfl⟩
  ((conv=>whnf)<;>repeat(with_reducible refine D1 ?_)<;>conv=>whnf)
  refine ⟨[], [], _, _, _, _, hA2, t3, ?_⟩
  rintro r o' c' ⟨rfl, rfl, rfl⟩
  ((conv=>whnf)<;>repeat(with_reducible refine D1 ?_)<;>conv=>whnf)
  repeat ((first | (refine ⟨fun h_ => ?_, fun h_ => ?_⟩) | (refine nsplit (fun h_ => ?_) (fun h_ => ?_)) | (refine bsplit (fun h_ => ?_) (fun h_ => ?_))) <;> first | (exfalso; revert h_; decide; done) | (exfalso; revert h_; simp; done) | (have hz_ := True.intro; clear hz_; ((conv=>whnf)<;>repeat(with_reducible refine D1 ?_)<;>conv=>whnf)))
  refine ⟨[], [], _, _, _, _, settledC_ok c hr, t3, ?_⟩
  rintro r o' c' ⟨rfl, rfl, rfl⟩
  ((conv=>whnf)<;>repeat(with_reducible refine D1 ?_)<;>conv=>whnf)
  repeat ((first | (refine ⟨fun h_ => ?_, fun h_ => ?_⟩) | (refine nsplit (fun h_ => ?_) (fun h_ => ?_)) | (refine bsplit (fun h_ => ?_) (fun h_ => ?_))) <;> first | (exfalso; revert h_; decide; done) | (exfalso; revert h_; simp; done) | (have hz_ := True.intro; clear hz_; ((conv=>whnf)<;>repeat(with_reducible refine D1 ?_)<;>conv=>whnf)))
  refine ⟨[], [], _, _, _, _, refSettled_ok c he.1 hr, t3, ?_⟩
  rintro r o' c' ⟨rfl, rfl, rfl⟩
  ((conv=>whnf)<;>repeat(with_reducible refine D1 ?_)<;>conv=>whnf)
  repeat ((first | (refine ⟨fun h_ => ?_, fun h_ => ?_⟩) | (refine nsplit (fun h_ => ?_) (fun h_ => ?_)) | (refine bsplit (fun h_ => ?_) (fun h_ => ?_))) <;> first | (exfalso; revert h_; decide; done) | (exfalso; revert h_; simp; done) | (have hz_ := True.intro; clear hz_; ((conv=>whnf)<;>repeat(with_reducible refine D1 ?_)<;>conv=>whnf)))
  refine ⟨[2], [], _, _, _, _, same04_ok (settledL c) (settledL c) (by omega), t3, ?_⟩
  rintro r o c' ⟨rfl, rfl, rfl⟩
  rw [eqB_iff.2 rfl]
  ((conv=>whnf)<;>repeat(with_reducible refine D1 ?_)<;>conv=>whnf)
  repeat ((first | (refine ⟨fun h_ => ?_, fun h_ => ?_⟩) | (refine nsplit (fun h_ => ?_) (fun h_ => ?_)) | (refine bsplit (fun h_ => ?_) (fun h_ => ?_))) <;> first | (exfalso; revert h_; decide; done) | (exfalso; revert h_; simp; done) | (have hz_ := True.intro; clear hz_; ((conv=>whnf)<;>repeat(with_reducible refine D1 ?_)<;>conv=>whnf)))
  refine ⟨[], [], _, _, _, _, hU1, t3, ?_⟩
  rintro r o' c' ⟨rfl, rfl, rfl⟩
  ((conv=>whnf)<;>repeat(with_reducible refine D1 ?_)<;>conv=>whnf)
  repeat ((first | (refine ⟨fun h_ => ?_, fun h_ => ?_⟩) | (refine nsplit (fun h_ => ?_) (fun h_ => ?_)) | (refine bsplit (fun h_ => ?_) (fun h_ => ?_))) <;> first | (exfalso; revert h_; decide; done) | (exfalso; revert h_; simp; done) | (have hz_ := True.intro; clear hz_; ((conv=>whnf)<;>repeat(with_reducible refine D1 ?_)<;>conv=>whnf)))
  refine ⟨[], [], _, _, _, _, hU2, t3, ?_⟩
  rintro r o' c' ⟨rfl, rfl, rfl⟩
  ((conv=>whnf)<;>repeat(with_reducible refine D1 ?_)<;>conv=>whnf)
  repeat ((first | (refine ⟨fun h_ => ?_, fun h_ => ?_⟩) | (refine nsplit (fun h_ => ?_) (fun h_ => ?_)) | (refine bsplit (fun h_ => ?_) (fun h_ => ?_))) <;> first | (exfalso; revert h_; decide; done) | (exfalso; revert h_; simp; done) | (have hz_ := True.intro; clear hz_; ((conv=>whnf)<;>repeat(with_reducible refine D1 ?_)<;>conv=>whnf)))
  refine ⟨[], [], _, _, _, _, text_ok c ⟨he.1, by omega⟩ hr, t3, ?_⟩
  rintro r o' c' ⟨rfl, rfl, rfl⟩
  ((conv=>whnf)<;>repeat(with_reducible refine D1 ?_)<;>conv=>whnf)
  refine ⟨[], [], _, _, _, _, refText_ok c ⟨he.1, by omega⟩ hr, t3, ?_⟩
  rintro r o' c' ⟨rfl, rfl, rfl⟩
  ((conv=>whnf)<;>repeat(with_reducible refine D1 ?_)<;>conv=>whnf)
  repeat ((first | (refine ⟨fun h_ => ?_, fun h_ => ?_⟩) | (refine nsplit (fun h_ => ?_) (fun h_ => ?_)) | (refine bsplit (fun h_ => ?_) (fun h_ => ?_))) <;> first | (exfalso; revert h_; decide; done) | (exfalso; revert h_; simp; done) | (have hz_ := True.intro; clear hz_; ((conv=>whnf)<;>repeat(with_reducible refine D1 ?_)<;>conv=>whnf)))
  refine ⟨[], [], _, _, _, _, copy_ok l (by omega) (fun x hx => by have := hbl.2 x hx; omega), t3, ?_⟩
  rintro r o' c' ⟨rfl, rfl, rfl⟩
  ((conv=>whnf)<;>repeat(with_reducible refine D1 ?_)<;>conv=>whnf)
  repeat ((first | (refine ⟨fun h_ => ?_, fun h_ => ?_⟩) | (refine nsplit (fun h_ => ?_) (fun h_ => ?_)) | (refine bsplit (fun h_ => ?_) (fun h_ => ?_))) <;> first | (exfalso; revert h_; decide; done) | (exfalso; revert h_; simp; done) | (have hz_ := True.intro; clear hz_; ((conv=>whnf)<;>repeat(with_reducible refine D1 ?_)<;>conv=>whnf)))
  refine ⟨[3], [], _, _, _, _, hS, t3, ?_⟩
  rintro r o' c' ⟨rfl, rfl, rfl⟩
  ((conv=>whnf)<;>repeat(with_reducible refine D1 ?_)<;>conv=>whnf)
  repeat ((first | (refine ⟨fun h_ => ?_, fun h_ => ?_⟩) | (refine nsplit (fun h_ => ?_) (fun h_ => ?_)) | (refine bsplit (fun h_ => ?_) (fun h_ => ?_))) <;> first | (exfalso; revert h_; decide; done) | (exfalso; revert h_; simp; done) | (have hz_ := True.intro; clear hz_; ((conv=>whnf)<;>repeat(with_reducible refine D1 ?_)<;>conv=>whnf)))
  refine ⟨[], [], _, _, _, _, hC, t3, ?_⟩
  rintro r o' c' ⟨rfl, rfl, rfl⟩
  ((conv=>whnf)<;>repeat(with_reducible refine D1 ?_)<;>conv=>whnf)
  repeat ((first | (refine ⟨fun h_ => ?_, fun h_ => ?_⟩) | (refine nsplit (fun h_ => ?_) (fun h_ => ?_)) | (refine bsplit (fun h_ => ?_) (fun h_ => ?_))) <;> first | (exfalso; revert h_; decide; done) | (exfalso; revert h_; simp; done) | (have hz_ := True.intro; clear hz_; ((conv=>whnf)<;>repeat(with_reducible refine D1 ?_)<;>conv=>whnf)))
  refine ⟨fun k f o cc => ∃ i : Nat, i ≤ l.length ∧ k = l.length - i ∧ cc = 1 ∧ f = [(0, .sl 5 (l.map encCF) false), (4, .ptr 0 0), (7, .s (.int .i64 i))] ∧ o = [(0, .cells (encCF c))], ⟨l.length, ?_⟩, ?_⟩
  ·exact ⟨[], [some 0], _, _, _, t3, ⟨0, Nat.zero_le _, rfl, rfl, rfl, rfl⟩⟩
  ·rintro k f1 o1 c1 ⟨i, hi, rfl, rfl, rfl, rfl⟩
   ((conv=>whnf)<;>repeat(with_reducible refine D1 ?_)<;>conv=>whnf)
   (first|refine ⟨?_,?_⟩|refine nsplit ?_ ?_|refine bsplit ?_ ?_)<;>intro h<;>have hz_:=True.intro<;>clear hz_
   ·have h : i < l.length := lenlt.1 h
    have hn := hbl.2 _ (List.getElem_mem h)
    have hs1 := sameC_ok l[i] c (by omega)
    have hs2 := sameCF_ok l[i] c (by omega)
    generalize eqB l[i] c = e at hs1 hs2
    ((conv=>whnf)<;>repeat(with_reducible refine D1 ?_)<;>conv=>whnf)
    refine idxI h ?_
    ((conv=>whnf)<;>repeat(with_reducible refine D1 ?_)<;>conv=>whnf)
    refine ⟨[], [], _, _, _, _, hs1, t3, ?_⟩
    rintro r o' c' ⟨rfl, rfl, rfl⟩
    ((conv=>whnf)<;>repeat(with_reducible refine D1 ?_)<;>conv=>whnf)
    refine idxI h ?_
    ((conv=>whnf)<;>repeat(with_reducible refine D1 ?_)<;>conv=>whnf)
    refine ⟨[], [], _, _, _, _, hs2, t3, ?_⟩
    rintro r o' c' ⟨rfl, rfl, rfl⟩
    ((conv=>whnf)<;>repeat(with_reducible refine D1 ?_)<;>conv=>whnf)
    repeat ((first | (refine ⟨fun h_ => ?_, fun h_ => ?_⟩) | (refine nsplit (fun h_ => ?_) (fun h_ => ?_)) | (refine bsplit (fun h_ => ?_) (fun h_ => ?_))) <;> first | (exfalso; revert h_; decide; done) | (exfalso; revert h_; simp; done) | (have hz_ := True.intro; clear hz_; ((conv=>whnf)<;>repeat(with_reducible refine D1 ?_)<;>conv=>whnf)))
    refine ⟨l.length - (i + 1), ?_, by omega⟩
    exact ⟨[], [some 0], _, _, _, t3, ⟨i + 1, h, rfl, rfl, rfl, rfl⟩⟩
   ·((conv=>whnf)<;>repeat(with_reducible refine D1 ?_)<;>conv=>whnf)
    refine ⟨[], [], _, _, _, _, awake_r, t3, ?_⟩
    rintro r o' c' ⟨rfl, rfl, rfl⟩
    ((conv=>whnf)<;>repeat(with_reducible refine D1 ?_)<;>conv=>whnf)
    exact ⟨[], [], [], .s (.bool true), [], ⟨.s Lz.rfl, .nil, rfl⟩, rfl⟩
 ·refine ⟨[], [], _, _, _, _, right_ok c, t3, ?_⟩
  rintro r o c' ⟨rfl, rfl, rfl⟩
  rw [decide_eq_false hr]
  ((conv=>whnf)<;>repeat(with_reducible refine D1 ?_)<;>conv=>whnf)
  refine ⟨[], [], _, _, _, _, refRight_ok c he.1, t3, ?_⟩
  rintro r o c' ⟨rfl, rfl, rfl⟩
  rw [decide_eq_false hr]
  ((conv=>whnf)<;>repeat(with_reducible refine D1 ?_)<;>conv=>whnf)
  have hA1 := all_okC l
  have hA2 := refAll_okC l (fun x hx => (hep x hx).1) (by omega)
  generalize decide (allP l) = a at hA1 hA2
  have hU1 := used_ok l n (by omega) fun x hx => by have := hbl.2 x hx; omega
  have hU2 := refUsed_ok l n (by omega) fun x hx => by have := hbl.2 x hx; omega
  generalize decide (n ∈ allS l) = u at hU1 hU2
  have hS := sameAll_ok l l (by omega) fun x hx => by have := hbl.2 x hx; omega
  rw [eqB_iff.2 rfl] at hS
  have hC := sameC_ok c c (by omega)
  rw [eqB_iff.2 rfl] at hC
  refine ⟨[], [], _, _, _, _, hA1, t3, ?_⟩
  rintro r o' c' ⟨rfl, rfl, rfl⟩
  ((conv=>whnf)<;>repeat(with_reducible refine D1 ?_)<;>conv=>whnf)
  refine ⟨[], [], _, _, _, _, hA2, t3, ?_⟩
  rintro r o' c' ⟨rfl, rfl, rfl⟩
  ((conv=>whnf)<;>repeat(with_reducible refine D1 ?_)<;>conv=>whnf)
  repeat ((first | (refine ⟨fun h_ => ?_, fun h_ => ?_⟩) | (refine nsplit (fun h_ => ?_) (fun h_ => ?_)) | (refine bsplit (fun h_ => ?_) (fun h_ => ?_))) <;> first | (exfalso; revert h_; decide; done) | (exfalso; revert h_; simp; done) | (have hz_ := True.intro; clear hz_; ((conv=>whnf)<;>repeat(with_reducible refine D1 ?_)<;>conv=>whnf)))
  refine ⟨[], [], _, _, _, _, settledNo_ok c hr, t3, ?_⟩
  rintro r o' c' ⟨rfl, rfl, rfl⟩
  ((conv=>whnf)<;>repeat(with_reducible refine D1 ?_)<;>conv=>whnf)
  repeat ((first | (refine ⟨fun h_ => ?_, fun h_ => ?_⟩) | (refine nsplit (fun h_ => ?_) (fun h_ => ?_)) | (refine bsplit (fun h_ => ?_) (fun h_ => ?_))) <;> first | (exfalso; revert h_; decide; done) | (exfalso; revert h_; simp; done) | (have hz_ := True.intro; clear hz_; ((conv=>whnf)<;>repeat(with_reducible refine D1 ?_)<;>conv=>whnf)))
  refine ⟨[], [], _, _, _, _, refSettledNo_ok c he.1 hr, t3, ?_⟩
  rintro r o' c' ⟨rfl, rfl, rfl⟩
  ((conv=>whnf)<;>repeat(with_reducible refine D1 ?_)<;>conv=>whnf)
  repeat ((first | (refine ⟨fun h_ => ?_, fun h_ => ?_⟩) | (refine nsplit (fun h_ => ?_) (fun h_ => ?_)) | (refine bsplit (fun h_ => ?_) (fun h_ => ?_))) <;> first | (exfalso; revert h_; decide; done) | (exfalso; revert h_; simp; done) | (have hz_ := True.intro; clear hz_; ((conv=>whnf)<;>repeat(with_reducible refine D1 ?_)<;>conv=>whnf)))
  refine ⟨[], [], _, _, _, _, same04_ok [] [] (by decide), t3, ?_⟩
  rintro r o c' ⟨rfl, rfl, rfl⟩
  rw [eqB_iff.2 rfl]
  ((conv=>whnf)<;>repeat(with_reducible refine D1 ?_)<;>conv=>whnf)
  repeat ((first | (refine ⟨fun h_ => ?_, fun h_ => ?_⟩) | (refine nsplit (fun h_ => ?_) (fun h_ => ?_)) | (refine bsplit (fun h_ => ?_) (fun h_ => ?_))) <;> first | (exfalso; revert h_; decide; done) | (exfalso; revert h_; simp; done) | (have hz_ := True.intro; clear hz_; ((conv=>whnf)<;>repeat(with_reducible refine D1 ?_)<;>conv=>whnf)))
  refine ⟨[], [], _, _, _, _, hU1, t3, ?_⟩
  rintro r o' c' ⟨rfl, rfl, rfl⟩
  ((conv=>whnf)<;>repeat(with_reducible refine D1 ?_)<;>conv=>whnf)
  repeat ((first | (refine ⟨fun h_ => ?_, fun h_ => ?_⟩) | (refine nsplit (fun h_ => ?_) (fun h_ => ?_)) | (refine bsplit (fun h_ => ?_) (fun h_ => ?_))) <;> first | (exfalso; revert h_; decide; done) | (exfalso; revert h_; simp; done) | (have hz_ := True.intro; clear hz_; ((conv=>whnf)<;>repeat(with_reducible refine D1 ?_)<;>conv=>whnf)))
  refine ⟨[], [], _, _, _, _, hU2, t3, ?_⟩
  rintro r o' c' ⟨rfl, rfl, rfl⟩
  ((conv=>whnf)<;>repeat(with_reducible refine D1 ?_)<;>conv=>whnf)
  repeat ((first | (refine ⟨fun h_ => ?_, fun h_ => ?_⟩) | (refine nsplit (fun h_ => ?_) (fun h_ => ?_)) | (refine bsplit (fun h_ => ?_) (fun h_ => ?_))) <;> first | (exfalso; revert h_; decide; done) | (exfalso; revert h_; simp; done) | (have hz_ := True.intro; clear hz_; ((conv=>whnf)<;>repeat(with_reducible refine D1 ?_)<;>conv=>whnf)))
  refine ⟨[], [], _, _, _, _, textNo_ok c hr, t3, ?_⟩
  rintro r o' c' ⟨rfl, rfl, rfl⟩
  ((conv=>whnf)<;>repeat(with_reducible refine D1 ?_)<;>conv=>whnf)
  refine ⟨[], [], _, _, _, _, refTextNo_ok c he.1 hr, t3, ?_⟩
  rintro r o' c' ⟨rfl, rfl, rfl⟩
  ((conv=>whnf)<;>repeat(with_reducible refine D1 ?_)<;>conv=>whnf)
  repeat ((first | (refine ⟨fun h_ => ?_, fun h_ => ?_⟩) | (refine nsplit (fun h_ => ?_) (fun h_ => ?_)) | (refine bsplit (fun h_ => ?_) (fun h_ => ?_))) <;> first | (exfalso; revert h_; decide; done) | (exfalso; revert h_; simp; done) | (have hz_ := True.intro; clear hz_; ((conv=>whnf)<;>repeat(with_reducible refine D1 ?_)<;>conv=>whnf)))
  refine ⟨[], [], _, _, _, _, copy_ok l (by omega) (fun x hx => by have := hbl.2 x hx; omega), t3, ?_⟩
  rintro r o' c' ⟨rfl, rfl, rfl⟩
  ((conv=>whnf)<;>repeat(with_reducible refine D1 ?_)<;>conv=>whnf)
  repeat ((first | (refine ⟨fun h_ => ?_, fun h_ => ?_⟩) | (refine nsplit (fun h_ => ?_) (fun h_ => ?_)) | (refine bsplit (fun h_ => ?_) (fun h_ => ?_))) <;> first | (exfalso; revert h_; decide; done) | (exfalso; revert h_; simp; done) | (have hz_ := True.intro; clear hz_; ((conv=>whnf)<;>repeat(with_reducible refine D1 ?_)<;>conv=>whnf)))
  refine ⟨[2], [], _, _, _, _, hS, t3, ?_⟩
  rintro r o' c' ⟨rfl, rfl, rfl⟩
  ((conv=>whnf)<;>repeat(with_reducible refine D1 ?_)<;>conv=>whnf)
  repeat ((first | (refine ⟨fun h_ => ?_, fun h_ => ?_⟩) | (refine nsplit (fun h_ => ?_) (fun h_ => ?_)) | (refine bsplit (fun h_ => ?_) (fun h_ => ?_))) <;> first | (exfalso; revert h_; decide; done) | (exfalso; revert h_; simp; done) | (have hz_ := True.intro; clear hz_; ((conv=>whnf)<;>repeat(with_reducible refine D1 ?_)<;>conv=>whnf)))
  refine ⟨[], [], _, _, _, _, hC, t3, ?_⟩
  rintro r o' c' ⟨rfl, rfl, rfl⟩
  ((conv=>whnf)<;>repeat(with_reducible refine D1 ?_)<;>conv=>whnf)
  repeat ((first | (refine ⟨fun h_ => ?_, fun h_ => ?_⟩) | (refine nsplit (fun h_ => ?_) (fun h_ => ?_)) | (refine bsplit (fun h_ => ?_) (fun h_ => ?_))) <;> first | (exfalso; revert h_; decide; done) | (exfalso; revert h_; simp; done) | (have hz_ := True.intro; clear hz_; ((conv=>whnf)<;>repeat(with_reducible refine D1 ?_)<;>conv=>whnf)))
  refine ⟨fun k f o cc => ∃ i : Nat, i ≤ l.length ∧ k = l.length - i ∧ cc = 1 ∧ f = [(0, .sl 5 (l.map encCF) false), (4, .ptr 0 0), (7, .s (.int .i64 i))] ∧ o = [(0, .cells (encCF c))], ⟨l.length, ?_⟩, ?_⟩
  ·exact ⟨[], [some 0], _, _, _, t3, ⟨0, Nat.zero_le _, rfl, rfl, rfl, rfl⟩⟩
  ·rintro k f1 o1 c1 ⟨i, hi, rfl, rfl, rfl, rfl⟩
   ((conv=>whnf)<;>repeat(with_reducible refine D1 ?_)<;>conv=>whnf)
   (first|refine ⟨?_,?_⟩|refine nsplit ?_ ?_|refine bsplit ?_ ?_)<;>intro h<;>have hz_:=True.intro<;>clear hz_
   ·have h : i < l.length := lenlt.1 h
    have hn := hbl.2 _ (List.getElem_mem h)
    have hs1 := sameC_ok l[i] c (by omega)
    have hs2 := sameCF_ok l[i] c (by omega)
    generalize eqB l[i] c = e at hs1 hs2
    ((conv=>whnf)<;>repeat(with_reducible refine D1 ?_)<;>conv=>whnf)
    refine idxI h ?_
    ((conv=>whnf)<;>repeat(with_reducible refine D1 ?_)<;>conv=>whnf)
    refine ⟨[], [], _, _, _, _, hs1, t3, ?_⟩
    rintro r o' c' ⟨rfl, rfl, rfl⟩
    ((conv=>whnf)<;>repeat(with_reducible refine D1 ?_)<;>conv=>whnf)
    refine idxI h ?_
    ((conv=>whnf)<;>repeat(with_reducible refine D1 ?_)<;>conv=>whnf)
    refine ⟨[], [], _, _, _, _, hs2, t3, ?_⟩
    rintro r o' c' ⟨rfl, rfl, rfl⟩
    ((conv=>whnf)<;>repeat(with_reducible refine D1 ?_)<;>conv=>whnf)
    repeat ((first | (refine ⟨fun h_ => ?_, fun h_ => ?_⟩) | (refine nsplit (fun h_ => ?_) (fun h_ => ?_)) | (refine bsplit (fun h_ => ?_) (fun h_ => ?_))) <;> first | (exfalso; revert h_; decide; done) | (exfalso; revert h_; simp; done) | (have hz_ := True.intro; clear hz_; ((conv=>whnf)<;>repeat(with_reducible refine D1 ?_)<;>conv=>whnf)))
    refine ⟨l.length - (i + 1), ?_, by omega⟩
    exact ⟨[], [some 0], _, _, _, t3, ⟨i + 1, h, rfl, rfl, rfl, rfl⟩⟩
   ·((conv=>whnf)<;>repeat(with_reducible refine D1 ?_)<;>conv=>whnf)
    refine ⟨[], [], _, _, _, _, awake_r, t3, ?_⟩
    rintro r o' c' ⟨rfl, rfl, rfl⟩
    ((conv=>whnf)<;>repeat(with_reducible refine D1 ?_)<;>conv=>whnf)
    exact ⟨[], [], [], .s (.bool true), [], ⟨.s Lz.rfl, .nil, rfl⟩, rfl⟩
end Go.M
namespace Go.M
open Go Go.Proofs Go.RowKit Go.Shelf Go.Sort Go.Lib
set_option maxRecDepth 1000000
def fint_ren : Go.Shelf.Ren := ⟨fun | 246 => 70 | 283 => 71 | 284 => 72 | 285 => 73 | 286 => 74 | 129 => 79 | 317 => 78 | 318 => 80 | 319 => 81 | 320 => 82 | 337 => 85 | 338 => 86 | n => n, fun | 2 => 2 | 3 => 3 | 9 => 9 | 4 => 4 | 171 => 84 | 0 => 0 | 53 => 29 | 37 => 71 | 5 => 5 | 173 => 87 | 212 => 93 | 51 => 94 | 20 => 20 | 213 => 95 | 46 => 96 | 232 => 102 | 233 => 103 | n => n, fun | 17 => 0 | 18 => 2 | 19 => 3 | n => n⟩
theorem fint : Go.Proofs.LaysM.n246 Tryd.prog fint_ren where
 mixed := by kernel_rfl
 f129 := Tryd.func79.trans (congrArg some (by kernel_rfl))
 f246 := Tryd.func70.trans (congrArg some (by kernel_rfl))
 f283 := Tryd.func71.trans (congrArg some (by kernel_rfl))
 f284 := Tryd.func72.trans (congrArg some (by kernel_rfl))
 f285 := Tryd.func73.trans (congrArg some (by kernel_rfl))
 f286 := Tryd.func74.trans (congrArg some (by kernel_rfl))
 f317 := Tryd.func78.trans (congrArg some (by kernel_rfl))
 f318 := Tryd.func80.trans (congrArg some (by kernel_rfl))
 f319 := Tryd.func81.trans (congrArg some (by kernel_rfl))
 f320 := Tryd.func82.trans (congrArg some (by kernel_rfl))
 f337 := Tryd.func85.trans (congrArg some (by kernel_rfl))
 f338 := Tryd.func86.trans (congrArg some (by kernel_rfl))
 t0 := Tryd.underlying0
 a0 := Tryd.isAgg0
 z0 := Tryd.sizeOf0
 v0 := Tryd.zeroValue0
 t2 := Tryd.underlying2
 a2 := Tryd.isAgg2
 z2 := Tryd.sizeOf2
 v2 := Tryd.zeroValue2
 t3 := Tryd.underlying3
 a3 := Tryd.isAgg3
 z3 := Tryd.sizeOf3
 v3 := Tryd.zeroValue3
 t4 := Tryd.underlying4
 a4 := Tryd.isAgg4
 z4 := Tryd.sizeOf4
 v4 := Tryd.zeroValue4
 t5 := Tryd.underlying5
 a5 := Tryd.isAgg5
 z5 := Tryd.sizeOf5
 v5 := Tryd.zeroValue5
 t9 := Tryd.underlying9
 a9 := Tryd.isAgg9
 z9 := Tryd.sizeOf9
 v9 := Tryd.zeroValue9
 t20 := Tryd.underlying20
 a20 := Tryd.isAgg20
 z20 := Tryd.sizeOf20
 v20 := Tryd.zeroValue20
 t37 := Tryd.underlying71
 a37 := Tryd.isAgg71
 z37 := Tryd.sizeOf71
 v37 := Tryd.zeroValue71
 t46 := Tryd.underlying96
 a46 := Tryd.isAgg96
 z46 := Tryd.sizeOf96
 v46 := Tryd.zeroValue96
 t51 := Tryd.underlying94
 a51 := Tryd.isAgg94
 z51 := Tryd.sizeOf94
 v51 := Tryd.zeroValue94
 t53 := Tryd.underlying29
 a53 := Tryd.isAgg29
 z53 := Tryd.sizeOf29
 v53 := Tryd.zeroValue29
 t171 := Tryd.underlying84
 a171 := Tryd.isAgg84
 z171 := Tryd.sizeOf84
 v171 := Tryd.zeroValue84
 t173 := Tryd.underlying87
 a173 := Tryd.isAgg87
 z173 := Tryd.sizeOf87
 v173 := Tryd.zeroValue87
 t212 := Tryd.underlying93
 a212 := Tryd.isAgg93
 z212 := Tryd.sizeOf93
 v212 := Tryd.zeroValue93
 t213 := Tryd.underlying95
 a213 := Tryd.isAgg95
 z213 := Tryd.sizeOf95
 t232 := Tryd.underlying102
 a232 := Tryd.isAgg102
 z232 := Tryd.sizeOf102
 v232 := Tryd.zeroValue102
 t233 := Tryd.underlying103
 a233 := Tryd.isAgg103
 z233 := Tryd.sizeOf103
 v233 := Tryd.zeroValue103
 g17 := by kernel_rfl
 g18 := by kernel_rfl
 g19 := by kernel_rfl
 i0 := by kernel_rfl
 i2 := by kernel_rfl
 i3 := by kernel_rfl
 i4 := by kernel_rfl
 i5 := by kernel_rfl
 i9 := by kernel_rfl
 i20 := by kernel_rfl
 i37 := by kernel_rfl
 i46 := by kernel_rfl
 i51 := by kernel_rfl
 i53 := by kernel_rfl
 i171 := by kernel_rfl
 i173 := by kernel_rfl
 i212 := by kernel_rfl
 i232 := by kernel_rfl
 i233 := by kernel_rfl
 m17 := by kernel_rfl
 m18 := by kernel_rfl
 m19 := by kernel_rfl
def itoa_ren : Go.Shelf.Ren := ⟨fun | 171 => 42 | 243 => 60 | 246 => 70 | 283 => 71 | 284 => 72 | 285 => 73 | 286 => 74 | 129 => 79 | 317 => 78 | 318 => 80 | 319 => 81 | 320 => 82 | 337 => 85 | 338 => 86 | n => n, fun | 3 => 3 | 9 => 9 | 2 => 2 | 4 => 4 | 171 => 84 | 0 => 0 | 53 => 29 | 37 => 71 | 5 => 5 | 173 => 87 | 212 => 93 | 51 => 94 | 20 => 20 | 213 => 95 | 46 => 96 | 232 => 102 | 233 => 103 | n => n, fun | 17 => 0 | 18 => 2 | 19 => 3 | n => n⟩
theorem itoa : Go.Proofs.LaysM.n171 Tryd.prog itoa_ren where
 mixed := by kernel_rfl
 f129 := Tryd.func79.trans (congrArg some (by kernel_rfl))
 f171 := Tryd.func42.trans (congrArg some (by kernel_rfl))
 f243 := Tryd.func60.trans (congrArg some (by kernel_rfl))
 f246 := Tryd.func70.trans (congrArg some (by kernel_rfl))
 f283 := Tryd.func71.trans (congrArg some (by kernel_rfl))
 f284 := Tryd.func72.trans (congrArg some (by kernel_rfl))
 f285 := Tryd.func73.trans (congrArg some (by kernel_rfl))
 f286 := Tryd.func74.trans (congrArg some (by kernel_rfl))
 f317 := Tryd.func78.trans (congrArg some (by kernel_rfl))
 f318 := Tryd.func80.trans (congrArg some (by kernel_rfl))
 f319 := Tryd.func81.trans (congrArg some (by kernel_rfl))
 f320 := Tryd.func82.trans (congrArg some (by kernel_rfl))
 f337 := Tryd.func85.trans (congrArg some (by kernel_rfl))
 f338 := Tryd.func86.trans (congrArg some (by kernel_rfl))
 t0 := Tryd.underlying0
 a0 := Tryd.isAgg0
 z0 := Tryd.sizeOf0
 v0 := Tryd.zeroValue0
 t2 := Tryd.underlying2
 a2 := Tryd.isAgg2
 z2 := Tryd.sizeOf2
 v2 := Tryd.zeroValue2
 t3 := Tryd.underlying3
 a3 := Tryd.isAgg3
 z3 := Tryd.sizeOf3
 v3 := Tryd.zeroValue3
 t4 := Tryd.underlying4
 a4 := Tryd.isAgg4
 z4 := Tryd.sizeOf4
 v4 := Tryd.zeroValue4
 t5 := Tryd.underlying5
 a5 := Tryd.isAgg5
 z5 := Tryd.sizeOf5
 v5 := Tryd.zeroValue5
 t9 := Tryd.underlying9
 a9 := Tryd.isAgg9
 z9 := Tryd.sizeOf9
 v9 := Tryd.zeroValue9
 t20 := Tryd.underlying20
 a20 := Tryd.isAgg20
 z20 := Tryd.sizeOf20
 v20 := Tryd.zeroValue20
 t37 := Tryd.underlying71
 a37 := Tryd.isAgg71
 z37 := Tryd.sizeOf71
 v37 := Tryd.zeroValue71
 t46 := Tryd.underlying96
 a46 := Tryd.isAgg96
 z46 := Tryd.sizeOf96
 v46 := Tryd.zeroValue96
 t51 := Tryd.underlying94
 a51 := Tryd.isAgg94
 z51 := Tryd.sizeOf94
 v51 := Tryd.zeroValue94
 t53 := Tryd.underlying29
 a53 := Tryd.isAgg29
 z53 := Tryd.sizeOf29
 v53 := Tryd.zeroValue29
 t171 := Tryd.underlying84
 a171 := Tryd.isAgg84
 z171 := Tryd.sizeOf84
 v171 := Tryd.zeroValue84
 t173 := Tryd.underlying87
 a173 := Tryd.isAgg87
 z173 := Tryd.sizeOf87
 v173 := Tryd.zeroValue87
 t212 := Tryd.underlying93
 a212 := Tryd.isAgg93
 z212 := Tryd.sizeOf93
 v212 := Tryd.zeroValue93
 t213 := Tryd.underlying95
 a213 := Tryd.isAgg95
 z213 := Tryd.sizeOf95
 t232 := Tryd.underlying102
 a232 := Tryd.isAgg102
 z232 := Tryd.sizeOf102
 v232 := Tryd.zeroValue102
 t233 := Tryd.underlying103
 a233 := Tryd.isAgg103
 z233 := Tryd.sizeOf103
 v233 := Tryd.zeroValue103
 g17 := by kernel_rfl
 g18 := by kernel_rfl
 g19 := by kernel_rfl
 i0 := by kernel_rfl
 i2 := by kernel_rfl
 i3 := by kernel_rfl
 i4 := by kernel_rfl
 i5 := by kernel_rfl
 i9 := by kernel_rfl
 i20 := by kernel_rfl
 i37 := by kernel_rfl
 i46 := by kernel_rfl
 i51 := by kernel_rfl
 i53 := by kernel_rfl
 i171 := by kernel_rfl
 i173 := by kernel_rfl
 i212 := by kernel_rfl
 i232 := by kernel_rfl
 i233 := by kernel_rfl
 m17 := by kernel_rfl
 m18 := by kernel_rfl
 m19 := by kernel_rfl
end Go.M
namespace Go.Proofs
open Go.Shelf Go.RowKit Go.Sort Go.Lib Go.M
set_option maxHeartbeats 6400000
set_option maxRecDepth 100000
def PowT (w : World) : Prop := ∀ q, q < 20 → w.cell? ⟨0, q, none⟩ = some (.int .u64 ((10 ^ q : Nat) : Int))
theorem PowT.alloc {w : World} (h : PowT w) (o : Obj) : PowT (w.alloc o) := fun q hq => by
 rw [World.cell?_of_block (w := w) (w' := w.alloc o) (Below.heap_alloc w o 0 (by
  have := h q hq
  unfold World.cell? at this
  cases hb : w.heap[0]? with
  | none => simp [hb] at this
  | some x => exact (Array.getElem?_eq_some_iff.1 hb).1))]
 exact h q hq
theorem numDigits72 (u : Nat) (h1 : 1 ≤ u) (h2 : u < 18446744073709551616) (w : World) (ht : PowT w) : Calls Tryd.prog 72 #[.int .u64 u] w fun e w' => e = .returned (.int .i64 (Lib.nDigits u)) ∧ w' = w := by
 obtain ⟨hnd, h19⟩ := Lib.numDigits_eq u h1 h2
 have hL : Lib.bitLen u ≤ 64 := Lib.bitLen_le u 64 (Nat.le_refl _) h2
 have hcell := ht (Lib.l10 (Lib.bitLen u)) (by omega)
 have hto : ((u : Int)).toNat = u := by omega
 generalize hq : Lib.l10 (Lib.bitLen u) = q at hnd h19 hcell
 generalize hT : 10 ^ q = T at hnd hcell
 have h20 : q < 20 := by omega
 have Hnd := Lib.hid hnd
 clear hnd ht
 go_enter Tryd.func72, Tryd.ntmps72
 go_wp2_with (first
  | (go_at_call 79; refine (Any.bits_Len64 { fint with } _ _ (by omega) (by omega)).mono ?_; rintro e w' ⟨rfl, rfl⟩)
  | (go_at_call 78; refine (Any.internal_strconv_log10Pow2 { fint with } _ (by first | exact hL | (rw [hto]; exact hL)) _).mono ?_; rintro e w' ⟨rfl, rfl⟩)
  | (go_at_call 80; refine (Any.internal_strconv_bool2_int { fint with } _ _).mono ?_; rintro e w' ⟨rfl, rfl⟩))
 all_goals go_ret
 all_goals (
  refine ⟨?_, rfl⟩
  have hnd := Hnd.out
  congr 2
  split at hnd <;> simp_all <;> omega)
theorem formatUint61 (u : Nat) (hu64 : u < 18446744073709551616) (w : World) (ht : PowT w) :
 Calls Tryd.prog 61 #[.int .u64 u, .int .i64 10] w fun e w' => e = .returned (.string ⟨(Lib.decDigits u).toArray⟩) ∧ Below w.heap.size w w' := by
 by_cases hs : u < 100
 ·have hwr : IntKind.i64.wrap (u : Int) = (u : Int) := IntWalk.i64_in _ ⟨by omega, by omega⟩
  go_enter Tryd.func61, Tryd.ntmps61
  go_wp2_with (go_at_call 71; refine (Any.internal_strconv_small { fint with } u hs _).mono ?_; rintro e w' ⟨rfl, rfl⟩)
  go_ret
  exact ⟨rfl, Below.refl _ _⟩
 ·have hu1 : 1 ≤ u := by omega
  have hnd : Lib.nDigits u ≤ 20 := Lib.nDigits_le20 u hu64
  have hal : Tryd.prog.arrayLen 84 = 24 := by simp [Program.arrayLen, Tryd.underlying84]
  have hsl : ∀ W, (Instr.sliceAt 84 (.pointer (some ⟨w.heap.size, 0, none⟩)) none (some (.int .i64 (Lib.nDigits u : Int))) none).run Tryd.prog W = .ok (.slice (some ⟨w.heap.size, 0, none⟩) (Lib.nDigits u) 24) W := fun W => by
   rw [run_sliceAt_array_h W 84 ⟨w.heap.size, 0, none⟩ (by simp [Program.arrayLen, Program.elem, Tryd.underlying84]) .i64 (Lib.nDigits u : Int) (by omega) (by rw [hal]; omega)]
   go_simp
  have hH0 := Lib.holds_zero0 w 84 (Lib.nDigits u) (by omega)
  have hfmt := Any.internal_strconv_formatBase10 { fint with } w.heap.size 0 24 u (Array.replicate (Lib.nDigits u) 0) (w.alloc (.cells Lib.zeros24 84)) hH0 (by rw [Array.size_replicate]; exact Lib.lt_pow_nDigits u) hu64 (by rw [Array.size_replicate]; omega)
  rw [Array.size_replicate] at hfmt
  have HH0 := Lib.hid hH0
  clear hH0 hal
  go_enter Tryd.func61, Tryd.ntmps61
  go_wp2_with (go_at_call 72; refine (numDigits72 u hu1 hu64 _ (ht.alloc _)).mono ?_; rintro e w' ⟨rfl, rfl⟩)
  go_at_call 73
  refine hfmt.mono ?_
  rintro e w' ⟨rfl, k, v', dk, rfl, hF⟩
  generalize hW : (putRow (fun (b : UInt8) => Value.int .u8 (b.toNat : Int)) (w.alloc (.cells Lib.zeros24 84)) w.heap.size 0 dk).drewN k = W
  have hcv : (convert 71 9 (.slice (some ⟨w.heap.size, 0, none⟩) (Lib.nDigits u) 24)).run Tryd.prog W = .ok (.string ⟨(Lib.decDigits u).toArray⟩) W := by
   have h := run_convert_bytes_back (P := Tryd.prog) W 71 9 5 ⟨w.heap.size, 0, none⟩ 24 (Lib.decDigits u) Tryd.underlying71 Tryd.underlying5 Tryd.underlying9 fun j hj => by
    rw [← hW, Lib.row_is_numeral hF j hj, Lib.add_plain, World.cell?_drewN]
    exact cell?_putRow (fun (b : UInt8) => Value.int .u8 (b.toNat : Int)) _ w.heap.size 0 _ dk HH0.out (by rw [hF.size, Array.size_replicate]) j (by rw [hF.size]; rw [Lib.decDigits_length] at hj; exact hj)
   rw [Lib.decDigits_length] at h
   exact h
  go_wp2
  go_ret
  obtain ⟨os, eo⟩ := Lib.fin_at w (.cells Lib.zeros24 84) dk k 0
  refine ⟨rfl, ?_⟩
  rw [← hW, eo]
  exact Lib.below_grow _ w (Nat.le_refl _) k os
end Go.Proofs
namespace Go.M
open Go Go.Proofs Go.RowKit Go.Shelf
set_option maxRecDepth 1000000
def join44_ren : Go.Shelf.Ren := ⟨fun | 156 => 44 | 165 => 62 | 166 => 63 | 169 => 64 | 240 => 75 | 241 => 76 | 276 => 83 | 277 => 84 | n => n, fun | 31 => 62 | 9 => 9 | 3 => 3 | 4 => 4 | 0 => 0 | 20 => 20 | 72 => 73 | 76 => 77 | 70 => 70 | 37 => 71 | 75 => 76 | 127 => 89 | 164 => 98 | 5 => 5 | 80 => 79 | n => n, fun | n => n⟩
theorem join44 : Go.Proofs.Lays.n156 Tryd.prog join44_ren where
 mixed := by kernel_rfl
 f156 := Tryd.func44.trans (congrArg some (by kernel_rfl))
 f165 := Tryd.func62.trans (congrArg some (by kernel_rfl))
 f166 := Tryd.func63.trans (congrArg some (by kernel_rfl))
 f169 := Tryd.func64.trans (congrArg some (by kernel_rfl))
 f240 := Tryd.func75.trans (congrArg some (by kernel_rfl))
 f241 := Tryd.func76.trans (congrArg some (by kernel_rfl))
 f276 := Tryd.func83.trans (congrArg some (by kernel_rfl))
 f277 := Tryd.func84.trans (congrArg some (by kernel_rfl))
 t0 := Tryd.underlying0
 a0 := Tryd.isAgg0
 z0 := Tryd.sizeOf0
 v0 := Tryd.zeroValue0
 t3 := Tryd.underlying3
 a3 := Tryd.isAgg3
 z3 := Tryd.sizeOf3
 v3 := Tryd.zeroValue3
 t4 := Tryd.underlying4
 a4 := Tryd.isAgg4
 z4 := Tryd.sizeOf4
 v4 := Tryd.zeroValue4
 t9 := Tryd.underlying9
 a9 := Tryd.isAgg9
 z9 := Tryd.sizeOf9
 v9 := Tryd.zeroValue9
 t20 := Tryd.underlying20
 a20 := Tryd.isAgg20
 z20 := Tryd.sizeOf20
 v20 := Tryd.zeroValue20
 t31 := Tryd.underlying62
 a31 := Tryd.isAgg62
 z31 := Tryd.sizeOf62
 v31 := Tryd.zeroValue62
 t37 := Tryd.underlying71
 a37 := Tryd.isAgg71
 z37 := Tryd.sizeOf71
 v37 := Tryd.zeroValue71
 t70 := Tryd.underlying70
 a70 := Tryd.isAgg70
 z70 := Tryd.sizeOf70
 v70 := Tryd.zeroValue70
 t72 := Tryd.underlying73
 a72 := Tryd.isAgg73
 z72 := Tryd.sizeOf73
 v72 := Tryd.zeroValue73
 t75 := Tryd.underlying76
 a75 := Tryd.isAgg76
 z75 := Tryd.sizeOf76
 v75 := Tryd.zeroValue76
 t76 := Tryd.underlying77
 a76 := Tryd.isAgg77
 z76 := Tryd.sizeOf77
 v76 := Tryd.zeroValue77
 t127 := Tryd.underlying89
 a127 := Tryd.isAgg89
 z127 := Tryd.sizeOf89
 v127 := Tryd.zeroValue89
 t164 := Tryd.underlying98
 a164 := Tryd.isAgg98
 z164 := Tryd.sizeOf98
 v164 := Tryd.zeroValue98
theorem joinX : Builder.Extra Tryd.prog join44_ren where
 sizeBuilder := by kernel_rfl
 liesBuilder := by kernel_rfl
 t5 := Tryd.underlying5
 a5 := Tryd.isAgg5
 z5 := Tryd.sizeOf5
 v5 := Tryd.zeroValue5
 infoByte := by kernel_rfl
 cellsByte := by kernel_rfl
 sizeByte := by kernel_rfl
 neB5 := by decide
theorem joins : JoinsIn Tryd.prog 44 := joinsIn_of join44 joinX rfl
theorem mixed0 : Tryd.prog.follows .mixedOrders = true := by kernel_rfl
theorem orcA (base B : Nat) : OrcOk Tryd.prog (envT Tryd.prog tabs0 (orcJ [44] noOrc)) base B :=
 orcJ_ok (fun g hg => by simp only [List.mem_cons, List.not_mem_nil, or_false] at hg; subst hg; exact joins) (fun _ _ => noOrc_okT) base B
theorem awake09 : AwakeT Tryd.prog tabs0 6 := awakeT_by (n := 1) mixed0 tabsB0 orcA (k := 100000) (by kernel_rfl)
theorem powT {w : World} (h : LaidT tabs0 w) : PowT w := fun q hq => by
 obtain ⟨c, e, fr, h1, _, h3⟩ := h 0 pow0 rfl
 have := h3 q (.int .u64 ((10 ^ q : Nat) : Int)) (by unfold pow0; rw [List.getElem?_map, List.getElem?_range hq]; rfl)
 unfold World.cell?
 rw [h1]
 exact this
theorem pure0_ok (g : Nat) (f : List Value → Option Value) (h : look pure0 g = some f) : PureIn Tryd.prog tabs0 g f := by
 intro w vs v hW hv
 have hm := look_mem h
 simp only [pure0, List.mem_cons, List.not_mem_nil, or_false, Prod.mk.injEq] at hm
 rcases hm with ⟨rfl, rfl⟩ | ⟨rfl, rfl⟩
 ·unfold fmtU at hv
  split at hv
  ·rename_i n b
   rw [grd_some] at hv
   obtain ⟨hd, hv⟩ := hv
   cases hv
   obtain ⟨h0, h1, rfl⟩ := of_decide_eq_true hd
   obtain ⟨u, rfl⟩ : ∃ u : Nat, n = u := ⟨n.toNat, by omega⟩
   exact formatUint61 u (by omega) w (powT hW)
  ·cases hv
 ·unfold itoaS at hv
  split at hv
  ·rename_i n
   rw [grd_some] at hv
   obtain ⟨hd, hv⟩ := hv
   cases hv
   obtain ⟨h0, h1⟩ := of_decide_eq_true hd
   obtain ⟨u, rfl⟩ : ∃ u : Nat, n = u := ⟨n.toNat, by omega⟩
   exact (Any.strconv_Itoa_small { itoa with } u (by omega) w).mono fun e w' ⟨he, hw⟩ => ⟨he, hw ▸ Below.refl _ _⟩
  ·cases hv
theorem orc0 (base B : Nat) : OrcOk Tryd.prog E0 base B := by
 refine orcS_ok tabsB0 pure0_ok (orcJ_ok (fun g hg => ?_) (orcX_ok tabsB0 (fun g hg => ?_) (fun base B => orcV_ok (fun g hg => ?_) (fun g its hi k hk => ?_) base B))) base B
 ·simp only [List.mem_cons, List.not_mem_nil, or_false] at hg; subst hg; exact joins
 ·simp only [List.mem_cons, List.not_mem_nil, or_false] at hg
  subst hg
  exact awake09
 ·simp at hg
 ·simp [look] at hi
end Go.M
