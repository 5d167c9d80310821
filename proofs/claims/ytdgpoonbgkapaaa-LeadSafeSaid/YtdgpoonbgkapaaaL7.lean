/-
  Part 7 of the library that the proof leans on.
-/
import Derived.KernelRfl
import Derived.Test.YtdgpoonbgkapaaaL6
namespace Go.M
open Go Go.Proofs
set_option maxRecDepth 100000
set_option maxHeartbeats 8000000
def HearR (n : Nat) (S : List Say) (ch : List Vote) (r : TV) (o : Ob) (c : Nat) : Prop := r = .tup [] ∧ c = 1 ∧ ∃ xs qs S' ch', o = stT xs qs S' ch' ∧ TalkI n (xs.map (·.1)) qs S' ch' ∧ (∀ p ∈ xs, PX p) ∧ S'.length ≤ S.length + 3000 ∧ ch'.length ≤ ch.length + 1
theorem saySnoc (S : List Say) (m : Say) : S.map encS ++ [encS m] = (S ++ [m]).map encS := by rw [List.map_append]; rfl
theorem promS_px {x : LeadS} {f : Bool} (h : PX (x, f)) {b who : Int} {vs : List Vote} : PX ((promS x b who vs).1, f) := by
 intro hf
 obtain ⟨me, ms, e⟩ := h hf
 refine ⟨me, ms, ?_⟩
 have e : x = L0S me ms := e
 subst e
 show (promS (L0S me ms) b who vs).1 = _
 unfold promS
 rw [if_neg fun h => absurd (show (0 : Int) = 1 from h.1.1) (by decide)]
theorem flat_sayP (n j : Nat) : ∀ vs : List Vote, (vs.flatMap (sayP n j)).length = vs.length * n
 | [] => by simp
 | v :: vs => by
  rw [List.flatMap_cons, List.length_append, flat_sayP n j vs, List.length_cons, Nat.succ_mul]
  have : (sayP n j v).length = n := by simp [sayP, toAll]
  omega
theorem promS_vs {n : Nat} {xs : List LeadS} {qs : List Acp} {S : List Say} {ch : List Vote} {j : Nat} {x : LeadS} (H : TalkI n xs qs S ch) (gl : xs[j]? = some x) {m : Say} (hm : m ∈ S) (hk : m.kind = 2) : (promS x m.ballot m.frm m.votes).2.1.length ≤ 512 := by
 have hI := H.promise gl hm hk
 have hj : j < xs.length := (List.getElem?_eq_some_iff.1 gl).1
 have hL := hI.ld j _ (List.getElem?_set_self hj)
 have key : (openV (promS x m.ballot m.frm m.votes).1).length ≤ 512 := by
  have h2 : ((keysA (promS x m.ballot m.frm m.votes).1.opn).map (· + 1)).Nodup := by
   refine List.Pairwise.map _ ?_ hL.op.nd
   intro a b hab e; exact hab (by omega)
  have := nodup_le 512 ((keysA (promS x m.ballot m.frm m.votes).1.opn).map (· + 1)) h2 fun w hw => by
   obtain ⟨n, hn', rfl⟩ := List.mem_map.1 hw
   have := hL.op.rng n hn'
   have := hL.nxt
   omega
  simpa [openV, sortZ_len] using this
 unfold promS at key ⊢
 split
 ·split
  ·rename_i h1 h2
   rw [if_pos h1, if_pos h2] at key
   exact key
  ·simp
 ·simp
theorem acceptedS_px {x : LeadS} {f : Bool} (h : PX (x, f)) {b s who : Int} : PX ((acceptedS x b s who).1, f) := by
 intro hf
 obtain ⟨me, ms, e⟩ := h hf
 refine ⟨me, ms, ?_⟩
 have e : x = L0S me ms := e
 subst e
 show (acceptedS (L0S me ms) b s who).1 = _
 unfold acceptedS
 rw [if_neg fun h => absurd (show (0 : Int) = 2 from h.1.1) (by decide)]
theorem hearC {n : Nat} {xs : List (LeadS × Bool)} {qs : List Acp} {S : List Say} {ch : List Vote} (H : TalkI n (xs.map (·.1)) qs S ch) (hp : ∀ p ∈ xs, PX p) (m : Say) (hm : m ∈ S) (hS : S.length < 10000) (hch : ch.length < 10000) :
 VC E0 7 1 [.ptr 0 0, .agg (encS m)] (stT xs qs S ch) (HearR n S ch) := by
 obtain ⟨r1, r2, r3, r4, r5, r6⟩ := H.rng m hm
 have hn5 := H.n5
 have hxl : xs.length = n := by have := H.xl; rwa [List.length_map] at this
 have hql := H.al
 obtain ⟨j, hj⟩ : ∃ j : Nat, m.to = j + 1 := ⟨(m.to - 1).toNat, by omega⟩
 have hw : IntKind.i64.wrap (m.to - 1) = (j : Int) := by rw [IntWalk.i64_in _ (by omega)]; omega
 have hjx : j < xs.length := by omega
 have hjq : j < qs.length := by omega
 have gx : (xs.map encX)[j]? = some (encX xs[j]) := by rw [List.getElem?_map, List.getElem?_eq_getElem hjx]; rfl
 have gq : (qs.map encQ)[j]? = some (encQ qs[j]) := by rw [List.getElem?_map, List.getElem?_eq_getElem hjq]; rfl
 have gqq : qs[j]? = some qs[j] := List.getElem?_eq_getElem hjq
 have gl : (xs.map (·.1))[j]? = some xs[j].1 := by rw [List.getElem?_map, List.getElem?_eq_getElem hjx]; rfl
 have hpj := hp xs[j] (List.getElem_mem hjx)
 generalize hxj : xs[j] = pj at *
 generalize hqj : qs[j] = q at *
 obtain ⟨y, f⟩ := pj
 cases f with
 | false =>
  refine VC.enterR L0 (show E0.func 7 = some Try.f7 by kernel_rfl) (fun _ _ => rfl) rfl rfl [] ?_
  ((conv=>whnf)<;>repeat(with_reducible refine D1 ?_)<;>conv=>whnf)
  rw [hw]
  refine ⟨⟨by omega, by rw [List.length_map]; omega⟩, ?_⟩
  ((conv=>whnf)<;>repeat(with_reducible refine D1 ?_)<;>conv=>whnf)
  refine ⟨encX (y, false), gx, ?_⟩
  ((conv=>whnf)<;>repeat(with_reducible refine D1 ?_)<;>conv=>whnf)
  rw [hw]
  refine ⟨⟨by omega, by rw [List.length_map]; omega⟩, ?_⟩
  ((conv=>whnf)<;>repeat(with_reducible refine D1 ?_)<;>conv=>whnf)
  refine ⟨encQ q, gq, ?_⟩
  ((conv=>whnf)<;>repeat(with_reducible refine D1 ?_)<;>conv=>whnf)
  (first|refine ⟨?_,?_⟩|refine nsplit ?_ ?_|refine bsplit ?_ ?_)<;>intro k1<;>have hz_:=True.intro<;>clear hz_
  ·have k1 : m.kind = 1 := k1
   have hsl := r5 k1
   obtain ⟨hkv, hq0, _⟩ := H.kv j q gqq
   ((conv=>whnf)<;>repeat(with_reducible refine D1 ?_)<;>conv=>whnf)
   refine ⟨[], [some 5], _, _, _, _, prepareT_ok q m.ballot m.slot (hkv.ok (by have := hkv.few; omega)) (by have := hkv.few; omega), t3, ?_⟩
   rintro r o' c' ⟨rfl, rfl, rfl⟩
   ((conv=>whnf)<;>repeat(with_reducible refine D1 ?_)<;>conv=>whnf)
   (first|refine ⟨?_,?_⟩|refine nsplit ?_ ?_|refine bsplit ?_ ?_)<;>intro he<;>have hz_:=True.intro<;>clear hz_
   ·have he : (prepS q.1 m.ballot q.2 m.slot).2.2 = 0 := he
    ((conv=>whnf)<;>repeat(with_reducible refine D1 ?_)<;>conv=>whnf)
    refine ⟨by simp; omega, ?_⟩
    ((conv=>whnf)<;>repeat(with_reducible refine D1 ?_)<;>conv=>whnf)
    have hps := votesOf_len q.2 m.slot
    have hI := H.prepare gqq (b := m.ballot) (to := m.frm) ⟨r1, r2⟩ (by rw [hsl] at he; exact he) noCmd
    refine ⟨[], [some 0], _, _, _, ⟨by (repeat' first|with_reducible exact Lz.rfl|exact Lw.rfl|exact Lz.wrap (by omega)|(unfold goInt;with_reducible exact Lz.rfl)|exact flx _|constructor), .cons (.cells (.own (.tkq (.arq (opc := [(_, encX (y, false))]) .one (Lw.of (keepX hjx hxj)) (.q1 (by (repeat' first|with_reducible exact Lz.rfl|exact Lw.rfl|exact Lz.wrap (by omega)|(unfold goInt;with_reducible exact Lz.rfl)|exact flx _|constructor))))) (.own (.tkq (.arq (opc := [(_, encQ ((prepS q.1 m.ballot q.2 m.slot).1, q.2))]) .one (Lw.of (setQ qs j _)) (.q1 (by (repeat' first|with_reducible exact Lz.rfl|exact Lw.rfl|exact Lz.wrap (by omega)|(unfold goInt;with_reducible exact Lz.rfl)|exact flx _|constructor))))) (.own (.tk (.arr (Lz.of (saySnoc S ⟨2, m.to, m.frm, m.ballot, m.slot, (prepS q.1 m.ballot q.2 m.slot).2.1, noCmd⟩)))) (.own (.same Lz.rfl) (.v (by (repeat' first|with_reducible exact Lz.rfl|exact Lw.rfl|exact Lz.wrap (by omega)|(unfold goInt;with_reducible exact Lz.rfl)|exact flx _|constructor)) rfl .nil)))))) .nil, by rfl⟩, ⟨rfl, rfl, xs, _, _, ch, rfl, by rw [hj, hsl]; exact hI, hp, by simp, by omega⟩⟩
   ·((conv=>whnf)<;>repeat(with_reducible refine D1 ?_)<;>conv=>whnf)
    have hq1 : (prepS q.1 m.ballot q.2 m.slot).1 = q.1 := by
     unfold prepS at he ⊢
     split
     ·rfl
     ·split
      ·rfl
      ·rename_i h1 h2; rw [if_neg h1, if_neg h2] at he; exact absurd rfl he
    have hqs : qs.set j ((prepS q.1 m.ballot q.2 m.slot).1, q.2) = qs := by rw [hq1]; exact setSelf gqq
    refine ⟨[], [some 0], _, _, _, ⟨by (repeat' first|with_reducible exact Lz.rfl|exact Lw.rfl|exact Lz.wrap (by omega)|(unfold goInt;with_reducible exact Lz.rfl)|exact flx _|constructor), .cons (.cells (.own (.tkq (.arq (opc := [(_, encX (y, false))]) .one (Lw.of (keepX hjx hxj)) (.q1 (by (repeat' first|with_reducible exact Lz.rfl|exact Lw.rfl|exact Lz.wrap (by omega)|(unfold goInt;with_reducible exact Lz.rfl)|exact flx _|constructor))))) (.own (.tkq (.arq (opc := [(_, encQ ((prepS q.1 m.ballot q.2 m.slot).1, q.2))]) .one (Lw.of (setQ qs j _)) (.q1 (by (repeat' first|with_reducible exact Lz.rfl|exact Lw.rfl|exact Lz.wrap (by omega)|(unfold goInt;with_reducible exact Lz.rfl)|exact flx _|constructor))))) (.own (.same Lz.rfl) (.own (.same Lz.rfl) (.v (by (repeat' first|with_reducible exact Lz.rfl|exact Lw.rfl|exact Lz.wrap (by omega)|(unfold goInt;with_reducible exact Lz.rfl)|exact flx _|constructor)) rfl .nil)))))) .nil, by rfl⟩, ⟨rfl, rfl, xs, _, S, ch, rfl, by rw [hqs]; exact H, hp, by omega, by omega⟩⟩
  ((conv=>whnf)<;>repeat(with_reducible refine D1 ?_)<;>conv=>whnf)
  (first|refine ⟨?_,?_⟩|refine nsplit ?_ ?_|refine bsplit ?_ ?_)<;>intro k2<;>have hz_:=True.intro<;>clear hz_
  ·have k2 : m.kind = 2 := k2
   obtain ⟨hpr, hvl⟩ := H.pr m hm k2
   have hL := H.ld j y gl
   have hI := H.promise gl hm k2
   have hvin : ∀ v ∈ m.votes, inI v.slot := fun v hv => by
    have := (hpr.2.2 v hv).2.2
    unfold inI
    have h1 : IntKind.i64.min = -9223372036854775808 := rfl
    have h2 : IntKind.i64.max = 9223372036854775807 := rfl
    omega
   ((conv=>whnf)<;>repeat(with_reducible refine D1 ?_)<;>conv=>whnf)
   refine ⟨[], [some 3], _, _, _, _, promiseT_ok (y, false) hpj m.ballot m.frm m.votes hL.cm hL.op (by show m5 y.masters; rw [hL.ms]; unfold m5; omega) (by omega) hvin hL.nxt, t3, ?_⟩
   rintro r o' c' ⟨rfl, rfl, rfl⟩
   have hpx : PX ((promS y m.ballot m.frm m.votes).1, false) := promS_px hpj
   have hvl2 := promS_vs H gl hm k2
   generalize hvs : (promS y m.ballot m.frm m.votes).2.1 = vs at *
   generalize (promS y m.ballot m.frm m.votes).2.2 = ok at *
   generalize (promS y m.ballot m.frm m.votes).1 = y2 at *
   have hlx : (xs.set j (y2, false)).length = n := by rw [List.length_set]; exact hxl
   have hpx2 : ∀ p ∈ xs.set j (y2, false), PX p := fun p hpm => by
    rcases List.mem_or_eq_of_mem_set hpm with h | h
    ·exact hp p h
    ·rw [h]; exact hpx
   have hI2 : TalkI n ((xs.set j (y2, false)).map (·.1)) qs (S ++ vs.flatMap (sayP n j)) ch := by rw [List.map_set]; exact hI
   have hfl : ∀ i, (S ++ (vs.take i).flatMap (sayP n j)).length ≤ S.length + 2560 := fun i => by
    have h1 := flat_sayP n j (vs.take i)
    have h2 : (vs.take i).length * n ≤ 512 * 5 := Nat.mul_le_mul (by rw [List.length_take]; omega) hn5.2
    rw [List.length_append]; omega
   ((conv=>whnf)<;>repeat(with_reducible refine D1 ?_)<;>conv=>whnf)
   refine ⟨fun k f o c => ∃ i : Nat, i ≤ vs.length ∧ k = vs.length - i ∧ c = 2 ∧ f = [(0, .ptr 0 0), (3, .ptr 1 0), (9, .sl 6 (vs.map encV) false), (11, .s (.int .i64 i))] ∧
    o = [(0, talkC (xs.set j (y2, false)) qs (S ++ (vs.take i).flatMap (sayP n j)) ch), (1, .cells (encS m))], ⟨vs.length, ?_⟩, ?_⟩
   ·refine ⟨[], [some 0, some 1], _, _, _, ⟨by (repeat' first|with_reducible exact Lz.rfl|exact Lw.rfl|exact Lz.wrap (by omega)|(unfold goInt;with_reducible exact Lz.rfl)|exact flx _|constructor), .cons (.cells (.own (.tkq (.arq (opc := [(_, encX (y2, false))]) .one (Lw.of (setX xs j _)) (.q1 (by (repeat' first|with_reducible exact Lz.rfl|exact Lw.rfl|exact Lz.wrap (by omega)|(unfold goInt;with_reducible exact Lz.rfl)|exact flx _|constructor))))) (.own (.tkq (.arq (opc := [(_, encQ q)]) .one (Lw.of (keepQ hjq hqj)) (.q1 (by (repeat' first|with_reducible exact Lz.rfl|exact Lw.rfl|exact Lz.wrap (by omega)|(unfold goInt;with_reducible exact Lz.rfl)|exact flx _|constructor))))) (.own (.same (Lz.of (by simp))) (.own (.same Lz.rfl) (.v (by (repeat' first|with_reducible exact Lz.rfl|exact Lw.rfl|exact Lz.wrap (by omega)|(unfold goInt;with_reducible exact Lz.rfl)|exact flx _|constructor)) rfl .nil)))))) (.cons (.cells (by (repeat' first|with_reducible exact Lz.rfl|exact Lw.rfl|exact Lz.wrap (by omega)|(unfold goInt;with_reducible exact Lz.rfl)|exact flx _|constructor))) .nil), by rfl⟩, ⟨0, Nat.zero_le _, rfl, rfl, rfl, rfl⟩⟩
   ·rintro k f1 o1 c1 ⟨i, hi, rfl, rfl, rfl, rfl⟩
    have hfi := hfl i
    ((conv=>whnf)<;>repeat(with_reducible refine D1 ?_)<;>conv=>whnf)
    (first|refine ⟨?_,?_⟩|refine nsplit ?_ ?_|refine bsplit ?_ ?_)<;>intro hlt<;>have hz_:=True.intro<;>clear hz_
    ·have hlt := lenlt.1 hlt
     have hsn : S ++ (vs.take i).flatMap (sayP n j) ++ toAll (xs.set j (y2, false)).length ⟨3, m.to, 0, vs[i].ballot, vs[i].slot, [], cmdOf vs[i]⟩ = S ++ (vs.take (i + 1)).flatMap (sayP n j) := by
      rw [hlx, hj, List.take_succ_eq_append_getElem hlt, List.flatMap_append, List.append_assoc]
      simp [sayP]
     ((conv=>whnf)<;>repeat(with_reducible refine D1 ?_)<;>conv=>whnf)
     refine idxI hlt ?_
     ((conv=>whnf)<;>repeat(with_reducible refine D1 ?_)<;>conv=>whnf)
     refine idxI hlt ?_
     ((conv=>whnf)<;>repeat(with_reducible refine D1 ?_)<;>conv=>whnf)
     refine idxI hlt ?_
     ((conv=>whnf)<;>repeat(with_reducible refine D1 ?_)<;>conv=>whnf)
     refine ⟨[], [some 0], _, _, _, _, toAllC ⟨3, m.to, 0, vs[i].ballot, vs[i].slot, [], cmdOf vs[i]⟩ (xs.set j (y2, false)) qs (S ++ (vs.take i).flatMap (sayP n j)) ch (by omega) (by omega), t3, ?_⟩
     rintro r o' c' ⟨rfl, rfl, rfl⟩
     ((conv=>whnf)<;>repeat(with_reducible refine D1 ?_)<;>conv=>whnf)
     refine ⟨vs.length - (i + 1), ?_, by omega⟩
     refine ⟨[], [some 0, some 1], ?_⟩
     iterate 3 constructor
     refine ⟨⟨?_, ?_, ?_⟩, ⟨i + 1, hlt, rfl, rfl, rfl, rfl⟩⟩
     all_goals (repeat' first|with_reducible exact Lz.rfl|exact Lw.rfl|exact Lz.wrap (by omega)|(unfold goInt;with_reducible exact Lz.rfl)|exact flx _|constructor)
     exact Lz.of (by rw [hsn])
    ·have : i = vs.length := by have := mt lenlt.2 hlt
                                omega
     subst this
     have hfi2 := hfi
     rw [List.take_length] at hfi2 ⊢
     ((conv=>whnf)<;>repeat(with_reducible refine D1 ?_)<;>conv=>whnf)
     exact ⟨[], [some 0], _, _, _, t3, rfl, rfl, _, _, _, _, rfl, hI2, hpx2, by omega, by omega⟩
  ((conv=>whnf)<;>repeat(with_reducible refine D1 ?_)<;>conv=>whnf)
  (first|refine ⟨?_,?_⟩|refine nsplit ?_ ?_|refine bsplit ?_ ?_)<;>intro k3<;>have hz_:=True.intro<;>clear hz_
  ·have k3 : m.kind = 3 := k3
   ((conv=>whnf)<;>repeat(with_reducible refine D1 ?_)<;>conv=>whnf)
   refine ⟨[], [some 5], _, _, _, _, acceptT_ok q m.ballot m.slot m.cmd, t3, ?_⟩
   rintro r o' c' ⟨rfl, rfl, rfl⟩
   ((conv=>whnf)<;>repeat(with_reducible refine D1 ?_)<;>conv=>whnf)
   (first|refine ⟨?_,?_⟩|refine nsplit ?_ ?_|refine bsplit ?_ ?_)<;>intro he<;>have hz_:=True.intro<;>clear hz_
   ·have he : (accS q.1 q.2 m.ballot m.slot m.cmd).2.2 = 0 := he
    have hI := H.accept gqq (b := m.ballot) (s := m.slot) (to := m.frm) (c := m.cmd) ⟨r1, r2⟩ ⟨m, hm, k3, rfl, rfl, rfl⟩ he noCmd
    ((conv=>whnf)<;>repeat(with_reducible refine D1 ?_)<;>conv=>whnf)
    refine ⟨by simp; omega, ?_⟩
    ((conv=>whnf)<;>repeat(with_reducible refine D1 ?_)<;>conv=>whnf)
    refine ⟨[], [some 0], _, _, _, ⟨by (repeat' first|with_reducible exact Lz.rfl|exact Lw.rfl|exact Lz.wrap (by omega)|(unfold goInt;with_reducible exact Lz.rfl)|exact flx _|constructor), .cons (.cells (.own (.tkq (.arq (opc := [(_, encX (y, false))]) .one (Lw.of (keepX hjx hxj)) (.q1 (by (repeat' first|with_reducible exact Lz.rfl|exact Lw.rfl|exact Lz.wrap (by omega)|(unfold goInt;with_reducible exact Lz.rfl)|exact flx _|constructor))))) (.own (.tkq (.arq (opc := [(_, encQ ((accS q.1 q.2 m.ballot m.slot m.cmd).1, (accS q.1 q.2 m.ballot m.slot m.cmd).2.1))]) .one (Lw.of (setQ qs j _)) (.q1 (by (repeat' first|with_reducible exact Lz.rfl|exact Lw.rfl|exact Lz.wrap (by omega)|(unfold goInt;with_reducible exact Lz.rfl)|exact flx _|constructor))))) (.own (.tk (.arrz Lz.rfl (Lz.of (saySnoc S ⟨4, m.to, m.frm, m.ballot, m.slot, [], noCmd⟩)) (.same (.same (.same (.same (.same (.zero (.same (.same (.same (.same .nil)))))))))))) (.own (.same Lz.rfl) (.v (by (repeat' first|with_reducible exact Lz.rfl|exact Lw.rfl|exact Lz.wrap (by omega)|(unfold goInt;with_reducible exact Lz.rfl)|exact flx _|constructor)) rfl .nil)))))) .nil, by rfl⟩, ⟨rfl, rfl, xs, _, _, ch, rfl, by rw [hj]; exact hI, hp, by simp, by omega⟩⟩
   ·have he : (accS q.1 q.2 m.ballot m.slot m.cmd).2.2 ≠ 0 := he
    have hq1 : ((accS q.1 q.2 m.ballot m.slot m.cmd).1, (accS q.1 q.2 m.ballot m.slot m.cmd).2.1) = q := by
     unfold accS at he ⊢
     split
     ·rfl
     ·split
      ·rfl
      ·split
       ·rfl
       ·rename_i h1 h2 h3; rw [if_neg h1, if_neg h2, if_neg h3] at he; exact absurd rfl he
    have hqs : qs.set j ((accS q.1 q.2 m.ballot m.slot m.cmd).1, (accS q.1 q.2 m.ballot m.slot m.cmd).2.1) = qs := by rw [hq1]; exact setSelf gqq
    ((conv=>whnf)<;>repeat(with_reducible refine D1 ?_)<;>conv=>whnf)
    refine ⟨[], [some 0], _, _, _, ⟨by (repeat' first|with_reducible exact Lz.rfl|exact Lw.rfl|exact Lz.wrap (by omega)|(unfold goInt;with_reducible exact Lz.rfl)|exact flx _|constructor), .cons (.cells (.own (.tkq (.arq (opc := [(_, encX (y, false))]) .one (Lw.of (keepX hjx hxj)) (.q1 (by (repeat' first|with_reducible exact Lz.rfl|exact Lw.rfl|exact Lz.wrap (by omega)|(unfold goInt;with_reducible exact Lz.rfl)|exact flx _|constructor))))) (.own (.tkq (.arq (opc := [(_, encQ ((accS q.1 q.2 m.ballot m.slot m.cmd).1, (accS q.1 q.2 m.ballot m.slot m.cmd).2.1))]) .one (Lw.of (setQ qs j _)) (.q1 (by (repeat' first|with_reducible exact Lz.rfl|exact Lw.rfl|exact Lz.wrap (by omega)|(unfold goInt;with_reducible exact Lz.rfl)|exact flx _|constructor))))) (.own (.same Lz.rfl) (.own (.same Lz.rfl) (.v (by (repeat' first|with_reducible exact Lz.rfl|exact Lw.rfl|exact Lz.wrap (by omega)|(unfold goInt;with_reducible exact Lz.rfl)|exact flx _|constructor)) rfl .nil)))))) .nil, by rfl⟩, ⟨rfl, rfl, xs, _, S, ch, rfl, by rw [hqs]; exact H, hp, by omega, by omega⟩⟩
  have k1 : ¬ m.kind = 1 := k1
  have k2 : ¬ m.kind = 2 := k2
  have k3 : ¬ m.kind = 3 := k3
  have k4 : m.kind = 4 := by omega
  have hL := H.ld j y gl
  have hI := H.accepted gl hm k4
  ((conv=>whnf)<;>repeat(with_reducible refine D1 ?_)<;>conv=>whnf)
  refine ⟨[], [some 3], _, _, _, _, acceptedT_ok (y, false) hpj m.ballot m.slot m.frm (by show m5 y.masters; rw [hL.ms]; unfold m5; omega) hL.ev hL.op.nd, t3, ?_⟩
  rintro r o' c' ⟨rfl, rfl, rfl⟩
  have hpx : PX ((acceptedS y m.ballot m.slot m.frm).1, false) := acceptedS_px hpj
  generalize (acceptedS y m.ballot m.slot m.frm).2.1 = v at *
  generalize (acceptedS y m.ballot m.slot m.frm).2.2 = ok at *
  generalize (acceptedS y m.ballot m.slot m.frm).1 = y2 at *
  have hpx2 : ∀ p ∈ xs.set j (y2, false), PX p := fun p hpm => by
   rcases List.mem_or_eq_of_mem_set hpm with h | h
   ·exact hp p h
   ·rw [h]; exact hpx
  have hI2 : TalkI n ((xs.set j (y2, false)).map (·.1)) qs S (bif ok then ch ++ [v] else ch) := by rw [List.map_set]; exact hI
  cases ok with
  | false =>
   ((conv=>whnf)<;>repeat(with_reducible refine D1 ?_)<;>conv=>whnf)
   refine ⟨[], [some 0], _, _, _, ⟨by (repeat' first|with_reducible exact Lz.rfl|exact Lw.rfl|exact Lz.wrap (by omega)|(unfold goInt;with_reducible exact Lz.rfl)|exact flx _|constructor), .cons (.cells (.own (.tkq (.arq (opc := [(_, encX (y2, false))]) .one (Lw.of (setX xs j _)) (.q1 (by (repeat' first|with_reducible exact Lz.rfl|exact Lw.rfl|exact Lz.wrap (by omega)|(unfold goInt;with_reducible exact Lz.rfl)|exact flx _|constructor))))) (.own (.tkq (.arq (opc := [(_, encQ q)]) .one (Lw.of (keepQ hjq hqj)) (.q1 (by (repeat' first|with_reducible exact Lz.rfl|exact Lw.rfl|exact Lz.wrap (by omega)|(unfold goInt;with_reducible exact Lz.rfl)|exact flx _|constructor))))) (.own (.same Lz.rfl) (.own (.same Lz.rfl) (.v (by (repeat' first|with_reducible exact Lz.rfl|exact Lw.rfl|exact Lz.wrap (by omega)|(unfold goInt;with_reducible exact Lz.rfl)|exact flx _|constructor)) rfl .nil)))))) .nil, by rfl⟩, ⟨rfl, rfl, _, _, S, ch, rfl, hI2, hpx2, by omega, by omega⟩⟩
  | true =>
   ((conv=>whnf)<;>repeat(with_reducible refine D1 ?_)<;>conv=>whnf)
   refine ⟨[], [some 0], _, _, _, _, chooseC v (xs.set j (y2, false)) qs S ch (by omega) (fun w hw hs => hI2.safe w (List.mem_append_left _ hw) v (by simp) hs), ⟨by (repeat' first|with_reducible exact Lz.rfl|exact Lw.rfl|exact Lz.wrap (by omega)|(unfold goInt;with_reducible exact Lz.rfl)|exact flx _|constructor), .cons (.cells (.own (.tkq (.arq (opc := [(_, encX (y2, false))]) .one (Lw.of (setX xs j _)) (.q1 (by (repeat' first|with_reducible exact Lz.rfl|exact Lw.rfl|exact Lz.wrap (by omega)|(unfold goInt;with_reducible exact Lz.rfl)|exact flx _|constructor))))) (.own (.tkq (.arq (opc := [(_, encQ q)]) .one (Lw.of (keepQ hjq hqj)) (.q1 (by (repeat' first|with_reducible exact Lz.rfl|exact Lw.rfl|exact Lz.wrap (by omega)|(unfold goInt;with_reducible exact Lz.rfl)|exact flx _|constructor))))) (.own (.same Lz.rfl) (.own (.same Lz.rfl) (.v (by (repeat' first|with_reducible exact Lz.rfl|exact Lw.rfl|exact Lz.wrap (by omega)|(unfold goInt;with_reducible exact Lz.rfl)|exact flx _|constructor)) rfl .nil)))))) .nil, by rfl⟩, ?_⟩
   rintro r o' c' ⟨rfl, rfl, rfl⟩
   ((conv=>whnf)<;>repeat(with_reducible refine D1 ?_)<;>conv=>whnf)
   exact ⟨[], [some 0], _, _, _, t3, rfl, rfl, _, _, _, _, rfl, hI2, hpx2, by omega, by simp⟩
 | true =>
  refine VC.enterR L0 (show E0.func 7 = some Try.f7 by kernel_rfl) (fun _ _ => rfl) rfl rfl [] ?_
  ((conv=>whnf)<;>repeat(with_reducible refine D1 ?_)<;>conv=>whnf)
  rw [hw]
  refine ⟨⟨by omega, by rw [List.length_map]; omega⟩, ?_⟩
  ((conv=>whnf)<;>repeat(with_reducible refine D1 ?_)<;>conv=>whnf)
  refine ⟨encX (y, true), gx, ?_⟩
  ((conv=>whnf)<;>repeat(with_reducible refine D1 ?_)<;>conv=>whnf)
  rw [hw]
  refine ⟨⟨by omega, by rw [List.length_map]; omega⟩, ?_⟩
  ((conv=>whnf)<;>repeat(with_reducible refine D1 ?_)<;>conv=>whnf)
  refine ⟨encQ q, gq, ?_⟩
  ((conv=>whnf)<;>repeat(with_reducible refine D1 ?_)<;>conv=>whnf)
  (first|refine ⟨?_,?_⟩|refine nsplit ?_ ?_|refine bsplit ?_ ?_)<;>intro k1<;>have hz_:=True.intro<;>clear hz_
  ·have k1 : m.kind = 1 := k1
   have hsl := r5 k1
   obtain ⟨hkv, hq0, _⟩ := H.kv j q gqq
   ((conv=>whnf)<;>repeat(with_reducible refine D1 ?_)<;>conv=>whnf)
   refine ⟨[], [some 5], _, _, _, _, prepareT_ok q m.ballot m.slot (hkv.ok (by have := hkv.few; omega)) (by have := hkv.few; omega), t3, ?_⟩
   rintro r o' c' ⟨rfl, rfl, rfl⟩
   ((conv=>whnf)<;>repeat(with_reducible refine D1 ?_)<;>conv=>whnf)
   (first|refine ⟨?_,?_⟩|refine nsplit ?_ ?_|refine bsplit ?_ ?_)<;>intro he<;>have hz_:=True.intro<;>clear hz_
   ·have he : (prepS q.1 m.ballot q.2 m.slot).2.2 = 0 := he
    ((conv=>whnf)<;>repeat(with_reducible refine D1 ?_)<;>conv=>whnf)
    refine ⟨by simp; omega, ?_⟩
    ((conv=>whnf)<;>repeat(with_reducible refine D1 ?_)<;>conv=>whnf)
    have hps := votesOf_len q.2 m.slot
    have hI := H.prepare gqq (b := m.ballot) (to := m.frm) ⟨r1, r2⟩ (by rw [hsl] at he; exact he) noCmd
    refine ⟨[], [some 0], _, _, _, ⟨by (repeat' first|with_reducible exact Lz.rfl|exact Lw.rfl|exact Lz.wrap (by omega)|(unfold goInt;with_reducible exact Lz.rfl)|exact flx _|constructor), .cons (.cells (.own (.tkq (.arq (opc := [(_, encX (y, true))]) .one (Lw.of (keepX hjx hxj)) (.q1 (by (repeat' first|with_reducible exact Lz.rfl|exact Lw.rfl|exact Lz.wrap (by omega)|(unfold goInt;with_reducible exact Lz.rfl)|exact flx _|constructor))))) (.own (.tkq (.arq (opc := [(_, encQ ((prepS q.1 m.ballot q.2 m.slot).1, q.2))]) .one (Lw.of (setQ qs j _)) (.q1 (by (repeat' first|with_reducible exact Lz.rfl|exact Lw.rfl|exact Lz.wrap (by omega)|(unfold goInt;with_reducible exact Lz.rfl)|exact flx _|constructor))))) (.own (.tk (.arr (Lz.of (saySnoc S ⟨2, m.to, m.frm, m.ballot, m.slot, (prepS q.1 m.ballot q.2 m.slot).2.1, noCmd⟩)))) (.own (.same Lz.rfl) (.v (by (repeat' first|with_reducible exact Lz.rfl|exact Lw.rfl|exact Lz.wrap (by omega)|(unfold goInt;with_reducible exact Lz.rfl)|exact flx _|constructor)) rfl .nil)))))) .nil, by rfl⟩, ⟨rfl, rfl, xs, _, _, ch, rfl, by rw [hj, hsl]; exact hI, hp, by simp, by omega⟩⟩
   ·((conv=>whnf)<;>repeat(with_reducible refine D1 ?_)<;>conv=>whnf)
    have hq1 : (prepS q.1 m.ballot q.2 m.slot).1 = q.1 := by
     unfold prepS at he ⊢
     split
     ·rfl
     ·split
      ·rfl
      ·rename_i h1 h2; rw [if_neg h1, if_neg h2] at he; exact absurd rfl he
    have hqs : qs.set j ((prepS q.1 m.ballot q.2 m.slot).1, q.2) = qs := by rw [hq1]; exact setSelf gqq
    refine ⟨[], [some 0], _, _, _, ⟨by (repeat' first|with_reducible exact Lz.rfl|exact Lw.rfl|exact Lz.wrap (by omega)|(unfold goInt;with_reducible exact Lz.rfl)|exact flx _|constructor), .cons (.cells (.own (.tkq (.arq (opc := [(_, encX (y, true))]) .one (Lw.of (keepX hjx hxj)) (.q1 (by (repeat' first|with_reducible exact Lz.rfl|exact Lw.rfl|exact Lz.wrap (by omega)|(unfold goInt;with_reducible exact Lz.rfl)|exact flx _|constructor))))) (.own (.tkq (.arq (opc := [(_, encQ ((prepS q.1 m.ballot q.2 m.slot).1, q.2))]) .one (Lw.of (setQ qs j _)) (.q1 (by (repeat' first|with_reducible exact Lz.rfl|exact Lw.rfl|exact Lz.wrap (by omega)|(unfold goInt;with_reducible exact Lz.rfl)|exact flx _|constructor))))) (.own (.same Lz.rfl) (.own (.same Lz.rfl) (.v (by (repeat' first|with_reducible exact Lz.rfl|exact Lw.rfl|exact Lz.wrap (by omega)|(unfold goInt;with_reducible exact Lz.rfl)|exact flx _|constructor)) rfl .nil)))))) .nil, by rfl⟩, ⟨rfl, rfl, xs, _, S, ch, rfl, by rw [hqs]; exact H, hp, by omega, by omega⟩⟩
  ((conv=>whnf)<;>repeat(with_reducible refine D1 ?_)<;>conv=>whnf)
  (first|refine ⟨?_,?_⟩|refine nsplit ?_ ?_|refine bsplit ?_ ?_)<;>intro k2<;>have hz_:=True.intro<;>clear hz_
  ·have k2 : m.kind = 2 := k2
   obtain ⟨hpr, hvl⟩ := H.pr m hm k2
   have hL := H.ld j y gl
   have hI := H.promise gl hm k2
   have hvin : ∀ v ∈ m.votes, inI v.slot := fun v hv => by
    have := (hpr.2.2 v hv).2.2
    unfold inI
    have h1 : IntKind.i64.min = -9223372036854775808 := rfl
    have h2 : IntKind.i64.max = 9223372036854775807 := rfl
    omega
   ((conv=>whnf)<;>repeat(with_reducible refine D1 ?_)<;>conv=>whnf)
   refine ⟨[], [some 3], _, _, _, _, promiseT_ok (y, true) hpj m.ballot m.frm m.votes hL.cm hL.op (by show m5 y.masters; rw [hL.ms]; unfold m5; omega) (by omega) hvin hL.nxt, t3, ?_⟩
   rintro r o' c' ⟨rfl, rfl, rfl⟩
   have hpx : PX ((promS y m.ballot m.frm m.votes).1, true) := promS_px hpj
   have hvl2 := promS_vs H gl hm k2
   generalize hvs : (promS y m.ballot m.frm m.votes).2.1 = vs at *
   generalize (promS y m.ballot m.frm m.votes).2.2 = ok at *
   generalize (promS y m.ballot m.frm m.votes).1 = y2 at *
   have hlx : (xs.set j (y2, true)).length = n := by rw [List.length_set]; exact hxl
   have hpx2 : ∀ p ∈ xs.set j (y2, true), PX p := fun p hpm => by
    rcases List.mem_or_eq_of_mem_set hpm with h | h
    ·exact hp p h
    ·rw [h]; exact hpx
   have hI2 : TalkI n ((xs.set j (y2, true)).map (·.1)) qs (S ++ vs.flatMap (sayP n j)) ch := by rw [List.map_set]; exact hI
   have hfl : ∀ i, (S ++ (vs.take i).flatMap (sayP n j)).length ≤ S.length + 2560 := fun i => by
    have h1 := flat_sayP n j (vs.take i)
    have h2 : (vs.take i).length * n ≤ 512 * 5 := Nat.mul_le_mul (by rw [List.length_take]; omega) hn5.2
    rw [List.length_append]; omega
   ((conv=>whnf)<;>repeat(with_reducible refine D1 ?_)<;>conv=>whnf)
   refine ⟨fun k f o c => ∃ i : Nat, i ≤ vs.length ∧ k = vs.length - i ∧ c = 2 ∧ f = [(0, .ptr 0 0), (3, .ptr 1 0), (9, .sl 6 (vs.map encV) false), (11, .s (.int .i64 i))] ∧
    o = [(0, talkC (xs.set j (y2, true)) qs (S ++ (vs.take i).flatMap (sayP n j)) ch), (1, .cells (encS m))], ⟨vs.length, ?_⟩, ?_⟩
   ·refine ⟨[], [some 0, some 1], _, _, _, ⟨by (repeat' first|with_reducible exact Lz.rfl|exact Lw.rfl|exact Lz.wrap (by omega)|(unfold goInt;with_reducible exact Lz.rfl)|exact flx _|constructor), .cons (.cells (.own (.tkq (.arq (opc := [(_, encX (y2, true))]) .one (Lw.of (setX xs j _)) (.q1 (by (repeat' first|with_reducible exact Lz.rfl|exact Lw.rfl|exact Lz.wrap (by omega)|(unfold goInt;with_reducible exact Lz.rfl)|exact flx _|constructor))))) (.own (.tkq (.arq (opc := [(_, encQ q)]) .one (Lw.of (keepQ hjq hqj)) (.q1 (by (repeat' first|with_reducible exact Lz.rfl|exact Lw.rfl|exact Lz.wrap (by omega)|(unfold goInt;with_reducible exact Lz.rfl)|exact flx _|constructor))))) (.own (.same (Lz.of (by simp))) (.own (.same Lz.rfl) (.v (by (repeat' first|with_reducible exact Lz.rfl|exact Lw.rfl|exact Lz.wrap (by omega)|(unfold goInt;with_reducible exact Lz.rfl)|exact flx _|constructor)) rfl .nil)))))) (.cons (.cells (by (repeat' first|with_reducible exact Lz.rfl|exact Lw.rfl|exact Lz.wrap (by omega)|(unfold goInt;with_reducible exact Lz.rfl)|exact flx _|constructor))) .nil), by rfl⟩, ⟨0, Nat.zero_le _, rfl, rfl, rfl, rfl⟩⟩
   ·rintro k f1 o1 c1 ⟨i, hi, rfl, rfl, rfl, rfl⟩
    have hfi := hfl i
    ((conv=>whnf)<;>repeat(with_reducible refine D1 ?_)<;>conv=>whnf)
    (first|refine ⟨?_,?_⟩|refine nsplit ?_ ?_|refine bsplit ?_ ?_)<;>intro hlt<;>have hz_:=True.intro<;>clear hz_
    ·have hlt := lenlt.1 hlt
     have hsn : S ++ (vs.take i).flatMap (sayP n j) ++ toAll (xs.set j (y2, true)).length ⟨3, m.to, 0, vs[i].ballot, vs[i].slot, [], cmdOf vs[i]⟩ = S ++ (vs.take (i + 1)).flatMap (sayP n j) := by
      rw [hlx, hj, List.take_succ_eq_append_getElem hlt, List.flatMap_append, List.append_assoc]
      simp [sayP]
     ((conv=>whnf)<;>repeat(with_reducible refine D1 ?_)<;>conv=>whnf)
     refine idxI hlt ?_
     ((conv=>whnf)<;>repeat(with_reducible refine D1 ?_)<;>conv=>whnf)
     refine idxI hlt ?_
     ((conv=>whnf)<;>repeat(with_reducible refine D1 ?_)<;>conv=>whnf)
     refine idxI hlt ?_
     ((conv=>whnf)<;>repeat(with_reducible refine D1 ?_)<;>conv=>whnf)
     refine ⟨[], [some 0], _, _, _, _, toAllC ⟨3, m.to, 0, vs[i].ballot, vs[i].slot, [], cmdOf vs[i]⟩ (xs.set j (y2, true)) qs (S ++ (vs.take i).flatMap (sayP n j)) ch (by omega) (by omega), t3, ?_⟩
     rintro r o' c' ⟨rfl, rfl, rfl⟩
     ((conv=>whnf)<;>repeat(with_reducible refine D1 ?_)<;>conv=>whnf)
     refine ⟨vs.length - (i + 1), ?_, by omega⟩
     refine ⟨[], [some 0, some 1], ?_⟩
     iterate 3 constructor
     refine ⟨⟨?_, ?_, ?_⟩, ⟨i + 1, hlt, rfl, rfl, rfl, rfl⟩⟩
     all_goals (repeat' first|with_reducible exact Lz.rfl|exact Lw.rfl|exact Lz.wrap (by omega)|(unfold goInt;with_reducible exact Lz.rfl)|exact flx _|constructor)
     exact Lz.of (by rw [hsn])
    ·have : i = vs.length := by have := mt lenlt.2 hlt
                                omega
     subst this
     have hfi2 := hfi
     rw [List.take_length] at hfi2 ⊢
     ((conv=>whnf)<;>repeat(with_reducible refine D1 ?_)<;>conv=>whnf)
     exact ⟨[], [some 0], _, _, _, t3, rfl, rfl, _, _, _, _, rfl, hI2, hpx2, by omega, by omega⟩
  ((conv=>whnf)<;>repeat(with_reducible refine D1 ?_)<;>conv=>whnf)
  (first|refine ⟨?_,?_⟩|refine nsplit ?_ ?_|refine bsplit ?_ ?_)<;>intro k3<;>have hz_:=True.intro<;>clear hz_
  ·have k3 : m.kind = 3 := k3
   ((conv=>whnf)<;>repeat(with_reducible refine D1 ?_)<;>conv=>whnf)
   refine ⟨[], [some 5], _, _, _, _, acceptT_ok q m.ballot m.slot m.cmd, t3, ?_⟩
   rintro r o' c' ⟨rfl, rfl, rfl⟩
   ((conv=>whnf)<;>repeat(with_reducible refine D1 ?_)<;>conv=>whnf)
   (first|refine ⟨?_,?_⟩|refine nsplit ?_ ?_|refine bsplit ?_ ?_)<;>intro he<;>have hz_:=True.intro<;>clear hz_
   ·have he : (accS q.1 q.2 m.ballot m.slot m.cmd).2.2 = 0 := he
    have hI := H.accept gqq (b := m.ballot) (s := m.slot) (to := m.frm) (c := m.cmd) ⟨r1, r2⟩ ⟨m, hm, k3, rfl, rfl, rfl⟩ he noCmd
    ((conv=>whnf)<;>repeat(with_reducible refine D1 ?_)<;>conv=>whnf)
    refine ⟨by simp; omega, ?_⟩
    ((conv=>whnf)<;>repeat(with_reducible refine D1 ?_)<;>conv=>whnf)
    refine ⟨[], [some 0], _, _, _, ⟨by (repeat' first|with_reducible exact Lz.rfl|exact Lw.rfl|exact Lz.wrap (by omega)|(unfold goInt;with_reducible exact Lz.rfl)|exact flx _|constructor), .cons (.cells (.own (.tkq (.arq (opc := [(_, encX (y, true))]) .one (Lw.of (keepX hjx hxj)) (.q1 (by (repeat' first|with_reducible exact Lz.rfl|exact Lw.rfl|exact Lz.wrap (by omega)|(unfold goInt;with_reducible exact Lz.rfl)|exact flx _|constructor))))) (.own (.tkq (.arq (opc := [(_, encQ ((accS q.1 q.2 m.ballot m.slot m.cmd).1, (accS q.1 q.2 m.ballot m.slot m.cmd).2.1))]) .one (Lw.of (setQ qs j _)) (.q1 (by (repeat' first|with_reducible exact Lz.rfl|exact Lw.rfl|exact Lz.wrap (by omega)|(unfold goInt;with_reducible exact Lz.rfl)|exact flx _|constructor))))) (.own (.tk (.arrz Lz.rfl (Lz.of (saySnoc S ⟨4, m.to, m.frm, m.ballot, m.slot, [], noCmd⟩)) (.same (.same (.same (.same (.same (.zero (.same (.same (.same (.same .nil)))))))))))) (.own (.same Lz.rfl) (.v (by (repeat' first|with_reducible exact Lz.rfl|exact Lw.rfl|exact Lz.wrap (by omega)|(unfold goInt;with_reducible exact Lz.rfl)|exact flx _|constructor)) rfl .nil)))))) .nil, by rfl⟩, ⟨rfl, rfl, xs, _, _, ch, rfl, by rw [hj]; exact hI, hp, by simp, by omega⟩⟩
   ·have he : (accS q.1 q.2 m.ballot m.slot m.cmd).2.2 ≠ 0 := he
    have hq1 : ((accS q.1 q.2 m.ballot m.slot m.cmd).1, (accS q.1 q.2 m.ballot m.slot m.cmd).2.1) = q := by
     unfold accS at he ⊢
     split
     ·rfl
     ·split
      ·rfl
      ·split
       ·rfl
       ·rename_i h1 h2 h3; rw [if_neg h1, if_neg h2, if_neg h3] at he; exact absurd rfl he
    have hqs : qs.set j ((accS q.1 q.2 m.ballot m.slot m.cmd).1, (accS q.1 q.2 m.ballot m.slot m.cmd).2.1) = qs := by rw [hq1]; exact setSelf gqq
    ((conv=>whnf)<;>repeat(with_reducible refine D1 ?_)<;>conv=>whnf)
    refine ⟨[], [some 0], _, _, _, ⟨by (repeat' first|with_reducible exact Lz.rfl|exact Lw.rfl|exact Lz.wrap (by omega)|(unfold goInt;with_reducible exact Lz.rfl)|exact flx _|constructor), .cons (.cells (.own (.tkq (.arq (opc := [(_, encX (y, true))]) .one (Lw.of (keepX hjx hxj)) (.q1 (by (repeat' first|with_reducible exact Lz.rfl|exact Lw.rfl|exact Lz.wrap (by omega)|(unfold goInt;with_reducible exact Lz.rfl)|exact flx _|constructor))))) (.own (.tkq (.arq (opc := [(_, encQ ((accS q.1 q.2 m.ballot m.slot m.cmd).1, (accS q.1 q.2 m.ballot m.slot m.cmd).2.1))]) .one (Lw.of (setQ qs j _)) (.q1 (by (repeat' first|with_reducible exact Lz.rfl|exact Lw.rfl|exact Lz.wrap (by omega)|(unfold goInt;with_reducible exact Lz.rfl)|exact flx _|constructor))))) (.own (.same Lz.rfl) (.own (.same Lz.rfl) (.v (by (repeat' first|with_reducible exact Lz.rfl|exact Lw.rfl|exact Lz.wrap (by omega)|(unfold goInt;with_reducible exact Lz.rfl)|exact flx _|constructor)) rfl .nil)))))) .nil, by rfl⟩, ⟨rfl, rfl, xs, _, S, ch, rfl, by rw [hqs]; exact H, hp, by omega, by omega⟩⟩
  have k1 : ¬ m.kind = 1 := k1
  have k2 : ¬ m.kind = 2 := k2
  have k3 : ¬ m.kind = 3 := k3
  have k4 : m.kind = 4 := by omega
  have hL := H.ld j y gl
  have hI := H.accepted gl hm k4
  ((conv=>whnf)<;>repeat(with_reducible refine D1 ?_)<;>conv=>whnf)
  refine ⟨[], [some 3], _, _, _, _, acceptedT_ok (y, true) hpj m.ballot m.slot m.frm (by show m5 y.masters; rw [hL.ms]; unfold m5; omega) hL.ev hL.op.nd, t3, ?_⟩
  rintro r o' c' ⟨rfl, rfl, rfl⟩
  have hpx : PX ((acceptedS y m.ballot m.slot m.frm).1, true) := acceptedS_px hpj
  generalize (acceptedS y m.ballot m.slot m.frm).2.1 = v at *
  generalize (acceptedS y m.ballot m.slot m.frm).2.2 = ok at *
  generalize (acceptedS y m.ballot m.slot m.frm).1 = y2 at *
  have hpx2 : ∀ p ∈ xs.set j (y2, true), PX p := fun p hpm => by
   rcases List.mem_or_eq_of_mem_set hpm with h | h
   ·exact hp p h
   ·rw [h]; exact hpx
  have hI2 : TalkI n ((xs.set j (y2, true)).map (·.1)) qs S (bif ok then ch ++ [v] else ch) := by rw [List.map_set]; exact hI
  cases ok with
  | false =>
   ((conv=>whnf)<;>repeat(with_reducible refine D1 ?_)<;>conv=>whnf)
   refine ⟨[], [some 0], _, _, _, ⟨by (repeat' first|with_reducible exact Lz.rfl|exact Lw.rfl|exact Lz.wrap (by omega)|(unfold goInt;with_reducible exact Lz.rfl)|exact flx _|constructor), .cons (.cells (.own (.tkq (.arq (opc := [(_, encX (y2, true))]) .one (Lw.of (setX xs j _)) (.q1 (by (repeat' first|with_reducible exact Lz.rfl|exact Lw.rfl|exact Lz.wrap (by omega)|(unfold goInt;with_reducible exact Lz.rfl)|exact flx _|constructor))))) (.own (.tkq (.arq (opc := [(_, encQ q)]) .one (Lw.of (keepQ hjq hqj)) (.q1 (by (repeat' first|with_reducible exact Lz.rfl|exact Lw.rfl|exact Lz.wrap (by omega)|(unfold goInt;with_reducible exact Lz.rfl)|exact flx _|constructor))))) (.own (.same Lz.rfl) (.own (.same Lz.rfl) (.v (by (repeat' first|with_reducible exact Lz.rfl|exact Lw.rfl|exact Lz.wrap (by omega)|(unfold goInt;with_reducible exact Lz.rfl)|exact flx _|constructor)) rfl .nil)))))) .nil, by rfl⟩, ⟨rfl, rfl, _, _, S, ch, rfl, hI2, hpx2, by omega, by omega⟩⟩
  | true =>
   ((conv=>whnf)<;>repeat(with_reducible refine D1 ?_)<;>conv=>whnf)
   refine ⟨[], [some 0], _, _, _, _, chooseC v (xs.set j (y2, true)) qs S ch (by omega) (fun w hw hs => hI2.safe w (List.mem_append_left _ hw) v (by simp) hs), ⟨by (repeat' first|with_reducible exact Lz.rfl|exact Lw.rfl|exact Lz.wrap (by omega)|(unfold goInt;with_reducible exact Lz.rfl)|exact flx _|constructor), .cons (.cells (.own (.tkq (.arq (opc := [(_, encX (y2, true))]) .one (Lw.of (setX xs j _)) (.q1 (by (repeat' first|with_reducible exact Lz.rfl|exact Lw.rfl|exact Lz.wrap (by omega)|(unfold goInt;with_reducible exact Lz.rfl)|exact flx _|constructor))))) (.own (.tkq (.arq (opc := [(_, encQ q)]) .one (Lw.of (keepQ hjq hqj)) (.q1 (by (repeat' first|with_reducible exact Lz.rfl|exact Lw.rfl|exact Lz.wrap (by omega)|(unfold goInt;with_reducible exact Lz.rfl)|exact flx _|constructor))))) (.own (.same Lz.rfl) (.own (.same Lz.rfl) (.v (by (repeat' first|with_reducible exact Lz.rfl|exact Lw.rfl|exact Lz.wrap (by omega)|(unfold goInt;with_reducible exact Lz.rfl)|exact flx _|constructor)) rfl .nil)))))) .nil, by rfl⟩, ?_⟩
   rintro r o' c' ⟨rfl, rfl, rfl⟩
   ((conv=>whnf)<;>repeat(with_reducible refine D1 ?_)<;>conv=>whnf)
   exact ⟨[], [some 0], _, _, _, t3, rfl, rfl, _, _, _, _, rfl, hI2, hpx2, by omega, by simp⟩
end Go.M
namespace Go.M
open Go Go.Proofs
set_option maxRecDepth 100000
set_option maxHeartbeats 8000000
theorem awakeS : VC E0 4 0 [] [] (fun r o c => r = .s (.bool true) ∧ o = [] ∧ c = 0) := VC.awakeH (by kernel_rfl) (fun _ => rfl)
structure Pk where
 kind : Int
 i : Int
 late : Bool
 b : Int
 cmd : Cmd
@[reducible] def encPk (p : Pk) : List TV := [.s (.int .i64 p.kind), .s (.int .i64 p.i), .s (.bool p.late), .s (.int .u64 p.b), .s (.int .i64 p.cmd.kind), .s (.int .i64 p.cmd.chain), .s (.int .u64 p.cmd.epoch), .s (.int .i64 p.cmd.node)]
def xs0 (n k : Nat) : List (LeadS × Bool) := (List.range k).map fun (i : Nat) => (L0S (i + 1) n, false)
def qs0 (k : Nat) : List Acp := List.replicate k (0, [])
theorem xs0_succ (n k : Nat) : xs0 n (k + 1) = xs0 n k ++ [(L0S (k + 1) n, false)] := by unfold xs0; rw [List.range_succ, List.map_append]; rfl
theorem qs0_succ (k : Nat) : qs0 (k + 1) = qs0 k ++ [(0, [])] := by unfold qs0; rw [List.replicate_succ']
theorem xs0_len (n k : Nat) : (xs0 n k).length = k := by simp [xs0]
theorem qs0_len (k : Nat) : (qs0 k).length = k := by simp [qs0]
theorem vrem {a b : Int} (ha : 0 ≤ a) (hb : 0 < b) : vint .rem .i64 .i64 a b = some (.int .i64 (a % b)) := by
 show pureV (Go.binOp .rem 0 (.int .i64 a) (.int .i64 b)) = _
 simp only [Go.binOp, Op.intDiv]
 rw [Int.tmod_eq_emod_of_nonneg ha]
 simp [show b ≠ 0 by omega]
 rfl
theorem talk0 (n : Nat) (h : 1 ≤ n ∧ n ≤ 5) : TalkI n ((xs0 n n).map (·.1)) (qs0 n) [] [] := by
 refine ⟨h, by simp [xs0], by simp [qs0], by simp, fun i x hx => ?_, fun i q hq => ?_, fun a b s hv => ?_, by simp, by simp, fun b s c hp => ?_, by simp⟩
 ·have hi : i < n := by have := (List.getElem?_eq_some_iff.1 hx).1; simpa [xs0] using this
  have hx : x = L0S (i + 1) n := by
   rw [List.getElem?_map] at hx
   unfold xs0 at hx
   rw [List.getElem?_map, List.getElem?_range hi] at hx
   simpa using hx.symm
  subst hx
  exact ⟨rfl, rfl, by show (0 : Int) ≤ 0 ∧ (0 : Int) ≤ 18446744073709551615; decide, .inl rfl, rfl, by show (0 : Int) ≤ 0 ∧ (0 : Int) ≤ 512; decide, fun h => absurd rfl h, ⟨.nil, by simp [keysA], by simp⟩, ⟨.nil, by simp [keysA]⟩, by simp, by simp, fun h => absurd (show (0 : Int) = 1 from h) (by decide), fun h => absurd (show (0 : Int) = 2 from h) (by decide), fun h => absurd (show (0 : Int) = 2 from h) (by decide)⟩
 ·have hq : q = (0, []) := by
   have := List.mem_of_getElem? hq
   unfold qs0 at this
   exact List.eq_of_mem_replicate this
  subst hq
  exact ⟨⟨⟨.nil, by simp⟩, by simp, by simp⟩, Int.le_refl _, by simp⟩
 ·obtain ⟨m, hm, _⟩ := hv; cases hm
 ·obtain ⟨m, hm, _⟩ := hp; cases hm
theorem px0 (n k : Nat) : ∀ p ∈ xs0 n k, PX p := fun p hp => by
 unfold xs0 at hp
 obtain ⟨i, _, rfl⟩ := List.mem_map.1 hp
 exact fun _ => ⟨_, _, rfl⟩
theorem appX (n k : Nat) (x : List TV) : apOp ((xs0 n k).map encX ++ [x]) [(((xs0 n k).map encX).length, encX (L0S (k + 1) n, false))] = (xs0 n (k + 1)).map encX := by
 show ((xs0 n k).map encX ++ [x]).set ((xs0 n k).map encX).length _ = _
 rw [List.set_append, if_neg (by simp), xs0_succ]
 simp
theorem appQ (k : Nat) (x : List TV) : apOp ((qs0 k).map encQ ++ [x]) [(((qs0 k).map encQ).length, encQ (0, []))] = (qs0 (k + 1)).map encQ := by
 show ((qs0 k).map encQ ++ [x]).set ((qs0 k).map encQ).length _ = _
 rw [List.set_append, if_neg (by simp), qs0_succ]
 simp
theorem prop_no {x : LeadS} {c : Cmd} (h : (proposeS x c).2.2 ≠ 0) : (proposeS x c).1 = x := by
 unfold proposeS at h ⊢
 split
 ·rfl
 split
 ·rfl
 split
 ·rfl
 split
 ·rfl
 ·rename_i h1 h2 h3 h4; rw [if_neg h1, if_neg h2, if_neg h3, if_neg h4] at h; exact absurd rfl h
theorem proposeS_px {x : LeadS} {f : Bool} (h : PX (x, f)) {c : Cmd} : PX ((proposeS x c).1, f) := by
 intro hf
 obtain ⟨me, ms, e⟩ := h hf
 refine ⟨me, ms, ?_⟩
 have e : x = L0S me ms := e
 subst e
 show (proposeS (L0S me ms) c).1 = _
 unfold proposeS
 rw [if_pos (show (0 : Int) ≠ 2 by decide)]
theorem start_up {x : LeadS} {above : Int} (ha : 0 ≤ above) (hb : 0 ≤ x.b ∧ x.b ≤ 18446744073709551615) (hm : m5 x.me) (he : (startQ x above 0).2 = 0) : (x.b < (startQ x above 0).1 ∧ (startQ x above 0).1 ≤ 18446744073709551615) ∧ (startQ x above 0).1 % 8 = x.me := by
 have h0 : ¬ ((0 : Int) < 0 ∨ (0 : Int) > 512) := by omega
 unfold startQ at he ⊢
 rw [if_neg h0] at he ⊢
 by_cases h1 : (nextS (mxI above x.b) x.me).2 ≠ 0
 ·rw [if_pos h1] at he; exact absurd he h1
 ·rw [if_neg h1] at he ⊢
  have hmx : 0 ≤ mxI above x.b ∧ x.b ≤ mxI above x.b := by unfold mxI; split <;> omega
  obtain ⟨u1, u2⟩ := nextS_up hmx.1 hm he
  exact ⟨⟨by omega, (nextS_rng hm).2⟩, u2⟩
theorem refuseS_px {x : LeadS} {f : Bool} (h : PX (x, f)) {b : Int} : PX ((refuseS x b).1, f) := by
 intro hf
 obtain ⟨me, ms, e⟩ := h hf
 refine ⟨me, ms, ?_⟩
 have e : x = L0S me ms := e
 subst e
 show (refuseS (L0S me ms) b).1 = _
 unfold refuseS
 rw [if_pos (.inl rfl)]
theorem safeC (masters : Int) (ps : List Pk) (hb : ∀ p ∈ ps, 0 ≤ p.b ∧ p.b ≤ 18446744073709551615) : VC E0 3 0 [.s (.int .i64 masters), .sl 8 (ps.map encPk) false] [] (fun r _ _ => r = .s (.bool true)) := by
 refine VC.enterR L0 (show E0.func 3 = some Try.f3 by kernel_rfl) (fun _ _ => rfl) rfl rfl [] ?_
 ((conv=>whnf)<;>repeat(with_reducible refine D1 ?_)<;>conv=>whnf)
 (first|refine ⟨?_,?_⟩|refine nsplit ?_ ?_|refine bsplit ?_ ?_)<;>intro h1<;>have hz_:=True.intro<;>clear hz_
 ·((conv=>whnf)<;>repeat(with_reducible refine D1 ?_)<;>conv=>whnf)
  refine ⟨[], [], _, _, _, _, awakeS, t3, ?_⟩
  rintro r o' c' ⟨rfl, rfl, rfl⟩
  ((conv=>whnf)<;>repeat(with_reducible refine D1 ?_)<;>conv=>whnf)
  exact ⟨[], [], [], .s (.bool true), [], ⟨.s Lz.rfl, .nil, rfl⟩, rfl⟩
 have h1 : ¬ masters < 1 := h1
 ((conv=>whnf)<;>repeat(with_reducible refine D1 ?_)<;>conv=>whnf)
 (first|refine ⟨?_,?_⟩|refine nsplit ?_ ?_|refine bsplit ?_ ?_)<;>intro h2<;>have hz_:=True.intro<;>clear hz_
 ·((conv=>whnf)<;>repeat(with_reducible refine D1 ?_)<;>conv=>whnf)
  refine ⟨[], [], _, _, _, _, awakeS, t3, ?_⟩
  rintro r o' c' ⟨rfl, rfl, rfl⟩
  ((conv=>whnf)<;>repeat(with_reducible refine D1 ?_)<;>conv=>whnf)
  exact ⟨[], [], [], .s (.bool true), [], ⟨.s Lz.rfl, .nil, rfl⟩, rfl⟩
 have h2 : ¬ masters > 5 := h2
 ((conv=>whnf)<;>repeat(with_reducible refine D1 ?_)<;>conv=>whnf)
 (first|refine ⟨?_,?_⟩|refine nsplit ?_ ?_|refine bsplit ?_ ?_)<;>intro h3<;>have hz_:=True.intro<;>clear hz_
 ·((conv=>whnf)<;>repeat(with_reducible refine D1 ?_)<;>conv=>whnf)
  refine ⟨[], [], _, _, _, _, awakeS, t3, ?_⟩
  rintro r o' c' ⟨rfl, rfl, rfl⟩
  ((conv=>whnf)<;>repeat(with_reducible refine D1 ?_)<;>conv=>whnf)
  exact ⟨[], [], [], .s (.bool true), [], ⟨.s Lz.rfl, .nil, rfl⟩, rfl⟩
 have h3 : ¬ (((ps.map encPk).length : Nat) : Int) > 300 := h3
 rw [List.length_map] at h3
 obtain ⟨n, rfl⟩ : ∃ n : Nat, masters = n := ⟨masters.toNat, by omega⟩
 ((conv=>whnf)<;>repeat(with_reducible refine D1 ?_)<;>conv=>whnf)
 refine ⟨fun kk f o c => ∃ (k : Nat) (jj : Int), jj = k + 1 ∧ k ≤ n ∧ kk = n - k ∧ c = 1 ∧ f = [(0, .s (.int .i64 n)), (1, .sl 8 (ps.map encPk) false), (5, .ptr 0 0), (6, .s (.int .i64 jj))] ∧ o = stT (xs0 n k) (qs0 k) [] [], ⟨n, ?_⟩, ?_⟩
 ·exact ⟨[], [some 0], _, _, _, t3, ⟨0, 1, rfl, Nat.zero_le _, rfl, rfl, rfl, rfl⟩⟩
 ·rintro kk f1 o1 c1 ⟨k, jj, hj, hk, rfl, rfl, rfl, rfl⟩
  ((conv=>whnf)<;>repeat(with_reducible refine D1 ?_)<;>conv=>whnf)
  (first|refine ⟨?_,?_⟩|refine nsplit ?_ ?_|refine bsplit ?_ ?_)<;>intro hlt<;>have hz_:=True.intro<;>clear hz_
  ·have hlt : jj ≤ n := hlt
   ((conv=>whnf)<;>repeat(with_reducible refine D1 ?_)<;>conv=>whnf)
   refine ⟨[], [], _, _, _, _, newL_ok jj n (by unfold m5; omega) (by omega), t3, ?_⟩
   rintro r o' c' ⟨rfl, rfl, rfl⟩
   ((conv=>whnf)<;>repeat(with_reducible refine D1 ?_)<;>conv=>whnf)
   refine ⟨by simp [xs0_len]; omega, ?_⟩
   ((conv=>whnf)<;>repeat(with_reducible refine D1 ?_)<;>conv=>whnf)
   refine ⟨[], [], _, _, _, _, new_ok, t3, ?_⟩
   rintro r o' c' ⟨rfl, rfl, rfl⟩
   ((conv=>whnf)<;>repeat(with_reducible refine D1 ?_)<;>conv=>whnf)
   refine ⟨by simp [qs0_len]; omega, ?_⟩
   ((conv=>whnf)<;>repeat(with_reducible refine D1 ?_)<;>conv=>whnf)
   refine ⟨n - (k + 1), ?_, by omega⟩
   have hwr : IntKind.i64.wrap (jj + 1) = jj + 1 := IntWalk.i64_in _ (by omega)
   rw [hwr]
   subst hj
   refine ⟨[], [some 0], _, _, _, ⟨by (repeat' first|with_reducible exact Lz.rfl|exact Lw.rfl|exact Lz.wrap (by omega)|(unfold goInt;with_reducible exact Lz.rfl)|exact flx _|constructor), .cons (.cells (.own (.tkq (.arq (opc := [(_, encX (L0S (k + 1) n, false))]) .one (Lw.of (appX n k _)) (.q1 (by (repeat' first|with_reducible exact Lz.rfl|exact Lw.rfl|exact Lz.wrap (by omega)|(unfold goInt;with_reducible exact Lz.rfl)|exact flx _|constructor))))) (.own (.tkq (.arq (opc := [(_, encQ (0, []))]) .one (Lw.of (appQ k _)) (.q1 (by (repeat' first|with_reducible exact Lz.rfl|exact Lw.rfl|exact Lz.wrap (by omega)|(unfold goInt;with_reducible exact Lz.rfl)|exact flx _|constructor))))) (.own (.same Lz.rfl) (.own (.same Lz.rfl) (.v (by (repeat' first|with_reducible exact Lz.rfl|exact Lw.rfl|exact Lz.wrap (by omega)|(unfold goInt;with_reducible exact Lz.rfl)|exact flx _|constructor)) rfl .nil)))))) .nil, by rfl⟩, ⟨k + 1, (k + 1 : Int) + 1, by omega, by omega, rfl, rfl, rfl, rfl⟩⟩
  ·have hlt : ¬ jj ≤ n := hlt
   have hk2 : k = n := by omega
   have hT := talk0 n (by omega)
   have hP := px0 n n
   rw [hk2]
   generalize xs0 n n = xsA at hT hP
   generalize qs0 n = qsA at hT
   ((conv=>whnf)<;>repeat(with_reducible refine D1 ?_)<;>conv=>whnf)
   refine ⟨fun kk f o c => ∃ (i : Nat) (xs : List (LeadS × Bool)) (qs : List Acp) (S : List Say) (ch : List Vote), i ≤ ps.length ∧ kk = ps.length - i ∧ TalkI n (xs.map (·.1)) qs S ch ∧ (∀ p ∈ xs, PX p) ∧ S.length ≤ 4000 ∧ ch.length ≤ i ∧ c = 1 ∧
    f = [(0, .s (.int .i64 n)), (1, .sl 8 (ps.map encPk) false), (5, .ptr 0 0), (9, .s (.int .i64 i))] ∧ o = stT xs qs S ch, ⟨ps.length, ?_⟩, ?_⟩
   ·exact ⟨[], [some 0], _, _, _, t3, ⟨0, xsA, qsA, [], [], Nat.zero_le _, rfl, hT, hP, by simp, by simp, rfl, rfl, rfl⟩⟩
   clear hT hP hj hlt
   rintro kk f1 o1 c1 ⟨i, xs, qs, S, ch, hi, rfl, H, hp, hS, hch, rfl, rfl, rfl⟩
   ((conv=>whnf)<;>repeat(with_reducible refine D1 ?_)<;>conv=>whnf)
   (first|refine ⟨?_,?_⟩|refine nsplit ?_ ?_|refine bsplit ?_ ?_)<;>intro hlt<;>have hz_:=True.intro<;>clear hz_
   rotate_left
   ·((conv=>whnf)<;>repeat(with_reducible refine D1 ?_)<;>conv=>whnf)
    repeat ((first | (refine ⟨fun h_ => ?_, fun h_ => ?_⟩) | (refine nsplit (fun h_ => ?_) (fun h_ => ?_)) | (refine bsplit (fun h_ => ?_) (fun h_ => ?_))) <;> first | (exfalso; revert h_; decide; done) | (exact absurd rfl h_) | (have hz_ := True.intro; clear hz_; ((conv=>whnf)<;>repeat(with_reducible refine D1 ?_)<;>conv=>whnf)))
    refine ⟨[], [], _, _, _, _, awakeS, t3, ?_⟩
    rintro r o' c' ⟨rfl, rfl, rfl⟩
    ((conv=>whnf)<;>repeat(with_reducible refine D1 ?_)<;>conv=>whnf)
    exact ⟨[], [], [], .s (.bool true), [], ⟨.s Lz.rfl, .nil, rfl⟩, rfl⟩
   have hlt := lenlt.1 hlt
   have hbb := hb _ (List.getElem_mem hlt)
   ((conv=>whnf)<;>repeat(with_reducible refine D1 ?_)<;>conv=>whnf)
   repeat ((first | (refine ⟨fun h_ => ?_, fun h_ => ?_⟩) | (refine nsplit (fun h_ => ?_) (fun h_ => ?_)) | (refine bsplit (fun h_ => ?_) (fun h_ => ?_))) <;> first | (exfalso; revert h_; decide; done) | (exact absurd rfl h_) | (have hz_ := True.intro; clear hz_; ((conv=>whnf)<;>repeat(with_reducible refine D1 ?_)<;>conv=>whnf)))
   refine idxI hlt ?_
   ((conv=>whnf)<;>repeat(with_reducible refine D1 ?_)<;>conv=>whnf)
   (first|refine ⟨?_,?_⟩|refine nsplit ?_ ?_|refine bsplit ?_ ?_)<;>intro hneg<;>have hz_:=True.intro<;>clear hz_
   ·((conv=>whnf)<;>repeat(with_reducible refine D1 ?_)<;>conv=>whnf)
    refine ⟨[], [], _, _, _, _, awakeS, t3, ?_⟩
    rintro r o' c' ⟨rfl, rfl, rfl⟩
    ((conv=>whnf)<;>repeat(with_reducible refine D1 ?_)<;>conv=>whnf)
    exact ⟨[], [], [], .s (.bool true), [], ⟨.s Lz.rfl, .nil, rfl⟩, rfl⟩
   have hneg : ¬ ps[i].i < 0 := hneg
   ((conv=>whnf)<;>repeat(with_reducible refine D1 ?_)<;>conv=>whnf)
   refine idxI hlt ?_
   ((conv=>whnf)<;>repeat(with_reducible refine D1 ?_)<;>conv=>whnf)
   rw [vrem (by omega) (by omega)]
   obtain ⟨j, hj⟩ : ∃ j : Nat, ps[i].i % (n : Int) = j := ⟨(ps[i].i % (n : Int)).toNat, by have := Int.emod_nonneg ps[i].i (show (n : Int) ≠ 0 by omega); omega⟩
   have hjn : j < n := by have := Int.emod_lt_of_pos ps[i].i (show (0 : Int) < n by omega); omega
   rw [hj]
   have hxl : xs.length = n := by have := H.xl; rwa [List.length_map] at this
   have hql := H.al
   have hjx : j < xs.length := by omega
   have gl : (xs.map (·.1))[j]? = some xs[j].1 := by rw [List.getElem?_map, List.getElem?_eq_getElem hjx]; rfl
   ((conv=>whnf)<;>repeat(with_reducible refine D1 ?_)<;>conv=>whnf)
   refine idxI hlt ?_
   ((conv=>whnf)<;>repeat(with_reducible refine D1 ?_)<;>conv=>whnf)
   (first|refine ⟨?_,?_⟩|refine nsplit ?_ ?_|refine bsplit ?_ ?_)<;>intro k0<;>have hz_:=True.intro<;>clear hz_
   ·((conv=>whnf)<;>repeat(with_reducible refine D1 ?_)<;>conv=>whnf)
    (first|refine ⟨?_,?_⟩|refine nsplit ?_ ?_|refine bsplit ?_ ?_)<;>intro hn0<;>have hz_:=True.intro<;>clear hz_
    ·((conv=>whnf)<;>repeat(with_reducible refine D1 ?_)<;>conv=>whnf)
     refine ⟨ps.length - (i + 1), ?_, by omega⟩
     exact ⟨[], [some 0], _, _, _, t3, ⟨i + 1, xs, qs, S, ch, hlt, rfl, H, hp, hS, by omega, rfl, rfl, rfl⟩⟩
    have hn0 : ¬ (((S.map encS).length : Nat) : Int) = 0 := hn0
    rw [List.length_map] at hn0
    ((conv=>whnf)<;>repeat(with_reducible refine D1 ?_)<;>conv=>whnf)
    refine idxI hlt ?_
    ((conv=>whnf)<;>repeat(with_reducible refine D1 ?_)<;>conv=>whnf)
    rw [vrem (by omega) (by rw [List.length_map]; omega)]
    ((conv=>whnf)<;>repeat(with_reducible refine D1 ?_)<;>conv=>whnf)
    refine idxI hlt ?_
    ((conv=>whnf)<;>repeat(with_reducible refine D1 ?_)<;>conv=>whnf)
    have hlen : ((S.map encS).length : Int) = S.length := by rw [List.length_map]
    cases hla : ps[i].late with
    | true =>
     obtain ⟨a, ha⟩ : ∃ a : Nat, ps[i].i % ((S.map encS).length : Int) = a := ⟨(ps[i].i % ((S.map encS).length : Int)).toNat, by have := Int.emod_nonneg ps[i].i (show ((S.map encS).length : Int) ≠ 0 by omega); omega⟩
     have haS : a < S.length := by have := Int.emod_lt_of_pos ps[i].i (show (0 : Int) < ((S.map encS).length : Int) by omega); omega
     rw [ha]
     ((conv=>whnf)<;>repeat(with_reducible refine D1 ?_)<;>conv=>whnf)
     refine ⟨⟨by omega, by rw [List.length_map]; omega⟩, ?_⟩
     ((conv=>whnf)<;>repeat(with_reducible refine D1 ?_)<;>conv=>whnf)
     refine ⟨encS S[a], by rw [Int.toNat_natCast, List.getElem?_map, List.getElem?_eq_getElem haS]; rfl, ?_⟩
     ((conv=>whnf)<;>repeat(with_reducible refine D1 ?_)<;>conv=>whnf)
     refine ⟨[], [some 0], _, _, _, _, hearC H hp S[a] (List.getElem_mem haS) (by omega) (by omega), t3, ?_⟩
     rintro r o' c' ⟨rfl, rfl, xs2, qs2, S2, ch2, rfl, H2, hp2, hS2, hch2⟩
     ((conv=>whnf)<;>repeat(with_reducible refine D1 ?_)<;>conv=>whnf)
     (first|refine ⟨?_,?_⟩|refine nsplit ?_ ?_|refine bsplit ?_ ?_)<;>intro h4<;>have hz_:=True.intro<;>clear hz_
     ·((conv=>whnf)<;>repeat(with_reducible refine D1 ?_)<;>conv=>whnf)
      repeat ((first | (refine ⟨fun h_ => ?_, fun h_ => ?_⟩) | (refine nsplit (fun h_ => ?_) (fun h_ => ?_)) | (refine bsplit (fun h_ => ?_) (fun h_ => ?_))) <;> first | (exfalso; revert h_; decide; done) | (exact absurd rfl h_) | (have hz_ := True.intro; clear hz_; ((conv=>whnf)<;>repeat(with_reducible refine D1 ?_)<;>conv=>whnf)))
      refine ⟨[], [], _, _, _, _, awakeS, t3, ?_⟩
      rintro r o' c' ⟨rfl, rfl, rfl⟩
      ((conv=>whnf)<;>repeat(with_reducible refine D1 ?_)<;>conv=>whnf)
      exact ⟨[], [], [], .s (.bool true), [], ⟨.s Lz.rfl, .nil, rfl⟩, rfl⟩
     have h4 : ¬ (((S2.map encS).length : Nat) : Int) > 4000 := h4
     rw [List.length_map] at h4
     ((conv=>whnf)<;>repeat(with_reducible refine D1 ?_)<;>conv=>whnf)
     refine ⟨ps.length - (i + 1), ?_, by omega⟩
     exact ⟨[], [some 0], _, _, _, t3, ⟨i + 1, xs2, qs2, S2, ch2, hlt, rfl, H2, hp2, by omega, by omega, rfl, rfl, rfl⟩⟩
    | false =>
     ((conv=>whnf)<;>repeat(with_reducible refine D1 ?_)<;>conv=>whnf)
     refine idxI hlt ?_
     ((conv=>whnf)<;>repeat(with_reducible refine D1 ?_)<;>conv=>whnf)
     rw [vrem (by omega) (by split <;> omega)]
     have hmn : 0 < (if (12 : Int) < (((S.map encS).length : Nat) : Int) then (12 : Int) else (((S.map encS).length : Nat) : Int)) ∧ (if (12 : Int) < (((S.map encS).length : Nat) : Int) then (12 : Int) else (((S.map encS).length : Nat) : Int)) ≤ S.length := by split <;> omega
     generalize (if (12 : Int) < (((S.map encS).length : Nat) : Int) then (12 : Int) else (((S.map encS).length : Nat) : Int)) = mn at hmn ⊢
     have hr0 := Int.emod_nonneg ps[i].i (show mn ≠ 0 by omega)
     have hr1 := Int.emod_lt_of_pos ps[i].i hmn.1
     ((conv=>whnf)<;>repeat(with_reducible refine D1 ?_)<;>conv=>whnf)
     have hw1 : IntKind.i64.wrap ((((S.map encS).length : Nat) : Int) - 1) = (((S.map encS).length : Nat) : Int) - 1 := IntWalk.i64_in _ (by omega)
     rw [hw1]
     have hw2 : IntKind.i64.wrap ((((S.map encS).length : Nat) : Int) - 1 - ps[i].i % mn) = (((S.map encS).length : Nat) : Int) - 1 - ps[i].i % mn := IntWalk.i64_in _ (by omega)
     rw [hw2]
     obtain ⟨a, ha⟩ : ∃ a : Nat, (((S.map encS).length : Nat) : Int) - 1 - ps[i].i % mn = a := ⟨((((S.map encS).length : Nat) : Int) - 1 - ps[i].i % mn).toNat, by omega⟩
     have haS : a < S.length := by omega
     rw [ha]
     refine ⟨⟨by omega, by rw [List.length_map]; omega⟩, ?_⟩
     ((conv=>whnf)<;>repeat(with_reducible refine D1 ?_)<;>conv=>whnf)
     refine ⟨encS S[a], by rw [Int.toNat_natCast, List.getElem?_map, List.getElem?_eq_getElem haS]; rfl, ?_⟩
     ((conv=>whnf)<;>repeat(with_reducible refine D1 ?_)<;>conv=>whnf)
     refine ⟨[], [some 0], _, _, _, _, hearC H hp S[a] (List.getElem_mem haS) (by omega) (by omega), t3, ?_⟩
     rintro r o' c' ⟨rfl, rfl, xs2, qs2, S2, ch2, rfl, H2, hp2, hS2, hch2⟩
     ((conv=>whnf)<;>repeat(with_reducible refine D1 ?_)<;>conv=>whnf)
     (first|refine ⟨?_,?_⟩|refine nsplit ?_ ?_|refine bsplit ?_ ?_)<;>intro h4<;>have hz_:=True.intro<;>clear hz_
     ·((conv=>whnf)<;>repeat(with_reducible refine D1 ?_)<;>conv=>whnf)
      repeat ((first | (refine ⟨fun h_ => ?_, fun h_ => ?_⟩) | (refine nsplit (fun h_ => ?_) (fun h_ => ?_)) | (refine bsplit (fun h_ => ?_) (fun h_ => ?_))) <;> first | (exfalso; revert h_; decide; done) | (exact absurd rfl h_) | (have hz_ := True.intro; clear hz_; ((conv=>whnf)<;>repeat(with_reducible refine D1 ?_)<;>conv=>whnf)))
      refine ⟨[], [], _, _, _, _, awakeS, t3, ?_⟩
      rintro r o' c' ⟨rfl, rfl, rfl⟩
      ((conv=>whnf)<;>repeat(with_reducible refine D1 ?_)<;>conv=>whnf)
      exact ⟨[], [], [], .s (.bool true), [], ⟨.s Lz.rfl, .nil, rfl⟩, rfl⟩
     have h4 : ¬ (((S2.map encS).length : Nat) : Int) > 4000 := h4
     rw [List.length_map] at h4
     ((conv=>whnf)<;>repeat(with_reducible refine D1 ?_)<;>conv=>whnf)
     refine ⟨ps.length - (i + 1), ?_, by omega⟩
     exact ⟨[], [some 0], _, _, _, t3, ⟨i + 1, xs2, qs2, S2, ch2, hlt, rfl, H2, hp2, by omega, by omega, rfl, rfl, rfl⟩⟩
   ((conv=>whnf)<;>repeat(with_reducible refine D1 ?_)<;>conv=>whnf)
   have hpj := hp xs[j] (List.getElem_mem hjx)
   have gx : (xs.map encX)[j]? = some (encX xs[j]) := by rw [List.getElem?_map, List.getElem?_eq_getElem hjx]; rfl
   generalize hxj : xs[j] = pj at *
   obtain ⟨y, fl⟩ := pj
   have hL := H.ld j y gl
   cases fl with
   | false =>
    (first|refine ⟨?_,?_⟩|refine nsplit ?_ ?_|refine bsplit ?_ ?_)<;>intro k1<;>have hz_:=True.intro<;>clear hz_
    ·((conv=>whnf)<;>repeat(with_reducible refine D1 ?_)<;>conv=>whnf)
     refine ⟨⟨by omega, by rw [List.length_map]; omega⟩, ?_⟩
     ((conv=>whnf)<;>repeat(with_reducible refine D1 ?_)<;>conv=>whnf)
     refine ⟨encX (y, false), gx, ?_⟩
     ((conv=>whnf)<;>repeat(with_reducible refine D1 ?_)<;>conv=>whnf)
     refine idxI hlt ?_
     ((conv=>whnf)<;>repeat(with_reducible refine D1 ?_)<;>conv=>whnf)
     refine ⟨[], [some 2], _, _, _, _, startT_ok (y, false) hpj ps[i].b hbb hL.b (by show m5 y.me; rw [hL.me]; unfold m5; omega), t3, ?_⟩
     rintro r o' c' ⟨rfl, rfl, rfl⟩
     by_cases he : (startQ y ps[i].b 0).2 = 0
     ·have hsp : startP (y, false) ps[i].b = (startS y.me y.masters (startQ y ps[i].b 0).1 0, true) := by unfold startP; exact if_pos he
      rw [hsp]
      have hup := start_up (x := y) hbb.1 hL.b (by show m5 y.me; rw [hL.me]; unfold m5; omega) he
      have H2 := H.start gl hup.1 hup.2
      have hta := toAllC ⟨1, (j : Int) + 1, 0, (startQ y ps[i].b 0).1, 0, [], noCmd⟩ (xs.set j (startS y.me y.masters (startQ y ps[i].b 0).1 0, true)) qs S ch (by rw [List.length_set]; omega) (by omega)
      rw [List.length_set, hxl] at hta
      have hp2 : ∀ p ∈ xs.set j (startS y.me y.masters (startQ y ps[i].b 0).1 0, true), PX p := fun p hpm => by
       rcases List.mem_or_eq_of_mem_set hpm with h | h
       ·exact hp p h
       ·rw [h]; exact fun h => by cases h
      have hms : (xs.map (·.1)).set j (startS y.me y.masters (startQ y ps[i].b 0).1 0) = (xs.set j (startS y.me y.masters (startQ y ps[i].b 0).1 0, true)).map (·.1) := by rw [List.map_set]
      rw [hms] at H2
      generalize S ++ toAll n ⟨1, (j : Int) + 1, 0, (startQ y ps[i].b 0).1, 0, [], noCmd⟩ = S2 at hta H2
      ((conv=>whnf)<;>repeat(with_reducible refine D1 ?_)<;>conv=>whnf)
      (first|refine ⟨?_,?_⟩|refine nsplit ?_ ?_|refine bsplit ?_ ?_)<;>intro hq<;>have hz_:=True.intro<;>clear hz_
      rotate_left
      ·exact absurd he hq
      ((conv=>whnf)<;>repeat(with_reducible refine D1 ?_)<;>conv=>whnf)
      rw [show IntKind.i64.wrap ((j : Int) + 1) = (j : Int) + 1 from IntWalk.i64_in _ (by omega)]
      refine ⟨[], [some 0], _, _, _, _, hta, ⟨by (repeat' first|with_reducible exact Lz.rfl|exact Lw.rfl|exact Lz.wrap (by omega)|(unfold goInt;with_reducible exact Lz.rfl)|exact flx _|constructor), .cons (.cells (.own (.tkq (.arq (opc := [(_, encX (startS y.me y.masters (startQ y ps[i].b 0).1 0, true))]) .one (Lw.of (setX xs j _)) (.q1 (by (repeat' first|with_reducible exact Lz.rfl|exact Lw.rfl|exact Lz.wrap (by omega)|(unfold goInt;with_reducible exact Lz.rfl)|exact flx _|constructor))))) (.own (.same Lz.rfl) (.own (.same Lz.rfl) (.own (.same Lz.rfl) (.v (by (repeat' first|with_reducible exact Lz.rfl|exact Lw.rfl|exact Lz.wrap (by omega)|(unfold goInt;with_reducible exact Lz.rfl)|exact flx _|constructor)) rfl .nil)))))) .nil, by rfl⟩, ?_⟩
      rintro r o' c' ⟨rfl, rfl, rfl⟩
      ((conv=>whnf)<;>repeat(with_reducible refine D1 ?_)<;>conv=>whnf)
      generalize xs.set j (startS y.me y.masters (startQ y ps[i].b 0).1 0, true) = xs2 at H2 hp2
      (first|refine ⟨?_,?_⟩|refine nsplit ?_ ?_|refine bsplit ?_ ?_)<;>intro h4<;>have hz_:=True.intro<;>clear hz_
      ·((conv=>whnf)<;>repeat(with_reducible refine D1 ?_)<;>conv=>whnf)
       repeat ((first | (refine ⟨fun h_ => ?_, fun h_ => ?_⟩) | (refine nsplit (fun h_ => ?_) (fun h_ => ?_)) | (refine bsplit (fun h_ => ?_) (fun h_ => ?_))) <;> first | (exfalso; revert h_; decide; done) | (exact absurd rfl h_) | (have hz_ := True.intro; clear hz_; ((conv=>whnf)<;>repeat(with_reducible refine D1 ?_)<;>conv=>whnf)))
       refine ⟨[], [], _, _, _, _, awakeS, t3, ?_⟩
       rintro r o' c' ⟨rfl, rfl, rfl⟩
       ((conv=>whnf)<;>repeat(with_reducible refine D1 ?_)<;>conv=>whnf)
       exact ⟨[], [], [], .s (.bool true), [], ⟨.s Lz.rfl, .nil, rfl⟩, rfl⟩
      have h4 : ¬ (((S2.map encS).length : Nat) : Int) > 4000 := h4
      rw [List.length_map] at h4
      ((conv=>whnf)<;>repeat(with_reducible refine D1 ?_)<;>conv=>whnf)
      refine ⟨ps.length - (i + 1), ?_, by omega⟩
      exact ⟨[], [some 0], _, _, _, t3, ⟨i + 1, xs2, qs, S2, ch, hlt, rfl, H2, hp2, by omega, by omega, rfl, rfl, rfl⟩⟩
     ·have hsp : startP (y, false) ps[i].b = (y, false) := by unfold startP; exact if_neg he
      have hset : xs.set j (y, false) = xs := setSelf (by rw [List.getElem?_eq_getElem hjx, hxj])
      have H2 : TalkI n ((xs.set j (y, false)).map (·.1)) qs S ch := by rw [hset]; exact H
      have hp2 : ∀ p ∈ xs.set j (y, false), PX p := by rw [hset]; exact hp
      rw [hsp]
      ((conv=>whnf)<;>repeat(with_reducible refine D1 ?_)<;>conv=>whnf)
      (first|refine ⟨?_,?_⟩|refine nsplit ?_ ?_|refine bsplit ?_ ?_)<;>intro hq<;>have hz_:=True.intro<;>clear hz_
      ·exact absurd hq he
      ((conv=>whnf)<;>repeat(with_reducible refine D1 ?_)<;>conv=>whnf)
      (first|refine ⟨?_,?_⟩|refine nsplit ?_ ?_|refine bsplit ?_ ?_)<;>intro h4<;>have hz_:=True.intro<;>clear hz_
      ·((conv=>whnf)<;>repeat(with_reducible refine D1 ?_)<;>conv=>whnf)
       repeat ((first | (refine ⟨fun h_ => ?_, fun h_ => ?_⟩) | (refine nsplit (fun h_ => ?_) (fun h_ => ?_)) | (refine bsplit (fun h_ => ?_) (fun h_ => ?_))) <;> first | (exfalso; revert h_; decide; done) | (exact absurd rfl h_) | (have hz_ := True.intro; clear hz_; ((conv=>whnf)<;>repeat(with_reducible refine D1 ?_)<;>conv=>whnf)))
       refine ⟨[], [], _, _, _, _, awakeS, t3, ?_⟩
       rintro r o' c' ⟨rfl, rfl, rfl⟩
       ((conv=>whnf)<;>repeat(with_reducible refine D1 ?_)<;>conv=>whnf)
       exact ⟨[], [], [], .s (.bool true), [], ⟨.s Lz.rfl, .nil, rfl⟩, rfl⟩
      have h4 : ¬ (((S.map encS).length : Nat) : Int) > 4000 := h4
      rw [List.length_map] at h4
      ((conv=>whnf)<;>repeat(with_reducible refine D1 ?_)<;>conv=>whnf)
      refine ⟨ps.length - (i + 1), ?_, by omega⟩
      refine ⟨[], [some 0], _, _, _, ⟨by (repeat' first|with_reducible exact Lz.rfl|exact Lw.rfl|exact Lz.wrap (by omega)|(unfold goInt;with_reducible exact Lz.rfl)|exact flx _|constructor), .cons (.cells (.own (.tkq (.arq (opc := [(_, encX (y,false))]) .one (Lw.of (setX xs j _)) (.q1 (by (repeat' first|with_reducible exact Lz.rfl|exact Lw.rfl|exact Lz.wrap (by omega)|(unfold goInt;with_reducible exact Lz.rfl)|exact flx _|constructor))))) (.own (.same Lz.rfl) (.own (.tk (.arr Lz.rfl)) (.own (.same Lz.rfl) (.v (by (repeat' first|with_reducible exact Lz.rfl|exact Lw.rfl|exact Lz.wrap (by omega)|(unfold goInt;with_reducible exact Lz.rfl)|exact flx _|constructor)) rfl .nil)))))) .nil, by rfl⟩, ⟨i + 1, xs.set j (y,false), qs, S, ch, hlt, rfl, H2, hp2, by omega, by omega, rfl, rfl, rfl⟩⟩
    ((conv=>whnf)<;>repeat(with_reducible refine D1 ?_)<;>conv=>whnf)
    (first|refine ⟨?_,?_⟩|refine nsplit ?_ ?_|refine bsplit ?_ ?_)<;>intro k2<;>have hz_:=True.intro<;>clear hz_
    ·((conv=>whnf)<;>repeat(with_reducible refine D1 ?_)<;>conv=>whnf)
     refine ⟨⟨by omega, by rw [List.length_map]; omega⟩, ?_⟩
     ((conv=>whnf)<;>repeat(with_reducible refine D1 ?_)<;>conv=>whnf)
     refine ⟨encX (y, false), gx, ?_⟩
     ((conv=>whnf)<;>repeat(with_reducible refine D1 ?_)<;>conv=>whnf)
     refine idxI hlt ?_
     ((conv=>whnf)<;>repeat(with_reducible refine D1 ?_)<;>conv=>whnf)
     refine ⟨[], [some 2], _, _, _, _, proposeT_ok (y, false) hpj ps[i].cmd hL.op hL.nxt, t3, ?_⟩
     rintro r o' c' ⟨rfl, rfl, rfl⟩
     have hpx : PX ((proposeS y ps[i].cmd).1, false) := proposeS_px hpj
     by_cases he : (proposeS y ps[i].cmd).2.2 = 0
     ·have H2 := (H.propose gl ps[i].cmd he).1
      generalize (proposeS y ps[i].cmd).2.2 = er at he
      generalize (proposeS y ps[i].cmd).2.1 = v at H2
      generalize (proposeS y ps[i].cmd).1 = y2 at H2 hpx
      subst he
      have hta := toAllC ⟨3, (j : Int) + 1, 0, v.ballot, v.slot, [], cmdOf v⟩ (xs.set j (y2, false)) qs S ch (by rw [List.length_set]; omega) (by omega)
      rw [List.length_set, hxl] at hta
      have hp2 : ∀ p ∈ xs.set j (y2, false), PX p := fun p hpm => by
       rcases List.mem_or_eq_of_mem_set hpm with h | h
       ·exact hp p h
       ·rw [h]; exact hpx
      have hms : (xs.map (·.1)).set j y2 = (xs.set j (y2, false)).map (·.1) := by rw [List.map_set]
      rw [hms] at H2
      have H2 : TalkI n ((xs.set j (y2, false)).map (·.1)) qs (S ++ toAll n ⟨3, (j : Int) + 1, 0, v.ballot, v.slot, [], cmdOf v⟩) ch := H2
      generalize S ++ toAll n ⟨3, (j : Int) + 1, 0, v.ballot, v.slot, [], cmdOf v⟩ = S2 at hta H2
      ((conv=>whnf)<;>repeat(with_reducible refine D1 ?_)<;>conv=>whnf)
      (first|refine ⟨?_,?_⟩|refine nsplit ?_ ?_|refine bsplit ?_ ?_)<;>intro hq<;>have hz_:=True.intro<;>clear hz_
      rotate_left
      ·exact absurd rfl hq
      ((conv=>whnf)<;>repeat(with_reducible refine D1 ?_)<;>conv=>whnf)
      rw [show IntKind.i64.wrap ((j : Int) + 1) = (j : Int) + 1 from IntWalk.i64_in _ (by omega)]
      refine ⟨[], [some 0], _, _, _, _, hta, ⟨by (repeat' first|with_reducible exact Lz.rfl|exact Lw.rfl|exact Lz.wrap (by omega)|(unfold goInt;with_reducible exact Lz.rfl)|exact flx _|constructor), .cons (.cells (.own (.tkq (.arq (opc := [(_, encX (y2, false))]) .one (Lw.of (setX xs j _)) (.q1 (by (repeat' first|with_reducible exact Lz.rfl|exact Lw.rfl|exact Lz.wrap (by omega)|(unfold goInt;with_reducible exact Lz.rfl)|exact flx _|constructor))))) (.own (.same Lz.rfl) (.own (.same Lz.rfl) (.own (.same Lz.rfl) (.v (by (repeat' first|with_reducible exact Lz.rfl|exact Lw.rfl|exact Lz.wrap (by omega)|(unfold goInt;with_reducible exact Lz.rfl)|exact flx _|constructor)) rfl .nil)))))) .nil, by rfl⟩, ?_⟩
      rintro r o' c' ⟨rfl, rfl, rfl⟩
      ((conv=>whnf)<;>repeat(with_reducible refine D1 ?_)<;>conv=>whnf)
      generalize xs.set j (y2, false) = xs2 at H2 hp2
      (first|refine ⟨?_,?_⟩|refine nsplit ?_ ?_|refine bsplit ?_ ?_)<;>intro h4<;>have hz_:=True.intro<;>clear hz_
      ·((conv=>whnf)<;>repeat(with_reducible refine D1 ?_)<;>conv=>whnf)
       repeat ((first | (refine ⟨fun h_ => ?_, fun h_ => ?_⟩) | (refine nsplit (fun h_ => ?_) (fun h_ => ?_)) | (refine bsplit (fun h_ => ?_) (fun h_ => ?_))) <;> first | (exfalso; revert h_; decide; done) | (exact absurd rfl h_) | (have hz_ := True.intro; clear hz_; ((conv=>whnf)<;>repeat(with_reducible refine D1 ?_)<;>conv=>whnf)))
       refine ⟨[], [], _, _, _, _, awakeS, t3, ?_⟩
       rintro r o' c' ⟨rfl, rfl, rfl⟩
       ((conv=>whnf)<;>repeat(with_reducible refine D1 ?_)<;>conv=>whnf)
       exact ⟨[], [], [], .s (.bool true), [], ⟨.s Lz.rfl, .nil, rfl⟩, rfl⟩
      have h4 : ¬ (((S2.map encS).length : Nat) : Int) > 4000 := h4
      rw [List.length_map] at h4
      ((conv=>whnf)<;>repeat(with_reducible refine D1 ?_)<;>conv=>whnf)
      refine ⟨ps.length - (i + 1), ?_, by omega⟩
      exact ⟨[], [some 0], _, _, _, t3, ⟨i + 1, xs2, qs, S2, ch, hlt, rfl, H2, hp2, by omega, by omega, rfl, rfl, rfl⟩⟩
     ·have hset : xs.set j ((proposeS y ps[i].cmd).1,false) = xs := by rw [prop_no he]; exact setSelf (by rw [List.getElem?_eq_getElem hjx, hxj])
      have H2 : TalkI n ((xs.set j ((proposeS y ps[i].cmd).1,false)).map (·.1)) qs S ch := by rw [hset]; exact H
      have hp2 : ∀ p ∈ xs.set j ((proposeS y ps[i].cmd).1,false), PX p := by rw [hset]; exact hp
      ((conv=>whnf)<;>repeat(with_reducible refine D1 ?_)<;>conv=>whnf)
      (first|refine ⟨?_,?_⟩|refine nsplit ?_ ?_|refine bsplit ?_ ?_)<;>intro hq<;>have hz_:=True.intro<;>clear hz_
      ·exact absurd hq he
      ((conv=>whnf)<;>repeat(with_reducible refine D1 ?_)<;>conv=>whnf)
      (first|refine ⟨?_,?_⟩|refine nsplit ?_ ?_|refine bsplit ?_ ?_)<;>intro h4<;>have hz_:=True.intro<;>clear hz_
      ·((conv=>whnf)<;>repeat(with_reducible refine D1 ?_)<;>conv=>whnf)
       repeat ((first | (refine ⟨fun h_ => ?_, fun h_ => ?_⟩) | (refine nsplit (fun h_ => ?_) (fun h_ => ?_)) | (refine bsplit (fun h_ => ?_) (fun h_ => ?_))) <;> first | (exfalso; revert h_; decide; done) | (exact absurd rfl h_) | (have hz_ := True.intro; clear hz_; ((conv=>whnf)<;>repeat(with_reducible refine D1 ?_)<;>conv=>whnf)))
       refine ⟨[], [], _, _, _, _, awakeS, t3, ?_⟩
       rintro r o' c' ⟨rfl, rfl, rfl⟩
       ((conv=>whnf)<;>repeat(with_reducible refine D1 ?_)<;>conv=>whnf)
       exact ⟨[], [], [], .s (.bool true), [], ⟨.s Lz.rfl, .nil, rfl⟩, rfl⟩
      have h4 : ¬ (((S.map encS).length : Nat) : Int) > 4000 := h4
      rw [List.length_map] at h4
      ((conv=>whnf)<;>repeat(with_reducible refine D1 ?_)<;>conv=>whnf)
      refine ⟨ps.length - (i + 1), ?_, by omega⟩
      refine ⟨[], [some 0], _, _, _, ⟨by (repeat' first|with_reducible exact Lz.rfl|exact Lw.rfl|exact Lz.wrap (by omega)|(unfold goInt;with_reducible exact Lz.rfl)|exact flx _|constructor), .cons (.cells (.own (.tkq (.arq (opc := [(_, encX ((proposeS y ps[i].cmd).1,false))]) .one (Lw.of (setX xs j _)) (.q1 (by (repeat' first|with_reducible exact Lz.rfl|exact Lw.rfl|exact Lz.wrap (by omega)|(unfold goInt;with_reducible exact Lz.rfl)|exact flx _|constructor))))) (.own (.same Lz.rfl) (.own (.tk (.arr Lz.rfl)) (.own (.same Lz.rfl) (.v (by (repeat' first|with_reducible exact Lz.rfl|exact Lw.rfl|exact Lz.wrap (by omega)|(unfold goInt;with_reducible exact Lz.rfl)|exact flx _|constructor)) rfl .nil)))))) .nil, by rfl⟩, ⟨i + 1, xs.set j ((proposeS y ps[i].cmd).1,false), qs, S, ch, hlt, rfl, H2, hp2, by omega, by omega, rfl, rfl, rfl⟩⟩
    ((conv=>whnf)<;>repeat(with_reducible refine D1 ?_)<;>conv=>whnf)
    refine ⟨⟨by omega, by rw [List.length_map]; omega⟩, ?_⟩
    ((conv=>whnf)<;>repeat(with_reducible refine D1 ?_)<;>conv=>whnf)
    refine ⟨encX (y, false), gx, ?_⟩
    ((conv=>whnf)<;>repeat(with_reducible refine D1 ?_)<;>conv=>whnf)
    refine idxI hlt ?_
    ((conv=>whnf)<;>repeat(with_reducible refine D1 ?_)<;>conv=>whnf)
    refine ⟨[], [some 2], _, _, _, _, refuseT_ok (y, false) hpj ps[i].b, t3, ?_⟩
    rintro r o' c' ⟨rfl, rfl, rfl⟩
    have hpx : PX ((refuseS y ps[i].b).1, false) := refuseS_px hpj
    have H2 : TalkI n ((xs.set j ((refuseS y ps[i].b).1, false)).map (·.1)) qs S ch := by rw [List.map_set]; exact H.refuse gl ps[i].b
    have hp2 : ∀ p ∈ xs.set j ((refuseS y ps[i].b).1, false), PX p := fun p hpm => by
     rcases List.mem_or_eq_of_mem_set hpm with h | h
     ·exact hp p h
     ·rw [h]; exact hpx
    ((conv=>whnf)<;>repeat(with_reducible refine D1 ?_)<;>conv=>whnf)
    (first|refine ⟨?_,?_⟩|refine nsplit ?_ ?_|refine bsplit ?_ ?_)<;>intro h4<;>have hz_:=True.intro<;>clear hz_
    ·((conv=>whnf)<;>repeat(with_reducible refine D1 ?_)<;>conv=>whnf)
     repeat ((first | (refine ⟨fun h_ => ?_, fun h_ => ?_⟩) | (refine nsplit (fun h_ => ?_) (fun h_ => ?_)) | (refine bsplit (fun h_ => ?_) (fun h_ => ?_))) <;> first | (exfalso; revert h_; decide; done) | (exact absurd rfl h_) | (have hz_ := True.intro; clear hz_; ((conv=>whnf)<;>repeat(with_reducible refine D1 ?_)<;>conv=>whnf)))
     refine ⟨[], [], _, _, _, _, awakeS, t3, ?_⟩
     rintro r o' c' ⟨rfl, rfl, rfl⟩
     ((conv=>whnf)<;>repeat(with_reducible refine D1 ?_)<;>conv=>whnf)
     exact ⟨[], [], [], .s (.bool true), [], ⟨.s Lz.rfl, .nil, rfl⟩, rfl⟩
    have h4 : ¬ (((S.map encS).length : Nat) : Int) > 4000 := h4
    rw [List.length_map] at h4
    ((conv=>whnf)<;>repeat(with_reducible refine D1 ?_)<;>conv=>whnf)
    refine ⟨ps.length - (i + 1), ?_, by omega⟩
    refine ⟨[], [some 0], _, _, _, ⟨by (repeat' first|with_reducible exact Lz.rfl|exact Lw.rfl|exact Lz.wrap (by omega)|(unfold goInt;with_reducible exact Lz.rfl)|exact flx _|constructor), .cons (.cells (.own (.tkq (.arq (opc := [(_, encX ((refuseS y ps[i].b).1,false))]) .one (Lw.of (setX xs j _)) (.q1 (by (repeat' first|with_reducible exact Lz.rfl|exact Lw.rfl|exact Lz.wrap (by omega)|(unfold goInt;with_reducible exact Lz.rfl)|exact flx _|constructor))))) (.own (.same Lz.rfl) (.own (.tk (.arr Lz.rfl)) (.own (.same Lz.rfl) (.v (by (repeat' first|with_reducible exact Lz.rfl|exact Lw.rfl|exact Lz.wrap (by omega)|(unfold goInt;with_reducible exact Lz.rfl)|exact flx _|constructor)) rfl .nil)))))) .nil, by rfl⟩, ⟨i + 1, xs.set j ((refuseS y ps[i].b).1,false), qs, S, ch, hlt, rfl, H2, hp2, by omega, by omega, rfl, rfl, rfl⟩⟩
   | true =>
    (first|refine ⟨?_,?_⟩|refine nsplit ?_ ?_|refine bsplit ?_ ?_)<;>intro k1<;>have hz_:=True.intro<;>clear hz_
    ·((conv=>whnf)<;>repeat(with_reducible refine D1 ?_)<;>conv=>whnf)
     refine ⟨⟨by omega, by rw [List.length_map]; omega⟩, ?_⟩
     ((conv=>whnf)<;>repeat(with_reducible refine D1 ?_)<;>conv=>whnf)
     refine ⟨encX (y, true), gx, ?_⟩
     ((conv=>whnf)<;>repeat(with_reducible refine D1 ?_)<;>conv=>whnf)
     refine idxI hlt ?_
     ((conv=>whnf)<;>repeat(with_reducible refine D1 ?_)<;>conv=>whnf)
     refine ⟨[], [some 2], _, _, _, _, startT_ok (y, true) hpj ps[i].b hbb hL.b (by show m5 y.me; rw [hL.me]; unfold m5; omega), t3, ?_⟩
     rintro r o' c' ⟨rfl, rfl, rfl⟩
     by_cases he : (startQ y ps[i].b 0).2 = 0
     ·have hsp : startP (y, true) ps[i].b = (startS y.me y.masters (startQ y ps[i].b 0).1 0, true) := by unfold startP; exact if_pos he
      rw [hsp]
      have hup := start_up (x := y) hbb.1 hL.b (by show m5 y.me; rw [hL.me]; unfold m5; omega) he
      have H2 := H.start gl hup.1 hup.2
      have hta := toAllC ⟨1, (j : Int) + 1, 0, (startQ y ps[i].b 0).1, 0, [], noCmd⟩ (xs.set j (startS y.me y.masters (startQ y ps[i].b 0).1 0, true)) qs S ch (by rw [List.length_set]; omega) (by omega)
      rw [List.length_set, hxl] at hta
      have hp2 : ∀ p ∈ xs.set j (startS y.me y.masters (startQ y ps[i].b 0).1 0, true), PX p := fun p hpm => by
       rcases List.mem_or_eq_of_mem_set hpm with h | h
       ·exact hp p h
       ·rw [h]; exact fun h => by cases h
      have hms : (xs.map (·.1)).set j (startS y.me y.masters (startQ y ps[i].b 0).1 0) = (xs.set j (startS y.me y.masters (startQ y ps[i].b 0).1 0, true)).map (·.1) := by rw [List.map_set]
      rw [hms] at H2
      generalize S ++ toAll n ⟨1, (j : Int) + 1, 0, (startQ y ps[i].b 0).1, 0, [], noCmd⟩ = S2 at hta H2
      ((conv=>whnf)<;>repeat(with_reducible refine D1 ?_)<;>conv=>whnf)
      (first|refine ⟨?_,?_⟩|refine nsplit ?_ ?_|refine bsplit ?_ ?_)<;>intro hq<;>have hz_:=True.intro<;>clear hz_
      rotate_left
      ·exact absurd he hq
      ((conv=>whnf)<;>repeat(with_reducible refine D1 ?_)<;>conv=>whnf)
      rw [show IntKind.i64.wrap ((j : Int) + 1) = (j : Int) + 1 from IntWalk.i64_in _ (by omega)]
      refine ⟨[], [some 0], _, _, _, _, hta, ⟨by (repeat' first|with_reducible exact Lz.rfl|exact Lw.rfl|exact Lz.wrap (by omega)|(unfold goInt;with_reducible exact Lz.rfl)|exact flx _|constructor), .cons (.cells (.own (.tkq (.arq (opc := [(_, encX (startS y.me y.masters (startQ y ps[i].b 0).1 0, true))]) .one (Lw.of (setX xs j _)) (.q1 (by (repeat' first|with_reducible exact Lz.rfl|exact Lw.rfl|exact Lz.wrap (by omega)|(unfold goInt;with_reducible exact Lz.rfl)|exact flx _|constructor))))) (.own (.same Lz.rfl) (.own (.same Lz.rfl) (.own (.same Lz.rfl) (.v (by (repeat' first|with_reducible exact Lz.rfl|exact Lw.rfl|exact Lz.wrap (by omega)|(unfold goInt;with_reducible exact Lz.rfl)|exact flx _|constructor)) rfl .nil)))))) .nil, by rfl⟩, ?_⟩
      rintro r o' c' ⟨rfl, rfl, rfl⟩
      ((conv=>whnf)<;>repeat(with_reducible refine D1 ?_)<;>conv=>whnf)
      generalize xs.set j (startS y.me y.masters (startQ y ps[i].b 0).1 0, true) = xs2 at H2 hp2
      (first|refine ⟨?_,?_⟩|refine nsplit ?_ ?_|refine bsplit ?_ ?_)<;>intro h4<;>have hz_:=True.intro<;>clear hz_
      ·((conv=>whnf)<;>repeat(with_reducible refine D1 ?_)<;>conv=>whnf)
       repeat ((first | (refine ⟨fun h_ => ?_, fun h_ => ?_⟩) | (refine nsplit (fun h_ => ?_) (fun h_ => ?_)) | (refine bsplit (fun h_ => ?_) (fun h_ => ?_))) <;> first | (exfalso; revert h_; decide; done) | (exact absurd rfl h_) | (have hz_ := True.intro; clear hz_; ((conv=>whnf)<;>repeat(with_reducible refine D1 ?_)<;>conv=>whnf)))
       refine ⟨[], [], _, _, _, _, awakeS, t3, ?_⟩
       rintro r o' c' ⟨rfl, rfl, rfl⟩
       ((conv=>whnf)<;>repeat(with_reducible refine D1 ?_)<;>conv=>whnf)
       exact ⟨[], [], [], .s (.bool true), [], ⟨.s Lz.rfl, .nil, rfl⟩, rfl⟩
      have h4 : ¬ (((S2.map encS).length : Nat) : Int) > 4000 := h4
      rw [List.length_map] at h4
      ((conv=>whnf)<;>repeat(with_reducible refine D1 ?_)<;>conv=>whnf)
      refine ⟨ps.length - (i + 1), ?_, by omega⟩
      exact ⟨[], [some 0], _, _, _, t3, ⟨i + 1, xs2, qs, S2, ch, hlt, rfl, H2, hp2, by omega, by omega, rfl, rfl, rfl⟩⟩
     ·have hsp : startP (y, true) ps[i].b = (y, true) := by unfold startP; exact if_neg he
      have hset : xs.set j (y, true) = xs := setSelf (by rw [List.getElem?_eq_getElem hjx, hxj])
      have H2 : TalkI n ((xs.set j (y, true)).map (·.1)) qs S ch := by rw [hset]; exact H
      have hp2 : ∀ p ∈ xs.set j (y, true), PX p := by rw [hset]; exact hp
      rw [hsp]
      ((conv=>whnf)<;>repeat(with_reducible refine D1 ?_)<;>conv=>whnf)
      (first|refine ⟨?_,?_⟩|refine nsplit ?_ ?_|refine bsplit ?_ ?_)<;>intro hq<;>have hz_:=True.intro<;>clear hz_
      ·exact absurd hq he
      ((conv=>whnf)<;>repeat(with_reducible refine D1 ?_)<;>conv=>whnf)
      (first|refine ⟨?_,?_⟩|refine nsplit ?_ ?_|refine bsplit ?_ ?_)<;>intro h4<;>have hz_:=True.intro<;>clear hz_
      ·((conv=>whnf)<;>repeat(with_reducible refine D1 ?_)<;>conv=>whnf)
       repeat ((first | (refine ⟨fun h_ => ?_, fun h_ => ?_⟩) | (refine nsplit (fun h_ => ?_) (fun h_ => ?_)) | (refine bsplit (fun h_ => ?_) (fun h_ => ?_))) <;> first | (exfalso; revert h_; decide; done) | (exact absurd rfl h_) | (have hz_ := True.intro; clear hz_; ((conv=>whnf)<;>repeat(with_reducible refine D1 ?_)<;>conv=>whnf)))
       refine ⟨[], [], _, _, _, _, awakeS, t3, ?_⟩
       rintro r o' c' ⟨rfl, rfl, rfl⟩
       ((conv=>whnf)<;>repeat(with_reducible refine D1 ?_)<;>conv=>whnf)
       exact ⟨[], [], [], .s (.bool true), [], ⟨.s Lz.rfl, .nil, rfl⟩, rfl⟩
      have h4 : ¬ (((S.map encS).length : Nat) : Int) > 4000 := h4
      rw [List.length_map] at h4
      ((conv=>whnf)<;>repeat(with_reducible refine D1 ?_)<;>conv=>whnf)
      refine ⟨ps.length - (i + 1), ?_, by omega⟩
      refine ⟨[], [some 0], _, _, _, ⟨by (repeat' first|with_reducible exact Lz.rfl|exact Lw.rfl|exact Lz.wrap (by omega)|(unfold goInt;with_reducible exact Lz.rfl)|exact flx _|constructor), .cons (.cells (.own (.tkq (.arq (opc := [(_, encX (y,true))]) .one (Lw.of (setX xs j _)) (.q1 (by (repeat' first|with_reducible exact Lz.rfl|exact Lw.rfl|exact Lz.wrap (by omega)|(unfold goInt;with_reducible exact Lz.rfl)|exact flx _|constructor))))) (.own (.same Lz.rfl) (.own (.tk (.arr Lz.rfl)) (.own (.same Lz.rfl) (.v (by (repeat' first|with_reducible exact Lz.rfl|exact Lw.rfl|exact Lz.wrap (by omega)|(unfold goInt;with_reducible exact Lz.rfl)|exact flx _|constructor)) rfl .nil)))))) .nil, by rfl⟩, ⟨i + 1, xs.set j (y,true), qs, S, ch, hlt, rfl, H2, hp2, by omega, by omega, rfl, rfl, rfl⟩⟩
    ((conv=>whnf)<;>repeat(with_reducible refine D1 ?_)<;>conv=>whnf)
    (first|refine ⟨?_,?_⟩|refine nsplit ?_ ?_|refine bsplit ?_ ?_)<;>intro k2<;>have hz_:=True.intro<;>clear hz_
    ·((conv=>whnf)<;>repeat(with_reducible refine D1 ?_)<;>conv=>whnf)
     refine ⟨⟨by omega, by rw [List.length_map]; omega⟩, ?_⟩
     ((conv=>whnf)<;>repeat(with_reducible refine D1 ?_)<;>conv=>whnf)
     refine ⟨encX (y, true), gx, ?_⟩
     ((conv=>whnf)<;>repeat(with_reducible refine D1 ?_)<;>conv=>whnf)
     refine idxI hlt ?_
     ((conv=>whnf)<;>repeat(with_reducible refine D1 ?_)<;>conv=>whnf)
     refine ⟨[], [some 2], _, _, _, _, proposeT_ok (y, true) hpj ps[i].cmd hL.op hL.nxt, t3, ?_⟩
     rintro r o' c' ⟨rfl, rfl, rfl⟩
     have hpx : PX ((proposeS y ps[i].cmd).1, true) := proposeS_px hpj
     by_cases he : (proposeS y ps[i].cmd).2.2 = 0
     ·have H2 := (H.propose gl ps[i].cmd he).1
      generalize (proposeS y ps[i].cmd).2.2 = er at he
      generalize (proposeS y ps[i].cmd).2.1 = v at H2
      generalize (proposeS y ps[i].cmd).1 = y2 at H2 hpx
      subst he
      have hta := toAllC ⟨3, (j : Int) + 1, 0, v.ballot, v.slot, [], cmdOf v⟩ (xs.set j (y2, true)) qs S ch (by rw [List.length_set]; omega) (by omega)
      rw [List.length_set, hxl] at hta
      have hp2 : ∀ p ∈ xs.set j (y2, true), PX p := fun p hpm => by
       rcases List.mem_or_eq_of_mem_set hpm with h | h
       ·exact hp p h
       ·rw [h]; exact hpx
      have hms : (xs.map (·.1)).set j y2 = (xs.set j (y2, true)).map (·.1) := by rw [List.map_set]
      rw [hms] at H2
      have H2 : TalkI n ((xs.set j (y2, true)).map (·.1)) qs (S ++ toAll n ⟨3, (j : Int) + 1, 0, v.ballot, v.slot, [], cmdOf v⟩) ch := H2
      generalize S ++ toAll n ⟨3, (j : Int) + 1, 0, v.ballot, v.slot, [], cmdOf v⟩ = S2 at hta H2
      ((conv=>whnf)<;>repeat(with_reducible refine D1 ?_)<;>conv=>whnf)
      (first|refine ⟨?_,?_⟩|refine nsplit ?_ ?_|refine bsplit ?_ ?_)<;>intro hq<;>have hz_:=True.intro<;>clear hz_
      rotate_left
      ·exact absurd rfl hq
      ((conv=>whnf)<;>repeat(with_reducible refine D1 ?_)<;>conv=>whnf)
      rw [show IntKind.i64.wrap ((j : Int) + 1) = (j : Int) + 1 from IntWalk.i64_in _ (by omega)]
      refine ⟨[], [some 0], _, _, _, _, hta, ⟨by (repeat' first|with_reducible exact Lz.rfl|exact Lw.rfl|exact Lz.wrap (by omega)|(unfold goInt;with_reducible exact Lz.rfl)|exact flx _|constructor), .cons (.cells (.own (.tkq (.arq (opc := [(_, encX (y2, true))]) .one (Lw.of (setX xs j _)) (.q1 (by (repeat' first|with_reducible exact Lz.rfl|exact Lw.rfl|exact Lz.wrap (by omega)|(unfold goInt;with_reducible exact Lz.rfl)|exact flx _|constructor))))) (.own (.same Lz.rfl) (.own (.same Lz.rfl) (.own (.same Lz.rfl) (.v (by (repeat' first|with_reducible exact Lz.rfl|exact Lw.rfl|exact Lz.wrap (by omega)|(unfold goInt;with_reducible exact Lz.rfl)|exact flx _|constructor)) rfl .nil)))))) .nil, by rfl⟩, ?_⟩
      rintro r o' c' ⟨rfl, rfl, rfl⟩
      ((conv=>whnf)<;>repeat(with_reducible refine D1 ?_)<;>conv=>whnf)
      generalize xs.set j (y2, true) = xs2 at H2 hp2
      (first|refine ⟨?_,?_⟩|refine nsplit ?_ ?_|refine bsplit ?_ ?_)<;>intro h4<;>have hz_:=True.intro<;>clear hz_
      ·((conv=>whnf)<;>repeat(with_reducible refine D1 ?_)<;>conv=>whnf)
       repeat ((first | (refine ⟨fun h_ => ?_, fun h_ => ?_⟩) | (refine nsplit (fun h_ => ?_) (fun h_ => ?_)) | (refine bsplit (fun h_ => ?_) (fun h_ => ?_))) <;> first | (exfalso; revert h_; decide; done) | (exact absurd rfl h_) | (have hz_ := True.intro; clear hz_; ((conv=>whnf)<;>repeat(with_reducible refine D1 ?_)<;>conv=>whnf)))
       refine ⟨[], [], _, _, _, _, awakeS, t3, ?_⟩
       rintro r o' c' ⟨rfl, rfl, rfl⟩
       ((conv=>whnf)<;>repeat(with_reducible refine D1 ?_)<;>conv=>whnf)
       exact ⟨[], [], [], .s (.bool true), [], ⟨.s Lz.rfl, .nil, rfl⟩, rfl⟩
      have h4 : ¬ (((S2.map encS).length : Nat) : Int) > 4000 := h4
      rw [List.length_map] at h4
      ((conv=>whnf)<;>repeat(with_reducible refine D1 ?_)<;>conv=>whnf)
      refine ⟨ps.length - (i + 1), ?_, by omega⟩
      exact ⟨[], [some 0], _, _, _, t3, ⟨i + 1, xs2, qs, S2, ch, hlt, rfl, H2, hp2, by omega, by omega, rfl, rfl, rfl⟩⟩
     ·have hset : xs.set j ((proposeS y ps[i].cmd).1,true) = xs := by rw [prop_no he]; exact setSelf (by rw [List.getElem?_eq_getElem hjx, hxj])
      have H2 : TalkI n ((xs.set j ((proposeS y ps[i].cmd).1,true)).map (·.1)) qs S ch := by rw [hset]; exact H
      have hp2 : ∀ p ∈ xs.set j ((proposeS y ps[i].cmd).1,true), PX p := by rw [hset]; exact hp
      ((conv=>whnf)<;>repeat(with_reducible refine D1 ?_)<;>conv=>whnf)
      (first|refine ⟨?_,?_⟩|refine nsplit ?_ ?_|refine bsplit ?_ ?_)<;>intro hq<;>have hz_:=True.intro<;>clear hz_
      ·exact absurd hq he
      ((conv=>whnf)<;>repeat(with_reducible refine D1 ?_)<;>conv=>whnf)
      (first|refine ⟨?_,?_⟩|refine nsplit ?_ ?_|refine bsplit ?_ ?_)<;>intro h4<;>have hz_:=True.intro<;>clear hz_
      ·((conv=>whnf)<;>repeat(with_reducible refine D1 ?_)<;>conv=>whnf)
       repeat ((first | (refine ⟨fun h_ => ?_, fun h_ => ?_⟩) | (refine nsplit (fun h_ => ?_) (fun h_ => ?_)) | (refine bsplit (fun h_ => ?_) (fun h_ => ?_))) <;> first | (exfalso; revert h_; decide; done) | (exact absurd rfl h_) | (have hz_ := True.intro; clear hz_; ((conv=>whnf)<;>repeat(with_reducible refine D1 ?_)<;>conv=>whnf)))
       refine ⟨[], [], _, _, _, _, awakeS, t3, ?_⟩
       rintro r o' c' ⟨rfl, rfl, rfl⟩
       ((conv=>whnf)<;>repeat(with_reducible refine D1 ?_)<;>conv=>whnf)
       exact ⟨[], [], [], .s (.bool true), [], ⟨.s Lz.rfl, .nil, rfl⟩, rfl⟩
      have h4 : ¬ (((S.map encS).length : Nat) : Int) > 4000 := h4
      rw [List.length_map] at h4
      ((conv=>whnf)<;>repeat(with_reducible refine D1 ?_)<;>conv=>whnf)
      refine ⟨ps.length - (i + 1), ?_, by omega⟩
      refine ⟨[], [some 0], _, _, _, ⟨by (repeat' first|with_reducible exact Lz.rfl|exact Lw.rfl|exact Lz.wrap (by omega)|(unfold goInt;with_reducible exact Lz.rfl)|exact flx _|constructor), .cons (.cells (.own (.tkq (.arq (opc := [(_, encX ((proposeS y ps[i].cmd).1,true))]) .one (Lw.of (setX xs j _)) (.q1 (by (repeat' first|with_reducible exact Lz.rfl|exact Lw.rfl|exact Lz.wrap (by omega)|(unfold goInt;with_reducible exact Lz.rfl)|exact flx _|constructor))))) (.own (.same Lz.rfl) (.own (.tk (.arr Lz.rfl)) (.own (.same Lz.rfl) (.v (by (repeat' first|with_reducible exact Lz.rfl|exact Lw.rfl|exact Lz.wrap (by omega)|(unfold goInt;with_reducible exact Lz.rfl)|exact flx _|constructor)) rfl .nil)))))) .nil, by rfl⟩, ⟨i + 1, xs.set j ((proposeS y ps[i].cmd).1,true), qs, S, ch, hlt, rfl, H2, hp2, by omega, by omega, rfl, rfl, rfl⟩⟩
    ((conv=>whnf)<;>repeat(with_reducible refine D1 ?_)<;>conv=>whnf)
    refine ⟨⟨by omega, by rw [List.length_map]; omega⟩, ?_⟩
    ((conv=>whnf)<;>repeat(with_reducible refine D1 ?_)<;>conv=>whnf)
    refine ⟨encX (y, true), gx, ?_⟩
    ((conv=>whnf)<;>repeat(with_reducible refine D1 ?_)<;>conv=>whnf)
    refine idxI hlt ?_
    ((conv=>whnf)<;>repeat(with_reducible refine D1 ?_)<;>conv=>whnf)
    refine ⟨[], [some 2], _, _, _, _, refuseT_ok (y, true) hpj ps[i].b, t3, ?_⟩
    rintro r o' c' ⟨rfl, rfl, rfl⟩
    have hpx : PX ((refuseS y ps[i].b).1, true) := refuseS_px hpj
    have H2 : TalkI n ((xs.set j ((refuseS y ps[i].b).1, true)).map (·.1)) qs S ch := by rw [List.map_set]; exact H.refuse gl ps[i].b
    have hp2 : ∀ p ∈ xs.set j ((refuseS y ps[i].b).1, true), PX p := fun p hpm => by
     rcases List.mem_or_eq_of_mem_set hpm with h | h
     ·exact hp p h
     ·rw [h]; exact hpx
    ((conv=>whnf)<;>repeat(with_reducible refine D1 ?_)<;>conv=>whnf)
    (first|refine ⟨?_,?_⟩|refine nsplit ?_ ?_|refine bsplit ?_ ?_)<;>intro h4<;>have hz_:=True.intro<;>clear hz_
    ·((conv=>whnf)<;>repeat(with_reducible refine D1 ?_)<;>conv=>whnf)
     repeat ((first | (refine ⟨fun h_ => ?_, fun h_ => ?_⟩) | (refine nsplit (fun h_ => ?_) (fun h_ => ?_)) | (refine bsplit (fun h_ => ?_) (fun h_ => ?_))) <;> first | (exfalso; revert h_; decide; done) | (exact absurd rfl h_) | (have hz_ := True.intro; clear hz_; ((conv=>whnf)<;>repeat(with_reducible refine D1 ?_)<;>conv=>whnf)))
     refine ⟨[], [], _, _, _, _, awakeS, t3, ?_⟩
     rintro r o' c' ⟨rfl, rfl, rfl⟩
     ((conv=>whnf)<;>repeat(with_reducible refine D1 ?_)<;>conv=>whnf)
     exact ⟨[], [], [], .s (.bool true), [], ⟨.s Lz.rfl, .nil, rfl⟩, rfl⟩
    have h4 : ¬ (((S.map encS).length : Nat) : Int) > 4000 := h4
    rw [List.length_map] at h4
    ((conv=>whnf)<;>repeat(with_reducible refine D1 ?_)<;>conv=>whnf)
    refine ⟨ps.length - (i + 1), ?_, by omega⟩
    refine ⟨[], [some 0], _, _, _, ⟨by (repeat' first|with_reducible exact Lz.rfl|exact Lw.rfl|exact Lz.wrap (by omega)|(unfold goInt;with_reducible exact Lz.rfl)|exact flx _|constructor), .cons (.cells (.own (.tkq (.arq (opc := [(_, encX ((refuseS y ps[i].b).1,true))]) .one (Lw.of (setX xs j _)) (.q1 (by (repeat' first|with_reducible exact Lz.rfl|exact Lw.rfl|exact Lz.wrap (by omega)|(unfold goInt;with_reducible exact Lz.rfl)|exact flx _|constructor))))) (.own (.same Lz.rfl) (.own (.tk (.arr Lz.rfl)) (.own (.same Lz.rfl) (.v (by (repeat' first|with_reducible exact Lz.rfl|exact Lw.rfl|exact Lz.wrap (by omega)|(unfold goInt;with_reducible exact Lz.rfl)|exact flx _|constructor)) rfl .nil)))))) .nil, by rfl⟩, ⟨i + 1, xs.set j ((refuseS y ps[i].b).1,true), qs, S, ch, hlt, rfl, H2, hp2, by omega, by omega, rfl, rfl, rfl⟩⟩
end Go.M
namespace Go.M
open Go Go.Proofs Go.RowKit Go.Maps Go.Sort Go.Shelf
set_option maxRecDepth 1000000
def keys49_ren : Go.Shelf.Ren := ⟨fun | 7 => 49 | 10 => 55 | n => n, fun | 23 => 57 | 26 => 3 | 3 => 88 | 28 => 82 | 0 => 0 | 27 => 81 | 33 => 74 | 4 => 4 | n => n, fun | n => n⟩
theorem keys49 : Go.Proofs.SlLaysZI.n7 Try.prog keys49_ren where
 mixed := by kernel_rfl
 f7 := ⟨Try.f49.name, by kernel_rfl, Try.func49.trans (congrArg some (by kernel_rfl))⟩
 f10 := ⟨Try.f55.name, by kernel_rfl, Try.func55.trans (congrArg some (by kernel_rfl))⟩
 t0 := Try.underlying0
 a0 := Try.isAgg0
 z0 := Try.sizeOf0
 v0 := Try.zeroValue0
 t4 := Try.underlying4
 a4 := Try.isAgg4
 z4 := Try.sizeOf4
 v4 := Try.zeroValue4
 t23 := Try.underlying57
 a23 := Try.isAgg57
 z23 := Try.sizeOf57
 v23 := Try.zeroValue57
 t26 := Try.underlying3
 a26 := Try.isAgg3
 z26 := Try.sizeOf3
 v26 := Try.zeroValue3
 t27 := Try.underlying81
 a27 := Try.isAgg81
 z27 := Try.sizeOf81
 v27 := Try.zeroValue81
 t28 := Try.underlying82
 a28 := Try.isAgg82
 z28 := Try.sizeOf82
 v28 := Try.zeroValue82
 t33 := Try.underlying74
 a33 := Try.isAgg74
 z33 := Try.sizeOf74
 v33 := Try.zeroValue74
theorem sorts48_55 : SortsKeys Try.prog 48 55 :=
 sortsKeys_of (ρ := sorted48_ren) (σ := keys49_ren) sorted48 { keys49 with } sortsIn48 (enters_of Try.func54 (by kernel_rfl) rfl) (enters_of Try.func55 (by kernel_rfl) rfl)
def keys30_ren : Go.Shelf.Ren := ⟨fun | 7 => 30 | 10 => 43 | n => n, fun | 23 => 56 | 26 => 3 | 3 => 28 | 28 => 82 | 0 => 0 | 27 => 81 | 33 => 74 | 4 => 4 | n => n, fun | n => n⟩
theorem keys30 : Go.Proofs.SlLaysZI.n7 Try.prog keys30_ren where
 mixed := by kernel_rfl
 f7 := ⟨Try.f30.name, by kernel_rfl, Try.func30.trans (congrArg some (by kernel_rfl))⟩
 f10 := ⟨Try.f43.name, by kernel_rfl, Try.func43.trans (congrArg some (by kernel_rfl))⟩
 t0 := Try.underlying0
 a0 := Try.isAgg0
 z0 := Try.sizeOf0
 v0 := Try.zeroValue0
 t4 := Try.underlying4
 a4 := Try.isAgg4
 z4 := Try.sizeOf4
 v4 := Try.zeroValue4
 t23 := Try.underlying56
 a23 := Try.isAgg56
 z23 := Try.sizeOf56
 v23 := Try.zeroValue56
 t26 := Try.underlying3
 a26 := Try.isAgg3
 z26 := Try.sizeOf3
 v26 := Try.zeroValue3
 t27 := Try.underlying81
 a27 := Try.isAgg81
 z27 := Try.sizeOf81
 v27 := Try.zeroValue81
 t28 := Try.underlying82
 a28 := Try.isAgg82
 z28 := Try.sizeOf82
 v28 := Try.zeroValue82
 t33 := Try.underlying74
 a33 := Try.isAgg74
 z33 := Try.sizeOf74
 v33 := Try.zeroValue74
theorem sorts48_43 : SortsKeys Try.prog 48 43 :=
 sortsKeys_of (ρ := sorted48_ren) (σ := keys30_ren) sorted48 { keys30 with } sortsIn48 (enters_of Try.func54 (by kernel_rfl) rfl) (enters_of Try.func43 (by kernel_rfl) rfl)
theorem collects29_43 : CollectsKeys Try.prog 29 43 :=
 collectsKeys_of (ρ := sorted48_ren) (σ := keys30_ren) { sorted48 with } { keys30 with } (enters_of Try.func43 (by kernel_rfl) rfl)
end Go.M
namespace Go.M
open Go Go.Proofs
set_option maxRecDepth 1000000
theorem mixed0 : Try.prog.follows .mixedOrders = true := by kernel_rfl
theorem awake4 : Awake Try.prog 4 := awake_of mixed0 (fs := [48]) (bs := [29]) (ps := [28]) (m := 100000) (n := 100000) (by kernel_rfl)
theorem orc0 (base B : Nat) : OrcOk Try.prog E0 base B := by
 refine orcW_ok (fun g hg => ?_) (fun g its hi k hk => ?_) (fun g its hi k hk => ?_) (fun g val hv => ?_) base B
 ·simp only [List.mem_cons, List.not_mem_nil, or_false] at hg
  subst hg
  exact awake4
 ·simp only [look] at hi
  split at hi
  ·rename_i h
   have h := beq_iff.1 h
   subst h
   cases hi
   simp only [List.mem_cons, List.not_mem_nil, or_false] at hk
   rcases hk with rfl | rfl | rfl
   ·exact sorts48_56
   ·exact sorts48_55
   ·exact sorts48_43
  ·cases hi
 ·simp only [look] at hi
  split at hi
  ·rename_i h
   have h := beq_iff.1 h
   subst h
   cases hi
   simp only [List.mem_cons, List.not_mem_nil, or_false] at hk
   rcases hk with rfl | rfl
   ·exact collects29_56
   ·exact collects29_43
  ·cases hi
 ·simp only [look] at hv
  split at hv
  ·rename_i h
   have h := beq_iff.1 h
   subst h
   cases hv
   exact minBag
  ·split at hv
   ·rename_i h
    have h := beq_iff.1 h
    subst h
    cases hv
    exact withBag
   ·cases hv
end Go.M
