/-
  Part 12 of the library that the proof leans on.
-/
import Derived.Test.YtmocpiopjkmnhaaGreatDoorL10
import Derived.Test.YtmocpiopjkmnhaaGreatDoorL11
import Derived.Shelf.SlIterI.Nil
import Derived.KernelRfl
import Derived.Test.YtmocpiopjkmnhaaGreatDoorL9
namespace Go.M
open Go
def orcT (l:List Nat):FuncId→List Value→AHeap→Option (Value×AHeap):=fun g args h=>match memN g l,args with
 |true,[]=>some (.bool true,h)
 |_,_=>none
def Awake (P:Program) (g:FuncId):Prop:=∀(W:World) (F:Fence) (n:Nat),Wide F→CallsIn F n P g #[] W fun e W'=>e= .returned (.bool true)∧Go.RowKit.Below W.heap.size W W'
end Go.M
namespace Go.M
open Go Go.RowKit Go.Maps Go.Sort Go.Shelf Go.Proofs
def SortsKeys (P:Program) (g k:FuncId):Prop:=∀(W:World) (Bm:Nat) (mb:Option Nat) (ks:List Int),W.cell? ⟨Bm,0,none⟩=some (.map mb)→ks.length≤1099511627776→(∀x∈ks,IntKind.i64.min≤x∧x≤IntKind.i64.max)→ks.Nodup→
 (mb=none∧ks=[]∨∃(r:Nat) (es:Array MapEntry) (clock:Nat),mb=some r∧W.heap[r]? =some (.map es clock)∧StL es.toList clock∧es.toList.map (·.key)=ks.map (.int .i64))→
 Calls P g #[.func (.func k) #[] #[.pointer (some ⟨Bm,0,none⟩)]] W fun e w'=>∃(v:Value) (t:TypeId),e= .returned v∧w'.ownsRow W.heap.size t 1 v ks.length ((ks.mergeSort fun x y=>decide (x≤y)).map (.int .i64))∧(v= .slice none 0 0↔ks=[])∧Below W.heap.size W w'
theorem mergeSort_perm {l l':List Int} (h:l.Perm l'):l.mergeSort (fun x y=>decide (x≤y))=l'.mergeSort (fun x y=>decide (x≤y)):=by
 have tr:∀a b c:Int,decide (a≤b)=true→decide (b≤c)=true→decide (a≤c)=true:=fun a b c h1 h2=>by simp only[decide_eq_true_eq]at*;omega
 have to:∀a b:Int,(decide (a≤b)||decide (b≤a))=true:=fun a b=>by simp only[Bool.or_eq_true,decide_eq_true_eq];omega
 refine List.Perm.eq_of_pairwise (le:=fun a b=>decide (a≤b)=true) (fun a b _ _ h1 h2=>?_) (List.pairwise_mergeSort tr to l) (List.pairwise_mergeSort tr to l') (((List.mergeSort_perm l _).trans h).trans (List.mergeSort_perm l' _).symm)
 simp only[decide_eq_true_eq]at h1 h2
 omega
end Go.M
namespace Go.M
open Go Go.RowKit
def intKs:List MapEntry→Option (List Int)
 |[]=>some []
 |e::l=>match e.key,intKs l with
  | .int .i64 n,some ks=>some (n::ks)
  |_,_=>none
def boxMap (h:AHeap) (b:Nat):Option (Option Nat):=match h.get b with
 |some (.cells [.map mb] f tip thr)=>grd (Nat.beq f b&&Nat.beq tip b&&Nat.ble thr b) (some mb)
 |_=>none
instance (ev:List MapEntry) (clock:Nat):Decidable (StL ev clock):=inferInstanceAs (Decidable (_∧_))
def ksOk (ks:List Int):Prop:=ks.length≤1099511627776∧(∀x∈ks,IntKind.i64.min≤x∧x≤IntKind.i64.max)∧ks.Nodup
instance (ks:List Int):Decidable (ksOk ks):=inferInstanceAs (Decidable (_∧_∧_))
def keysAt (h:AHeap):Option Nat→Option (List Int)
 |none=>some []
 |some r=>match h.get r with
  |some (.map ev clock)=>(intKs ev).bind fun ks=>grd (decide (StL ev clock)&&decide (ksOk ks)) (some ks)
  |_=>none
def sortZ (ks:List Int):List Int:=ks.mergeSort fun x y=>decide (x≤y)
def ansKs (h:AHeap) (ks:List Int):Value×AHeap:=match ks with
 |[]=>(.slice none 0 0,h)
 |_::_=>(.slice (some ⟨h.size,0,some 1⟩) ks.length (ks.length+1),h.push (.cells ((sortZ ks).map (.int .i64)) h.size h.size 0))
def sortedK (its:List Nat) (args:List Value) (h:AHeap):Option (Value×AHeap):=match args with
 |[.func (.func k) a c]=>(match a.toList,c.toList with
  |[],[.pointer (some ⟨b,0,none⟩)]=>grd (memN k its) ((boxMap h b).bind fun mb=>(keysAt h mb).bind fun ks=>some (ansKs h ks))
  |_,_=>none)
 |_=>none
theorem boxMap_some {h:AHeap} {b:Nat} {mb:Option Nat} (hb:boxMap h b=some mb):∃thr,h.get b=some (.cells [.map mb] b b thr)∧thr≤b:=by
 unfold boxMap at hb
 split at hb
 ·rename_i mb' f tip thr hg
  simp only[grd_some,Bool.and_eq_true,beq_iff,ble_iff,Option.some.injEq]at hb
  obtain⟨⟨⟨rfl,rfl⟩,ht⟩,rfl⟩:=hb
  exact⟨thr,hg,ht⟩
 ·cases hb
theorem ERels.born {μ:Emb} {ev ev':List MapEntry} (h:ERels μ ev ev'):ev'.map (·.born)=ev.map (·.born):=by
 induction h with
 |nil=>rfl
 |cons _ _ hb _ ih=>simp[hb,ih]
end Go.M
namespace Go.M
open Go Go.RowKit
def orcV (l:List Nat) (gs:List (Nat×List Nat)):FuncId→List Value→AHeap→Option (Value×AHeap):=fun g args h=>match memN g l with
 |true=>(match args with|[]=>some (.bool true,h)|_=>none)
 |false=>match look gs g with
  |some its=>sortedK its args h
  |none=>none
section
variable {E:Env}
theorem sortZ_len (ks:List Int):(sortZ ks).length=ks.length:=by simp[sortZ]
def KeysO (ks:List Int):TO→Prop
 | .map _ es=>es.map (·.1)=ks.map (.int .i64)
 | .maq _ es op=>op=[]∧es.map (·.1)=ks.map (.int .i64)
 |_=>False
end
end Go.M
namespace Go.M
open Go Go.RowKit
def OnInts (P:Program) (g:FuncId) (pre:List Value) (val:List Int→Value) (ok:List Int→Prop):Prop:=
 ∀(W:World) (l:List Int) (r o cap:Nat) (c:Array Value) (e:TypeId) (fr:Nat×Nat),
  W.heap[r]? =some (.cells c e fr)→l.length≤cap→o+cap≤c.size→(∀(i:Nat) (x:Int),l[i]? =some x→c[o+i]? =some (.int .i64 x))→ok l→
  Calls P g (List.toArray (pre++[Value.slice (some ⟨r,o,none⟩) l.length cap])) W fun en W'=>en= .returned (val l)∧Below W.heap.size W W'
def bagK (val:List Value→List Int→Option Value) (args:List Value) (h:AHeap):Option (Value×AHeap):=match args.reverse with
 | .slice (some ⟨b,0,some 1⟩) len cap::rp=>(match h.get b with
  |some (.bag cs)=>grd (Nat.beq len cs.length&&Nat.ble len cap&&Nat.blt 0 len&&rp.all scalar) ((val rp.reverse cs).bind fun v=>some (v,h))
  |_=>none)
 |_=>none
def BagOk (P:Program) (g:FuncId) (val:List Value→List Int→Option Value):Prop:=
 ∀pre cs v,(∀u∈pre,scalar u=true)→val pre cs=some v→scalar v=true∧∀l:List Int,l.Perm cs→∃vf ok,OnInts P g pre vf ok∧ok l∧vf l=v
section
variable {E:Env}
end
end Go.M
namespace Go.M
open Go Go.RowKit Go.Maps Go.Sort Go.Shelf Go.Proofs
def CollectsKeys (P:Program) (g k:FuncId):Prop:=∀(W:World) (Bm:Nat) (mb:Option Nat) (ks:List Int),W.cell? ⟨Bm,0,none⟩=some (.map mb)→ks.length≤1099511627776→(∀x∈ks,IntKind.i64.min≤x∧x≤IntKind.i64.max)→ks.Nodup→
 (mb=none∧ks=[]∨∃(r:Nat) (es:Array MapEntry) (clock:Nat),mb=some r∧W.heap[r]? =some (.map es clock)∧StL es.toList clock∧es.toList.map (·.key)=ks.map (.int .i64))→
 Calls P g #[.func (.func k) #[] #[.pointer (some ⟨Bm,0,none⟩)]] W fun e w'=>∃(v:Value) (t:TypeId) (l:List Int),e= .returned v∧l.Perm ks∧w'.ownsRow W.heap.size t 1 v ks.length (l.map (.int .i64))∧(v= .slice none 0 0↔ks=[])∧Below W.heap.size W w'
def ansC (h:AHeap) (ks:List Int):Value×AHeap:=match ks with
 |[]=>(.slice none 0 0,h)
 |_::_=>(.slice (some ⟨h.size,0,some 1⟩) ks.length (ks.length+1),h.push (.bag ks))
def collectK (its:List Nat) (args:List Value) (h:AHeap):Option (Value×AHeap):=match args with
 |[.func (.func k) a c]=>(match a.toList,c.toList with
  |[],[.pointer (some ⟨b,0,none⟩)]=>grd (memN k its) ((boxMap h b).bind fun mb=>(keysAt h mb).bind fun ks=>some (ansC h ks))
  |_,_=>none)
 |_=>none
end Go.M
namespace Go.M
open Go Go.RowKit
section
variable {X:Cx} {ρ:Gh} {F:Nat→Prop} {o:Ob} {c:Nat} {h:AHeap}
end
section
variable {E:Env}
end
abbrev BagF:=List Value→List Int→Option Value
def orcW (l:List Nat) (gs cs:List (Nat×List Nat)) (bs:List (Nat×BagF)):FuncId→List Value→AHeap→Option (Value×AHeap):=fun g args h=>match look cs g with
 |some its=>collectK its args h
 |none=>match look bs g with
  |some val=>bagK val args h
  |none=>orcV l gs g args h
end Go.M
namespace Go.M
open Go
abbrev Tabs:=List (Nat×List Value)
def envT (P:Program) (l:Tabs) (orc:FuncId→List Value→AHeap→Option (Value×AHeap)):Env:={envOf P orc with tab:=look l}
theorem envOkT (P:Program) (l:Tabs) (orc:FuncId→List Value→AHeap→Option (Value×AHeap)):EnvOk P (envT P l orc):=
 let h:=envOk P orc
 ⟨h.desc,h.size,h.bytes,h.zero,h.eqOk,h.func⟩
def LaidC (v v':Value):Prop:=(opqV v=false∧v'=v)∨(opqV v=true∧isIf v')
def LaidT (l:Tabs) (W:World):Prop:=∀g cs,look l g=some cs→∃c e fr,W.heap[g]? =some (.cells c e fr)∧cs.length≤c.size∧∀(i:Nat) v,cs[i]? =some v→∃v',c[i]? =some v'∧LaidC v v'
def heapT (l:Tabs):Nat→AHeap
 |0=>h00
 |n+1=>(heapT l n).push (.cells (match look l n with|some cs=>cs|none=>[]) n (n+1) 0)
def muT (l:Tabs) (n:Nat) (W:World):Emb:=fun g=>match look l g,W.heap[g]?,Nat.blt g n with
 |some _,some (.cells c _ _),true=>some ⟨g,0,c.size⟩
 |_,_,_=>none
def tabsB (l:Tabs) (n:Nat):Bool:=l.all fun p=>Nat.blt p.1 n&&p.2.all (fun v=>tabV v||opqV v)&&(match look l p.1 with|some cs=>eqLs cs p.2|none=>false)
def tabsIn (l:Tabs) (h:AHeap):Bool:=l.all fun p=>match h.rd p.1,look l p.1 with|some cs,some cs'=>eqLs cs cs'|_,_=>false
section
variable {P:Program} {l:Tabs} {n:Nat} {W:World}
theorem heapT_size:∀n,(heapT l n).size=n
 |0=>rfl
 |n+1=>by rw[heapT,AHeap.size_push,heapT_size n]
theorem heapT_get:∀n b,(heapT l n).get b=if b<n then some (.cells (match look l b with|some cs=>cs|none=>[]) b (b+1) 0)else none
 |0,b=>by simp;rfl
 |n+1,b=>by
  rw[heapT,AHeap.get_push,heapT_size n,heapT_get n b]
  by_cases e:b=n
  ·subst e;simp
  ·rw[if_neg e]
   by_cases h:b<n
   ·rw[if_pos h,if_pos (by omega)]
   ·rw[if_neg h,if_neg (by omega)]
theorem look_mem {α:Type} {l:List (Nat×α)} {g:Nat} {x:α} (h:look l g=some x):(g,x)∈l:=by
 induction l with
 |nil=>simp[look]at h
 |cons p l ih=>
  unfold look at h
  split at h
  ·rename_i hb
   cases h
   rw[beq_iff]at hb;subst hb
   exact List.mem_cons_self
  ·exact List.mem_cons_of_mem _ (ih h)
theorem tabsB_ok (hB:tabsB l n=true) {g:Nat} {cs:List Value} (h:look l g=some cs):g<n∧cs.all (fun v=>tabV v||opqV v)=true:=by
 have:=List.all_eq_true.1 hB _ (look_mem h)
 simp only[Bool.and_eq_true,blt_iff]at this
 exact⟨this.1.1,this.1.2⟩
theorem tabV_scalar {v:Value} (h:tabV v=true):plain1 v=true:=by
 unfold tabV at h;simp only[Bool.and_eq_true]at h;exact h.1
theorem arT (hB:tabsB l n=true) (hW:LaidT l W):AR W (muT l n W) (heapT l n):=by
 have key:∀{b m},muT l n W b=some m→∃cs c e fr,look l b=some cs∧W.heap[b]? =some (.cells c e fr)∧b<n∧m=⟨b,0,c.size⟩:=by
  intro b m h
  unfold muT at h
  split at h
  ·rename_i cs c e fr h1 h2 h3
   cases h
   exact⟨cs,c,e,fr,h1,h2,blt_iff.1 h3,rfl⟩
  ·cases h
 refine⟨fun b hb=>?_,fun b hb=>?_,fun b m hb=>?_,fun b m hb=>?_⟩
 ·rw[heapT_size]at hb;rw[heapT_get,if_neg (by omega)]
 ·rw[heapT_size]at hb;rw[heapT_get,if_pos hb];exact⟨_,rfl⟩
 ·obtain⟨cs,c,e,fr,h1,h2,h3,rfl⟩:=key hb
  rw[heapT_size];exact h3
 ·obtain⟨cs,c,e,fr,h1,h2,h3,rfl⟩:=key hb
  obtain⟨c',e',fr',q1,q2,q3⟩:=hW b cs h1
  rw[h2]at q1;cases q1
  refine⟨cs,c,e,fr,by rw[heapT_get,if_pos h3,h1],h2,rfl,by simpa using q2,fun i v hv=>?_⟩
  obtain⟨v',k1,k2⟩:=q3 i v hv
  refine⟨v',by simpa using k1,?_⟩
  have ht:=List.all_eq_true.1 (tabsB_ok hB h1).2 v (List.mem_of_getElem? hv)
  simp only[Bool.or_eq_true]at ht
  rcases k2 with⟨ho,rfl⟩|⟨ho,hi⟩
  ·rcases ht with ht|ht
   ·exact .lit (tabV_scalar ht)
   ·rw[ho]at ht;cases ht
  ·cases v<;>simp[opqV]at ho
   rename_i r
   cases r with
   |none=>simp at ho
   |some n=>exact .opq hi
theorem muT_glob (hB:tabsB l n=true) (hW:LaidT l W) {E:Env} (hE:E.tab=look l) (g:Nat) (hg:E.glob g=true):∃m,muT l n W g=some m∧m.r=g∧m.s=0:=by
 unfold Env.glob at hg
 rw[hE,Option.isSome_iff_exists]at hg
 obtain⟨cs,h1⟩:=hg
 obtain⟨c,e,fr,q1,q2,q3⟩:=hW g cs h1
 refine⟨⟨g,0,c.size⟩,?_,rfl,rfl⟩
 unfold muT
 rw[h1,q1,blt_iff.2 (tabsB_ok hB h1).1]
theorem laid_of_rel {E:Env} (hE:E.tab=look l) {base B:Nat} {μ:Emb} {h:AHeap} {w:World} (H:HRel E base B μ h w) (hB:tabsB l n=true) (ht:tabsIn l h=true):LaidT l w:=by
 intro g cs hg
 obtain⟨m,q1,q2,q3⟩:=H.glob g (by unfold Env.glob;rw[hE,hg];rfl)
 have:=List.all_eq_true.1 ht _ (look_mem hg)
 simp only[hg]at this
 split at this
 ·rename_i cs1 cs2 hr e
  cases e
  have ec:=eqLs_eq this
  subst ec
  obtain⟨c,e,fr,k1,k2,k3,_,k5⟩:=H.read q1 hr
  rw[q2]at k1
  rw[q3]at k3 k5
  refine⟨c,e,fr,k1,by omega,fun i v hv=>?_⟩
  obtain⟨v',p1,p2⟩:=k5 i v hv
  refine⟨v',by simpa using p1,?_⟩
  have ht:=List.all_eq_true.1 (tabsB_ok hB hg).2 v (List.mem_of_getElem? hv)
  simp only[Bool.or_eq_true]at ht
  rcases ht with ht|ht
  ·have hp:=tabV_scalar ht
   refine .inl ⟨?_,?_⟩
   ·cases v<;>simp[opqV]
    rename_i r
    cases r<;>simp[plain1]at hp ⊢
   ·cases p2 with
    |lit h=>rfl
    |_=>simp[plain1]at hp
  ·refine .inr ⟨ht,?_⟩
   cases v<;>simp[opqV]at ht
   rename_i r
   cases r with
   |none=>simp at ht
   |some n=>
    cases p2 with
    |lit h=>simp[plain1]at h
    |opq h=>exact h
 ·cases this
theorem tabsIn_of {E:Env} (hE:E.tab=look l) {F:Nat→Prop} {h:AHeap} (hB:tabsB l n=true) (N:TabOk E F h):tabsIn l h=true:=by
 refine List.all_eq_true.2 fun p hp=>?_
 have:=List.all_eq_true.1 hB p hp
 simp only[Bool.and_eq_true]at this
 have h3:=this.2
 split at h3
 ·rename_i cs hl
  obtain⟨_,n2,_⟩:=N p.1 cs (by rw[hE];exact hl)
  rw[n2,hl]
  have e:=eqLs_eq h3
  rw[e]at h3 ⊢
  exact h3
 ·cases h3
def AwakeT (P:Program) (l:Tabs) (g:FuncId):Prop:=∀(W:World) (F:Fence) (n:Nat),LaidT l W→Wide F→CallsIn F n P g #[] W fun e W'=>e= .returned (.bool true)∧Go.RowKit.Below W.heap.size W W'
noncomputable def orcAllT (P:Program) (l:Tabs) (fs bs ps:List Nat) (n:Nat):FuncId→List Value→AHeap→Option (Value×AHeap):=fun g args h=>
 match fs.contains g with
 |true=>confl (envT P l noOrc) n g args h
 |false=>match bs.contains g with
  |true=>conflB (envT P l noOrc) n g args h
  |false=>match ps.contains g with
   |true=>conflP (envT P l noOrc) n g args h
   |false=>none
theorem noOrc_okT {base B:Nat}:OrcOk P (envT P l noOrc) base B:=fun μ h w g args args' v h' hr=>by
 have:(none:Option (Value×AHeap))=some (v,h'):=hr
 cases this
theorem orcAllT_ok (hm:P.follows .mixedOrders=true) (fs bs ps:List Nat) (n base B:Nat):OrcOk P (envT P l (orcAllT P l fs bs ps n)) base B:=by
 intro μ h w g args args' v h' hc hr H F k hF
 have hc':orcAllT P l fs bs ps n g args h=some (v,h'):=hc
 unfold orcAllT at hc'
 split at hc'
 ·exact confl_ok (E:=envT P l (orcAllT P l fs bs ps n)) (envOkT P l noOrc) (fun _ _=>noOrc_okT) hm (fun _ hg=>hg) n μ h w g args args' v h' hc' hr H F k hF
 ·split at hc'
  ·exact conflB_ok (E:=envT P l (orcAllT P l fs bs ps n)) (envOkT P l noOrc) (fun _ _=>noOrc_okT) hm (fun _ hg=>hg) n μ h w g args args' v h' hc' hr H F k hF
  ·split at hc'
   ·exact conflP_ok (E:=envT P l (orcAllT P l fs bs ps n)) (envOkT P l noOrc) (fun _ _=>noOrc_okT) hm (fun _ hg=>hg) n μ h w g args args' v h' hc' hr H F k hF
   ·cases hc'
theorem AR.hrelT {E:Env} {μ0 μ:Emb} {h:AHeap} (A:AR W μ h) (hle:μ0.le μ) (hg:∀g,E.glob g=true→∃m,μ0 g=some m∧m.r=g∧m.s=0):HRel E h.size W.heap.size μ h W:=
 let H:=AR.hrel (E:=envOf default noOrc) A (fun _=>rfl)
 ⟨H.dom,H.high,H.obj,H.own,H.alias,H.fam,fun g h=>let⟨m,q1,q2⟩:=hg g h;⟨m,hle _ _ q1,q2⟩,H.low,H.bsz,H.wf,H.root⟩
theorem awakeT_of (hm:P.follows .mixedOrders=true) (hB:tabsB l n=true) {fs bs ps:List Nat} {m k:Nat} {g:FuncId}
 (hr:gaveTrue (acall (envT P l (orcAllT P l fs bs ps m)) n k g [] (heapT l n))=true):AwakeT P l g:=by
 intro W F j hW hF
 obtain⟨h',hr⟩:=gaveTrue_some hr
 have A:=arT hB hW
 have H:HRel (envT P l (orcAllT P l fs bs ps m)) n W.heap.size (muT l n W) (heapT l n) W:=by
  have:=A.hrelT (E:=envT P l (orcAllT P l fs bs ps m)) (Emb.le_refl _) (muT_glob hB hW rfl)
  rwa [heapT_size]at this
 have:=acall_ok (envOkT P l _) (orcAllT_ok hm fs bs ps m n W.heap.size) hm k (muT l n W) (heapT l n) W g [] #[] (.bool true) h' hr .nil H F j hF
 refine this.mono ?_
 rintro e W' ⟨v',μ',rfl,hv,S⟩
 have e:=hv.inv_scalar rfl
 subst e
 refine⟨rfl,S.grow.os,S.grow.tape,S.grow.output,S.grow.size,fun k hk=>S.grow.keep k hk fun b mt hb _=>?_⟩
 have:=A.dom b mt hb
 rwa [heapT_size]at this
def orcX (l:Tabs) (aw:List Nat) (rest:FuncId→List Value→AHeap→Option (Value×AHeap)):FuncId→List Value→AHeap→Option (Value×AHeap):=fun g args h=>
 match memN g aw,args,tabsIn l h with
 |true,[],true=>some (.bool true,h)
 |_,_,_=>rest g args h
theorem orcX_ok {aw:List Nat} {rest:FuncId→List Value→AHeap→Option (Value×AHeap)} (hB:tabsB l n=true) (ha:∀g∈aw,AwakeT P l g) (hr:∀base B,OrcOk P (envOf P rest) base B) (base B:Nat):OrcOk P (envT P l (orcX l aw rest)) base B:=by
 intro μ h w g args args' v h' hc hv H F k hF
 have hc':orcX l aw rest g args h=some (v,h'):=hc
 unfold orcX at hc'
 split at hc'
 ·rename_i h1 h2
  cases hc'
  have:args'= #[]:=by
   have:=hv.length
   simpa using this.symm
  subst this
  refine(ha g (memN_mem h1) w F k (laid_of_rel (E:=envT P l (orcX l aw rest)) rfl H hB h2) hF).mono ?_
  rintro e W' ⟨rfl,hb⟩
  exact⟨_,μ,rfl,.lit rfl,⟨H.ext hb.size fun r hr=>hb.block r hr,⟨hb.tape,hb.os,hb.output,hb.size,fun r hr _=>hb.block r hr⟩,μ.le_refl,fun b m h0 h1=>(by rw[h0]at h1;cases h1),fun _ _ _=>rfl,Nat.le_refl _⟩⟩
 ·have H2:HRel (envOf P rest) base B μ h w:=⟨H.dom,H.high,H.obj,H.own,H.alias,H.fam,fun g hg=>by simp[Env.glob,envOf]at hg,H.low,H.bsz,H.wf,H.root⟩
  exact(hr base B μ h w g _ args' v h' hc' hv H2 F k hF).mono fun e w' ⟨v',μ',h1,h2,h3⟩=>
   ⟨v',μ',h1,h2,⟨h3.rel.dom,h3.rel.high,h3.rel.obj,h3.rel.own,h3.rel.alias,h3.rel.fam,fun g hg=>let⟨m,q1,q2⟩:=H.glob g hg;⟨m,h3.le _ _ q1,q2⟩,h3.rel.low,h3.rel.bsz,h3.rel.wf,h3.rel.root⟩,h3.grow,h3.le,h3.new,h3.unt,h3.hsz⟩
theorem VC.awakeX {aw:List Nat} {rest:FuncId→List Value→AHeap→Option (Value×AHeap)} {g:FuncId} {c0:Nat} {o0:Ob} (hB:tabsB l n=true) (hf:((envT P l (orcX l aw rest)).func g).isSome=true) (hg:memN g aw=true):
 VC (envT P l (orcX l aw rest)) g c0 [] o0 (fun r o c=>r= .s (.bool true)∧o=o0∧c=c0):=by
 intro base ρ F h S vargs hN hM hO hA
 obtain⟨fn,hf⟩:=Option.isSome_iff_exists.1 hf
 obtain rfl:=hA.inv_nil
 have ho:(envT P l (orcX l aw rest)).orc base g [] h=some (.bool true,h):=by
  show orcX l aw rest g [] h=_
  unfold orcX
  rw[hg,tabsIn_of (E:=envT P l (orcX l aw rest)) rfl hB hN]
 refine⟨0,.bool true,h,ρ,F,.s (.bool true),o0,c0,?_,⟨rfl,rfl,rfl⟩,hM,.s rfl⟩
 unfold acall acallB
 rw[hf]
 simp only[Option.bind_some,ho]
end
section
open Go.ChangeShapes Go.WideShapes
variable {H:Type} {enc:TypeId×Value→H} {P:Program} {W:World} {base:Nat} {held:Bool}
theorem row_trueT {l:Tabs} {n:Nat} {E:Env} {g:FuncId} {ash:List ArgSh} {ts:List TypeId} {args:Array Value} {ds:List (DataW H)} {ps:List MemPlace} {base':Nat} {r:Reach} (hE:EnvOk P E) (hO:∀base B,OrcOk P E base B) (hm:P.follows .mixedOrders=true)
 (hT:E.tab=look l) (hBT:tabsB l n=true) (hWT:LaidT l W)
 (hB:argsB P ts ash=true) (hD:DataW.TrodAll enc P W base (fun _=>true) held ts args.toList ds ps) (hv:∀(j:Nat) t v,ts[j]? =some t→args[j]? =some v→Value.okWide P W r base' t v)
 (hc:∀tvs,FitAs ash tvs→VC E g 0 tvs [] fun r _ _=>r= .s (.bool true)):Calls P g args W fun e W'=>e= .returned (.bool true)∧Go.RowKit.Below W.heap.size W W':=by
 obtain⟨μ,h,tvs,vs0,A,hle,hgr,f,r,x⟩:=args_laid hB hD (fun j t v a b=>hv j t v a (by simpa using b)) _ _ (arT hBT hWT)
 have hN:TabOk E (· <h.size) h:=fun g cs hg=>by
  rw[hT]at hg
  obtain⟨h1,h2⟩:=tabsB_ok hBT hg
  have hs:=hgr.1
  rw[heapT_size]at hs
  refine⟨by omega,A.rd (cs:=cs) ?_,trivial⟩
  rw[hgr.2 g (by rw[heapT_size];exact h1),heapT_get,if_pos h1,hg]
 obtain⟨k,v,h',ρ',F',r',o',c',h1,rfl,h3,h4⟩:=hc tvs f h.size noG _ h _ vs0 hN A.mem (AR.mo) r
 obtain⟨rfl,_⟩:=h4.inv_s
 have:=acall_ok hE (hO h.size W.heap.size) hm k μ h W g vs0 args _ h' h1 x (A.hrelT hle (muT_glob hBT hWT hT)) Fence.wide 0 Wide.wide
 refine(callsIn_wide.1 (this.mono ?_))
 rintro e W' ⟨v',μ',rfl,hv,S⟩
 have e:=hv.inv_scalar rfl
 subst e
 exact⟨rfl,S.grow.os,S.grow.tape,S.grow.output,S.grow.size,fun k hk=>S.grow.keep k hk fun b m hb _=>A.dom b m hb⟩
end
end Go.M
namespace Go.M
open Go
theorem bsplit {b:Bool} {A B:Prop} (hA:b=true→A) (hB:b=false→B):(match(generalizing:=false) b with|true=>A|false=>B):=by
 cases b with
 |true=>exact hA rfl
 |false=>exact hB rfl
theorem nsplit {b:Bool} {A B:Prop} (hA:b=false→A) (hB:b=true→B):(match(generalizing:=false) !b with|true=>A|false=>B):=by
 cases b with
 |true=>exact hB rfl
 |false=>exact hA rfl
@[reducible] def RR (r0:TV) (c0:Nat) (o0:Ob):TV→Ob→Nat→Prop:=fun r o c=>r=r0∧c=c0∧o=o0
theorem bool_eq {a b:Bool} (h:a=b):Value.bool a=Value.bool b:=congrArg _ h
theorem idxI {α:Type} {enc:α→List TV} {l:List α} {n:Nat} {K:List TV→Prop} (h:n<l.length) (hK:K (enc l[n])):∃e,(0≤(n:Int)∧(l.map enc)[(n:Int).toNat]? =some e)∧K e:=
 ⟨enc l[n],⟨by omega,by simp[h]⟩,hK⟩
theorem wrap_small (n:Nat) (h:n≤1099511627776):IntKind.i64.wrap ((n:Int)+1)=((n+1:Nat):Int):=by
 rw[IntWalk.i64_in _ (by omega)];rfl
theorem lenlt {α:Type} {f:α→List TV} {l:List α} {i:Nat}:((i:Int)<(((l.map f).length:Nat):Int))↔i<l.length:=by simp
theorem flx:∀b:Bool,(!b||b)=true
 |true=>rfl
 |false=>rfl
theorem Lz.int {k:IntKind} {a b:Int} (h:a=b):Lz (Value.int k a) (Value.int k b):=.of (congrArg _ h)
theorem Lz.wrap {n:Nat} (h:n≤1099511627776):Lz (Value.int .i64 (IntKind.i64.wrap ((n:Int)+1))) (Value.int .i64 ((n+1:Nat):Int)):=.of (congrArg _ (wrap_small n h))
def smalls:List Nat:=[0,1,2,3,4,5,6,7,8,9,10,11,12,13,14,15,16,17,18,19,20,21,22,23,24,25,26,27,28,29,30,31,32,33,34,35,36,37,38,39,40]
def forceNL (n:Nat) (K:Nat→Prop) (l:List Nat):Prop:=@List.rec Nat (fun _=>Prop) (K n) (fun k _ ih=>match Nat.beq n k with|true=>K k|false=>ih) l
theorem forceNL_eq (n:Nat) (K:Nat→Prop):∀l,forceNL n K l=K n
 |[]=>rfl
 |k::l=>by
  show(match Nat.beq n k with|true=>K k|false=>forceNL n K l)=K n
  cases h:Nat.beq n k with
  |true=>rw[beq_iff.1 h]
  |false=>exact forceNL_eq n K l
def forceN (n:Nat) (K:Nat→Prop):Prop:=forceNL n K smalls
theorem forceN_eq (n:Nat):forceN n=fun K=>K n:=by funext K;exact forceNL_eq n K _
def forceC (v:TV) (K:TV→Prop):Prop:=match v with
 | .j=>K .j
 | .s v=>K (.s v)
 | .sl z es fl=>forceN z fun z=>K (.sl z es fl)
 | .tk n=>forceN n fun n=>K (.tk n)
 | .ptr n o=>forceN n fun n=>forceN o fun o=>K (.ptr n o)
 | .ep e o=>forceN o fun o=>K (.ep e o)
 | .wp n i o=>forceN n fun n=>forceN o fun o=>K (.wp n i o)
 | .mp n=>forceN n fun n=>K (.mp n)
 | .bg n len=>forceN n fun n=>K (.bg n len)
 | .sv n i=>forceN n fun n=>K (.sv n i)
 | .pv n k=>forceN n fun n=>K (.pv n k)
 | .agg cs=>K (.agg cs)
 | .tup cs=>K (.tup cs)
 | .ifc t v=>K (.ifc t v)
 | .clo g a c=>K (.clo g a c)
 | .own y=>K (.own y)
theorem forceC_eq (v:TV):forceC v=fun K=>K v:=by funext K;cases v<;>simp[forceC,forceN_eq]
def forceL (F:TV→(TV→Prop)→Prop) (l:List TV):(List TV→Prop)→Prop:=@List.rec TV (fun _=>(List TV→Prop)→Prop) (fun K=>K []) (fun v _ ih K=>F v fun v=>ih fun l=>K (v::l)) l
theorem forceL_eq {F:TV→(TV→Prop)→Prop} (hF:∀v,F v=fun K=>K v):∀l,forceL F l=fun K=>K l
 |[]=>rfl
 |v::l=>by
  have ih:=forceL_eq hF l
  funext K
  show F v (fun v=>forceL F l fun l=>K (v::l))=K (v::l)
  rw[hF,ih]
def forceA (v:TV) (K:TV→Prop):Prop:=match v with
 | .j=>K .j
 | .s v=>K (.s v)
 | .sl z es fl=>forceN z fun z=>K (.sl z es fl)
 | .tk n=>forceN n fun n=>K (.tk n)
 | .ptr n o=>forceN n fun n=>forceN o fun o=>K (.ptr n o)
 | .ep e o=>forceN o fun o=>K (.ep e o)
 | .wp n i o=>forceN n fun n=>forceN o fun o=>K (.wp n i o)
 | .mp n=>forceN n fun n=>K (.mp n)
 | .bg n len=>forceN n fun n=>K (.bg n len)
 | .sv n i=>forceN n fun n=>K (.sv n i)
 | .pv n k=>forceN n fun n=>K (.pv n k)
 | .agg cs=>forceL forceC cs fun cs=>K (.agg cs)
 | .tup cs=>K (.tup cs)
 | .ifc t v=>K (.ifc t v)
 | .clo g a c=>forceL forceC a fun a=>forceL forceC c fun c=>K (.clo g a c)
 | .own y=>K (.own y)
theorem forceA_eq (v:TV):forceA v=fun K=>K v:=by funext K;cases v<;>simp[forceA,forceN_eq,forceL_eq forceC_eq]
def forceV (v:TV) (K:TV→Prop):Prop:=match v with
 | .j=>K .j
 | .s v=>K (.s v)
 | .sl z es fl=>forceN z fun z=>K (.sl z es fl)
 | .tk n=>forceN n fun n=>K (.tk n)
 | .ptr n o=>forceN n fun n=>forceN o fun o=>K (.ptr n o)
 | .ep e o=>forceN o fun o=>K (.ep e o)
 | .wp n i o=>forceN n fun n=>forceN o fun o=>K (.wp n i o)
 | .mp n=>forceN n fun n=>K (.mp n)
 | .bg n len=>forceN n fun n=>K (.bg n len)
 | .sv n i=>forceN n fun n=>K (.sv n i)
 | .pv n k=>forceN n fun n=>K (.pv n k)
 | .agg cs=>forceL forceC cs fun cs=>K (.agg cs)
 | .tup cs=>forceL forceA cs fun cs=>K (.tup cs)
 | .ifc t v=>forceA v fun v=>K (.ifc t v)
 | .clo g a c=>forceL forceC a fun a=>forceL forceC c fun c=>K (.clo g a c)
 | .own y=>K (.own y)
theorem forceV_eq (v:TV):forceV v=fun K=>K v:=by funext K;cases v<;>simp[forceV,forceN_eq,forceL_eq forceC_eq,forceL_eq forceA_eq,forceA_eq]
def forceQ (q:List (Nat×List TV)):(List (Nat×List TV)→Prop)→Prop:=@List.rec (Nat×List TV) (fun _=>(List (Nat×List TV)→Prop)→Prop) (fun K=>K []) (fun p _ ih K=>forceL forceC p.2 fun x=>ih fun l=>K ((p.1,x)::l)) q
theorem forceQ_eq:∀q,forceQ q=fun K=>K q
 |[]=>rfl
 |p::q=>by
  have ih:=forceQ_eq q
  funext K
  show forceL forceC p.2 (fun x=>forceQ q fun l=>K ((p.1,x)::l))=K (p::q)
  rw[forceL_eq forceC_eq,ih]
def forceM (q:List (Value×TV)):(List (Value×TV)→Prop)→Prop:=@List.rec (Value×TV) (fun _=>(List (Value×TV)→Prop)→Prop) (fun K=>K []) (fun p _ ih K=>forceA p.2 fun x=>ih fun l=>K ((p.1,x)::l)) q
theorem forceM_eq:∀q,forceM q=fun K=>K q
 |[]=>rfl
 |p::q=>by
  have ih:=forceM_eq q
  funext K
  show forceA p.2 (fun x=>forceM q fun l=>K ((p.1,x)::l))=K (p::q)
  rw[forceA_eq,ih]
def forceT (x:TO) (K:TO→Prop):Prop:=match x with
 | .cells cs=>forceL forceC cs fun cs=>K (.cells cs)
 | .map kd es=>forceN kd fun kd=>K (.map kd es)
 | .arr z w es=>forceN z fun z=>match w with|true=>K (.arr z true es)|false=>K (.arr z false es)
 | .arq z es op=>forceN z fun z=>forceQ op fun op=>K (.arq z es op)
 | .maq kd es op=>forceN kd fun kd=>forceM op fun op=>K (.maq kd es op)
 | .bag ks=>K (.bag ks)
theorem forceT_eq (x:TO):forceT x=fun K=>K x:=by
 funext K
 cases x with
 |cells cs=>simp[forceT,forceL_eq forceC_eq]
 |map kd es=>simp[forceT,forceN_eq]
 |arr z w es=>cases w<;>simp[forceT,forceN_eq]
 |arq z es op=>simp[forceT,forceN_eq,forceQ_eq]
 |maq kd es op=>simp[forceT,forceN_eq,forceM_eq]
 |bag ks=>rfl
def forceO (o:Ob):(Ob→Prop)→Prop:=@List.rec (Nat×TO) (fun _=>(Ob→Prop)→Prop) (fun K=>K []) (fun p _ ih K=>forceN p.1 fun n=>forceT p.2 fun x=>ih fun l=>K ((n,x)::l)) o
theorem forceO_eq:∀o,forceO o=fun K=>K o
 |[]=>rfl
 |p::o=>by
  have ih:=forceO_eq o
  funext K
  show forceN p.1 (fun n=>forceT p.2 fun x=>forceO o fun l=>K ((n,x)::l))=K (p::o)
  rw[forceN_eq,forceT_eq,ih]
def forceQH (q:List (Nat×List TV)):(List (Nat×List TV)→Prop)→Prop:=@List.rec (Nat×List TV) (fun _=>(List (Nat×List TV)→Prop)→Prop) (fun K=>K []) (fun p _ ih K=>forceN p.1 fun k=>forceL forceA p.2 fun x=>ih fun l=>K ((k,x)::l)) q
theorem forceQH_eq:∀q,forceQH q=fun K=>K q
 |[]=>rfl
 |p::q=>by
  have ih:=forceQH_eq q
  funext K
  show forceN p.1 (fun k=>forceL forceA p.2 fun x=>forceQH q fun l=>K ((k,x)::l))=K (p::q)
  rw[forceN_eq,forceL_eq forceA_eq,ih]
def forceTH (x:TO) (K:TO→Prop):Prop:=match x with
 | .cells cs=>forceL forceC cs fun cs=>K (.cells cs)
 | .map kd es=>forceN kd fun kd=>K (.map kd es)
 | .arr z w es=>forceN z fun z=>match w with|true=>K (.arr z true es)|false=>K (.arr z false es)
 | .arq z es op=>forceN z fun z=>forceQH op fun op=>K (.arq z es op)
 | .maq kd es op=>forceN kd fun kd=>forceM op fun op=>K (.maq kd es op)
 | .bag ks=>K (.bag ks)
theorem forceTH_eq (x:TO):forceTH x=fun K=>K x:=by
 funext K
 cases x with
 |cells cs=>simp[forceTH,forceL_eq forceC_eq]
 |map kd es=>simp[forceTH,forceN_eq]
 |arr z w es=>cases w<;>simp[forceTH,forceN_eq]
 |arq z es op=>simp[forceTH,forceN_eq,forceQH_eq]
 |maq kd es op=>simp[forceTH,forceN_eq,forceM_eq]
 |bag ks=>rfl
def forceH (o:Ob):(Ob→Prop)→Prop:=@List.rec (Nat×TO) (fun _=>(Ob→Prop)→Prop) (fun K=>K []) (fun p l _ K=>forceN p.1 fun n=>forceTH p.2 fun x=>forceO l fun l=>K ((n,x)::l)) o
theorem forceH_eq:∀o,forceH o=fun K=>K o
 |[]=>rfl
 |p::o=>by
  funext K
  show forceN p.1 (fun n=>forceTH p.2 fun x=>forceO o fun l=>K ((n,x)::l))=K (p::o)
  rw[forceN_eq,forceTH_eq,forceO_eq]
def strict (l:VL) (v:TV) (o:Ob) (c:Nat) (K:TV→Ob→Nat→Prop):Prop:=match l with
 | .pure=>forceV v fun v=>K v o c
 | .alloc=>forceV v fun v=>forceH o fun o=>forceN c fun c=>K v o c
 | .rdF=>forceV v fun v=>K v o c
 | .rdO _=>forceV v fun v=>forceO o fun o=>forceN c fun c=>K v o c
 | .rdN _ _ _=>forceV v fun v=>forceO o fun o=>forceN c fun c=>K v o c
 | .eff _=>forceV v fun v=>forceO o fun o=>forceN c fun c=>K v o c
 | .effI _=>forceV v fun v=>forceO o fun o=>forceN c fun c=>K v o c
 | .effG=>forceV v fun v=>forceO o fun o=>forceN c fun c=>K v o c
 | .bad=>forceV v fun v=>K v o c
theorem strict_eq (l:VL) (v:TV) (o:Ob) (c:Nat):strict l v o c=fun K=>K v o c:=by
 funext K;cases l<;>simp[strict,forceV_eq,forceO_eq,forceH_eq,forceN_eq]
def wopsR (E:Env) (vc:VCs) (n:Nat) (ops:List Oper) (l:List Oper):Fr→Ob→Nat→RK→Prop:=
 @List.rec Oper (fun _=>Fr→Ob→Nat→RK→Prop) (fun f o c K=>K f o c)
  (fun p _ ih f o c K=>wguard ops p f
   (wop E vc p.op f o c fun v o' c' l=>strict l v o' c' fun v o' c'=>wput p.dst n v f fun f'=>ih f' o' c' K)
   (wput p.dst n (.tup []) f fun f'=>ih f' o c K)) l
theorem wopsR_eq (E:Env) (vc:VCs) (n:Nat) (ops:List Oper):∀(l:List Oper) f o c K,wopsR E vc n ops l f o c K=wops E vc n ops l f o c K:=by
 intro l
 induction l with
 |nil=>intro f o c K;rfl
 |cons p rest ih=>
  intro f o c K
  have e:(fun f' o' c' (K:RK)=>wopsR E vc n ops rest f' o' c' K)=fun f' o' c' K=>wops E vc n ops rest f' o' c' K:=by funext a b d e;exact ih a b d e
  show wguard ops p f (wop E vc p.op f o c fun v o' c' l=>strict l v o' c' fun v o' c'=>wput p.dst n v f fun f'=>(fun f' o' c' (K:RK)=>wopsR E vc n ops rest f' o' c' K) f' o' c' K) (wput p.dst n (.tup []) f fun f'=>(fun f' o' c' (K:RK)=>wopsR E vc n ops rest f' o' c' K) f' o c K)=_
  rw[e]
  simp only[strict_eq]
  rfl
def wopsLR (E:Env) (vc:VCs) (n:Nat) (ops:List Oper) (l:List Oper):Fr→Ob→Nat→List VN→(List VN→RK)→Prop:=
 @List.rec Oper (fun _=>Fr→Ob→Nat→List VN→(List VN→RK)→Prop) (fun f o c lg K=>K lg f o c)
  (fun p _ ih f o c lg K=>wguard ops p f
   (wop E vc p.op f o c fun v o' c' l=>strict l v o' c' fun v o' c'=>wput p.dst n v f fun f'=>ih f' o' c' (lg++[(l,o)]) K)
   (wput p.dst n (.tup []) f fun f'=>ih f' o c (lg++[(.pure,o)]) K)) l
theorem wopsLR_eq (E:Env) (vc:VCs) (n:Nat) (ops:List Oper):∀(l:List Oper) f o c lg K,wopsLR E vc n ops l f o c lg K=wopsL E vc n ops l f o c lg K:=by
 intro l
 induction l with
 |nil=>intro f o c lg K;rfl
 |cons p rest ih=>
  intro f o c lg K
  have e:(fun f' o' c' lg (K:List VN→RK)=>wopsLR E vc n ops rest f' o' c' lg K)=fun f' o' c' lg K=>wopsL E vc n ops rest f' o' c' lg K:=by funext a b d g e;exact ih a b d g e
  show wguard ops p f (wop E vc p.op f o c fun v o' c' l=>strict l v o' c' fun v o' c'=>wput p.dst n v f fun f'=>(fun f' o' c' lg (K:List VN→RK)=>wopsLR E vc n ops rest f' o' c' lg K) f' o' c' (lg++[(l,o)]) K) (wput p.dst n (.tup []) f fun f'=>(fun f' o' c' lg (K:List VN→RK)=>wopsLR E vc n ops rest f' o' c' lg K) f' o c (lg++[(.pure,o)]) K)=_
  rw[e]
  simp only[strict_eq]
  rfl
structure Drawn (b:Bool) (K:Prop):Prop where
 ok:b=true
 go:K
theorem drawn_eq (b:Bool) (K:Prop):Drawn b K=(match(generalizing:=false) b with|true=>K|false=>False):=by
 cases b with
 |true=>exact propext ⟨fun h=>h.go,fun h=>⟨rfl,h⟩⟩
 |false=>exact propext (Iff.intro (fun h=>by cases h.ok) (fun h=>False.elim h))
abbrev WP:=Fr→Ob→Nat→CK→Prop
def wpR (E:Env) (vc:VCs) (n c0:Nat) (cuts:List Nat) (code:Code):WP:=
 @Code.rec (fun _=>WP)
  (fun f o c Q=>Q .normal f o c)
  (fun _ ops draw f o c Q=>(match draw with
  |false=>wopsR E vc n ops.toList ops.toList f o c fun f' o' c'=>Q .normal f' o' c'
  |true=>Drawn (staticOk ops.toList&&dstsIn n ops.toList) (wopsLR E vc n ops.toList ops.toList f o c [] fun lg f' o' c'=>Drawn (drawOk (befores ops.toList []) o' 0 lg) (Q .normal f' o' c'))))
  (fun _ _ iha ihb f o c Q=>iha f o c fun ex f' o' c'=>(match ex with
  | .normal=>ihb f' o' c' Q
  | .exit id=>Q (.exit id) f' o' c'
  | .ret=>Q .ret f' o' c'))
  (fun q _ _ iht ihe f o c Q=>(match evOk E q with
  |false=>False
  |true=>(match evT E f q with
   | .s (.bool b)=>(match b with
    |true=>iht f o c Q
    |false=>ihe f o c Q)
   |_=>False)))
  (fun id _ ih f o c Q=>(match memN id cuts with
  |false=>ih f o c fun ex f' o' c'=>(match ex with
   | .exit id'=>(match Nat.beq id' id with
    |true=>Q .normal f' o' c'
    |false=>Q (.exit id') f' o' c')
   | .normal=>Q .normal f' o' c'
   | .ret=>Q .ret f' o' c')
  |true=>∃Mid:RK,(ih f o c fun ex f' o' c'=>(match ex with
   | .exit id'=>(match Nat.beq id' id with
    |true=>toldAs c0 f' o' c' Mid
    |false=>Q (.exit id') f' o' c')
   | .normal=>toldAs c0 f' o' c' Mid
   | .ret=>Q .ret f' o' c'))∧∀f' o' c',Mid f' o' c'→Q .normal f' o' c'))
  (fun _ ih f o c Q=>(match memN 999999 cuts with
  |false=>∃Inv:Nat→Fr→Ob→Nat→Prop,(∃k,toldAs c0 f o c (Inv k))∧
   ∀k f1 o1 c1,Inv k f1 o1 c1→ih f1 o1 c1 fun ex f' o' c'=>(match ex with
    | .normal=>∃k',toldAs c0 f' o' c' (Inv k')∧k'<k
    | .exit id=>Q (.exit id) f' o' c'
    | .ret=>Q .ret f' o' c')
  |true=>loopU (fun f o c Q=>ih f o c Q) 64 f o c Q))
  (fun _ _ _ _ _ _ _ _ _ _=>False)
  (fun id f o c Q=>Q (.exit id) f o c)
  (fun _ _ _ _ _ _=>False)
  (fun _ _ _ _ _=>False)
  (fun _ _ _ _ _=>False)
  (fun f o c Q=>Q .ret f o c)
  (fun _ _ _ _ _=>False) code
theorem wpR_eq (E:Env) (vc:VCs) (n c0:Nat) (cuts:List Nat):∀(code:Code) f o c Q,wpR E vc n c0 cuts code f o c Q=wp E vc n c0 cuts code f o c Q:=by
 intro code
 induction code with
 |region id ops draw=>
  intro f o c Q
  have e1:(fun K=>wopsR E vc n ops.toList ops.toList f o c K)=fun K=>wops E vc n ops.toList ops.toList f o c K:=by funext K;exact wopsR_eq ..
  have e2:(fun lg K=>wopsLR E vc n ops.toList ops.toList f o c lg K)=fun lg K=>wopsL E vc n ops.toList ops.toList f o c lg K:=by funext lg K;exact wopsLR_eq ..
  show(match draw with
  |false=>(fun K=>wopsR E vc n ops.toList ops.toList f o c K) fun f' o' c'=>Q .normal f' o' c'
  |true=>Drawn (staticOk ops.toList&&dstsIn n ops.toList) ((fun lg K=>wopsLR E vc n ops.toList ops.toList f o c lg K) [] fun lg f' o' c'=>Drawn (drawOk (befores ops.toList []) o' 0 lg) (Q .normal f' o' c')))=_
  rw[e1,e2]
  simp only[drawn_eq]
  cases draw<;>rfl
 |seq a b iha ihb=>
  intro f o c Q
  have e1:(fun f o c Q=>wpR E vc n c0 cuts a f o c Q)=fun f o c Q=>wp E vc n c0 cuts a f o c Q:=by funext f o c Q;exact iha ..
  have e2:(fun f o c Q=>wpR E vc n c0 cuts b f o c Q)=fun f o c Q=>wp E vc n c0 cuts b f o c Q:=by funext f o c Q;exact ihb ..
  show((fun f o c Q=>wpR E vc n c0 cuts a f o c Q) f o c fun ex f' o' c'=>(match ex with
  | .normal=>(fun f o c Q=>wpR E vc n c0 cuts b f o c Q) f' o' c' Q
  | .exit id=>Q (.exit id) f' o' c'
  | .ret=>Q .ret f' o' c'))=_
  rw[e1,e2]
  rfl
 |cond q t e iht ihe=>
  intro f o c Q
  have e1:(fun f o c Q=>wpR E vc n c0 cuts t f o c Q)=fun f o c Q=>wp E vc n c0 cuts t f o c Q:=by funext f o c Q;exact iht ..
  have e2:(fun f o c Q=>wpR E vc n c0 cuts e f o c Q)=fun f o c Q=>wp E vc n c0 cuts e f o c Q:=by funext f o c Q;exact ihe ..
  show(match evOk E q with
  |false=>False
  |true=>(match evT E f q with
   | .s (.bool b)=>(match b with
    |true=>(fun f o c Q=>wpR E vc n c0 cuts t f o c Q) f o c Q
    |false=>(fun f o c Q=>wpR E vc n c0 cuts e f o c Q) f o c Q)
   |_=>False))=_
  rw[e1,e2]
  rfl
 |block id b ih=>
  intro f o c Q
  have e1:(fun f o c Q=>wpR E vc n c0 cuts b f o c Q)=fun f o c Q=>wp E vc n c0 cuts b f o c Q:=by funext f o c Q;exact ih ..
  show(match memN id cuts with
  |false=>(fun f o c Q=>wpR E vc n c0 cuts b f o c Q) f o c fun ex f' o' c'=>(match ex with
   | .exit id'=>(match Nat.beq id' id with
    |true=>Q .normal f' o' c'
    |false=>Q (.exit id') f' o' c')
   | .normal=>Q .normal f' o' c'
   | .ret=>Q .ret f' o' c')
  |true=>∃Mid:RK,((fun f o c Q=>wpR E vc n c0 cuts b f o c Q) f o c fun ex f' o' c'=>(match ex with
   | .exit id'=>(match Nat.beq id' id with
    |true=>toldAs c0 f' o' c' Mid
    |false=>Q (.exit id') f' o' c')
   | .normal=>toldAs c0 f' o' c' Mid
   | .ret=>Q .ret f' o' c'))∧∀f' o' c',Mid f' o' c'→Q .normal f' o' c')=_
  rw[e1]
  rfl
 |loop b ih=>
  intro f o c Q
  have e1:(fun f o c Q=>wpR E vc n c0 cuts b f o c Q)=fun f o c Q=>wp E vc n c0 cuts b f o c Q:=by funext f o c Q;exact ih ..
  show(match memN 999999 cuts with
  |false=>∃Inv:Nat→Fr→Ob→Nat→Prop,(∃k,toldAs c0 f o c (Inv k))∧
   ∀k f1 o1 c1,Inv k f1 o1 c1→(fun f o c Q=>wpR E vc n c0 cuts b f o c Q) f1 o1 c1 fun ex f' o' c'=>(match ex with
    | .normal=>∃k',toldAs c0 f' o' c' (Inv k')∧k'<k
    | .exit id=>Q (.exit id) f' o' c'
    | .ret=>Q .ret f' o' c')
  |true=>loopU (fun f o c Q=>wpR E vc n c0 cuts b f o c Q) 64 f o c Q)=_
  rw[e1]
  rfl
 |_=>intros;rfl
theorem VC.enterR {E T:Env} (L:EnvLe T E) {g:FuncId} {fn:Func} {code:Code} {c0:Nat} {args:List TV} {o0:Ob} {R:TV→Ob→Nat→Prop} (hf:E.func g=some fn) (ho:∀b a,E.orc b g a=fun _=>none) (hb:fn.body=some code) (hlen:Nat.ble args.length fn.ntmps=true)
 (cuts:List Nat) (hw:wpR T (VC E) fn.ntmps c0 cuts code (argsF 0 args) o0 c0 (wret T c0 fn.results.toList R)):VC E g c0 args o0 R:=
 VC.enter L hf ho hb hlen cuts (by rw[←wpR_eq];exact hw)
theorem D1 {b:Bool} {K:Prop} (k:K) (h:b=true:=by kernel_rfl):Drawn b K:=⟨h,k⟩
theorem LF {p:Prop} (h:p:=by first|with_reducible exact Lz.rfl|exact Lw.rfl|exact Lz.wrap (by omega)|(unfold goInt;with_reducible exact Lz.rfl)|exact flx _):p:=h
theorem cR {r0:TV} {c0:Nat} {o0:Ob} {Q:TV→Ob→Nat→Prop} (h:Q r0 o0 c0):∀r o c,RR r0 c0 o0 r o c→Q r o c:=by
 rintro r o c ⟨rfl,rfl,rfl⟩;exact h
theorem t3 {a b c:Prop} (h1:a:=by(repeat' first|with_reducible exact Lz.rfl|exact Lw.rfl|exact Lz.wrap (by omega)|(unfold goInt;with_reducible exact Lz.rfl)|exact flx _|constructor)) (h2:b:=by(repeat' first|with_reducible exact Lz.rfl|exact Lw.rfl|exact Lz.wrap (by omega)|(unfold goInt;with_reducible exact Lz.rfl)|exact flx _|constructor)) (h3:c:=by rfl):a∧b∧c:=⟨h1,h2,h3⟩
end Go.M
namespace Go.M
open Go
def opStill (o:Oper):Bool:=match o.op with
 | .move _| .assign _| .pick _ _ _| .build _ _| .nilCheck _| .binOp _ _ _ _ _| .unOp _ _ _| .makeInterface _ _| .makeFunc _ _ _| .slice _ _ _ _ _| .fieldAddr _ _ _| .field _ _ _| .indexAddr _ _ _| .index _ _ _| .lookup _ _ _ _| .extract _ _| .load _ _=>true
 | .call c=>(match c.callee with
  | .builtin .len=>true
  |_=>false)
 |_=>false
def codeStill:Code→Bool
 | .skip| .exit _| .ret=>true
 | .region _ ops _=>ops.toList.all opStill
 | .seq a b=>codeStill a&&codeStill b
 | .cond _ a b=>codeStill a&&codeStill b
 | .block _ b=>codeStill b
 | .loop b=>codeStill b
 |_=>false
section
variable {E:Env} {base:Nat}
end
end Go.M
