/-
  Part 12 of the library that the proof leans on.
-/
import Derived.Test.YthaboieeoopmjaaGreatDoorL10
import Derived.Test.YthaboieeoopmjaaGreatDoorL11
import Derived.Shelf.SlIterI.Nil
import Derived.KernelRfl
namespace Go.M
open Go
def Pg (l:List Nat):FuncId→List Value→ae→Option (Value×ae):=fun g args h=>match iN g l,args with
 |true,[]=>some (.bool true,h)
 |_,_=>none
def Fl (P:Program) (g:FuncId):Prop:=∀(W:World) (F:Fence) (n:Nat),gE F→CallsIn F n P g #[] W fun e W'=>e= .returned (.bool true)∧Go.RowKit.Below W.heap.size W W'
theorem Ph {P:Program} (hm:P.follows .mixedOrders=true) {fs bs ps:List Nat} {m n:Nat} {g:FuncId}
 (hr:xJ (g9 (ew P (rZ P fs bs ps m)) 0 n g [] qP)=true):Fl P g:=by
 intro W F k hF;obtain⟨h',hr⟩:=Af hr;have:=xH (xG P _) (LQ hm fs bs ps m 0 W.heap.size) hm n HG qP W g [] #[] (.bool true) h' hr .nil (ZD (fun _=>rfl) W) F k hF;refine this.mono ?_;rintro e W' ⟨v',a6,rfl,hv,S⟩;have e:=hv.ax rfl;subst e;exact⟨rfl,Ae S⟩
theorem Te {P:Program} {l:List Nat} (hl:∀g∈l,Fl P g) (base B:Nat):gL P (ew P (Pg l)) base B:=by
 intro μ h w g args args' v h' hc hr H F n hF;have kX:Pg l g args h=some (v,h'):=hc;unfold Pg at kX;split at kX
 ·rename_i hg;cases kX;have:args'= #[]:=by
   have:=hr.length;simpa using this.symm
  subst this;refine(hl g (kZ hg) w F n hF).mono ?_;rintro e W' ⟨rfl,hb⟩;exact⟨_,μ,rfl,.lit rfl,⟨H.ext hb.size fun r hr=>hb.block r hr,⟨hb.tape,hb.os,hb.output,hb.size,fun r hr _=>hb.block r hr⟩,μ.le_refl,fun b m h0 h1=>(by rw[h0]at h1;cases h1),fun _ _ _=>rfl,Nat.le_refl _⟩⟩
 ·cases kX
end Go.M
namespace Go.M
open Go Go.RowKit Go.Maps Go.Sort Go.Shelf Go.Proofs
def jd (P:Program) (g k:FuncId):Prop:=∀(W:World) (Bm:Nat) (mb:Option Nat) (ks:List Int),W.cell? ⟨Bm,0,none⟩=some (.map mb)→ks.length≤1099511627776→(∀x∈ks,IntKind.i64.min≤x∧x≤IntKind.i64.max)→ks.Nodup→
 (mb=none∧ks=[]∨∃(r:Nat) (es:Array MapEntry) (clock:Nat),mb=some r∧W.heap[r]? =some (.map es clock)∧sn es.toList clock∧es.toList.map (·.key)=ks.map (.int .i64))→
 Calls P g #[.func (.func k) #[] #[.pointer (some ⟨Bm,0,none⟩)]] W fun e w'=>∃(v:Value) (t:TypeId),e= .returned v∧w'.ownsRow W.heap.size t 1 v ks.length ((ks.mergeSort fun x y=>decide (x≤y)).map (.int .i64))∧(v= .slice none 0 0↔ks=[])∧Below W.heap.size W w'
theorem mergeSort_perm {l l':List Int} (h:l.Perm l'):l.mergeSort (fun x y=>decide (x≤y))=l'.mergeSort (fun x y=>decide (x≤y)):=by
 have tr:∀a b c:Int,decide (a≤b)=true→decide (b≤c)=true→decide (a≤c)=true:=fun a b c h1 h2=>by simp only[decide_eq_true_eq]at*;omega
 have to:∀a b:Int,(decide (a≤b)||decide (b≤a))=true:=fun a b=>by simp only[Bool.or_eq_true,decide_eq_true_eq];omega
 refine List.Perm.eq_of_pairwise (le:=fun a b=>decide (a≤b)=true) (fun a b _ _ h1 h2=>?_) (List.pairwise_mergeSort tr to l) (List.pairwise_mergeSort tr to l') (((List.mergeSort_perm l _).trans h).trans (List.mergeSort_perm l' _).symm);simp only[decide_eq_true_eq]at h1 h2;omega
theorem oe {P:Program} {ρ σ:Ren} (L6:SlLaysZI.n6 P ρ) (Tf:SlLaysZI.n10 P σ) (aaz:∀m,AnyZI.SortsIn P ρ Fence.wide m) (e9:∀args w,(callFunc (ρ.f 9) args).run P w= .ok (.enter (ρ.f 9) args) w)
 (e10:∀args w,(callFunc (σ.f 10) args).run P w= .ok (.enter (σ.f 10) args) w):jd P (ρ.f 6) (σ.f 10):=by
 intro W Bm mb ks hm hlen mw tW Iv;have hBm:Bm<W.heap.size:=by
  unfold World.cell? at hm;split at hm
  ·rename_i hh;exact(Array.getElem?_eq_some_iff.1 hh).1
  ·cases hm
 have key:∃(S:List Int→Prop),(∀ss,S ss→ss.Perm ks)∧SeqGives Fence.wide (10 - 1 - 1 - 1) P (σ.f 10) #[.pointer (some ⟨Bm,0,none⟩)] encZ S ks.length W:=by
  rcases Iv with⟨rfl,rfl⟩|⟨r,es,clock,rfl,hr,bN,hk⟩
  ·exact⟨_,fun ss h=>by rw[h],AnyZI.keys_gives_nil Tf Fence.wide _ trivial rfl Bm W hBm hm⟩
  ·have WN:Keyed P (σ.t 26):=int_keyed Tf.t26;have yG:∀x∈es.toList,∃n,n∈ks∧x.key= .int .i64 n∧WideElems.rd (H:=Unit) P (σ.t 26) (fun _=>some (.nil,[])) x=some ((.int .i64 n),.nil):=by
    intro x hx;have:x.key∈es.toList.map (·.key):=List.mem_map.2 ⟨x,hx,rfl⟩;rw[hk]at this;obtain⟨n,hn,e⟩:=List.mem_map.1 this;refine⟨n,hn,e.symm,?_⟩;obtain⟨h1,h2⟩:=mw n hn;unfold WideElems.rd;rw[←e,keyOf_int_mk Tf.t26 (by simp only[Lit.wf,Bool.and_eq_true,decide_eq_true_eq];exact⟨h1,h2⟩)];rfl
   have Ih:(es.toList.map fun x=>intOf (WideElems.rg (H:=Unit) P (σ.t 26) (fun _=>some (.nil,[])) x).1)=ks:=by
    have h1:es.toList.map (fun x=>intOf (WideElems.rg (H:=Unit) P (σ.t 26) (fun _=>some (.nil,[])) x).1)=(es.toList.map (·.key)).map (fun v=>match v with| .int _ n=>n|_=>0):=by
     rw[List.map_map];refine List.map_congr_left fun x hx=>?_;obtain⟨n,_,e,h⟩:=yG x hx;rw[WideElems.rg_of h,Function.comp_apply,e];rfl
    rw[h1,hk,List.map_map];exact(List.map_congr_left fun x _=>rfl).trans (List.map_id ks)
   have fO:es.size=ks.length:=by
    have:=congrArg List.length hk;simpa using this
   have WO:W.ownsMap (H:=Unit) P (σ.t 26) (fun _=>some (.nil,[])) r ks.length (.map ((es.toList.map (WideElems.rg P (σ.t 26) (fun _=>some (.nil,[])))).foldr DataW.insert [])):=by
    refine⟨es,clock,hr,⟨by rw[fO];unfold Go.maxLen;omega,⟨bN.1,bN.2,?_⟩,fun x hx=>?_⟩,Nat.le_of_eq fO,rfl⟩
    ·rw[hk];exact List.pairwise_map.2 (tW.imp fun h e=>h (by simpa using e))
    ·obtain⟨n,_,_,h⟩:=yG x hx;exact⟨_,h⟩
   have hp:(intKeys (H:=Unit) (.map ((es.toList.map (WideElems.rg P (σ.t 26) (fun _=>some (.nil,[])))).foldr DataW.insert []))).Perm ks:=by
    have:=(WideShapes.sorted_perm (es.toList.map (WideElems.rg (H:=Unit) P (σ.t 26) (fun _=>some (.nil,[]))))).map (fun p=>intOf p.1);rw[List.map_map]at this;have h2:(es.toList.map ((fun p=>intOf p.1)∘WideElems.rg (H:=Unit) P (σ.t 26) (fun _=>some (.nil,[]))))=ks:=Ih;rw[h2]at this;exact this
   have hs:=AnyZI.keys_gives Tf Fence.wide (10 - 1 - 1 - 1) trivial rfl om Bm r ks.length _ W hBm hm WO;have e:Maps.size (H:=Unit) (.map ((es.toList.map (WideElems.rg P (σ.t 26) (fun _=>some (.nil,[])))).foldr DataW.insert []))=ks.length:=by
    have:=(WideShapes.sorted_perm (es.toList.map (WideElems.rg (H:=Unit) P (σ.t 26) (fun _=>some (.nil,[]))))).length_eq;rw[size_eq,this,List.length_map];simpa using fO
   rw[e]at hs;exact⟨_,fun ss h=>h.trans hp,hs⟩
 obtain⟨S,hS,WQ⟩:=key;have:=AnyZI.sorted_in L6 Fence.wide 10 trivial trivial trivial trivial rfl om (aaz _) e9 (σ.f 10) #[.pointer (some ⟨Bm,0,none⟩)] trivial e10 S ks.length (by unfold Go.maxLen;omega) om W WQ;refine callsIn_wide.1 (this.mono ?_);rintro e w' ⟨v,ss,rfl,hs,gj,sP,hb⟩;have hp:=hS ss hs;rw[mergeSort_perm hp,hp.length_eq]at gj;refine⟨v,_,rfl,gj,sP.trans ⟨fun h=>?_,fun h=>?_⟩,hb⟩
 ·subst h;exact List.Perm.nil_eq hp |>.symm▸rfl
 ·subst h;exact List.Perm.eq_nil hp
end Go.M
namespace Go.M
open Go Go.RowKit
theorem uP {P:Program} {F:Fence} (hF:gE F) {n:Nat} {f:FuncId} {args:Array Value} {w:World} {R:Ending→World→Prop} (h:Calls P f args w R):CallsIn F n P f args w R:=by
 have e:Machine.fenced P F=Machine.fenced P Fence.wide:=funext fun m=>propext ⟨fun _=>fenced_wide P m,fun _ g hg=>⟨fun ha=>(by rw[hF.dead]at ha;cases ha),Or.inl (hF.fn _),fun f _=>hF.fn f,fun d hd=>(by rw[hF.depth]at hd;cases hd)⟩⟩;have h2:=callsIn_wide (n:=n).2 h;refine⟨hF.fn f,fun cs _=>?_⟩;rw[e];exact h2.2 cs (room_wide _)
def vL:List MapEntry→Option (List Int)
 |[]=>some []
 |e::l=>match e.key,vL l with
  | .int .i64 n,some ks=>some (n::ks)
  |_,_=>none
def je (h:ae) (b:Nat):Option (Option Nat):=match h.get b with
 |some (.cells [.map mb] f c8 ba)=>bI (Nat.beq f b&&Nat.beq c8 b&&Nat.ble ba b) (some mb)
 |_=>none
instance (ev:List MapEntry) (clock:Nat):Decidable (sn ev clock):=inferInstanceAs (Decidable (_∧_))
def k8 (ks:List Int):Prop:=ks.length≤1099511627776∧(∀x∈ks,IntKind.i64.min≤x∧x≤IntKind.i64.max)∧ks.Nodup
instance (ks:List Int):Decidable (k8 ks):=inferInstanceAs (Decidable (_∧_∧_))
def jf (h:ae):Option Nat→Option (List Int)
 |none=>some []
 |some r=>match h.get r with
  |some (.map ev clock)=>(vL ev).bind fun ks=>bI (decide (sn ev clock)&&decide (k8 ks)) (some ks)
  |_=>none
def bY (ks:List Int):List Int:=ks.mergeSort fun x y=>decide (x≤y)
def vM (h:ae) (ks:List Int):Value×ae:=match ks with
 |[]=>(.slice none 0 0,h)
 |_::_=>(.slice (some ⟨h.size,0,some 1⟩) ks.length (ks.length+1),h.push (.cells ((bY ks).map (.int .i64)) h.size h.size 0))
def qo (ky:List Nat) (args:List Value) (h:ae):Option (Value×ae):=match args with
 |[.func (.func k) a c]=>(match a.toList,c.toList with
  |[],[.pointer (some ⟨b,0,none⟩)]=>bI (iN k ky) ((je h b).bind fun mb=>(jf h mb).bind fun ks=>some (vM h ks))
  |_,_=>none)
 |_=>none
theorem vN {h:ae} {b:Nat} {mb:Option Nat} (hb:je h b=some mb):∃ba,h.get b=some (.cells [.map mb] b b ba)∧ba≤b:=by
 unfold je at hb;split at hb
 ·rename_i J8 f c8 ba hg;simp only[aj,Bool.and_eq_true,beq_iff,aT,Option.some.injEq]at hb;obtain⟨⟨⟨rfl,rfl⟩,ht⟩,rfl⟩:=hb;exact⟨ba,hg,ht⟩
 ·cases hb
theorem l4 {h:ae} {r:Nat} {ks:List Int} (hk:jf h (some r)=some ks):∃ev clock,h.get r=some (.map ev clock)∧vL ev=some ks∧sn ev clock∧k8 ks:=by
 simp only[jf]at hk;split at hk
 ·rename_i ev clock hg;simp only[Option.bind_eq_some_iff,aj,Bool.and_eq_true,decide_eq_true_eq,Option.some.injEq]at hk;obtain⟨Wy,wJ,⟨bN,gl⟩,rfl⟩:=hk;exact⟨ev,clock,hg,wJ,bN,gl⟩
 ·cases hk
theorem cE.born {μ:bt} {ev ev':List MapEntry} (h:cE μ ev ev'):ev'.map (·.born)=ev.map (·.born):=by
 induction h with
 |nil=>rfl
 |cons _ _ hb _ ih=>simp[hb,ih]
theorem sn.iff {ev:List MapEntry} {clock:Nat}:sn ev clock↔(∀b∈ev.map (·.born),b<clock)∧(ev.map (·.born)).Nodup:=by
 unfold sn;simp
theorem cE.ints {μ:bt} {ev ev':List MapEntry} (h:cE μ ev ev'):∀{ks:List Int},vL ev=some ks→ev'.map (·.key)=ks.map (.int .i64):=by
 induction h with
 |nil=>intro ks hk;simp[vL]at hk;subst hk;rfl
 |cons uG _ _ _ ih=>
  intro ks hk;unfold vL at hk;split at hk
  ·rename_i n Wy h1 h2;cases hk;rw[h1]at uG;have:=uG.ax rfl;simp[this,ih h2]
  ·cases hk
theorem Iw {P:Program} {E:Env} {base B:Nat} {ky:List Nat} {g:FuncId} (hS:∀k∈ky,jd P g k) {μ:bt} {h h':ae} {w:World} {args:List Value} {args':Array Value} {v:Value}
 (hc:qo ky args h=some (v,h')) (hr:ay μ args args'.toList) (H:bq E base B μ h w):Calls P g args' w (kp E base B μ h w v h'):=by
 unfold qo at hc;split at hc
 ·rename_i k a c;split at hc
  ·rename_i b ha gg;simp only[aj,Option.bind_eq_some_iff,Option.some.injEq]at hc;obtain⟨hk,mb,WR,ks,jR,gZ⟩:=hc;obtain⟨ba,hg,xk⟩:=vN WR
   -- the arguments in the world
   obtain⟨v1,qJ,e1⟩:∃v1,ar μ (.func (.func k) a c) v1∧args'= #[v1]:=by
    obtain⟨l⟩:=args';cases hr with
    |cons h1 h2=>cases h2;exact⟨_,h1,rfl⟩
   subst e1;cases qJ with
   |lit hh=>simp[az]at hh
   |func qa ha1 kE Tg=>
    rename_i a' c';have ea:a'= #[]:=by
     have h0:a'.size=0:=by rw[←qa];have:=congrArg List.length ha;simpa using this
     exact Array.eq_empty_of_size_eq_zero h0
    subst ea;have lT:c.size=1:=by have:=congrArg List.length gg;simpa using this
    obtain⟨p',ec⟩:∃p',c'= #[p']:=by
     obtain⟨l⟩:=c';rw[lT]at kE
     match l,kE with
     |[x],_=>exact⟨x,rfl⟩
     |[],kE=>simp at kE
     |_::_::_,kE=>simp at kE
    subst ec;have hp:=Tg 0 (.pointer (some ⟨b,0,none⟩)) p' (by rw[←Array.getElem?_toList,gg];rfl) rfl;obtain⟨m,hm,rfl⟩:=hp.iy;have Yz:=H.root b m _ _ hm hg;have fN:h.rd b=some [.map mb]:=eK (cB hg hg) xk (by unfold ae.cellsOf;rw[hg]);obtain⟨cc,e,fr,q1,q2,q3,q4,q5⟩:=H.read hm fN;obtain⟨vm,q6,q7⟩:=q5 0 (.map mb) rfl;rw[Yz]at q6 ⊢;obtain⟨J8,rfl,Iv⟩:∃J8,vm= .map J8∧(J8=none∧ks=[]∨∃(r:Nat) (es:Array MapEntry) (clock:Nat),J8=some r∧w.heap[r]? =some (.map es clock)∧sn es.toList clock∧es.toList.map (·.key)=ks.map (.int .i64)):=by
     cases mb with
     |none=>
      cases q7 with
      |lit _=>exact⟨none,rfl,.inl ⟨rfl,by simpa[jf]using jR.symm⟩⟩
     |some r=>
      obtain⟨mr,w1,rfl⟩:=q7.jn;refine⟨_,rfl,.inr ?_⟩;obtain⟨ev,clock,vo,wJ,bN,gl⟩:=l4 jR;obtain⟨o,o',k1,k2,k3⟩:=H.obj r mr w1;rw[vo]at k1;cases k1;cases k3 with
      |map hs=>
       rename_i bM;refine⟨_,bM,clock,rfl,k2,?_,hs.ints wJ⟩;rw[sn.iff,hs.born,←sn.iff];exact bN
    have gl:k8 ks:=by
     cases mb with
     |none=>simp[jf]at jR;subst jR;exact⟨by simp,by simp,by simp⟩
     |some r=>
      obtain⟨ev,clock,vo,wJ,bN,gl⟩:=l4 jR;exact gl
    have xp:w.cell? ⟨m.r,0,none⟩=some (.map J8):=by
     unfold World.cell?;simp only[q1,Option.isSome_none,Bool.false_eq_true,if_false];simpa using q6
    have:=hS k (kZ hk) w m.r J8 ks xp gl.1 gl.2.1 gl.2.2 Iv;simp only[Nat.add_zero];refine this.mono ?_;rintro en w' ⟨v',t,rfl,gj,sP,hb⟩;have Hx:=H.ext hb.size fun r hr=>hb.block r hr;have gr:Grow base μ w w':=⟨hb.tape,hb.os,hb.output,hb.size,fun r hr _=>hb.block r hr⟩;cases ks with
    |nil=>
     simp only[vM,Prod.mk.injEq]at gZ;obtain⟨rfl,rfl⟩:=gZ;have:=sP.2 rfl;subst this;exact⟨_,μ,rfl,.lit rfl,⟨Hx,gr,μ.le_refl,fun b m h0 h1=>(by rw[h0]at h1;cases h1),fun _ _ _=>rfl,Nat.le_refl _⟩⟩
    |cons x0 l0=>
     generalize Pj:x0::l0=ks at*
     have hlen:0<ks.length:=by rw[←Pj];simp
     have Pk:vM h ks=(.slice (some ⟨h.size,0,some 1⟩) ks.length (ks.length+1),h.push (.cells ((bY ks).map (.int .i64)) h.size h.size 0)):=by rw[←Pj];rfl
     rw[Pk]at gZ;simp only[Prod.mk.injEq]at gZ;obtain⟨rfl,rfl⟩:=gZ;obtain⟨r1,⟨_,r2⟩|⟨gb,cap,cur,rfl,r3,r4,r5,r6,r7,r8⟩⟩:=gj
     ·omega
     ·let cs:=(bY ks).map (Value.int .i64)
      have bV:cs.length=ks.length:=by simp[cs,bY]
      let m2:MT:=⟨gb,0,cur.size⟩
      have Hp:=Hx.Er (o:=.cells cs h.size h.size 0) (fun _ _ _ _ hh=>by cases hh;rfl);have eV:(h.push (.cells cs h.size h.size 0)).get h.size=some (.cells cs h.size h.size 0):=by rw[ae.au,if_pos rfl]
      have ho:il (jH μ h.size m2) (h.push (.cells cs h.size h.size 0)) base h.size m2 (.cells cs h.size h.size 0) (.cells cur t (0,0)):=by
       refine .cells rfl (by show 0+cs.length≤cur.size;omega) (fun _=>Nw _) fun _ i v hv=>?_;have hi:=(List.getElem?_eq_some_iff.1 hv).1;have:cur.toList[i]? =some v:=by
        have h5:(cur.toList.take (ks.length*1))[i]? =some v:=by rw[r8];exact hv
        rw[List.getElem?_take]at h5
        rwa [if_pos om]at h5
       refine⟨v,by show cur[0+i]? =some v;rw[Nat.zero_add];simpa using this,?_⟩;obtain⟨n,_,rfl⟩:=List.mem_map.1 (List.mem_of_getElem? hv);exact .int _ _ _
      have Ht:=Hp.AK (b:=h.size) (m:=m2) (by simp[ae.size_push]) eV H.fresh H.lK (by have:=H.low;show B≤gb;omega) r4
       (fun d md hd he=>by have:=H.lt hd;simp only[m2]at he;omega) (fun _ _ _ _ hh=>by cases hh;exact⟨rfl,Nat.le_refl _⟩) (fun _ _ _=>rfl) ho
      refine⟨_,jH μ h.size m2,rfl,?_,Ht,gr,fF H.fresh,fun d md h0 hd=>?_,fun d hd _=>by rw[ae.au,if_neg om],by simp[ae.size_push]⟩
      ·have:=ar.slice (μ:=jH μ h.size m2) (b:=h.size) (o:=0) (z:=1) (len:=ks.length) (cap:=ks.length+1) (cap':=cap) (m:=m2) (bx _ _ _) om r5 (fun h=>by omega) (by show 0+0+cap*1≤cur.size;omega);simpa[m2]using this
      ·by_cases ed:d=h.size
       ·subst ed;rw[bx]at hd;cases hd;exact⟨Nat.le_refl _,H.lK,.inl r3⟩
       ·rw[mq _ _ ed,h0]at hd;cases hd
  ·cases hc
 ·cases hc
def LR (l:List Nat) (gs:List (Nat×List Nat)):FuncId→List Value→ae→Option (Value×ae):=fun g args h=>match iN g l with
 |true=>(match args with|[]=>some (.bool true,h)|_=>none)
 |false=>match look gs g with
  |some ky=>qo ky args h
  |none=>none
theorem J9 {P:Program} {l:List Nat} {gs:List (Nat×List Nat)} (hl:∀g∈l,Fl P g) (hs:∀g ky,look gs g=some ky→∀k∈ky,jd P g k) (base B:Nat):gL P (ew P (LR l gs)) base B:=by
 intro μ h w g args args' v h' hc hr H F n hF;have kX:LR l gs g args h=some (v,h'):=hc;unfold LR at kX;split at kX
 ·rename_i hg;split at kX
  ·exact Te hl base B μ h w g [] args' v h' (by show Pg l g [] h=_;unfold Pg;rw[hg];exact kX) hr ⟨H.gh,H.high,H.obj,H.own,H.alias,H.dJ,H.de,H.low,H.lK,H.wf,H.root⟩ F n hF |>.mono fun e w' ⟨v',a6,h1,h2,h3⟩=>
    ⟨v',a6,h1,h2,⟨h3.rel.gh,h3.rel.high,h3.rel.obj,h3.rel.own,h3.rel.alias,h3.rel.dJ,h3.rel.de,h3.rel.low,h3.rel.lK,h3.rel.wf,h3.rel.root⟩,h3.grow,h3.le,h3.new,h3.Hf,h3.fO⟩
  ·cases kX
 ·split at kX
  ·rename_i ky hi;exact uP hF (Iw (hs g ky hi) kX hr H)
  ·cases kX
section
variable {E:Env}
theorem Fm {ev:List MapEntry}:∀{ks:List Int},ev.map (·.key)=ks.map (.int .i64)→vL ev=some ks:=by
 induction ev with
 |nil=>intro ks h;cases ks with
  |nil=>rfl
  |cons _ _=>simp at h
 |cons e l ih=>intro ks h;cases ks with
  |nil=>simp at h
  |cons n ks=>
   simp only[List.map_cons,List.cons.injEq]at h;unfold vL;rw[h.1,ih h.2]
theorem ia (ks:List Int):(bY ks).length=ks.length:=by simp[bY]
def Fo (ks:List Int):TO→Prop
 | .map _ es=>es.map (·.1)=ks.map (.int .i64)
 | .fC _ es op=>op=[]∧es.map (·.1)=ks.map (.int .i64)
 |_=>False
theorem OR.keys {c:Nat} {ρ:Gh} {F:Nat→Prop} {h:ae} {base n:Nat} {S:Ft} {y:TO} {ks:List Int} (H:OR c ρ F h base n S y) (hk:Fo ks y):∃b ev clock,ρ n=some (.di b)∧h.get b=some (.map ev clock)∧sn ev clock∧ev.map (·.key)=ks.map (.int .i64):=by
 cases H with
 |map hb hg hl hc bN=>
  rename_i kd es b clock ev;refine⟨_,_,_,hb,hg,bN,?_⟩;rw[←show es.map (·.1)=ks.map (.int .i64)from hk];refine List.ext_getElem? fun i=>?_;rw[List.getElem?_map,List.getElem?_map];cases he:es[i]? with
  |none=>
   have:es.length≤i:=by simpa using he
   rw[List.getElem?_eq_none om];rfl
  |some e=>
   have hi:=(List.getElem?_eq_some_iff.1 he).1;obtain⟨q1,_⟩:=hc i e ev[i] he (List.getElem?_eq_getElem om);rw[List.getElem?_eq_getElem om];simp[q1]
 |fC hb hg bV hc bN=>
  obtain⟨rfl,hk⟩:=hk;refine⟨_,_,_,hb,hg,bN,?_⟩;rw[←hk];have key:∀{S:Ft} {kd:Nat} {l:List (Value×TV)} {m:List MapEntry},iC c ρ F h base kd S l m→m.map (·.key)=l.map (·.1):=by
   intro S kd l m hE
   induction hE with
   |nil=>rfl
   |cons h1 _ _ _ _ ih=>simp[h1,ih]
  exact key hc
 |_=>exact hk.elim
theorem VC.Ka {g:FuncId} {ky:List Nat} {k:FuncId} (hf:(E.func g).isSome=true) (ho:∀b a,E.qD b g a=fun h=>qo ky a h) (hk:iN k ky=true) {y:TO} {ks:List Int} (hy:Fo ks y) (gl:k8 ks):
 VC E g 2 [.cW k [] [.ptr 1 0]] [(0,y),(1,.cells [.mp 0])] fun r o c=>r= .tk 2∧c=3∧
  o=[(2,.arr 1 true ((bY ks).map fun n=>[.s (.int .i64 n)])),(0,y),(1,.cells [.mp 0])]:=by
 intro base ρ F h S b7 hN hM hO hA;obtain⟨fn,hf⟩:=Option.isSome_iff_exists.1 hf;obtain⟨v1,m1,rfl,h1,h2⟩:=hA.aL;obtain rfl:=h2.bC;obtain⟨_,hm⟩:=hM.b9 (m:=0) rfl;obtain⟨_,hb⟩:=hM.b9 (m:=1) rfl;obtain⟨b0,ev,clock,vh,Zz,bN,jR⟩:=hm.keys hy;cases hb with
 |cells ny xj ht1 lT=>
  rename_i b1 ba cs';have lT:=(lT.US (fun t v hv hf=>hv.dp hf) rfl).1;obtain⟨x1,l1,rfl,y1,y2⟩:=lT.aL;obtain rfl:=y2.bC;cases y1 with
  |mp hbm=>
   rw[vh]at hbm;cases hbm;cases h1 with
   |cW qa ha1 kE Tg=>
    rename_i a kk;have ea:a= #[]:=Array.eq_empty_of_size_eq_zero (by simpa using qa.symm);subst ea;obtain⟨p',ec⟩:∃p',kk= #[p']:=by
     obtain⟨l⟩:=kk
     match l,kE with
     |[x],_=>exact⟨x,rfl⟩
     |[],kE=>simp at kE
     |_::_::_,kE=>simp at kE
    subst ec;have hp:=Tg 0 (.ptr 1 0) p' rfl rfl;cases hp with
    |ptr oY=>
     rw[ny]at oY;cases oY;have Ar:E.qD base g [.func (.func k) #[] #[.pointer (some ⟨b1,0,none⟩)]] h=some (vM h ks):=by
      rw[congrFun (ho _ _) _];show bI (iN k ky) ((je h b1).bind fun mb=>(jf h mb).bind fun ks=>some (vM h ks))=_;have hbx:je h b1=some (some b0):=by
       unfold je;rw[xj];simp[bI,Nat.ble_eq_true_of_le ht1]
      rw[hk,hbx];simp only[bI,Option.bind_some,jf,Zz,Fm jR,bN,gl,decide_true,Bool.and_self]
     have sJ:∀r,E.qD base g [.func (.func k) #[] #[.pointer (some ⟨b1,0,none⟩)]] h=some r→g9 E base 0 g [.func (.func k) #[] #[.pointer (some ⟨b1,0,none⟩)]] h=some r:=by
      intro r hr;unfold g9 fE;rw[hf];simp only[Option.bind_some,hr]
     cases pj:ks with
     |nil=>
      subst pj;obtain⟨M,O2⟩:=hM.Wm (z:=1) om;have e0:bY []=[]:=by simp[bY]
      refine⟨0,_,_,_,F,.tk 2,_,3,sJ _ Ar,⟨rfl,rfl,rfl⟩,by rw[e0];exact M,?_⟩;exact .tk om rfl (fun b z len hx=>by rw[aM]at hx;cases hx) (fun z _=>.inl rfl)
     |cons e0 l0=>
      rw[←pj];have hlen:0<ks.length:=by rw[pj];simp
      have gZ:vM h ks=(.slice (some ⟨h.size,0,some 1⟩) ks.length (ks.length+1),h.push (.cells ((bY ks).map (.int .i64)) h.size h.size 0)):=by
       rw[pj];simp[vM]
      rw[gZ]at Ar;have hER:ER 2 ρ F h 1 ((bY ks).map fun n=>[.s (.int .i64 n)]) ((bY ks).map (Value.int .i64)):=by
       refine⟨by simp,by simp,by simp[fz,xK],fun i j e t v q1 q2 q3=>?_⟩;rw[List.getElem?_map]at q1;obtain⟨n,hn,rfl⟩:=Option.map_eq_some_iff.1 q1;have:j=0:=by
        have:=(List.getElem?_eq_some_iff.1 q2).1;simpa using this
       subst this;simp at q2;subst q2;rw[Nat.mul_one,Nat.add_zero,List.getElem?_map,hn]at q3;simp at q3;subst q3;exact .s rfl
      obtain⟨M,O2⟩:=hM.xS hER om;refine⟨0,_,_,_,F,.tk 2,_,3,sJ _ Ar,⟨rfl,rfl,rfl⟩,M,?_⟩;refine .tk om rfl (fun b z len hx=>?_) (fun z hx=>by rw[aM]at hx;cases hx);rw[aM]at hx;cases hx;exact⟨ks.length+1,by simp[ia],by simp[ia]⟩
theorem VC.sorted {g:FuncId} {ky:List Nat} {k:FuncId} (hf:(E.func g).isSome=true) (ho:∀b a,E.qD b g a=fun h=>qo ky a h) (hk:iN k ky=true) {kd:Nat} {es:List (Int×TV)} (gl:k8 (es.map (·.1))):
 VC E g 2 [.cW k [] [.ptr 1 0]] [(0,.map kd (es.map fun p=>(.int .i64 p.1,p.2))),(1,.cells [.mp 0])] fun r o c=>r= .tk 2∧c=3∧
  o=[(2,.arr 1 true ((bY (es.map (·.1))).map fun n=>[.s (.int .i64 n)])),(0,.map kd (es.map fun p=>(.int .i64 p.1,p.2))),(1,.cells [.mp 0])]:=
 VC.Ka hf ho hk (by simp[Fo,Function.comp_def]) gl
theorem VC.LS {g:FuncId} {ky:List Nat} {k:FuncId} (hf:(E.func g).isSome=true) (ho:∀b a,E.qD b g a=fun h=>qo ky a h) (hk:iN k ky=true):
 VC E g 1 [.cW k [] [.ptr 0 0]] [(0,.cells [.s (.map none)])] fun r o c=>r= .sl 0 [] true∧c=1∧o=[(0,.cells [.s (.map none)])]:=by
 intro base ρ F h S b7 hN hM hO hA;obtain⟨fn,hf⟩:=Option.isSome_iff_exists.1 hf;obtain⟨v1,m1,rfl,h1,h2⟩:=hA.aL;obtain rfl:=h2.bC;obtain⟨_,hb⟩:=hM.b9 (m:=0) rfl;cases hb with
 |cells ny xj ht1 lT=>
  rename_i b1 ba cs';have lT:=(lT.US (fun t v hv hf=>hv.dp hf) rfl).1;obtain⟨x1,l1,rfl,y1,y2⟩:=lT.aL;obtain rfl:=y2.bC;obtain rfl:=y1.dn.1;cases h1 with
  |cW qa ha1 kE Tg=>
   rename_i a kk;have ea:a= #[]:=Array.eq_empty_of_size_eq_zero (by simpa using qa.symm);subst ea;obtain⟨p',ec⟩:∃p',kk= #[p']:=by
    obtain⟨l⟩:=kk
    match l,kE with
    |[x],_=>exact⟨x,rfl⟩
    |[],kE=>simp at kE
    |_::_::_,kE=>simp at kE
   subst ec;have hp:=Tg 0 (.ptr 0 0) p' rfl rfl;cases hp with
   |ptr oY=>
    rw[ny]at oY;cases oY;have Ar:E.qD base g [.func (.func k) #[] #[.pointer (some ⟨b1,0,none⟩)]] h=some (.slice none 0 0,h):=by
     rw[congrFun (ho _ _) _];show bI (iN k ky) ((je h b1).bind fun mb=>(jf h mb).bind fun ks=>some (vM h ks))=_;have hbx:je h b1=some none:=by
      unfold je;rw[xj];simp[bI,Nat.ble_eq_true_of_le ht1]
     rw[hk,hbx];rfl
    refine⟨0,.slice none 0 0,h,ρ,F,.sl 0 [] true,_,1,?_,⟨rfl,rfl,rfl⟩,hM,.nil rfl⟩;unfold g9 fE;rw[hf];simp only[Option.bind_some,Ar]
end
end Go.M
namespace Go.M
open Go
theorem cd {b:Bool} {A B:Prop} (hA:b=true→A) (hB:b=false→B):(match(generalizing:=false) b with|true=>A|false=>B):=by
 cases b with
 |true=>exact hA rfl
 |false=>exact hB rfl
theorem cg {b:Bool} {A B:Prop} (hA:b=false→A) (hB:b=true→B):(match(generalizing:=false) !b with|true=>A|false=>B):=by
 cases b with
 |true=>exact hB rfl
 |false=>exact hA rfl
@[reducible] def RR (r0:TV) (c0:Nat) (o0:Ob):TV→Ob→Nat→Prop:=fun r o c=>r=r0∧c=c0∧o=o0
theorem an {a b:Bool} (h:a=b):Value.bool a=Value.bool b:=congrArg _ h
theorem jg {α:Type} {enc:α→List TV} {l:List α} {n:Nat} {K:List TV→Prop} (h:n<l.length) (hK:K (enc l[n])):∃e,(0≤(n:Int)∧(l.map enc)[(n:Int).toNat]? =some e)∧K e:=
 ⟨enc l[n],⟨om,by simp[h]⟩,hK⟩
theorem Va {α:Type} {enc:α→List TV} {l:List α} {n:Int} {K:List TV→Prop} (h0:0≤n) (h:n.toNat<l.length) (hK:K (enc l[n.toNat])):∃e,(0≤n∧(l.map enc)[n.toNat]? =some e)∧K e:=
 ⟨enc l[n.toNat],⟨h0,by simp[h]⟩,hK⟩
theorem wrap_small (n:Nat) (h:n≤1099511627776):IntKind.i64.wrap ((n:Int)+1)=((n+1:Nat):Int):=by
 rw[IntWalk.i64_in _ om];rfl
theorem fW {α:Type} {f:α→List TV} {l:List α} {i:Nat}:((i:Int)<(((l.map f).length:Nat):Int))↔i<l.length:=by simp
theorem flx:∀b:Bool,(!b||b)=true
 |true=>rfl
 |false=>rfl
theorem Lz.int {k:IntKind} {a b:Int} (h:a=b):Lz (Value.int k a) (Value.int k b):=.of (congrArg _ h)
theorem Lz.wrap {n:Nat} (h:n≤1099511627776):Lz (Value.int .i64 (IntKind.i64.wrap ((n:Int)+1))) (Value.int .i64 ((n+1:Nat):Int)):=.of (congrArg _ (wrap_small n h))
def WS:List Nat:=[0,1,2,3,4,5,6,7,8,9,10,11,12,13,14,15,16,17,18,19,20,21,22,23,24,25,26,27,28,29,30,31,32,33,34,35,36,37,38,39,40]
def Dh (n:Nat) (K:Nat→Prop) (l:List Nat):Prop:=@List.rec Nat (fun _=>Prop) (K n) (fun k _ ih=>match Nat.beq n k with|true=>K k|false=>ih) l
theorem yH (n:Nat) (K:Nat→Prop):∀l,Dh n K l=K n
 |[]=>rfl
 |k::l=>by
  show(match Nat.beq n k with|true=>K k|false=>Dh n K l)=K n;cases h:Nat.beq n k with
  |true=>rw[beq_iff.1 h]
  |false=>exact yH n K l
def bd (n:Nat) (K:Nat→Prop):Prop:=Dh n K WS
theorem da (n:Nat):bd n=fun K=>K n:=by funext K;exact yH n K _
def jZ (v:TV) (K:TV→Prop):Prop:=match v with
 | .j=>K .j
 | .s v=>K (.s v)
 | .sl z es fl=>bd z fun z=>K (.sl z es fl)
 | .tk n=>bd n fun n=>K (.tk n)
 | .ptr n o=>bd n fun n=>bd o fun o=>K (.ptr n o)
 | .ep e o=>bd o fun o=>K (.ep e o)
 | .wp n i o=>bd n fun n=>bd o fun o=>K (.wp n i o)
 | .mp n=>bd n fun n=>K (.mp n)
 | .bg n len=>bd n fun n=>K (.bg n len)
 | .sv n i=>bd n fun n=>K (.sv n i)
 | .pv n k=>bd n fun n=>K (.pv n k)
 | .agg cs=>K (.agg cs)
 | .c4 cs=>K (.c4 cs)
 | .nz t v=>K (.nz t v)
 | .cW g a c=>K (.cW g a c)
 | .own y=>K (.own y)
theorem nb (v:TV):jZ v=fun K=>K v:=by funext K;cases v<;>simp[jZ,da]
def g0 (F:TV→(TV→Prop)→Prop) (l:List TV):(List TV→Prop)→Prop:=@List.rec TV (fun _=>(List TV→Prop)→Prop) (fun K=>K []) (fun v _ ih K=>F v fun v=>ih fun l=>K (v::l)) l
theorem ib {F:TV→(TV→Prop)→Prop} (hF:∀v,F v=fun K=>K v):∀l,g0 F l=fun K=>K l
 |[]=>rfl
 |v::l=>by
  have ih:=ib hF l
  funext K
  show F v (fun v=>g0 F l fun l=>K (v::l))=K (v::l);rw[hF,ih]
def pt (v:TV) (K:TV→Prop):Prop:=match v with
 | .j=>K .j
 | .s v=>K (.s v)
 | .sl z es fl=>bd z fun z=>K (.sl z es fl)
 | .tk n=>bd n fun n=>K (.tk n)
 | .ptr n o=>bd n fun n=>bd o fun o=>K (.ptr n o)
 | .ep e o=>bd o fun o=>K (.ep e o)
 | .wp n i o=>bd n fun n=>bd o fun o=>K (.wp n i o)
 | .mp n=>bd n fun n=>K (.mp n)
 | .bg n len=>bd n fun n=>K (.bg n len)
 | .sv n i=>bd n fun n=>K (.sv n i)
 | .pv n k=>bd n fun n=>K (.pv n k)
 | .agg cs=>g0 jZ cs fun cs=>K (.agg cs)
 | .c4 cs=>K (.c4 cs)
 | .nz t v=>K (.nz t v)
 | .cW g a c=>g0 jZ a fun a=>g0 jZ c fun c=>K (.cW g a c)
 | .own y=>K (.own y)
theorem qq (v:TV):pt v=fun K=>K v:=by funext K;cases v<;>simp[pt,da,ib nb]
def k9 (v:TV) (K:TV→Prop):Prop:=match v with
 | .j=>K .j
 | .s v=>K (.s v)
 | .sl z es fl=>bd z fun z=>K (.sl z es fl)
 | .tk n=>bd n fun n=>K (.tk n)
 | .ptr n o=>bd n fun n=>bd o fun o=>K (.ptr n o)
 | .ep e o=>bd o fun o=>K (.ep e o)
 | .wp n i o=>bd n fun n=>bd o fun o=>K (.wp n i o)
 | .mp n=>bd n fun n=>K (.mp n)
 | .bg n len=>bd n fun n=>K (.bg n len)
 | .sv n i=>bd n fun n=>K (.sv n i)
 | .pv n k=>bd n fun n=>K (.pv n k)
 | .agg cs=>g0 jZ cs fun cs=>K (.agg cs)
 | .c4 cs=>g0 pt cs fun cs=>K (.c4 cs)
 | .nz t v=>pt v fun v=>K (.nz t v)
 | .cW g a c=>g0 jZ a fun a=>g0 jZ c fun c=>K (.cW g a c)
 | .own y=>K (.own y)
theorem LU (v:TV):k9 v=fun K=>K v:=by funext K;cases v<;>simp[k9,da,ib nb,ib qq,qq]
def Ix (q:List (Nat×List TV)):(List (Nat×List TV)→Prop)→Prop:=@List.rec (Nat×List TV) (fun _=>(List (Nat×List TV)→Prop)→Prop) (fun K=>K []) (fun p _ ih K=>g0 jZ p.2 fun x=>ih fun l=>K ((p.1,x)::l)) q
theorem Bn:∀q,Ix q=fun K=>K q
 |[]=>rfl
 |p::q=>by
  have ih:=Bn q
  funext K
  show g0 jZ p.2 (fun x=>Ix q fun l=>K ((p.1,x)::l))=K (p::q);rw[ib nb,ih]
def Di (q:List (Value×TV)):(List (Value×TV)→Prop)→Prop:=@List.rec (Value×TV) (fun _=>(List (Value×TV)→Prop)→Prop) (fun K=>K []) (fun p _ ih K=>pt p.2 fun x=>ih fun l=>K ((p.1,x)::l)) q
theorem uQ:∀q,Di q=fun K=>K q
 |[]=>rfl
 |p::q=>by
  have ih:=uQ q
  funext K
  show pt p.2 (fun x=>Di q fun l=>K ((p.1,x)::l))=K (p::q);rw[qq,ih]
def py (x:TO) (K:TO→Prop):Prop:=match x with
 | .cells cs=>g0 jZ cs fun cs=>K (.cells cs)
 | .map kd es=>bd kd fun kd=>K (.map kd es)
 | .arr z w es=>bd z fun z=>match w with|true=>K (.arr z true es)|false=>K (.arr z false es)
 | .b6 z es op=>bd z fun z=>Ix op fun op=>K (.b6 z es op)
 | .fC kd es op=>bd kd fun kd=>Di op fun op=>K (.fC kd es op)
 | .eE ks=>K (.eE ks)
theorem LV (x:TO):py x=fun K=>K x:=by
 funext K
 cases x with
 |cells cs=>simp[py,ib nb]
 |map kd es=>simp[py,da]
 |arr z w es=>cases w<;>simp[py,da]
 |b6 z es op=>simp[py,da,Bn]
 |fC kd es op=>simp[py,da,uQ]
 |eE ks=>rfl
def og (o:Ob):(Ob→Prop)→Prop:=@List.rec (Nat×TO) (fun _=>(Ob→Prop)→Prop) (fun K=>K []) (fun p _ ih K=>bd p.1 fun n=>py p.2 fun x=>ih fun l=>K ((n,x)::l)) o
theorem uR:∀o,og o=fun K=>K o
 |[]=>rfl
 |p::o=>by
  have ih:=uR o
  funext K
  show bd p.1 (fun n=>py p.2 fun x=>og o fun l=>K ((n,x)::l))=K (p::o);rw[da,LV,ih]
def Dj (q:List (Nat×List TV)):(List (Nat×List TV)→Prop)→Prop:=@List.rec (Nat×List TV) (fun _=>(List (Nat×List TV)→Prop)→Prop) (fun K=>K []) (fun p _ ih K=>bd p.1 fun k=>g0 pt p.2 fun x=>ih fun l=>K ((k,x)::l)) q
theorem yI:∀q,Dj q=fun K=>K q
 |[]=>rfl
 |p::q=>by
  have ih:=yI q
  funext K
  show bd p.1 (fun k=>g0 pt p.2 fun x=>Dj q fun l=>K ((k,x)::l))=K (p::q);rw[da,ib qq,ih]
def l5 (x:TO) (K:TO→Prop):Prop:=match x with
 | .cells cs=>g0 jZ cs fun cs=>K (.cells cs)
 | .map kd es=>bd kd fun kd=>K (.map kd es)
 | .arr z w es=>bd z fun z=>match w with|true=>K (.arr z true es)|false=>K (.arr z false es)
 | .b6 z es op=>bd z fun z=>Dj op fun op=>K (.b6 z es op)
 | .fC kd es op=>bd kd fun kd=>Di op fun op=>K (.fC kd es op)
 | .eE ks=>K (.eE ks)
theorem Iy (x:TO):l5 x=fun K=>K x:=by
 funext K
 cases x with
 |cells cs=>simp[l5,ib nb]
 |map kd es=>simp[l5,da]
 |arr z w es=>cases w<;>simp[l5,da]
 |b6 z es op=>simp[l5,da,yI]
 |fC kd es op=>simp[l5,da,uQ]
 |eE ks=>rfl
def Pl (o:Ob):(Ob→Prop)→Prop:=@List.rec (Nat×TO) (fun _=>(Ob→Prop)→Prop) (fun K=>K []) (fun p l _ K=>bd p.1 fun n=>l5 p.2 fun x=>og l fun l=>K ((n,x)::l)) o
theorem LW:∀o,Pl o=fun K=>K o
 |[]=>rfl
 |p::o=>by
  funext K
  show bd p.1 (fun n=>l5 p.2 fun x=>og o fun l=>K ((n,x)::l))=K (p::o);rw[da,Iy,uR]
def strict (l:VL) (v:TV) (o:Ob) (c:Nat) (K:TV→Ob→Nat→Prop):Prop:=match l with
 | .pure=>k9 v fun v=>K v o c
 | .alloc=>k9 v fun v=>Pl o fun o=>bd c fun c=>K v o c
 | .JE=>k9 v fun v=>K v o c
 | .lM _=>k9 v fun v=>og o fun o=>bd c fun c=>K v o c
 | .Ag _ _ _=>k9 v fun v=>og o fun o=>bd c fun c=>K v o c
 | .dr _=>k9 v fun v=>og o fun o=>bd c fun c=>K v o c
 | .oJ _=>k9 v fun v=>og o fun o=>bd c fun c=>K v o c
 | .oK=>k9 v fun v=>og o fun o=>bd c fun c=>K v o c
 | .bad=>k9 v fun v=>K v o c
theorem Bo (l:VL) (v:TV) (o:Ob) (c:Nat):strict l v o c=fun K=>K v o c:=by
 funext K;cases l<;>simp[strict,LU,uR,LW,da]
def yJ (E:Env) (vc:Nh) (n:Nat) (ops:List Oper) (l:List Oper):Fr→Ob→Nat→RK→Prop:=
 @List.rec Oper (fun _=>Fr→Ob→Nat→RK→Prop) (fun f o c K=>K f o c)
  (fun p _ ih f o c K=>pg ops p f
   (UR E vc p.op f o c fun v o' c' l=>strict l v o' c' fun v o' c'=>sS p.dst n v f fun f'=>ih f' o' c' K)
   (sS p.dst n (.c4 []) f fun f'=>ih f' o c K)) l
theorem Pm (E:Env) (vc:Nh) (n:Nat) (ops:List Oper):∀(l:List Oper) f o c K,yJ E vc n ops l f o c K=EC E vc n ops l f o c K:=by
 intro l
 induction l with
 |nil=>intro f o c K;rfl
 |cons p rest ih=>
  intro f o c K;have e:(fun f' o' c' (K:RK)=>yJ E vc n ops rest f' o' c' K)=fun f' o' c' K=>EC E vc n ops rest f' o' c' K:=by funext a b d e;exact ih a b d e
  show pg ops p f (UR E vc p.op f o c fun v o' c' l=>strict l v o' c' fun v o' c'=>sS p.dst n v f fun f'=>(fun f' o' c' (K:RK)=>yJ E vc n ops rest f' o' c' K) f' o' c' K) (sS p.dst n (.c4 []) f fun f'=>(fun f' o' c' (K:RK)=>yJ E vc n ops rest f' o' c' K) f' o c K)=_;rw[e];simp only[Bo];rfl
def r9 (E:Env) (vc:Nh) (n:Nat) (ops:List Oper) (l:List Oper):Fr→Ob→Nat→List VN→(List VN→RK)→Prop:=
 @List.rec Oper (fun _=>Fr→Ob→Nat→List VN→(List VN→RK)→Prop) (fun f o c lg K=>K lg f o c)
  (fun p _ ih f o c lg K=>pg ops p f
   (UR E vc p.op f o c fun v o' c' l=>strict l v o' c' fun v o' c'=>sS p.dst n v f fun f'=>ih f' o' c' (lg++[(l,o)]) K)
   (sS p.dst n (.c4 []) f fun f'=>ih f' o c (lg++[(.pure,o)]) K)) l
theorem LX (E:Env) (vc:Nh) (n:Nat) (ops:List Oper):∀(l:List Oper) f o c lg K,r9 E vc n ops l f o c lg K=sU E vc n ops l f o c lg K:=by
 intro l
 induction l with
 |nil=>intro f o c lg K;rfl
 |cons p rest ih=>
  intro f o c lg K;have e:(fun f' o' c' lg (K:List VN→RK)=>r9 E vc n ops rest f' o' c' lg K)=fun f' o' c' lg K=>sU E vc n ops rest f' o' c' lg K:=by funext a b d g e;exact ih a b d g e
  show pg ops p f (UR E vc p.op f o c fun v o' c' l=>strict l v o' c' fun v o' c'=>sS p.dst n v f fun f'=>(fun f' o' c' lg (K:List VN→RK)=>r9 E vc n ops rest f' o' c' lg K) f' o' c' (lg++[(l,o)]) K) (sS p.dst n (.c4 []) f fun f'=>(fun f' o' c' lg (K:List VN→RK)=>r9 E vc n ops rest f' o' c' lg K) f' o c (lg++[(.pure,o)]) K)=_;rw[e];simp only[Bo];rfl
structure Bp (b:Bool) (K:Prop):Prop where
 ok:b=true
 go:K
theorem Pn (b:Bool) (K:Prop):Bp b K=(match(generalizing:=false) b with|true=>K|false=>False):=by
 cases b with
 |true=>exact propext ⟨fun h=>h.go,fun h=>⟨rfl,h⟩⟩
 |false=>exact propext (Iff.intro (fun h=>by cases h.ok) (fun h=>False.elim h))
abbrev WP:=Fr→Ob→Nat→CK→Prop
def D4 (E:Env) (vc:Nh) (n c0:Nat) (du:List Nat) (code:Code):WP:=
 @Code.rec (fun _=>WP)
  (fun f o c Q=>Q .normal f o c)
  (fun _ ops draw f o c Q=>(match draw with
  |false=>yJ E vc n ops.toList ops.toList f o c fun f' o' c'=>Q .normal f' o' c'
  |true=>Bp (mP ops.toList&&jV n ops.toList) (r9 E vc n ops.toList ops.toList f o c [] fun lg f' o' c'=>Bp (fG (df ops.toList []) o' 0 lg) (Q .normal f' o' c'))))
  (fun _ _ iha ihb f o c Q=>iha f o c fun ex f' o' c'=>(match ex with
  | .normal=>ihb f' o' c' Q
  | .exit id=>Q (.exit id) f' o' c'
  | .ret=>Q .ret f' o' c'))
  (fun q _ _ iht ihe f o c Q=>(match rT E q with
  |false=>False
  |true=>(match mz E f q with
   | .s (.bool b)=>(match b with
    |true=>iht f o c Q
    |false=>ihe f o c Q)
   |_=>False)))
  (fun id _ ih f o c Q=>(match iN id du with
  |false=>ih f o c fun ex f' o' c'=>(match ex with
   | .exit ow=>(match Nat.beq ow id with
    |true=>Q .normal f' o' c'
    |false=>Q (.exit ow) f' o' c')
   | .normal=>Q .normal f' o' c'
   | .ret=>Q .ret f' o' c')
  |true=>∃Ni:RK,(ih f o c fun ex f' o' c'=>(match ex with
   | .exit ow=>(match Nat.beq ow id with
    |true=>iX c0 f' o' c' Ni
    |false=>Q (.exit ow) f' o' c')
   | .normal=>iX c0 f' o' c' Ni
   | .ret=>Q .ret f' o' c'))∧∀f' o' c',Ni f' o' c'→Q .normal f' o' c'))
  (fun _ ih f o c Q=>(match iN 999999 du with
  |false=>∃Inv:Nat→Fr→Ob→Nat→Prop,(∃k,iX c0 f o c (Inv k))∧
   ∀k f1 o1 c1,Inv k f1 o1 c1→ih f1 o1 c1 fun ex f' o' c'=>(match ex with
    | .normal=>∃k',iX c0 f' o' c' (Inv k')∧k'<k
    | .exit id=>Q (.exit id) f' o' c'
    | .ret=>Q .ret f' o' c')
  |true=>AQ (fun f o c Q=>ih f o c Q) 64 f o c Q))
  (fun _ _ _ _ _ _ _ _ _ _=>False)
  (fun id f o c Q=>Q (.exit id) f o c)
  (fun _ _ _ _ _ _=>False)
  (fun _ _ _ _ _=>False)
  (fun _ _ _ _ _=>False)
  (fun f o c Q=>Q .ret f o c)
  (fun _ _ _ _ _=>False) code
theorem Po (E:Env) (vc:Nh) (n c0:Nat) (du:List Nat):∀(code:Code) f o c Q,D4 E vc n c0 du code f o c Q=wp E vc n c0 du code f o c Q:=by
 intro code
 induction code with
 |region id ops draw=>
  intro f o c Q;have e1:(fun K=>yJ E vc n ops.toList ops.toList f o c K)=fun K=>EC E vc n ops.toList ops.toList f o c K:=by funext K;exact Pm ..
  have e2:(fun lg K=>r9 E vc n ops.toList ops.toList f o c lg K)=fun lg K=>sU E vc n ops.toList ops.toList f o c lg K:=by funext lg K;exact LX ..
  show(match draw with
  |false=>(fun K=>yJ E vc n ops.toList ops.toList f o c K) fun f' o' c'=>Q .normal f' o' c'
  |true=>Bp (mP ops.toList&&jV n ops.toList) ((fun lg K=>r9 E vc n ops.toList ops.toList f o c lg K) [] fun lg f' o' c'=>Bp (fG (df ops.toList []) o' 0 lg) (Q .normal f' o' c')))=_
  rw[e1,e2];simp only[Pn];cases draw<;>rfl
 |seq a b iha ihb=>
  intro f o c Q;have e1:(fun f o c Q=>D4 E vc n c0 du a f o c Q)=fun f o c Q=>wp E vc n c0 du a f o c Q:=by funext f o c Q;exact iha ..
  have e2:(fun f o c Q=>D4 E vc n c0 du b f o c Q)=fun f o c Q=>wp E vc n c0 du b f o c Q:=by funext f o c Q;exact ihb ..
  show((fun f o c Q=>D4 E vc n c0 du a f o c Q) f o c fun ex f' o' c'=>(match ex with
  | .normal=>(fun f o c Q=>D4 E vc n c0 du b f o c Q) f' o' c' Q
  | .exit id=>Q (.exit id) f' o' c'
  | .ret=>Q .ret f' o' c'))=_
  rw[e1,e2];rfl
 |cond q t e iht ihe=>
  intro f o c Q;have e1:(fun f o c Q=>D4 E vc n c0 du t f o c Q)=fun f o c Q=>wp E vc n c0 du t f o c Q:=by funext f o c Q;exact iht ..
  have e2:(fun f o c Q=>D4 E vc n c0 du e f o c Q)=fun f o c Q=>wp E vc n c0 du e f o c Q:=by funext f o c Q;exact ihe ..
  show(match rT E q with
  |false=>False
  |true=>(match mz E f q with
   | .s (.bool b)=>(match b with
    |true=>(fun f o c Q=>D4 E vc n c0 du t f o c Q) f o c Q
    |false=>(fun f o c Q=>D4 E vc n c0 du e f o c Q) f o c Q)
   |_=>False))=_
  rw[e1,e2];rfl
 |block id b ih=>
  intro f o c Q;have e1:(fun f o c Q=>D4 E vc n c0 du b f o c Q)=fun f o c Q=>wp E vc n c0 du b f o c Q:=by funext f o c Q;exact ih ..
  show(match iN id du with
  |false=>(fun f o c Q=>D4 E vc n c0 du b f o c Q) f o c fun ex f' o' c'=>(match ex with
   | .exit ow=>(match Nat.beq ow id with
    |true=>Q .normal f' o' c'
    |false=>Q (.exit ow) f' o' c')
   | .normal=>Q .normal f' o' c'
   | .ret=>Q .ret f' o' c')
  |true=>∃Ni:RK,((fun f o c Q=>D4 E vc n c0 du b f o c Q) f o c fun ex f' o' c'=>(match ex with
   | .exit ow=>(match Nat.beq ow id with
    |true=>iX c0 f' o' c' Ni
    |false=>Q (.exit ow) f' o' c')
   | .normal=>iX c0 f' o' c' Ni
   | .ret=>Q .ret f' o' c'))∧∀f' o' c',Ni f' o' c'→Q .normal f' o' c')=_
  rw[e1];rfl
 |loop b ih=>
  intro f o c Q;have e1:(fun f o c Q=>D4 E vc n c0 du b f o c Q)=fun f o c Q=>wp E vc n c0 du b f o c Q:=by funext f o c Q;exact ih ..
  show(match iN 999999 du with
  |false=>∃Inv:Nat→Fr→Ob→Nat→Prop,(∃k,iX c0 f o c (Inv k))∧
   ∀k f1 o1 c1,Inv k f1 o1 c1→(fun f o c Q=>D4 E vc n c0 du b f o c Q) f1 o1 c1 fun ex f' o' c'=>(match ex with
    | .normal=>∃k',iX c0 f' o' c' (Inv k')∧k'<k
    | .exit id=>Q (.exit id) f' o' c'
    | .ret=>Q .ret f' o' c')
  |true=>AQ (fun f o c Q=>D4 E vc n c0 du b f o c Q) 64 f o c Q)=_
  rw[e1];rfl
 |_=>intros;rfl
theorem VC.cJ {E T:Env} (L:ct T E) {g:FuncId} {fn:Func} {code:Code} {c0:Nat} {args:List TV} {o0:Ob} {R:TV→Ob→Nat→Prop} (hf:E.func g=some fn) (ho:∀b a,E.qD b g a=fun _=>none) (hb:fn.body=some code) (hlen:Nat.ble args.length fn.ntmps=true)
 (du:List Nat) (hw:D4 T (VC E) fn.ntmps c0 du code (qU 0 args) o0 c0 (Lg T c0 fn.results.toList R)):VC E g c0 args o0 R:=
 VC.enter L hf ho hb hlen du (by rw[←Po];exact hw)
theorem VC.Th {E T:Env} (L:ct T E) {g:FuncId} {fn:Func} {code:Code} {c0:Nat} {args:List TV} {o0:Ob} {R:TV→Ob→Nat→Prop} (hf:E.func g=some fn)
 (ho:∀base ρ F h S b7,Mem (HX base ρ F o0 c0 h S) ρ F o0 c0 h→dF c0 ρ F h args b7→E.qD base g b7 h=none) (hb:fn.body=some code) (hlen:Nat.ble args.length fn.ntmps=true)
 (du:List Nat) (hw:D4 T (VC E) fn.ntmps c0 du code (qU 0 args) o0 c0 (Lg T c0 fn.results.toList R)):VC E g c0 args o0 R:=
 VC.OW L hf ho hb hlen du (by rw[←Po];exact hw)
theorem D1 {b:Bool} {K:Prop} (k:K) (h:b=true:=by kernel_rfl):Bp b K:=⟨h,k⟩
theorem LF {p:Prop} (h:p:=by first|with_reducible exact Lz.rfl|exact Lw.rfl|exact Lz.wrap om|(unfold goInt;with_reducible exact Lz.rfl)|exact flx _):p:=h
theorem cR {r0:TV} {c0:Nat} {o0:Ob} {Q:TV→Ob→Nat→Prop} (h:Q r0 o0 c0):∀r o c,RR r0 c0 o0 r o c→Q r o c:=by
 rintro r o c ⟨rfl,rfl,rfl⟩;exact h
theorem t3 {a b c:Prop} (h1:a:=by(repeat' first|with_reducible exact Lz.rfl|exact Lw.rfl|exact Lz.wrap om|(unfold goInt;with_reducible exact Lz.rfl)|exact flx _|constructor)) (h2:b:=by(repeat' first|with_reducible exact Lz.rfl|exact Lw.rfl|exact Lz.wrap om|(unfold goInt;with_reducible exact Lz.rfl)|exact flx _|constructor)) (h3:c:=by rfl):a∧b∧c:=⟨h1,h2,h3⟩
end Go.M
namespace Go.M
open Go Go.Proofs
theorem RE:IntKind.i64.wrap (0+1)=1:=rfl
theorem RF:IntKind.i64.wrap (1+1)=2:=rfl
theorem RG:IntKind.i64.wrap (2+1)=3:=rfl
theorem RH:IntKind.i64.wrap (3+1)=4:=rfl
theorem RJ:IntKind.i64.wrap (4+1)=5:=rfl
theorem RL:IntKind.i64.wrap (5+1)=6:=rfl
theorem RM:IntKind.i64.wrap (6+1)=7:=rfl
theorem RN:IntKind.i64.wrap (7+1)=8:=rfl
theorem RO:IntKind.i64.wrap (8+1)=9:=rfl
theorem RP:IntKind.i64.wrap (9+1)=10:=rfl
theorem RT:IntKind.i64.wrap (10+1)=11:=rfl
theorem RU:IntKind.i64.wrap (11+1)=12:=rfl
theorem RV:IntKind.i64.wrap (12+1)=13:=rfl
theorem RW:IntKind.i64.wrap (13+1)=14:=rfl
theorem RX:IntKind.i64.wrap (14+1)=15:=rfl
theorem rn {p q:Prop} (k:q) (h:q→p:=by(intro hq;(repeat(first|(refine⟨by first|decide+kernel|(dsimp only;decide+kernel),?_⟩;have bj:=True.intro;clear bj;((conv=>whnf)<;>repeat(with_reducible refine D1 ?_)<;>conv=>whnf))|(refine⟨_,rfl,?_⟩;have bj:=True.intro;clear bj;((conv=>whnf)<;>repeat(with_reducible refine D1 ?_)<;>conv=>whnf))|((try(first|rw[RE]|rw[RF]|rw[RG]|rw[RH]|rw[RJ]|rw[RL]|rw[RM]|rw[RN]|rw[RO]|rw[RP]|rw[RT]|rw[RU]|rw[RV]|rw[RW]|rw[RX]));first|(refine⟨fun h_=>?_,fun h_=>absurd (by first|decide+kernel|rfl |(dsimp only;decide+kernel)) h_⟩;clear h_;((conv=>whnf)<;>repeat(with_reducible refine D1 ?_)<;>conv=>whnf))|(refine⟨fun h_=>absurd h_ (by first|decide+kernel|(dsimp only;decide+kernel)),fun h_=>?_⟩;clear h_;((conv=>whnf)<;>repeat(with_reducible refine D1 ?_)<;>conv=>whnf)))));exact hq)):p:=h k
theorem wh {p q:Prop} (k:q) (h:q→p:=by(intro hq;((conv=>whnf)<;>repeat(with_reducible refine D1 ?_)<;>conv=>whnf);exact hq)):p:=h k
theorem sp {p a b:Prop} (ha:a) (hb:b) (h:a→b→p:=by(intro x y;first|exact⟨x,y⟩|exact cg x y|exact cd x y)):p:=h ha hb
theorem tq {p:Prop} (h:p:=by(repeat' first|exact LF|constructor)):p:=h
theorem cw {r0:TV} {c0:Nat} {o0:Ob} {Q:TV→Ob→Nat→Prop} {q:Prop} (k:q) (h:q→Q r0 o0 c0:=by(intro hq;((conv=>whnf)<;>repeat(with_reducible refine D1 ?_)<;>conv=>whnf);exact hq)):∀r o c,RR r0 c0 o0 r o c→Q r o c:=cR (h k)
theorem en {E T:Env} (L:ct T E) (fn:Func) {g:FuncId} {c0:Nat} {args:List TV} {o0:Ob} {R:TV→Ob→Nat→Prop} {code:Code} {q:Prop} (k:q) (hf:E.func g=some fn:=by kernel_rfl) (ho:∀b a,E.qD b g a=fun _=>none:=by exact fun _ _=>rfl) (hb:fn.body=some code:=by rfl) (hlen:Nat.ble args.length fn.ntmps=true:=by rfl)
 (hw:q→D4 T (VC E) fn.ntmps c0 [] code (qU 0 args) o0 c0 (Lg T c0 fn.results.toList R):=by(intro hq;((conv=>whnf)<;>repeat(with_reducible refine D1 ?_)<;>conv=>whnf);exact hq)):VC E g c0 args o0 R:=VC.cJ L hf ho hb hlen [] (hw k)
theorem tx {a b c q:Prop} (k:q) (h1:q→a:=by(intro hq;repeat' first|(clear hq;exact LF)|constructor|exact hq)) (h2:q→b:=by(intro hq;repeat' first|(clear hq;exact LF)|constructor|exact hq)) (h3:c:=by rfl):a∧b∧c:=⟨h1 k,h2 k,h3⟩
end Go.M
namespace Go.M
open Go Go.RowKit
def Pp (P:Program) (g:FuncId) (pre:List Value) (val:List Int→Value) (ok:List Int→Prop):Prop:=
 ∀(W:World) (l:List Int) (r o cap:Nat) (c:Array Value) (e:TypeId) (fr:Nat×Nat),
  W.heap[r]? =some (.cells c e fr)→l.length≤cap→o+cap≤c.size→(∀(i:Nat) (x:Int),l[i]? =some x→c[o+i]? =some (.int .i64 x))→ok l→
  Calls P g (List.toArray (pre++[Value.slice (some ⟨r,o,none⟩) l.length cap])) W fun en W'=>en= .returned (val l)∧Below W.heap.size W W'
theorem pz {μ:bt}:∀{l:List Value},(∀v∈l,az v=true)→ay μ l l
 |[],_=>.nil
 |v::_,h=>.cons (.lit (h v List.mem_cons_self)) (pz fun u hu=>h u (List.mem_cons_of_mem _ hu))
theorem Bq {μ:bt}:∀{a a' b b':List Value},ay μ a a'→ay μ b b'→ay μ (a++b) (a'++b')
 |_,_,_,_,.nil,h=>h
 |_,_,_,_,.cons h1 h2,h=>.cons h1 (Bq h2 h)
theorem Br {c:Nat} {ρ:Gh} {F:Nat→Prop} {h:ae} {t:TV} {v:Value} (hl:VR c ρ F h t v):∀{l:List Value},(∀v∈l,az v=true)→dF c ρ F h (l.map .s++[t]) (l++[v])
 |[],_=>.cons hl .nil
 |v::_,hp=>.cons (.s (hp v List.mem_cons_self)) (Br hl fun u hu=>hp u (List.mem_cons_of_mem _ hu))
theorem Bs {P:Program} {E:Env} {g:FuncId} (hE:bB P E) (hO:∀base B,gL P E base B) (hm:P.follows .mixedOrders=true) (hg:∀g,E.de g=false) {pre:List Value} (Fp:∀v∈pre,az v=true) {val:List Int→Value} {ok:List Int→Prop}
 (Ti:∀l,ok l→scalar (val l)=true) (hV:∀l,ok l→VC E g 0 (pre.map .s++[.sl 1 (l.map fun n=>[.s (.int .i64 n)]) false]) [] fun r _ _=>r= .s (val l)):Pp P g pre val ok:=by
 intro W l r o cap c e fr hr fp fO hc gl;have bV:∀(i:Nat) v,(l.map (Value.int .i64))[i]? =some v→c[o+i]? =some v:=fun i v hi=>by
  rw[List.getElem?_map,Option.map_eq_some_iff]at hi;obtain⟨x,hx,rfl⟩:=hi;exact hc i x hx
 obtain⟨A,_⟩:=(ar0 W).push (vs:=l.map (Value.int .i64)) (cs:=l.map (Value.int .i64)) (pz (by simp[az])) hr (by simp;omega) bV;generalize sz:(fun b=>if b=qP.size then some (⟨r,o,c.size⟩:MT)else HG b)=μ at A;generalize hh:qP.push (.cells (l.map (Value.int .i64)) qP.size (qP.size+1) 0)=h at A;have eV:h.get 0=some (.cells (l.map (Value.int .i64)) 0 1 0):=by rw[←hh,ae.au];rfl
 have wj:h.size=1:=by rw[←hh];rfl
 have adO:μ 0=some ⟨r,o,c.size⟩:=by rw[←sz];rfl
 have qJ:VR 0 wN (· <h.size) h (.sl 1 (l.map fun n=>[.s (.int .i64 n)]) false) (.slice (some ⟨0,0,some 1⟩) l.length cap):=by
  refine .sl om (A.rd eV) om (by simp) fp (by simp) (by simp) (by simp) (by simp[fz,xK]) fun i j e t v q1 q2 q3=>?_;rw[List.getElem?_map]at q1;obtain⟨n,hn,rfl⟩:=Option.map_eq_some_iff.1 q1;have:j=0:=by
   have:=(List.getElem?_eq_some_iff.1 q2).1;simpa using this
  subst this;simp at q2;subst q2;rw[Nat.mul_one,Nat.add_zero,Nat.zero_add,List.getElem?_map,hn]at q3;simp at q3;subst q3;exact .s rfl
 obtain⟨n,v,h',ρ',F',r',o',c',h1,rfl,h3,h4⟩:=hV l gl h.size wN _ h _ _ (fun g cs hx=>by have:=hg g;simp[Env.de,hx]at this) A.mem (AR.mo) (Br qJ Fp);obtain⟨rfl,_⟩:=h4.dn;have x:ay μ (pre++[.slice (some ⟨0,0,some 1⟩) l.length cap]) (pre++[Value.slice (some ⟨r,o,none⟩) l.length cap]):=by
  refine Bq (pz Fp) (.cons ?_ .nil);have:=ar.slice (b:=0) (o:=0) (z:=1) (len:=l.length) (cap:=cap) (cap':=cap) adO fp fp (fun h=>h) (by show o+0+cap*1≤c.size;omega);simpa using this
 have:=xH hE (hO h.size W.heap.size) hm n μ h W g _ (List.toArray (pre++[Value.slice (some ⟨r,o,none⟩) l.length cap])) _ h' h1 (by simpa using x) (A.rB hg) Fence.wide 0 gE.wide;refine(callsIn_wide.1 (this.mono ?_));rintro e W' ⟨v',a6,rfl,hv,S⟩;have e:=hv.ax (Ti l gl);subst e;exact⟨rfl,S.grow.os,S.grow.tape,S.grow.output,S.grow.size,fun k hk=>S.grow.bw k hk fun b m hb _=>A.gh b m hb⟩
theorem qY {v:Value} (h:scalar v=true):az v=true:=by
 cases v<;>simp_all[scalar,az]
theorem yK {μ:bt}:∀{a b:List Value} {x:Value},(∀v∈a,scalar v=true)→ay μ (a++[x]) b→∃x',b=a++[x']∧ar μ x x'
 |[],b,x,_,h=>by
  cases h with
  |cons h1 h2=>cases h2;exact⟨_,rfl,h1⟩
 |v::a,b,x,hs,h=>by
  cases h with
  |cons h1 h2=>
   obtain⟨x',rfl,h3⟩:=yK (fun u hu=>hs u (List.mem_cons_of_mem _ hu)) h2;obtain rfl:=h1.ax (hs v List.mem_cons_self);exact⟨x',rfl,h3⟩
def Fq (val:List Value→List Int→Option Value) (args:List Value) (h:ae):Option (Value×ae):=match args.reverse with
 | .slice (some ⟨b,0,some 1⟩) len cap::rp=>(match h.get b with
  |some (.eE cs)=>bI (Nat.beq len cs.length&&Nat.ble len cap&&Nat.blt 0 len&&rp.all scalar) ((val rp.reverse cs).bind fun v=>some (v,h))
  |_=>none)
 |_=>none
def Kb (P:Program) (g:FuncId) (val:List Value→List Int→Option Value):Prop:=
 ∀pre cs v,(∀u∈pre,scalar u=true)→val pre cs=some v→scalar v=true∧∀l:List Int,l.Perm cs→∃vf ok,Pp P g pre vf ok∧ok l∧vf l=v
theorem Tj {P:Program} {E:Env} {base B:Nat} {g:FuncId} {val:List Value→List Int→Option Value} (hB:Kb P g val) {μ:bt} {h h':ae} {w:World} {args:List Value} {args':Array Value} {v:Value}
 (hc:Fq val args h=some (v,h')) (hr:ay μ args args'.toList) (H:bq E base B μ h w):Calls P g args' w (kp E base B μ h w v h'):=by
 unfold Fq at hc;split at hc
 ·rename_i b len cap rp adP;split at hc
  ·rename_i cs hg;simp only[aj,Bool.and_eq_true,beq_iff,aT,a7,List.all_eq_true,Option.bind_eq_some_iff,Option.some.injEq,Prod.mk.injEq]at hc;obtain⟨⟨⟨⟨hlen,fp⟩,Cl⟩,hsc⟩,v1,hv,rfl,rfl⟩:=hc;have ea:args=rp.reverse++[.slice (some ⟨b,0,some 1⟩) len cap]:=by
    have:=congrArg List.reverse adP;simpa using this
   subst ea;obtain⟨x',e1,hx⟩:=yK (fun u hu=>hsc u (List.mem_reverse.1 hu)) hr;obtain⟨tX,hP⟩:=hB rp.reverse cs v1 (fun u hu=>hsc u (List.mem_reverse.1 hu)) hv;cases hx with
   |lit hh=>simp[az]at hh
   |cY hb=>omega
   |slice hb q1 q2 q3 q4=>
    rename_i cap' m;obtain⟨p,p',k1,k2,k3⟩:=H.obj b m hb;rw[hg]at k1;cases k1;cases k3 with
    |eE hp hl gg UF=>
     rename_i c e fr l;obtain⟨vf,ok,hO,gl,rfl⟩:=hP l hp;have hll:l.length=len:=by rw[hp.length_eq,hlen]
     have:=hO w l m.r m.s cap' c e fr k2 om (by rw[UF];omega) gg gl;have e2:args'=List.toArray (rp.reverse++[Value.slice (some ⟨m.r,m.s,none⟩) l.length cap']):=by
      rw[←Array.toList_inj,e1,hll];simp
     rw[e2];refine this.mono ?_;rintro en w' ⟨rfl,G0⟩;have Hx:=H.ext G0.size fun r hr=>G0.block r hr;have gr:Grow base μ w w':=⟨G0.tape,G0.os,G0.output,G0.size,fun r hr _=>G0.block r hr⟩;exact⟨_,μ,rfl,.lit (qY tX),⟨Hx,gr,μ.le_refl,fun b m h0 h1=>(by rw[h0]at h1;cases h1),fun _ _ _=>rfl,Nat.le_refl _⟩⟩
  ·cases hc
 ·cases hc
section
variable {E:Env}
theorem VC.Pq {g:FuncId} {val:List Value→List Int→Option Value} {pre:List Value} (hf:(E.func g).isSome=true) (ho:∀b a,E.qD b g a=fun h=>Fq val a h) {ks:List Int} {v:Value} (Fp:∀u∈pre,scalar u=true) (hk:0<ks.length) (hv:val pre ks=some v) (tX:scalar v=true):
 VC E g 1 (pre.map .s++[.bg 0 ks.length]) [(0,.eE ks)] fun r o c=>r= .s v∧c=1∧o=[(0,.eE ks)]:=by
 intro base ρ F h S b7 hN hM hO hA;obtain⟨fn,hf⟩:=Option.isSome_iff_exists.1 hf;obtain⟨_,hm⟩:=hM.b9 (m:=0) rfl;cases hm with
 |eE hb hg=>
  rename_i b;have iT:b7=pre++[.slice (some ⟨b,0,some 1⟩) ks.length (ks.length+1)]:=by
   clear hv hM hO
   induction pre generalizing b7 with
   |nil=>
    obtain⟨v1,m1,rfl,h1,h2⟩:=hA.aL;obtain rfl:=h2.bC;cases h1 with
    |bg oY=>rw[hb]at oY;cases oY;rfl
   |cons u pre ih=>
    obtain⟨v1,m1,rfl,h1,h2⟩:=hA.aL;rw[ih (fun x hx=>Fp x (List.mem_cons_of_mem _ hx)) _ h2];obtain⟨rfl,_⟩:=h1.dn;rfl
  subst iT;have Ar:E.qD base g (pre++[.slice (some ⟨b,0,some 1⟩) ks.length (ks.length+1)]) h=some (v,h):=by
   rw[congrFun (ho _ _) _];unfold Fq;simp only[List.reverse_append,List.reverse_cons,List.reverse_nil,List.nil_append,List.singleton_append,hg];have h1:pre.reverse.all scalar=true:=List.all_eq_true.2 fun u hu=>Fp u (List.mem_reverse.1 hu);have h2:Nat.ble ks.length (ks.length+1)=true:=Nat.ble_eq_true_of_le om;have h3:Nat.blt 0 ks.length=true:=a7.2 hk;simp[bI,h1,h2,h3,hv]
  refine⟨0,v,h,ρ,F,.s v,_,1,?_,⟨rfl,rfl,rfl⟩,hM,.s (qY tX)⟩;unfold g9 fE;rw[hf];simp only[Option.bind_some,Ar]
end
end Go.M
namespace Go.M
open Go Go.RowKit Go.Maps Go.Sort Go.Shelf Go.Proofs
def iE (P:Program) (g k:FuncId):Prop:=∀(W:World) (Bm:Nat) (mb:Option Nat) (ks:List Int),W.cell? ⟨Bm,0,none⟩=some (.map mb)→ks.length≤1099511627776→(∀x∈ks,IntKind.i64.min≤x∧x≤IntKind.i64.max)→ks.Nodup→
 (mb=none∧ks=[]∨∃(r:Nat) (es:Array MapEntry) (clock:Nat),mb=some r∧W.heap[r]? =some (.map es clock)∧sn es.toList clock∧es.toList.map (·.key)=ks.map (.int .i64))→
 Calls P g #[.func (.func k) #[] #[.pointer (some ⟨Bm,0,none⟩)]] W fun e w'=>∃(v:Value) (t:TypeId) (l:List Int),e= .returned v∧l.Perm ks∧w'.ownsRow W.heap.size t 1 v ks.length (l.map (.int .i64))∧(v= .slice none 0 0↔ks=[])∧Below W.heap.size W w'
theorem oD {P:Program} {ρ σ:Ren} (L8:SlLaysZI.n8 P ρ) (Tf:SlLaysZI.n10 P σ) (e10:∀args w,(callFunc (σ.f 10) args).run P w= .ok (.enter (σ.f 10) args) w):iE P (ρ.f 8) (σ.f 10):=by
 intro W Bm mb ks hm hlen mw tW Iv;have hBm:Bm<W.heap.size:=by
  unfold World.cell? at hm;split at hm
  ·rename_i hh;exact(Array.getElem?_eq_some_iff.1 hh).1
  ·cases hm
 have key:∃(S:List Int→Prop),(∀ss,S ss→ss.Perm ks)∧SeqGives Fence.wide (9 - 1 - 1) P (σ.f 10) #[.pointer (some ⟨Bm,0,none⟩)] encZ S ks.length W:=by
  rcases Iv with⟨rfl,rfl⟩|⟨r,es,clock,rfl,hr,bN,hk⟩
  ·exact⟨_,fun ss h=>by rw[h],AnyZI.keys_gives_nil Tf Fence.wide _ trivial rfl Bm W hBm hm⟩
  ·have WN:Keyed P (σ.t 26):=int_keyed Tf.t26;have yG:∀x∈es.toList,∃n,n∈ks∧x.key= .int .i64 n∧WideElems.rd (H:=Unit) P (σ.t 26) (fun _=>some (.nil,[])) x=some ((.int .i64 n),.nil):=by
    intro x hx;have:x.key∈es.toList.map (·.key):=List.mem_map.2 ⟨x,hx,rfl⟩;rw[hk]at this;obtain⟨n,hn,e⟩:=List.mem_map.1 this;refine⟨n,hn,e.symm,?_⟩;obtain⟨h1,h2⟩:=mw n hn;unfold WideElems.rd;rw[←e,keyOf_int_mk Tf.t26 (by simp only[Lit.wf,Bool.and_eq_true,decide_eq_true_eq];exact⟨h1,h2⟩)];rfl
   have Ih:(es.toList.map fun x=>intOf (WideElems.rg (H:=Unit) P (σ.t 26) (fun _=>some (.nil,[])) x).1)=ks:=by
    have h1:es.toList.map (fun x=>intOf (WideElems.rg (H:=Unit) P (σ.t 26) (fun _=>some (.nil,[])) x).1)=(es.toList.map (·.key)).map (fun v=>match v with| .int _ n=>n|_=>0):=by
     rw[List.map_map];refine List.map_congr_left fun x hx=>?_;obtain⟨n,_,e,h⟩:=yG x hx;rw[WideElems.rg_of h,Function.comp_apply,e];rfl
    rw[h1,hk,List.map_map];exact(List.map_congr_left fun x _=>rfl).trans (List.map_id ks)
   have fO:es.size=ks.length:=by
    have:=congrArg List.length hk;simpa using this
   have WO:W.ownsMap (H:=Unit) P (σ.t 26) (fun _=>some (.nil,[])) r ks.length (.map ((es.toList.map (WideElems.rg P (σ.t 26) (fun _=>some (.nil,[])))).foldr DataW.insert [])):=by
    refine⟨es,clock,hr,⟨by rw[fO];unfold Go.maxLen;omega,⟨bN.1,bN.2,?_⟩,fun x hx=>?_⟩,Nat.le_of_eq fO,rfl⟩
    ·rw[hk];exact List.pairwise_map.2 (tW.imp fun h e=>h (by simpa using e))
    ·obtain⟨n,_,_,h⟩:=yG x hx;exact⟨_,h⟩
   have hp:(intKeys (H:=Unit) (.map ((es.toList.map (WideElems.rg P (σ.t 26) (fun _=>some (.nil,[])))).foldr DataW.insert []))).Perm ks:=by
    have:=(WideShapes.sorted_perm (es.toList.map (WideElems.rg (H:=Unit) P (σ.t 26) (fun _=>some (.nil,[]))))).map (fun p=>intOf p.1);rw[List.map_map]at this;have h2:(es.toList.map ((fun p=>intOf p.1)∘WideElems.rg (H:=Unit) P (σ.t 26) (fun _=>some (.nil,[]))))=ks:=Ih;rw[h2]at this;exact this
   have hs:=AnyZI.keys_gives Tf Fence.wide (9 - 1 - 1) trivial rfl om Bm r ks.length _ W hBm hm WO;have e:Maps.size (H:=Unit) (.map ((es.toList.map (WideElems.rg P (σ.t 26) (fun _=>some (.nil,[])))).foldr DataW.insert []))=ks.length:=by
    have:=(WideShapes.sorted_perm (es.toList.map (WideElems.rg (H:=Unit) P (σ.t 26) (fun _=>some (.nil,[]))))).length_eq;rw[size_eq,this,List.length_map];simpa using fO
   rw[e]at hs;exact⟨_,fun ss h=>h.trans hp,hs⟩
 obtain⟨S,hS,WQ⟩:=key;have:=AnyZI.collect_in L8 Fence.wide 9 trivial trivial rfl om (σ.f 10) #[.pointer (some ⟨Bm,0,none⟩)] trivial e10 S ks.length (by unfold Go.maxLen;omega) om W WQ;refine callsIn_wide.1 (this.mono ?_);rintro e w' ⟨v,ss,rfl,hs,gj,sP,hb⟩;have hp:=hS ss hs;rw[hp.length_eq]at gj;refine⟨v,_,ss,rfl,hp,gj,sP.trans ⟨fun h=>?_,fun h=>?_⟩,hb⟩
 ·subst h;exact List.Perm.nil_eq hp |>.symm▸rfl
 ·subst h;exact List.Perm.eq_nil hp
def LY (h:ae) (ks:List Int):Value×ae:=match ks with
 |[]=>(.slice none 0 0,h)
 |_::_=>(.slice (some ⟨h.size,0,some 1⟩) ks.length (ks.length+1),h.push (.eE ks))
def tt (ky:List Nat) (args:List Value) (h:ae):Option (Value×ae):=match args with
 |[.func (.func k) a c]=>(match a.toList,c.toList with
  |[],[.pointer (some ⟨b,0,none⟩)]=>bI (iN k ky) ((je h b).bind fun mb=>(jf h mb).bind fun ks=>some (LY h ks))
  |_,_=>none)
 |_=>none
theorem Fs {P:Program} {E:Env} {base B:Nat} {ky:List Nat} {g:FuncId} (hS:∀k∈ky,iE P g k) {μ:bt} {h h':ae} {w:World} {args:List Value} {args':Array Value} {v:Value}
 (hc:tt ky args h=some (v,h')) (hr:ay μ args args'.toList) (H:bq E base B μ h w):Calls P g args' w (kp E base B μ h w v h'):=by
 unfold tt at hc;split at hc
 ·rename_i k a c;split at hc
  ·rename_i b ha gg;simp only[aj,Option.bind_eq_some_iff,Option.some.injEq]at hc;obtain⟨hk,mb,WR,ks,jR,gZ⟩:=hc;obtain⟨ba,hg,xk⟩:=vN WR
   -- the arguments in the world
   obtain⟨v1,qJ,e1⟩:∃v1,ar μ (.func (.func k) a c) v1∧args'= #[v1]:=by
    obtain⟨l⟩:=args';cases hr with
    |cons h1 h2=>cases h2;exact⟨_,h1,rfl⟩
   subst e1;cases qJ with
   |lit hh=>simp[az]at hh
   |func qa ha1 kE Tg=>
    rename_i a' c';have ea:a'= #[]:=by
     have h0:a'.size=0:=by rw[←qa];have:=congrArg List.length ha;simpa using this
     exact Array.eq_empty_of_size_eq_zero h0
    subst ea;have lT:c.size=1:=by have:=congrArg List.length gg;simpa using this
    obtain⟨p',ec⟩:∃p',c'= #[p']:=by
     obtain⟨l⟩:=c';rw[lT]at kE
     match l,kE with
     |[x],_=>exact⟨x,rfl⟩
     |[],kE=>simp at kE
     |_::_::_,kE=>simp at kE
    subst ec;have hp:=Tg 0 (.pointer (some ⟨b,0,none⟩)) p' (by rw[←Array.getElem?_toList,gg];rfl) rfl;obtain⟨m,hm,rfl⟩:=hp.iy;have Yz:=H.root b m _ _ hm hg;have fN:h.rd b=some [.map mb]:=eK (cB hg hg) xk (by unfold ae.cellsOf;rw[hg]);obtain⟨cc,e,fr,q1,q2,q3,q4,q5⟩:=H.read hm fN;obtain⟨vm,q6,q7⟩:=q5 0 (.map mb) rfl;rw[Yz]at q6 ⊢;obtain⟨J8,rfl,Iv⟩:∃J8,vm= .map J8∧(J8=none∧ks=[]∨∃(r:Nat) (es:Array MapEntry) (clock:Nat),J8=some r∧w.heap[r]? =some (.map es clock)∧sn es.toList clock∧es.toList.map (·.key)=ks.map (.int .i64)):=by
     cases mb with
     |none=>
      cases q7 with
      |lit _=>exact⟨none,rfl,.inl ⟨rfl,by simpa[jf]using jR.symm⟩⟩
     |some r=>
      obtain⟨mr,w1,rfl⟩:=q7.jn;refine⟨_,rfl,.inr ?_⟩;obtain⟨ev,clock,vo,wJ,bN,gl⟩:=l4 jR;obtain⟨o,o',k1,k2,k3⟩:=H.obj r mr w1;rw[vo]at k1;cases k1;cases k3 with
      |map hs=>
       rename_i bM;refine⟨_,bM,clock,rfl,k2,?_,hs.ints wJ⟩;rw[sn.iff,hs.born,←sn.iff];exact bN
    have gl:k8 ks:=by
     cases mb with
     |none=>simp[jf]at jR;subst jR;exact⟨by simp,by simp,by simp⟩
     |some r=>
      obtain⟨ev,clock,vo,wJ,bN,gl⟩:=l4 jR;exact gl
    have xp:w.cell? ⟨m.r,0,none⟩=some (.map J8):=by
     unfold World.cell?;simp only[q1,Option.isSome_none,Bool.false_eq_true,if_false];simpa using q6
    have:=hS k (kZ hk) w m.r J8 ks xp gl.1 gl.2.1 gl.2.2 Iv;simp only[Nat.add_zero];refine this.mono ?_;rintro en w' ⟨v',t,l,rfl,oA,gj,sP,hb⟩;have Hx:=H.ext hb.size fun r hr=>hb.block r hr;have gr:Grow base μ w w':=⟨hb.tape,hb.os,hb.output,hb.size,fun r hr _=>hb.block r hr⟩;cases ks with
    |nil=>
     simp only[LY,Prod.mk.injEq]at gZ;obtain⟨rfl,rfl⟩:=gZ;have:=sP.2 rfl;subst this;exact⟨_,μ,rfl,.lit rfl,⟨Hx,gr,μ.le_refl,fun b m h0 h1=>(by rw[h0]at h1;cases h1),fun _ _ _=>rfl,Nat.le_refl _⟩⟩
    |cons x0 l0=>
     generalize Pj:x0::l0=ks at*
     have hlen:0<ks.length:=by rw[←Pj];simp
     have Pk:LY h ks=(.slice (some ⟨h.size,0,some 1⟩) ks.length (ks.length+1),h.push (.eE ks)):=by rw[←Pj];rfl
     rw[Pk]at gZ;simp only[Prod.mk.injEq]at gZ;obtain⟨rfl,rfl⟩:=gZ;obtain⟨r1,⟨_,r2⟩|⟨gb,cap,cur,rfl,r3,r4,r5,r6,r7,r8⟩⟩:=gj
     ·omega
     ·let m2:MT:=⟨gb,0,cur.size⟩
      have hll:l.length=ks.length:=oA.length_eq;have Hp:=Hx.Er (o:=.eE ks) (fun _ _ _ _ hh=>by cases hh);have eV:(h.push (.eE ks)).get h.size=some (.eE ks):=by rw[ae.au,if_pos rfl]
      have ho:il (jH μ h.size m2) (h.push (.eE ks)) base h.size m2 (.eE ks) (.cells cur t (0,0)):=by
       refine .eE (l:=l) oA (by show 0+l.length≤cur.size;omega) (fun i x hx=>?_) rfl;have hi:=(List.getElem?_eq_some_iff.1 hx).1;have:cur.toList[i]? =some (.int .i64 x):=by
        have h5:(cur.toList.take (ks.length*1))[i]? =some (.int .i64 x):=by rw[r8];simp[hx]
        rw[List.getElem?_take]at h5
        rwa [if_pos om]at h5
       show cur[0+i]? =some _;rw[Nat.zero_add];simpa using this
      have Ht:=Hp.AK (b:=h.size) (m:=m2) (by simp[ae.size_push]) eV H.fresh H.lK (by have:=H.low;show B≤gb;omega) r4
       (fun d md hd he=>by have:=H.lt hd;simp only[m2]at he;omega) (fun _ _ _ _ hh=>by cases hh) (fun _ _ _=>rfl) ho
      refine⟨_,jH μ h.size m2,rfl,?_,Ht,gr,fF H.fresh,fun d md h0 hd=>?_,fun d hd _=>by rw[ae.au,if_neg om],by simp[ae.size_push]⟩
      ·have:=ar.slice (μ:=jH μ h.size m2) (b:=h.size) (o:=0) (z:=1) (len:=ks.length) (cap:=ks.length+1) (cap':=cap) (m:=m2) (bx _ _ _) om r5 (fun h=>by omega) (by show 0+0+cap*1≤cur.size;omega);simpa[m2]using this
      ·by_cases ed:d=h.size
       ·subst ed;rw[bx]at hd;cases hd;exact⟨Nat.le_refl _,H.lK,.inl r3⟩
       ·rw[mq _ _ ed,h0]at hd;cases hd
  ·cases hc
 ·cases hc
end Go.M
namespace Go.M
open Go Go.RowKit
section
variable {X:Cx} {ρ:Gh} {F:Nat→Prop} {o:Ob} {c:Nat} {h:ae}
theorem Mem.WT (H:Mem X ρ F o c h) (ks:List Int):
 let h':=h.push (.eE ks)
 Mem X (cC ρ c (some (.di h.size))) F ((c,.eE ks)::o) (c+1) h'∧∀t v,VR c ρ F h t v→VR (c+1) (cC ρ c (some (.di h.size))) F h' t v:=by
 intro h';refine H.EG (S0:=[(h.size,true)]) (fun cs f c8 ba e=>by cases e) (H.AU _) (H.AV _) (H.AW _) (fun n hn=>bG _ _ om) (fun hm=>?_) rfl;exact .eE (aM _ _ _) (by rw[ae.au,if_pos rfl])
end
section
variable {E:Env}
theorem VC.collect {g:FuncId} {ky:List Nat} {k:FuncId} (hf:(E.func g).isSome=true) (ho:∀b a,E.qD b g a=fun h=>tt ky a h) (hk:iN k ky=true) {y:TO} {ks:List Int} (hy:Fo ks y) (gl:k8 ks) (bD:ks≠[]):
 VC E g 2 [.cW k [] [.ptr 1 0]] [(0,y),(1,.cells [.mp 0])] fun r o c=>r= .bg 2 ks.length∧c=3∧
  o=[(2,.eE ks),(0,y),(1,.cells [.mp 0])]:=by
 intro base ρ F h S b7 hN hM hO hA;obtain⟨fn,hf⟩:=Option.isSome_iff_exists.1 hf;obtain⟨v1,m1,rfl,h1,h2⟩:=hA.aL;obtain rfl:=h2.bC;obtain⟨_,hm⟩:=hM.b9 (m:=0) rfl;obtain⟨_,hb⟩:=hM.b9 (m:=1) rfl;obtain⟨b0,ev,clock,vh,Zz,bN,jR⟩:=hm.keys hy;cases hb with
 |cells ny xj ht1 lT=>
  rename_i b1 ba cs';have lT:=(lT.US (fun t v hv hf=>hv.dp hf) rfl).1;obtain⟨x1,l1,rfl,y1,y2⟩:=lT.aL;obtain rfl:=y2.bC;cases y1 with
  |mp hbm=>
   rw[vh]at hbm;cases hbm;cases h1 with
   |cW qa ha1 kE Tg=>
    rename_i a kk;have ea:a= #[]:=Array.eq_empty_of_size_eq_zero (by simpa using qa.symm);subst ea;obtain⟨p',ec⟩:∃p',kk= #[p']:=by
     obtain⟨l⟩:=kk
     match l,kE with
     |[x],_=>exact⟨x,rfl⟩
     |[],kE=>simp at kE
     |_::_::_,kE=>simp at kE
    subst ec;have hp:=Tg 0 (.ptr 1 0) p' rfl rfl;cases hp with
    |ptr oY=>
     rw[ny]at oY;cases oY;have Ar:E.qD base g [.func (.func k) #[] #[.pointer (some ⟨b1,0,none⟩)]] h=some (LY h ks):=by
      rw[congrFun (ho _ _) _];show bI (iN k ky) ((je h b1).bind fun mb=>(jf h mb).bind fun ks=>some (LY h ks))=_;have hbx:je h b1=some (some b0):=by
       unfold je;rw[xj];simp[bI,Nat.ble_eq_true_of_le ht1]
      rw[hk,hbx];simp only[bI,Option.bind_some,jf,Zz,Fm jR,bN,gl,decide_true,Bool.and_self]
     have gZ:LY h ks=(.slice (some ⟨h.size,0,some 1⟩) ks.length (ks.length+1),h.push (.eE ks)):=by
      cases ks with
      |nil=>exact absurd rfl bD
      |cons _ _=>rfl
     rw[gZ]at Ar;obtain⟨M,O2⟩:=hM.WT ks;refine⟨0,_,_,_,F,.bg 2 ks.length,_,3,?_,⟨rfl,rfl,rfl⟩,M,.bg (aM _ _ _)⟩;unfold g9 fE;rw[hf];simp only[Option.bind_some,Ar]
end
theorem Tk {c:Nat} {ρ:Gh} {F:Nat→Prop} {h:ae} {val:List Value→List Int→Option Value} {z:Nat} {es:List (List TV)} {fl:Bool}:∀{pre:List TV} {b7:List Value},dF c ρ F h (pre++[.sl z es fl]) b7→Fq val b7 h=none:=by
 intro pre b7 H;obtain⟨pv,x,rfl,hx⟩:∃pv x,b7=pv++[x]∧VR c ρ F h (.sl z es fl) x:=by
  induction pre generalizing b7 with
  |nil=>
   obtain⟨v,m,rfl,h1,h2⟩:=H.aL;obtain rfl:=h2.bC;exact⟨[],v,rfl,h1⟩
  |cons t pre ih=>
   obtain⟨v,m,rfl,h1,h2⟩:=H.aL;obtain⟨pv,x,rfl,hx⟩:=ih h2;exact⟨v::pv,x,rfl,hx⟩
 unfold Fq;rw[List.reverse_append];cases hx with
 |nil=>rfl
 |sl hF hr hz hl fp xn hle he gV hc=>
  rename_i b o len cap cs
  show(match(.slice (some ⟨b,o,some z⟩) len cap::pv.reverse:List Value)with
   | .slice (some ⟨b,0,some 1⟩) len cap::rp=>(match h.get b with
    |some (.eE cs)=>bI (Nat.beq len cs.length&&Nat.ble len cap&&Nat.blt 0 len&&rp.all scalar) ((val rp.reverse cs).bind fun v=>some (v,h))
    |_=>none)
   |_=>none)=none
  split
  ·rename_i heq;cases heq;split
   ·rename_i hg;unfold ae.rd ae.dJ at hr;simp[hg]at hr
   ·rfl
  ·rfl
abbrev Tl:=List Value→List Int→Option Value
def Pr (l:List Nat) (gs cs:List (Nat×List Nat)) (bs:List (Nat×Tl)):FuncId→List Value→ae→Option (Value×ae):=fun g args h=>match look cs g with
 |some ky=>tt ky args h
 |none=>match look bs g with
  |some val=>Fq val args h
  |none=>LR l gs g args h
theorem Tm {P:Program} {l:List Nat} {gs cs:List (Nat×List Nat)} {bs:List (Nat×Tl)} (hl:∀g∈l,Fl P g) (hs:∀g ky,look gs g=some ky→∀k∈ky,jd P g k) (hc:∀g ky,look cs g=some ky→∀k∈ky,iE P g k)
 (hb:∀g val,look bs g=some val→Kb P g val) (base B:Nat):gL P (ew P (Pr l gs cs bs)) base B:=by
 intro μ h w g args args' v h' gg hr H F n hF;have kX:Pr l gs cs bs g args h=some (v,h'):=gg;unfold Pr at kX;split at kX
 ·rename_i ky hi;exact uP hF (Fs (hc g ky hi) kX hr H)
 ·split at kX
  ·rename_i val hv;exact uP hF (Tj (hb g val hv) kX hr H)
  ·have H2:bq (ew P (LR l gs)) base B μ h w:=⟨H.gh,H.high,H.obj,H.own,H.alias,H.dJ,H.de,H.low,H.lK,H.wf,H.root⟩
   exact(J9 hl hs base B μ h w g args args' v h' kX hr H2 F n hF).mono fun e w' ⟨v',a6,h1,h2,h3⟩=>
    ⟨v',a6,h1,h2,⟨h3.rel.gh,h3.rel.high,h3.rel.obj,h3.rel.own,h3.rel.alias,h3.rel.dJ,h3.rel.de,h3.rel.low,h3.rel.lK,h3.rel.wf,h3.rel.root⟩,h3.grow,h3.le,h3.new,h3.Hf,h3.fO⟩
end Go.M
