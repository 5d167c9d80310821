/-
  Part 12 of the library that the proof leans on.
-/
import Derived.Test.YtpkdpgcpmeibpaaGreatDoorL10
import Derived.Test.YtpkdpgcpmeibpaaGreatDoorL11
import Derived.Shelf.SlIterI.Nil
import Derived.KernelRfl
namespace Go.M
open Go
def Ph (l:List Nat):FuncId→List Value→ab→Option (Value×ab):=fun g args h=>match jx g l,args with
 |true,[]=>some (.bool true,h)
 |_,_=>none
def Gb (P:Program) (g:FuncId):Prop:=∀(W:World) (F:Fence) (n:Nat),hZ F→CallsIn F n P g #[] W fun e W'=>e= .returned (.bool true)∧Go.RowKit.Below W.heap.size W W'
theorem Pj {P:Program} (hm:P.follows .mixedOrders=true) {fs bs ps:List Nat} {m n:Nat} {g:FuncId}
 (hr:yB (iK (eL P (sN P fs bs ps m)) 0 n g [] rP)=true):Gb P g:=by
 intro W F k hF;obtain⟨h',hr⟩:=A3 hr;have:=yz (yx P _) (LZ hm fs bs ps m 0 W.heap.size) hm n Ib rP W g [] #[] (.bool true) h' hr .nil (Y5 (fun _=>rfl) W) F k hF;refine this.mono ?_;rintro e W' ⟨v',a7,rfl,hv,S⟩;have e:=hv.ay rfl;subst e;exact⟨rfl,A0 S⟩
theorem SJ {P:Program} {l:List Nat} (hl:∀g∈l,Gb P g) (base B:Nat):ik P (eL P (Ph l)) base B:=by
 intro μ h w g args args' v h' hc hr H F n hF;have lT:Ph l g args h=some (v,h'):=hc;unfold Ph at lT;split at lT
 ·rename_i hg;cases lT;have:args'= #[]:=by
   have:=hr.length;simpa using this.symm
  subst this;refine(hl g (lV hg) w F n hF).mono ?_;rintro e W' ⟨rfl,hb⟩;exact⟨_,μ,rfl,.lit rfl,⟨H.ext hb.size fun r hr=>hb.block r hr,⟨hb.tape,hb.os,hb.output,hb.size,fun r hr _=>hb.block r hr⟩,μ.le_refl,fun b m h0 h1=>(by rw[h0]at h1;cases h1),fun _ _ _=>rfl,Nat.le_refl _⟩⟩
 ·cases lT
end Go.M
namespace Go.M
open Go Go.RowKit Go.Maps Go.Sort Go.Shelf Go.Proofs
def jP (P:Program) (g k:FuncId):Prop:=∀(W:World) (Bm:Nat) (mb:Option Nat) (ks:List Int),W.cell? ⟨Bm,0,none⟩=some (.map mb)→ks.length≤1099511627776→(∀x∈ks,IntKind.i64.min≤x∧x≤IntKind.i64.max)→ks.Nodup→
 (mb=none∧ks=[]∨∃(r:Nat) (es:Array MapEntry) (clock:Nat),mb=some r∧W.heap[r]? =some (.map es clock)∧tt es.toList clock∧es.toList.map (·.key)=ks.map (.int .i64))→
 Calls P g #[.func (.func k) #[] #[.pointer (some ⟨Bm,0,none⟩)]] W fun e w'=>∃(v:Value) (t:TypeId),e= .returned v∧w'.ownsRow W.heap.size t 1 v ks.length ((ks.mergeSort fun x y=>decide (x≤y)).map (.int .i64))∧(v= .slice none 0 0↔ks=[])∧Below W.heap.size W w'
theorem mergeSort_perm {l l':List Int} (h:l.Perm l'):l.mergeSort (fun x y=>decide (x≤y))=l'.mergeSort (fun x y=>decide (x≤y)):=by
 have tr:∀a b c:Int,decide (a≤b)=true→decide (b≤c)=true→decide (a≤c)=true:=fun a b c h1 h2=>by simp only[decide_eq_true_eq]at*;omega
 have to:∀a b:Int,(decide (a≤b)||decide (b≤a))=true:=fun a b=>by simp only[Bool.or_eq_true,decide_eq_true_eq];omega
 refine List.Perm.eq_of_pairwise (le:=fun a b=>decide (a≤b)=true) (fun a b _ _ h1 h2=>?_) (List.pairwise_mergeSort tr to l) (List.pairwise_mergeSort tr to l') (((List.mergeSort_perm l _).trans h).trans (List.mergeSort_perm l' _).symm);simp only[decide_eq_true_eq]at h1 h2;omega
theorem o6 {P:Program} {ρ σ:Ren} (L6:SlLaysZI.n6 P ρ) (SK:SlLaysZI.n10 P σ) (Z1:∀m,AnyZI.SortsIn P ρ Fence.wide m) (e9:∀args w,(callFunc (ρ.f 9) args).run P w= .ok (.enter (ρ.f 9) args) w)
 (e10:∀args w,(callFunc (σ.f 10) args).run P w= .ok (.enter (σ.f 10) args) w):jP P (ρ.f 6) (σ.f 10):=by
 intro W Bm mb ks hm hlen mH AG IV;have Z2:Bm<W.heap.size:=by
  unfold World.cell? at hm;split at hm
  ·rename_i hh;exact(Array.getElem?_eq_some_iff.1 hh).1
  ·cases hm
 have key:∃(S:List Int→Prop),(∀ss,S ss→ss.Perm ks)∧SeqGives Fence.wide (10 - 1 - 1 - 1) P (σ.f 10) #[.pointer (some ⟨Bm,0,none⟩)] encZ S ks.length W:=by
  rcases IV with⟨rfl,rfl⟩|⟨r,es,clock,rfl,hr,bR,hk⟩
  ·exact⟨_,fun ss h=>by rw[h],AnyZI.keys_gives_nil SK Fence.wide _ trivial rfl Bm W Z2 hm⟩
  ·have Wm:Keyed P (σ.t 26):=int_keyed SK.t26;have zy:∀x∈es.toList,∃n,n∈ks∧x.key= .int .i64 n∧WideElems.rd (H:=Unit) P (σ.t 26) (fun _=>some (.nil,[])) x=some ((.int .i64 n),.nil):=by
    intro x hx;have:x.key∈es.toList.map (·.key):=List.mem_map.2 ⟨x,hx,rfl⟩;rw[hk]at this;obtain⟨n,hn,e⟩:=List.mem_map.1 this;refine⟨n,hn,e.symm,?_⟩;obtain⟨h1,h2⟩:=mH n hn;unfold WideElems.rd;rw[←e,keyOf_int_mk SK.t26 (by simp only[Lit.wf,Bool.and_eq_true,decide_eq_true_eq];exact⟨h1,h2⟩)];rfl
   have Bc:(es.toList.map fun x=>intOf (WideElems.rg (H:=Unit) P (σ.t 26) (fun _=>some (.nil,[])) x).1)=ks:=by
    have h1:es.toList.map (fun x=>intOf (WideElems.rg (H:=Unit) P (σ.t 26) (fun _=>some (.nil,[])) x).1)=(es.toList.map (·.key)).map (fun v=>match v with| .int _ n=>n|_=>0):=by
     rw[List.map_map];refine List.map_congr_left fun x hx=>?_;obtain⟨n,_,e,h⟩:=zy x hx;rw[WideElems.rg_of h,Function.comp_apply,e];rfl
    rw[h1,hk,List.map_map];exact(List.map_congr_left fun x _=>rfl).trans (List.map_id ks)
   have gB:es.size=ks.length:=by
    have:=congrArg List.length hk;simpa using this
   have Wn:W.ownsMap (H:=Unit) P (σ.t 26) (fun _=>some (.nil,[])) r ks.length (.map ((es.toList.map (WideElems.rg P (σ.t 26) (fun _=>some (.nil,[])))).foldr DataW.insert [])):=by
    refine⟨es,clock,hr,⟨by rw[gB];unfold Go.maxLen;omega,⟨bR.1,bR.2,?_⟩,fun x hx=>?_⟩,Nat.le_of_eq gB,rfl⟩
    ·rw[hk];exact List.pairwise_map.2 (AG.imp fun h e=>h (by simpa using e))
    ·obtain⟨n,_,_,h⟩:=zy x hx;exact⟨_,h⟩
   have hp:(intKeys (H:=Unit) (.map ((es.toList.map (WideElems.rg P (σ.t 26) (fun _=>some (.nil,[])))).foldr DataW.insert []))).Perm ks:=by
    have:=(WideShapes.sorted_perm (es.toList.map (WideElems.rg (H:=Unit) P (σ.t 26) (fun _=>some (.nil,[]))))).map (fun p=>intOf p.1);rw[List.map_map]at this;have h2:(es.toList.map ((fun p=>intOf p.1)∘WideElems.rg (H:=Unit) P (σ.t 26) (fun _=>some (.nil,[]))))=ks:=Bc;rw[h2]at this;exact this
   have hs:=AnyZI.keys_gives SK Fence.wide (10 - 1 - 1 - 1) trivial rfl om Bm r ks.length _ W Z2 hm Wn;have e:Maps.size (H:=Unit) (.map ((es.toList.map (WideElems.rg P (σ.t 26) (fun _=>some (.nil,[])))).foldr DataW.insert []))=ks.length:=by
    have:=(WideShapes.sorted_perm (es.toList.map (WideElems.rg (H:=Unit) P (σ.t 26) (fun _=>some (.nil,[]))))).length_eq;rw[size_eq,this,List.length_map];simpa using gB
   rw[e]at hs;exact⟨_,fun ss h=>h.trans hp,hs⟩
 obtain⟨S,hS,Wo⟩:=key;have:=AnyZI.sorted_in L6 Fence.wide 10 trivial trivial trivial trivial rfl om (Z1 _) e9 (σ.f 10) #[.pointer (some ⟨Bm,0,none⟩)] trivial e10 S ks.length (by unfold Go.maxLen;omega) om W Wo;refine callsIn_wide.1 (this.mono ?_);rintro e w' ⟨v,ss,rfl,hs,gT,tR,hb⟩;have hp:=hS ss hs;rw[mergeSort_perm hp,hp.length_eq]at gT;refine⟨v,_,rfl,gT,tR.trans ⟨fun h=>?_,fun h=>?_⟩,hb⟩
 ·subst h;exact List.Perm.nil_eq hp |>.symm▸rfl
 ·subst h;exact List.Perm.eq_nil hp
end Go.M
namespace Go.M
open Go Go.RowKit
theorem vL {P:Program} {F:Fence} (hF:hZ F) {n:Nat} {f:FuncId} {args:Array Value} {w:World} {R:Ending→World→Prop} (h:Calls P f args w R):CallsIn F n P f args w R:=by
 have e:Machine.fenced P F=Machine.fenced P Fence.wide:=funext fun m=>propext ⟨fun _=>fenced_wide P m,fun _ g hg=>⟨fun ha=>(by rw[hF.dead]at ha;cases ha),Or.inl (hF.fn _),fun f _=>hF.fn f,fun d hd=>(by rw[hF.depth]at hd;cases hd)⟩⟩;have h2:=callsIn_wide (n:=n).2 h;refine⟨hF.fn f,fun cs _=>?_⟩;rw[e];exact h2.2 cs (room_wide _)
def wP:List MapEntry→Option (List Int)
 |[]=>some []
 |e::l=>match e.key,wP l with
  | .int .i64 n,some ks=>some (n::ks)
  |_,_=>none
def jQ (h:ab) (b:Nat):Option (Option Nat):=match h.get b with
 |some (.cells [.map mb] f di bd)=>bO (Nat.beq f b&&Nat.beq di b&&Nat.ble bd b) (some mb)
 |_=>none
instance (ev:List MapEntry) (clock:Nat):Decidable (tt ev clock):=inferInstanceAs (Decidable (_∧_))
def lW (ks:List Int):Prop:=ks.length≤1099511627776∧(∀x∈ks,IntKind.i64.min≤x∧x≤IntKind.i64.max)∧ks.Nodup
instance (ks:List Int):Decidable (lW ks):=inferInstanceAs (Decidable (_∧_∧_))
def jR (h:ab):Option Nat→Option (List Int)
 |none=>some []
 |some r=>match h.get r with
  |some (.map ev clock)=>(wP ev).bind fun ks=>bO (decide (tt ev clock)&&decide (lW ks)) (some ks)
  |_=>none
def cb (ks:List Int):List Int:=ks.mergeSort fun x y=>decide (x≤y)
def wQ (h:ab) (ks:List Int):Value×ab:=match ks with
 |[]=>(.slice none 0 0,h)
 |_::_=>(.slice (some ⟨h.size,0,some 1⟩) ks.length (ks.length+1),h.push (.cells ((cb ks).map (.int .i64)) h.size h.size 0))
def rq (lp:List Nat) (args:List Value) (h:ab):Option (Value×ab):=match args with
 |[.func (.func k) a c]=>(match a.toList,c.toList with
  |[],[.pointer (some ⟨b,0,none⟩)]=>bO (jx k lp) ((jQ h b).bind fun mb=>(jR h mb).bind fun ks=>some (wQ h ks))
  |_,_=>none)
 |_=>none
theorem wR {h:ab} {b:Nat} {mb:Option Nat} (hb:jQ h b=some mb):∃bd,h.get b=some (.cells [.map mb] b b bd)∧bd≤b:=by
 unfold jQ at hb;split at hb
 ·rename_i Kq f di bd hg;simp only[aj,Bool.and_eq_true,beq_iff,aW,Option.some.injEq]at hb;obtain⟨⟨⟨rfl,rfl⟩,ht⟩,rfl⟩:=hb;exact⟨bd,hg,ht⟩
 ·cases hb
theorem mW {h:ab} {r:Nat} {ks:List Int} (hk:jR h (some r)=some ks):∃ev clock,h.get r=some (.map ev clock)∧wP ev=some ks∧tt ev clock∧lW ks:=by
 simp only[jR]at hk;split at hk
 ·rename_i ev clock hg;simp only[Option.bind_eq_some_iff,aj,Bool.and_eq_true,decide_eq_true_eq,Option.some.injEq]at hk;obtain⟨V9,xH,⟨bR,fG⟩,rfl⟩:=hk;exact⟨ev,clock,hg,xH,bR,fG⟩
 ·cases hk
theorem cJ.born {μ:bx} {ev Z3:List MapEntry} (h:cJ μ ev Z3):Z3.map (·.born)=ev.map (·.born):=by
 induction h with
 |nil=>rfl
 |cons _ _ hb _ ih=>simp[hb,ih]
theorem tt.iff {ev:List MapEntry} {clock:Nat}:tt ev clock↔(∀b∈ev.map (·.born),b<clock)∧(ev.map (·.born)).Nodup:=by
 unfold tt;simp
theorem cJ.ints {μ:bx} {ev Z3:List MapEntry} (h:cJ μ ev Z3):∀{ks:List Int},wP ev=some ks→Z3.map (·.key)=ks.map (.int .i64):=by
 induction h with
 |nil=>intro ks hk;simp[wP]at hk;subst hk;rfl
 |cons vC _ _ _ ih=>
  intro ks hk;unfold wP at hk;split at hk
  ·rename_i n V9 h1 h2;cases hk;rw[h1]at vC;have:=vC.ay rfl;simp[this,ih h2]
  ·cases hk
theorem IW {P:Program} {E:Env} {base B:Nat} {lp:List Nat} {g:FuncId} (hS:∀k∈lp,jP P g k) {μ:bx} {h h':ab} {w:World} {args:List Value} {args':Array Value} {v:Value}
 (hc:rq lp args h=some (v,h')) (hr:aA μ args args'.toList) (H:bt E base B μ h w):Calls P g args' w (la E base B μ h w v h'):=by
 unfold rq at hc;split at hc
 ·rename_i k a c;split at hc
  ·rename_i b ha gQ;simp only[aj,Option.bind_eq_some_iff,Option.some.injEq]at hc;obtain⟨hk,mb,Wp,ks,kA,iE⟩:=hc;obtain⟨bd,hg,yd⟩:=wR Wp
   -- the arguments in the world
   obtain⟨v1,pJ,e1⟩:∃v1,ar μ (.func (.func k) a c) v1∧args'= #[v1]:=by
    obtain⟨l⟩:=args';cases hr with
    |cons h1 h2=>cases h2;exact⟨_,h1,rfl⟩
   subst e1;cases pJ with
   |lit hh=>simp[aB]at hh
   |func iB ha1 mJ SL=>
    rename_i a' c';have ea:a'= #[]:=by
     have h0:a'.size=0:=by rw[←iB];have:=congrArg List.length ha;simpa using this
     exact Array.eq_empty_of_size_eq_zero h0
    subst ea;have oy:c.size=1:=by have:=congrArg List.length gQ;simpa using this
    obtain⟨p',ec⟩:∃p',c'= #[p']:=by
     obtain⟨l⟩:=c';rw[oy]at mJ
     match l,mJ with
     |[x],_=>exact⟨x,rfl⟩
     |[],mJ=>simp at mJ
     |_::_::_,mJ=>simp at mJ
    subst ec;have hp:=SL 0 (.pointer (some ⟨b,0,none⟩)) p' (by rw[←Array.getElem?_toList,gQ];rfl) rfl;obtain⟨m,hm,rfl⟩:=hp.jd;have X6:=H.root b m _ _ hm hg;have gA:h.rd b=some [.map mb]:=eW (cG hg hg) yd (by unfold ab.cellsOf;rw[hg]);obtain⟨cc,e,fr,q1,q2,q3,q4,q5⟩:=H.read hm gA;obtain⟨vm,q6,q7⟩:=q5 0 (.map mb) rfl;rw[X6]at q6 ⊢;obtain⟨Kq,rfl,IV⟩:∃Kq,vm= .map Kq∧(Kq=none∧ks=[]∨∃(r:Nat) (es:Array MapEntry) (clock:Nat),Kq=some r∧w.heap[r]? =some (.map es clock)∧tt es.toList clock∧es.toList.map (·.key)=ks.map (.int .i64)):=by
     cases mb with
     |none=>
      cases q7 with
      |lit _=>exact⟨none,rfl,.inl ⟨rfl,by simpa[jR]using kA.symm⟩⟩
     |some r=>
      obtain⟨mr,w1,rfl⟩:=q7.jZ;refine⟨_,rfl,.inr ?_⟩;obtain⟨ev,clock,wq,xH,bR,fG⟩:=mW kA;obtain⟨o,o',k1,k2,k3⟩:=H.obj r mr w1;rw[wq]at k1;cases k1;cases k3 with
      |map hs=>
       rename_i bU;refine⟨_,bU,clock,rfl,k2,?_,hs.ints xH⟩;rw[tt.iff,hs.born,←tt.iff];exact bR
    have fG:lW ks:=by
     cases mb with
     |none=>simp[jR]at kA;subst kA;exact⟨by simp,by simp,by simp⟩
     |some r=>
      obtain⟨ev,clock,wq,xH,bR,fG⟩:=mW kA;exact fG
    have yh:w.cell? ⟨m.r,0,none⟩=some (.map Kq):=by
     unfold World.cell?;simp only[q1,Option.isSome_none,Bool.false_eq_true,if_false];simpa using q6
    have:=hS k (lV hk) w m.r Kq ks yh fG.1 fG.2.1 fG.2.2 IV;simp only[Nat.add_zero];refine this.mono ?_;rintro en w' ⟨v',t,rfl,gT,tR,hb⟩;have Hx:=H.ext hb.size fun r hr=>hb.block r hr;have gr:Grow base μ w w':=⟨hb.tape,hb.os,hb.output,hb.size,fun r hr _=>hb.block r hr⟩;cases ks with
    |nil=>
     simp only[wQ,Prod.mk.injEq]at iE;obtain⟨rfl,rfl⟩:=iE;have:=tR.2 rfl;subst this;exact⟨_,μ,rfl,.lit rfl,⟨Hx,gr,μ.le_refl,fun b m h0 h1=>(by rw[h0]at h1;cases h1),fun _ _ _=>rfl,Nat.le_refl _⟩⟩
    |cons x0 l0=>
     generalize Pl:x0::l0=ks at*
     have hlen:0<ks.length:=by rw[←Pl];simp
     have Pm:wQ h ks=(.slice (some ⟨h.size,0,some 1⟩) ks.length (ks.length+1),h.push (.cells ((cb ks).map (.int .i64)) h.size h.size 0)):=by rw[←Pl];rfl
     rw[Pm]at iE;simp only[Prod.mk.injEq]at iE;obtain⟨rfl,rfl⟩:=iE;obtain⟨r1,⟨_,r2⟩|⟨gb,cap,cur,rfl,r3,r4,r5,r6,r7,r8⟩⟩:=gT
     ·omega
     ·let cs:=(cb ks).map (Value.int .i64)
      have b6:cs.length=ks.length:=by simp[cs,cb]
      let m2:MT:=⟨gb,0,cur.size⟩
      have Hp:=Hx.Fc (o:=.cells cs h.size h.size 0) (fun _ _ _ _ hh=>by cases hh;rfl);have fo:(h.push (.cells cs h.size h.size 0)).get h.size=some (.cells cs h.size h.size 0):=by rw[ab.au,if_pos rfl]
      have ho:iV (kl μ h.size m2) (h.push (.cells cs h.size h.size 0)) base h.size m2 (.cells cs h.size h.size 0) (.cells cur t (0,0)):=by
       refine .cells rfl (by show 0+cs.length≤cur.size;omega) (fun _=>NB _) fun _ i v hv=>?_;have hi:=(List.getElem?_eq_some_iff.1 hv).1;have:cur.toList[i]? =some v:=by
        have h5:(cur.toList.take (ks.length*1))[i]? =some v:=by rw[r8];exact hv
        rw[List.getElem?_take]at h5
        rwa [if_pos om]at h5
       refine⟨v,by show cur[0+i]? =some v;rw[Nat.zero_add];simpa using this,?_⟩;obtain⟨n,_,rfl⟩:=List.mem_map.1 (List.mem_of_getElem? hv);exact .int _ _ _
      have Ht:=Hp.Bu (b:=h.size) (m:=m2) (by simp[ab.size_push]) fo H.fresh H.mA (by have:=H.low;show B≤gb;omega) r4
       (fun d md hd he=>by have:=H.lt hd;simp only[m2]at he;omega) (fun _ _ _ _ hh=>by cases hh;exact⟨rfl,Nat.le_refl _⟩) (fun _ _ _=>rfl) ho
      refine⟨_,kl μ h.size m2,rfl,?_,Ht,gr,fZ H.fresh,fun d md h0 hd=>?_,fun d hd _=>by rw[ab.au,if_neg om],by simp[ab.size_push]⟩
      ·have:=ar.slice (μ:=kl μ h.size m2) (b:=h.size) (o:=0) (z:=1) (len:=ks.length) (cap:=ks.length+1) (cap':=cap) (m:=m2) (bC _ _ _) om r5 (fun h=>by omega) (by show 0+0+cap*1≤cur.size;omega);simpa[m2]using this
      ·by_cases ed:d=h.size
       ·subst ed;rw[bC]at hd;cases hd;exact⟨Nat.le_refl _,H.mA,.inl r3⟩
       ·rw[ng _ _ ed,h0]at hd;cases hd
  ·cases hc
 ·cases hc
def L1 (l:List Nat) (gs:List (Nat×List Nat)):FuncId→List Value→ab→Option (Value×ab):=fun g args h=>match jx g l with
 |true=>(match args with|[]=>some (.bool true,h)|_=>none)
 |false=>match look gs g with
  |some lp=>rq lp args h
  |none=>none
theorem Kr {P:Program} {l:List Nat} {gs:List (Nat×List Nat)} (hl:∀g∈l,Gb P g) (hs:∀g lp,look gs g=some lp→∀k∈lp,jP P g k) (base B:Nat):ik P (eL P (L1 l gs)) base B:=by
 intro μ h w g args args' v h' hc hr H F n hF;have lT:L1 l gs g args h=some (v,h'):=hc;unfold L1 at lT;split at lT
 ·rename_i hg;split at lT
  ·exact SJ hl base B μ h w g [] args' v h' (by show Ph l g [] h=_;unfold Ph;rw[hg];exact lT) hr ⟨H.gS,H.high,H.obj,H.own,H.alias,H.dU,H.dp,H.low,H.mA,H.wf,H.root⟩ F n hF |>.mono fun e w' ⟨v',a7,h1,h2,h3⟩=>
    ⟨v',a7,h1,h2,⟨h3.rel.gS,h3.rel.high,h3.rel.obj,h3.rel.own,h3.rel.alias,h3.rel.dU,h3.rel.dp,h3.rel.low,h3.rel.mA,h3.rel.wf,h3.rel.root⟩,h3.grow,h3.le,h3.new,h3.HJ,h3.gB⟩
  ·cases lT
 ·split at lT
  ·rename_i lp hi;exact vL hF (IW (hs g lp hi) lT hr H)
  ·cases lT
section
variable {E:Env}
theorem Gc {ev:List MapEntry}:∀{ks:List Int},ev.map (·.key)=ks.map (.int .i64)→wP ev=some ks:=by
 induction ev with
 |nil=>intro ks h;cases ks with
  |nil=>rfl
  |cons _ _=>simp at h
 |cons e l ih=>intro ks h;cases ks with
  |nil=>simp at h
  |cons n ks=>
   simp only[List.map_cons,List.cons.injEq]at h;unfold wP;rw[h.1,ih h.2]
theorem iN (ks:List Int):(cb ks).length=ks.length:=by simp[cb]
def Gd (ks:List Int):TO→Prop
 | .map _ es=>es.map (·.1)=ks.map (.int .i64)
 | .fW _ es op=>op=[]∧es.map (·.1)=ks.map (.int .i64)
 |_=>False
theorem OR.keys {c:Nat} {ρ:Gh} {F:Nat→Prop} {h:ab} {base n:Nat} {S:Ft} {y:TO} {ks:List Int} (H:OR c ρ F h base n S y) (hk:Gd ks y):∃b ev clock,ρ n=some (.dw b)∧h.get b=some (.map ev clock)∧tt ev clock∧ev.map (·.key)=ks.map (.int .i64):=by
 cases H with
 |map hb hg hl hc bR=>
  rename_i kd es b clock ev;refine⟨_,_,_,hb,hg,bR,?_⟩;rw[←show es.map (·.1)=ks.map (.int .i64)from hk];refine List.ext_getElem? fun i=>?_;rw[List.getElem?_map,List.getElem?_map];cases he:es[i]? with
  |none=>
   have:es.length≤i:=by simpa using he
   rw[List.getElem?_eq_none om];rfl
  |some e=>
   have hi:=(List.getElem?_eq_some_iff.1 he).1;obtain⟨q1,_⟩:=hc i e ev[i] he (List.getElem?_eq_getElem om);rw[List.getElem?_eq_getElem om];simp[q1]
 |fW hb hg b6 hc bR=>
  obtain⟨rfl,hk⟩:=hk;refine⟨_,_,_,hb,hg,bR,?_⟩;rw[←hk];have key:∀{S:Ft} {kd:Nat} {l:List (Value×TV)} {m:List MapEntry},jh c ρ F h base kd S l m→m.map (·.key)=l.map (·.1):=by
   intro S kd l m hE
   induction hE with
   |nil=>rfl
   |cons h1 _ _ _ _ ih=>simp[h1,ih]
  exact key hc
 |_=>exact hk.elim
theorem VC.Ks {g:FuncId} {lp:List Nat} {k:FuncId} (hf:(E.func g).isSome=true) (ho:∀b a,E.rF b g a=fun h=>rq lp a h) (hk:jx k lp=true) {y:TO} {ks:List Int} (hy:Gd ks y) (fG:lW ks):
 VC E g 2 [.dc k [] [.ptr 1 0]] [(0,y),(1,.cells [.mp 0])] fun r o c=>r= .tk 2∧c=3∧
  o=[(2,.arr 1 true ((cb ks).map fun n=>[.s (.int .i64 n)])),(0,y),(1,.cells [.mp 0])]:=by
 intro base ρ F h S cq hN hM hO hA;obtain⟨fn,hf⟩:=Option.isSome_iff_exists.1 hf;obtain⟨v1,m1,rfl,h1,h2⟩:=hA.aO;obtain rfl:=h2.bG;obtain⟨_,hm⟩:=hM.ct (m:=0) rfl;obtain⟨_,hb⟩:=hM.ct (m:=1) rfl;obtain⟨b0,ev,clock,we,Y1,bR,kA⟩:=hm.keys hy;cases hb with
 |cells nh yc Ym oy=>
  rename_i b1 bd cs';have oy:=(oy.Uv (fun t v hv hf=>hv.dC hf) rfl).1;obtain⟨x1,l1,rfl,y1,y2⟩:=oy.aO;obtain rfl:=y2.bG;cases y1 with
  |mp Z4=>
   rw[we]at Z4;cases Z4;cases h1 with
   |dc iB ha1 mJ SL=>
    rename_i a kk;have ea:a= #[]:=Array.eq_empty_of_size_eq_zero (by simpa using iB.symm);subst ea;obtain⟨p',ec⟩:∃p',kk= #[p']:=by
     obtain⟨l⟩:=kk
     match l,mJ with
     |[x],_=>exact⟨x,rfl⟩
     |[],mJ=>simp at mJ
     |_::_::_,mJ=>simp at mJ
    subst ec;have hp:=SL 0 (.ptr 1 0) p' rfl rfl;cases hp with
    |ptr pX=>
     rw[nh]at pX;cases pX;have Bf:E.rF base g [.func (.func k) #[] #[.pointer (some ⟨b1,0,none⟩)]] h=some (wQ h ks):=by
      rw[congrFun (ho _ _) _];show bO (jx k lp) ((jQ h b1).bind fun mb=>(jR h mb).bind fun ks=>some (wQ h ks))=_;have Z5:jQ h b1=some (some b0):=by
       unfold jQ;rw[yc];simp[bO,Nat.ble_eq_true_of_le Ym]
      rw[hk,Z5];simp only[bO,Option.bind_some,jR,Y1,Gc kA,bR,fG,decide_true,Bool.and_self]
     have tL:∀r,E.rF base g [.func (.func k) #[] #[.pointer (some ⟨b1,0,none⟩)]] h=some r→iK E base 0 g [.func (.func k) #[] #[.pointer (some ⟨b1,0,none⟩)]] h=some r:=by
      intro r hr;unfold iK fY;rw[hf];simp only[Option.bind_some,hr]
     cases fT:ks with
     |nil=>
      subst fT;obtain⟨M,HC⟩:=hM.VX (z:=1) om;have e0:cb []=[]:=by simp[cb]
      refine⟨0,_,_,_,F,.tk 2,_,3,tL _ Bf,⟨rfl,rfl,rfl⟩,by rw[e0];exact M,?_⟩;exact .tk om rfl (fun b z len hx=>by rw[aP]at hx;cases hx) (fun z _=>.inl rfl)
     |cons e0 l0=>
      rw[←fT];have hlen:0<ks.length:=by rw[fT];simp
      have iE:wQ h ks=(.slice (some ⟨h.size,0,some 1⟩) ks.length (ks.length+1),h.push (.cells ((cb ks).map (.int .i64)) h.size h.size 0)):=by
       rw[fT];simp[wQ]
      rw[iE]at Bf;have hER:ER 2 ρ F h 1 ((cb ks).map fun n=>[.s (.int .i64 n)]) ((cb ks).map (Value.int .i64)):=by
       refine⟨by simp,by simp,by simp[fz,yC],fun i j e t v q1 q2 q3=>?_⟩;rw[List.getElem?_map]at q1;obtain⟨n,hn,rfl⟩:=Option.map_eq_some_iff.1 q1;have:j=0:=by
        have:=(List.getElem?_eq_some_iff.1 q2).1;simpa using this
       subst this;simp at q2;subst q2;rw[Nat.mul_one,Nat.add_zero,List.getElem?_map,hn]at q3;simp at q3;subst q3;exact .s rfl
      obtain⟨M,HC⟩:=hM.yK hER om;refine⟨0,_,_,_,F,.tk 2,_,3,tL _ Bf,⟨rfl,rfl,rfl⟩,M,?_⟩;refine .tk om rfl (fun b z len hx=>?_) (fun z hx=>by rw[aP]at hx;cases hx);rw[aP]at hx;cases hx;exact⟨ks.length+1,by simp[iN],by simp[iN]⟩
theorem VC.sorted {g:FuncId} {lp:List Nat} {k:FuncId} (hf:(E.func g).isSome=true) (ho:∀b a,E.rF b g a=fun h=>rq lp a h) (hk:jx k lp=true) {kd:Nat} {es:List (Int×TV)} (fG:lW (es.map (·.1))):
 VC E g 2 [.dc k [] [.ptr 1 0]] [(0,.map kd (es.map fun p=>(.int .i64 p.1,p.2))),(1,.cells [.mp 0])] fun r o c=>r= .tk 2∧c=3∧
  o=[(2,.arr 1 true ((cb (es.map (·.1))).map fun n=>[.s (.int .i64 n)])),(0,.map kd (es.map fun p=>(.int .i64 p.1,p.2))),(1,.cells [.mp 0])]:=
 VC.Ks hf ho hk (by simp[Gd,Function.comp_def]) fG
theorem VC.L2 {g:FuncId} {lp:List Nat} {k:FuncId} (hf:(E.func g).isSome=true) (ho:∀b a,E.rF b g a=fun h=>rq lp a h) (hk:jx k lp=true):
 VC E g 1 [.dc k [] [.ptr 0 0]] [(0,.cells [.s (.map none)])] fun r o c=>r= .sl 0 [] true∧c=1∧o=[(0,.cells [.s (.map none)])]:=by
 intro base ρ F h S cq hN hM hO hA;obtain⟨fn,hf⟩:=Option.isSome_iff_exists.1 hf;obtain⟨v1,m1,rfl,h1,h2⟩:=hA.aO;obtain rfl:=h2.bG;obtain⟨_,hb⟩:=hM.ct (m:=0) rfl;cases hb with
 |cells nh yc Ym oy=>
  rename_i b1 bd cs';have oy:=(oy.Uv (fun t v hv hf=>hv.dC hf) rfl).1;obtain⟨x1,l1,rfl,y1,y2⟩:=oy.aO;obtain rfl:=y2.bG;obtain rfl:=y1.dA.1;cases h1 with
  |dc iB ha1 mJ SL=>
   rename_i a kk;have ea:a= #[]:=Array.eq_empty_of_size_eq_zero (by simpa using iB.symm);subst ea;obtain⟨p',ec⟩:∃p',kk= #[p']:=by
    obtain⟨l⟩:=kk
    match l,mJ with
    |[x],_=>exact⟨x,rfl⟩
    |[],mJ=>simp at mJ
    |_::_::_,mJ=>simp at mJ
   subst ec;have hp:=SL 0 (.ptr 0 0) p' rfl rfl;cases hp with
   |ptr pX=>
    rw[nh]at pX;cases pX;have Bf:E.rF base g [.func (.func k) #[] #[.pointer (some ⟨b1,0,none⟩)]] h=some (.slice none 0 0,h):=by
     rw[congrFun (ho _ _) _];show bO (jx k lp) ((jQ h b1).bind fun mb=>(jR h mb).bind fun ks=>some (wQ h ks))=_;have Z5:jQ h b1=some none:=by
      unfold jQ;rw[yc];simp[bO,Nat.ble_eq_true_of_le Ym]
     rw[hk,Z5];rfl
    refine⟨0,.slice none 0 0,h,ρ,F,.sl 0 [] true,_,1,?_,⟨rfl,rfl,rfl⟩,hM,.nil rfl⟩;unfold iK fY;rw[hf];simp only[Option.bind_some,Bf]
end
end Go.M
namespace Go.M
open Go
theorem cS {b:Bool} {A B:Prop} (hA:b=true→A) (hB:b=false→B):(match(generalizing:=false) b with|true=>A|false=>B):=by
 cases b with
 |true=>exact hA rfl
 |false=>exact hB rfl
theorem cU {b:Bool} {A B:Prop} (hA:b=false→A) (hB:b=true→B):(match(generalizing:=false) !b with|true=>A|false=>B):=by
 cases b with
 |true=>exact hB rfl
 |false=>exact hA rfl
@[reducible] def RR (r0:TV) (c0:Nat) (o0:Ob):TV→Ob→Nat→Prop:=fun r o c=>r=r0∧c=c0∧o=o0
theorem ah {a b:Bool} (h:a=b):Value.bool a=Value.bool b:=congrArg _ h
theorem eT {α:Type} {enc:α→List TV} {l:List α} {n:Nat} {K:List TV→Prop} (h:n<l.length) (hK:K (enc l[n])):∃e,(0≤(n:Int)∧(l.map enc)[(n:Int).toNat]? =some e)∧K e:=
 ⟨enc l[n],⟨om,by simp[h]⟩,hK⟩
theorem Z6 {α:Type} {enc:α→List TV} {l:List α} {n:Int} {K:List TV→Prop} (h0:0≤n) (h:n.toNat<l.length) (hK:K (enc l[n.toNat])):∃e,(0≤n∧(l.map enc)[n.toNat]? =some e)∧K e:=
 ⟨enc l[n.toNat],⟨h0,by simp[h]⟩,hK⟩
theorem wrap_small (n:Nat) (h:n≤1099511627776):IntKind.i64.wrap ((n:Int)+1)=((n+1:Nat):Int):=by
 rw[IntWalk.i64_in _ om];rfl
theorem dZ {α:Type} {f:α→List TV} {l:List α} {i:Nat}:((i:Int)<(((l.map f).length:Nat):Int))↔i<l.length:=by simp
theorem flx:∀b:Bool,(!b||b)=true
 |true=>rfl
 |false=>rfl
theorem Lz.int {k:IntKind} {a b:Int} (h:a=b):Lz (Value.int k a) (Value.int k b):=.of (congrArg _ h)
theorem Lz.wrap {n:Nat} (h:n≤1099511627776):Lz (Value.int .i64 (IntKind.i64.wrap ((n:Int)+1))) (Value.int .i64 ((n+1:Nat):Int)):=.of (congrArg _ (wrap_small n h))
def Wq:List Nat:=[0,1,2,3,4,5,6,7,8,9,10,11,12,13,14,15,16,17,18,19,20,21,22,23,24,25,26,27,28,29,30,31,32,33,34,35,36,37,38,39,40]
def DQ (n:Nat) (K:Nat→Prop) (l:List Nat):Prop:=@List.rec Nat (fun _=>Prop) (K n) (fun k _ ih=>match Nat.beq n k with|true=>K k|false=>ih) l
theorem zz (n:Nat) (K:Nat→Prop):∀l,DQ n K l=K n
 |[]=>rfl
 |k::l=>by
  show(match Nat.beq n k with|true=>K k|false=>DQ n K l)=K n;cases h:Nat.beq n k with
  |true=>rw[beq_iff.1 h]
  |false=>exact zz n K l
def bj (n:Nat) (K:Nat→Prop):Prop:=DQ n K Wq
theorem dm (n:Nat):bj n=fun K=>K n:=by funext K;exact zz n K _
def kJ (v:TV) (K:TV→Prop):Prop:=match v with
 | .j=>K .j
 | .s v=>K (.s v)
 | .sl z es fl=>bj z fun z=>K (.sl z es fl)
 | .tk n=>bj n fun n=>K (.tk n)
 | .ptr n o=>bj n fun n=>bj o fun o=>K (.ptr n o)
 | .ep e o=>bj o fun o=>K (.ep e o)
 | .wp n i o=>bj n fun n=>bj o fun o=>K (.wp n i o)
 | .mp n=>bj n fun n=>K (.mp n)
 | .bg n len=>bj n fun n=>K (.bg n len)
 | .sv n i=>bj n fun n=>K (.sv n i)
 | .pv n k=>bj n fun n=>K (.pv n k)
 | .agg cs=>K (.agg cs)
 | .dk cs=>K (.dk cs)
 | .oB t v=>K (.oB t v)
 | .dc g a c=>K (.dc g a c)
 | .own y=>K (.own y)
theorem nZ (v:TV):kJ v=fun K=>K v:=by funext K;cases v<;>simp[kJ,dm]
def iF (F:TV→(TV→Prop)→Prop) (l:List TV):(List TV→Prop)→Prop:=@List.rec TV (fun _=>(List TV→Prop)→Prop) (fun K=>K []) (fun v _ ih K=>F v fun v=>ih fun l=>K (v::l)) l
theorem iO {F:TV→(TV→Prop)→Prop} (hF:∀v,F v=fun K=>K v):∀l,iF F l=fun K=>K l
 |[]=>rfl
 |v::l=>by
  have ih:=iO hF l
  funext K
  show F v (fun v=>iF F l fun l=>K (v::l))=K (v::l);rw[hF,ih]
def qo (v:TV) (K:TV→Prop):Prop:=match v with
 | .j=>K .j
 | .s v=>K (.s v)
 | .sl z es fl=>bj z fun z=>K (.sl z es fl)
 | .tk n=>bj n fun n=>K (.tk n)
 | .ptr n o=>bj n fun n=>bj o fun o=>K (.ptr n o)
 | .ep e o=>bj o fun o=>K (.ep e o)
 | .wp n i o=>bj n fun n=>bj o fun o=>K (.wp n i o)
 | .mp n=>bj n fun n=>K (.mp n)
 | .bg n len=>bj n fun n=>K (.bg n len)
 | .sv n i=>bj n fun n=>K (.sv n i)
 | .pv n k=>bj n fun n=>K (.pv n k)
 | .agg cs=>iF kJ cs fun cs=>K (.agg cs)
 | .dk cs=>K (.dk cs)
 | .oB t v=>K (.oB t v)
 | .dc g a c=>iF kJ a fun a=>iF kJ c fun c=>K (.dc g a c)
 | .own y=>K (.own y)
theorem rr (v:TV):qo v=fun K=>K v:=by funext K;cases v<;>simp[qo,dm,iO nZ]
def lX (v:TV) (K:TV→Prop):Prop:=match v with
 | .j=>K .j
 | .s v=>K (.s v)
 | .sl z es fl=>bj z fun z=>K (.sl z es fl)
 | .tk n=>bj n fun n=>K (.tk n)
 | .ptr n o=>bj n fun n=>bj o fun o=>K (.ptr n o)
 | .ep e o=>bj o fun o=>K (.ep e o)
 | .wp n i o=>bj n fun n=>bj o fun o=>K (.wp n i o)
 | .mp n=>bj n fun n=>K (.mp n)
 | .bg n len=>bj n fun n=>K (.bg n len)
 | .sv n i=>bj n fun n=>K (.sv n i)
 | .pv n k=>bj n fun n=>K (.pv n k)
 | .agg cs=>iF kJ cs fun cs=>K (.agg cs)
 | .dk cs=>iF qo cs fun cs=>K (.dk cs)
 | .oB t v=>qo v fun v=>K (.oB t v)
 | .dc g a c=>iF kJ a fun a=>iF kJ c fun c=>K (.dc g a c)
 | .own y=>K (.own y)
theorem L3 (v:TV):lX v=fun K=>K v:=by funext K;cases v<;>simp[lX,dm,iO nZ,iO rr,rr]
def IX (q:List (Nat×List TV)):(List (Nat×List TV)→Prop)→Prop:=@List.rec (Nat×List TV) (fun _=>(List (Nat×List TV)→Prop)→Prop) (fun K=>K []) (fun p _ ih K=>iF kJ p.2 fun x=>ih fun l=>K ((p.1,x)::l)) q
theorem B5:∀q,IX q=fun K=>K q
 |[]=>rfl
 |p::q=>by
  have ih:=B5 q
  funext K
  show iF kJ p.2 (fun x=>IX q fun l=>K ((p.1,x)::l))=K (p::q);rw[iO nZ,ih]
def DR (q:List (Value×TV)):(List (Value×TV)→Prop)→Prop:=@List.rec (Value×TV) (fun _=>(List (Value×TV)→Prop)→Prop) (fun K=>K []) (fun p _ ih K=>qo p.2 fun x=>ih fun l=>K ((p.1,x)::l)) q
theorem vM:∀q,DR q=fun K=>K q
 |[]=>rfl
 |p::q=>by
  have ih:=vM q
  funext K
  show qo p.2 (fun x=>DR q fun l=>K ((p.1,x)::l))=K (p::q);rw[rr,ih]
def qq (x:TO) (K:TO→Prop):Prop:=match x with
 | .cells cs=>iF kJ cs fun cs=>K (.cells cs)
 | .map kd es=>bj kd fun kd=>K (.map kd es)
 | .arr z w es=>bj z fun z=>match w with|true=>K (.arr z true es)|false=>K (.arr z false es)
 | .bB z es op=>bj z fun z=>IX op fun op=>K (.bB z es op)
 | .fW kd es op=>bj kd fun kd=>DR op fun op=>K (.fW kd es op)
 | .eQ ks=>K (.eQ ks)
theorem L4 (x:TO):qq x=fun K=>K x:=by
 funext K
 cases x with
 |cells cs=>simp[qq,iO nZ]
 |map kd es=>simp[qq,dm]
 |arr z w es=>cases w<;>simp[qq,dm]
 |bB z es op=>simp[qq,dm,B5]
 |fW kd es op=>simp[qq,dm,vM]
 |eQ ks=>rfl
def o7 (o:Ob):(Ob→Prop)→Prop:=@List.rec (Nat×TO) (fun _=>(Ob→Prop)→Prop) (fun K=>K []) (fun p _ ih K=>bj p.1 fun n=>qq p.2 fun x=>ih fun l=>K ((n,x)::l)) o
theorem vN:∀o,o7 o=fun K=>K o
 |[]=>rfl
 |p::o=>by
  have ih:=vN o
  funext K
  show bj p.1 (fun n=>qq p.2 fun x=>o7 o fun l=>K ((n,x)::l))=K (p::o);rw[dm,L4,ih]
def DS (q:List (Nat×List TV)):(List (Nat×List TV)→Prop)→Prop:=@List.rec (Nat×List TV) (fun _=>(List (Nat×List TV)→Prop)→Prop) (fun K=>K []) (fun p _ ih K=>bj p.1 fun k=>iF qo p.2 fun x=>ih fun l=>K ((k,x)::l)) q
theorem zA:∀q,DS q=fun K=>K q
 |[]=>rfl
 |p::q=>by
  have ih:=zA q
  funext K
  show bj p.1 (fun k=>iF qo p.2 fun x=>DS q fun l=>K ((k,x)::l))=K (p::q);rw[dm,iO rr,ih]
def mX (x:TO) (K:TO→Prop):Prop:=match x with
 | .cells cs=>iF kJ cs fun cs=>K (.cells cs)
 | .map kd es=>bj kd fun kd=>K (.map kd es)
 | .arr z w es=>bj z fun z=>match w with|true=>K (.arr z true es)|false=>K (.arr z false es)
 | .bB z es op=>bj z fun z=>DS op fun op=>K (.bB z es op)
 | .fW kd es op=>bj kd fun kd=>DR op fun op=>K (.fW kd es op)
 | .eQ ks=>K (.eQ ks)
theorem IY (x:TO):mX x=fun K=>K x:=by
 funext K
 cases x with
 |cells cs=>simp[mX,iO nZ]
 |map kd es=>simp[mX,dm]
 |arr z w es=>cases w<;>simp[mX,dm]
 |bB z es op=>simp[mX,dm,zA]
 |fW kd es op=>simp[mX,dm,vM]
 |eQ ks=>rfl
def Pn (o:Ob):(Ob→Prop)→Prop:=@List.rec (Nat×TO) (fun _=>(Ob→Prop)→Prop) (fun K=>K []) (fun p l _ K=>bj p.1 fun n=>mX p.2 fun x=>o7 l fun l=>K ((n,x)::l)) o
theorem L5:∀o,Pn o=fun K=>K o
 |[]=>rfl
 |p::o=>by
  funext K
  show bj p.1 (fun n=>mX p.2 fun x=>o7 o fun l=>K ((n,x)::l))=K (p::o);rw[dm,IY,vN]
def strict (l:VL) (v:TV) (o:Ob) (c:Nat) (K:TV→Ob→Nat→Prop):Prop:=match l with
 | .pure=>lX v fun v=>K v o c
 | .alloc=>lX v fun v=>Pn o fun o=>bj c fun c=>K v o c
 | .JV=>lX v fun v=>K v o c
 | .mC _=>lX v fun v=>o7 o fun o=>bj c fun c=>K v o c
 | .A4 _ _ _=>lX v fun v=>o7 o fun o=>bj c fun c=>K v o c
 | .dE _=>lX v fun v=>o7 o fun o=>bj c fun c=>K v o c
 | .pG _=>lX v fun v=>o7 o fun o=>bj c fun c=>K v o c
 | .pH=>lX v fun v=>o7 o fun o=>bj c fun c=>K v o c
 | .bad=>lX v fun v=>K v o c
theorem B6 (l:VL) (v:TV) (o:Ob) (c:Nat):strict l v o c=fun K=>K v o c:=by
 funext K;cases l<;>simp[strict,L3,vN,L5,dm]
def zB (E:Env) (vc:Ni) (n:Nat) (ops:List Oper) (l:List Oper):Fr→Ob→Nat→RK→Prop:=
 @List.rec Oper (fun _=>Fr→Ob→Nat→RK→Prop) (fun f o c K=>K f o c)
  (fun p _ ih f o c K=>qg ops p f
   (Uu E vc p.op f o c fun v o' c' l=>strict l v o' c' fun v o' c'=>tU p.dst n v f fun f'=>ih f' o' c' K)
   (tU p.dst n (.dk []) f fun f'=>ih f' o c K)) l
theorem Po (E:Env) (vc:Ni) (n:Nat) (ops:List Oper):∀(l:List Oper) f o c K,zB E vc n ops l f o c K=Fp E vc n ops l f o c K:=by
 intro l
 induction l with
 |nil=>intro f o c K;rfl
 |cons p rest ih=>
  intro f o c K;have e:(fun f' o' c' (K:RK)=>zB E vc n ops rest f' o' c' K)=fun f' o' c' K=>Fp E vc n ops rest f' o' c' K:=by funext a b d e;exact ih a b d e
  show qg ops p f (Uu E vc p.op f o c fun v o' c' l=>strict l v o' c' fun v o' c'=>tU p.dst n v f fun f'=>(fun f' o' c' (K:RK)=>zB E vc n ops rest f' o' c' K) f' o' c' K) (tU p.dst n (.dk []) f fun f'=>(fun f' o' c' (K:RK)=>zB E vc n ops rest f' o' c' K) f' o c K)=_;rw[e];simp only[B6];rfl
def sO (E:Env) (vc:Ni) (n:Nat) (ops:List Oper) (l:List Oper):Fr→Ob→Nat→List VN→(List VN→RK)→Prop:=
 @List.rec Oper (fun _=>Fr→Ob→Nat→List VN→(List VN→RK)→Prop) (fun f o c lg K=>K lg f o c)
  (fun p _ ih f o c lg K=>qg ops p f
   (Uu E vc p.op f o c fun v o' c' l=>strict l v o' c' fun v o' c'=>tU p.dst n v f fun f'=>ih f' o' c' (lg++[(l,o)]) K)
   (tU p.dst n (.dk []) f fun f'=>ih f' o c (lg++[(.pure,o)]) K)) l
theorem L7 (E:Env) (vc:Ni) (n:Nat) (ops:List Oper):∀(l:List Oper) f o c lg K,sO E vc n ops l f o c lg K=tV E vc n ops l f o c lg K:=by
 intro l
 induction l with
 |nil=>intro f o c lg K;rfl
 |cons p rest ih=>
  intro f o c lg K;have e:(fun f' o' c' lg (K:List VN→RK)=>sO E vc n ops rest f' o' c' lg K)=fun f' o' c' lg K=>tV E vc n ops rest f' o' c' lg K:=by funext a b d g e;exact ih a b d g e
  show qg ops p f (Uu E vc p.op f o c fun v o' c' l=>strict l v o' c' fun v o' c'=>tU p.dst n v f fun f'=>(fun f' o' c' lg (K:List VN→RK)=>sO E vc n ops rest f' o' c' lg K) f' o' c' (lg++[(l,o)]) K) (tU p.dst n (.dk []) f fun f'=>(fun f' o' c' lg (K:List VN→RK)=>sO E vc n ops rest f' o' c' lg K) f' o c (lg++[(.pure,o)]) K)=_;rw[e];simp only[B6];rfl
structure B7 (b:Bool) (K:Prop):Prop where
 ok:b=true
 go:K
theorem Pp (b:Bool) (K:Prop):B7 b K=(match(generalizing:=false) b with|true=>K|false=>False):=by
 cases b with
 |true=>exact propext ⟨fun h=>h.go,fun h=>⟨rfl,h⟩⟩
 |false=>exact propext (Iff.intro (fun h=>by cases h.ok) (fun h=>False.elim h))
abbrev WP:=Fr→Ob→Nat→CK→Prop
def EK (E:Env) (vc:Ni) (n c0:Nat) (dF:List Nat) (code:Code):WP:=
 @Code.rec (fun _=>WP)
  (fun f o c Q=>Q .normal f o c)
  (fun _ ops draw f o c Q=>(match draw with
  |false=>zB E vc n ops.toList ops.toList f o c fun f' o' c'=>Q .normal f' o' c'
  |true=>B7 (nI ops.toList&&kE n ops.toList) (sO E vc n ops.toList ops.toList f o c [] fun lg f' o' c'=>B7 (gd (dq ops.toList []) o' 0 lg) (Q .normal f' o' c'))))
  (fun _ _ ZL ZM f o c Q=>ZL f o c fun ex f' o' c'=>(match ex with
  | .normal=>ZM f' o' c' Q
  | .exit id=>Q (.exit id) f' o' c'
  | .ret=>Q .ret f' o' c'))
  (fun q _ _ ZN ZO f o c Q=>(match sH E q with
  |false=>False
  |true=>(match np E f q with
   | .s (.bool b)=>(match b with
    |true=>ZN f o c Q
    |false=>ZO f o c Q)
   |_=>False)))
  (fun id _ ih f o c Q=>(match jx id dF with
  |false=>ih f o c fun ex f' o' c'=>(match ex with
   | .exit pj=>(match Nat.beq pj id with
    |true=>Q .normal f' o' c'
    |false=>Q (.exit pj) f' o' c')
   | .normal=>Q .normal f' o' c'
   | .ret=>Q .ret f' o' c')
  |true=>∃Nj:RK,(ih f o c fun ex f' o' c'=>(match ex with
   | .exit pj=>(match Nat.beq pj id with
    |true=>jJ c0 f' o' c' Nj
    |false=>Q (.exit pj) f' o' c')
   | .normal=>jJ c0 f' o' c' Nj
   | .ret=>Q .ret f' o' c'))∧∀f' o' c',Nj f' o' c'→Q .normal f' o' c'))
  (fun _ ih f o c Q=>(match jx 999999 dF with
  |false=>∃Inv:Nat→Fr→Ob→Nat→Prop,(∃k,jJ c0 f o c (Inv k))∧
   ∀k f1 o1 c1,Inv k f1 o1 c1→ih f1 o1 c1 fun ex f' o' c'=>(match ex with
    | .normal=>∃k',jJ c0 f' o' c' (Inv k')∧k'<k
    | .exit id=>Q (.exit id) f' o' c'
    | .ret=>Q .ret f' o' c')
  |true=>BA (fun f o c Q=>ih f o c Q) 64 f o c Q))
  (fun _ _ _ _ _ _ _ _ _ _=>False)
  (fun id f o c Q=>Q (.exit id) f o c)
  (fun _ _ _ _ _ _=>False)
  (fun _ _ _ _ _=>False)
  (fun _ _ _ _ _=>False)
  (fun f o c Q=>Q .ret f o c)
  (fun _ _ _ _ _=>False) code
theorem Pq (E:Env) (vc:Ni) (n c0:Nat) (dF:List Nat):∀(code:Code) f o c Q,EK E vc n c0 dF code f o c Q=wp E vc n c0 dF code f o c Q:=by
 intro code
 induction code with
 |region id ops draw=>
  intro f o c Q;have e1:(fun K=>zB E vc n ops.toList ops.toList f o c K)=fun K=>Fp E vc n ops.toList ops.toList f o c K:=by funext K;exact Po ..
  have e2:(fun lg K=>sO E vc n ops.toList ops.toList f o c lg K)=fun lg K=>tV E vc n ops.toList ops.toList f o c lg K:=by funext lg K;exact L7 ..
  show(match draw with
  |false=>(fun K=>zB E vc n ops.toList ops.toList f o c K) fun f' o' c'=>Q .normal f' o' c'
  |true=>B7 (nI ops.toList&&kE n ops.toList) ((fun lg K=>sO E vc n ops.toList ops.toList f o c lg K) [] fun lg f' o' c'=>B7 (gd (dq ops.toList []) o' 0 lg) (Q .normal f' o' c')))=_
  rw[e1,e2];simp only[Pp];cases draw<;>rfl
 |seq a b ZL ZM=>
  intro f o c Q;have e1:(fun f o c Q=>EK E vc n c0 dF a f o c Q)=fun f o c Q=>wp E vc n c0 dF a f o c Q:=by funext f o c Q;exact ZL ..
  have e2:(fun f o c Q=>EK E vc n c0 dF b f o c Q)=fun f o c Q=>wp E vc n c0 dF b f o c Q:=by funext f o c Q;exact ZM ..
  show((fun f o c Q=>EK E vc n c0 dF a f o c Q) f o c fun ex f' o' c'=>(match ex with
  | .normal=>(fun f o c Q=>EK E vc n c0 dF b f o c Q) f' o' c' Q
  | .exit id=>Q (.exit id) f' o' c'
  | .ret=>Q .ret f' o' c'))=_
  rw[e1,e2];rfl
 |cond q t e ZN ZO=>
  intro f o c Q;have e1:(fun f o c Q=>EK E vc n c0 dF t f o c Q)=fun f o c Q=>wp E vc n c0 dF t f o c Q:=by funext f o c Q;exact ZN ..
  have e2:(fun f o c Q=>EK E vc n c0 dF e f o c Q)=fun f o c Q=>wp E vc n c0 dF e f o c Q:=by funext f o c Q;exact ZO ..
  show(match sH E q with
  |false=>False
  |true=>(match np E f q with
   | .s (.bool b)=>(match b with
    |true=>(fun f o c Q=>EK E vc n c0 dF t f o c Q) f o c Q
    |false=>(fun f o c Q=>EK E vc n c0 dF e f o c Q) f o c Q)
   |_=>False))=_
  rw[e1,e2];rfl
 |block id b ih=>
  intro f o c Q;have e1:(fun f o c Q=>EK E vc n c0 dF b f o c Q)=fun f o c Q=>wp E vc n c0 dF b f o c Q:=by funext f o c Q;exact ih ..
  show(match jx id dF with
  |false=>(fun f o c Q=>EK E vc n c0 dF b f o c Q) f o c fun ex f' o' c'=>(match ex with
   | .exit pj=>(match Nat.beq pj id with
    |true=>Q .normal f' o' c'
    |false=>Q (.exit pj) f' o' c')
   | .normal=>Q .normal f' o' c'
   | .ret=>Q .ret f' o' c')
  |true=>∃Nj:RK,((fun f o c Q=>EK E vc n c0 dF b f o c Q) f o c fun ex f' o' c'=>(match ex with
   | .exit pj=>(match Nat.beq pj id with
    |true=>jJ c0 f' o' c' Nj
    |false=>Q (.exit pj) f' o' c')
   | .normal=>jJ c0 f' o' c' Nj
   | .ret=>Q .ret f' o' c'))∧∀f' o' c',Nj f' o' c'→Q .normal f' o' c')=_
  rw[e1];rfl
 |loop b ih=>
  intro f o c Q;have e1:(fun f o c Q=>EK E vc n c0 dF b f o c Q)=fun f o c Q=>wp E vc n c0 dF b f o c Q:=by funext f o c Q;exact ih ..
  show(match jx 999999 dF with
  |false=>∃Inv:Nat→Fr→Ob→Nat→Prop,(∃k,jJ c0 f o c (Inv k))∧
   ∀k f1 o1 c1,Inv k f1 o1 c1→(fun f o c Q=>EK E vc n c0 dF b f o c Q) f1 o1 c1 fun ex f' o' c'=>(match ex with
    | .normal=>∃k',jJ c0 f' o' c' (Inv k')∧k'<k
    | .exit id=>Q (.exit id) f' o' c'
    | .ret=>Q .ret f' o' c')
  |true=>BA (fun f o c Q=>EK E vc n c0 dF b f o c Q) 64 f o c Q)=_
  rw[e1];rfl
 |_=>intros;rfl
theorem VC.cV {E T:Env} (L:cD T E) {g:FuncId} {fn:Func} {code:Code} {c0:Nat} {args:List TV} {o0:Ob} {R:TV→Ob→Nat→Prop} (hf:E.func g=some fn) (ho:∀b a,E.rF b g a=fun _=>none) (hb:fn.body=some code) (hlen:Nat.ble args.length fn.ntmps=true)
 (dF:List Nat) (hw:EK T (VC E) fn.ntmps c0 dF code (rT 0 args) o0 c0 (Lm T c0 fn.results.toList R)):VC E g c0 args o0 R:=
 VC.enter L hf ho hb hlen dF (by rw[←Pq];exact hw)
theorem VC.SM {E T:Env} (L:cD T E) {g:FuncId} {fn:Func} {code:Code} {c0:Nat} {args:List TV} {o0:Ob} {R:TV→Ob→Nat→Prop} (hf:E.func g=some fn)
 (ho:∀base ρ F h S cq,Mem (Iu base ρ F o0 c0 h S) ρ F o0 c0 h→dP c0 ρ F h args cq→E.rF base g cq h=none) (hb:fn.body=some code) (hlen:Nat.ble args.length fn.ntmps=true)
 (dF:List Nat) (hw:EK T (VC E) fn.ntmps c0 dF code (rT 0 args) o0 c0 (Lm T c0 fn.results.toList R)):VC E g c0 args o0 R:=
 VC.OY L hf ho hb hlen dF (by rw[←Pq];exact hw)
theorem D1 {b:Bool} {K:Prop} (k:K) (h:b=true:=by kernel_rfl):B7 b K:=⟨h,k⟩
theorem LF {p:Prop} (h:p:=by first|with_reducible exact Lz.rfl|exact Lw.rfl|exact Lz.wrap om|(unfold goInt;with_reducible exact Lz.rfl)|exact flx _):p:=h
theorem cR {r0:TV} {c0:Nat} {o0:Ob} {Q:TV→Ob→Nat→Prop} (h:Q r0 o0 c0):∀r o c,RR r0 c0 o0 r o c→Q r o c:=by
 rintro r o c ⟨rfl,rfl,rfl⟩;exact h
theorem t3 {a b c:Prop} (h1:a:=by(repeat' first|with_reducible exact Lz.rfl|exact Lw.rfl|exact Lz.wrap om|(unfold goInt;with_reducible exact Lz.rfl)|exact flx _|constructor)) (h2:b:=by(repeat' first|with_reducible exact Lz.rfl|exact Lw.rfl|exact Lz.wrap om|(unfold goInt;with_reducible exact Lz.rfl)|exact flx _|constructor)) (h3:c:=by rfl):a∧b∧c:=⟨h1,h2,h3⟩
end Go.M
namespace Go.M
open Go Go.Proofs
theorem Rc:IntKind.i64.wrap (0+1)=1:=rfl
theorem Re:IntKind.i64.wrap (1+1)=2:=rfl
theorem Rf:IntKind.i64.wrap (2+1)=3:=rfl
theorem Rg:IntKind.i64.wrap (3+1)=4:=rfl
theorem Rh:IntKind.i64.wrap (4+1)=5:=rfl
theorem Ri:IntKind.i64.wrap (5+1)=6:=rfl
theorem Rj:IntKind.i64.wrap (6+1)=7:=rfl
theorem Rk:IntKind.i64.wrap (7+1)=8:=rfl
theorem Rl:IntKind.i64.wrap (8+1)=9:=rfl
theorem Rm:IntKind.i64.wrap (9+1)=10:=rfl
theorem Rn:IntKind.i64.wrap (10+1)=11:=rfl
theorem Ro:IntKind.i64.wrap (11+1)=12:=rfl
theorem Rp:IntKind.i64.wrap (12+1)=13:=rfl
theorem Rq:IntKind.i64.wrap (13+1)=14:=rfl
theorem Rr:IntKind.i64.wrap (14+1)=15:=rfl
theorem rn {p q:Prop} (k:q) (h:q→p:=by(intro hq;(repeat(first|(refine⟨by first|decide+kernel|(dsimp only;decide+kernel),?_⟩;have bm:=True.intro;clear bm;((conv=>whnf)<;>repeat(with_reducible refine D1 ?_)<;>conv=>whnf))|(refine⟨_,rfl,?_⟩;have bm:=True.intro;clear bm;((conv=>whnf)<;>repeat(with_reducible refine D1 ?_)<;>conv=>whnf))|((try(first|rw[Rc]|rw[Re]|rw[Rf]|rw[Rg]|rw[Rh]|rw[Ri]|rw[Rj]|rw[Rk]|rw[Rl]|rw[Rm]|rw[Rn]|rw[Ro]|rw[Rp]|rw[Rq]|rw[Rr]));first|(refine⟨fun h_=>?_,fun h_=>absurd (by first|decide+kernel|rfl |(dsimp only;decide+kernel)) h_⟩;clear h_;((conv=>whnf)<;>repeat(with_reducible refine D1 ?_)<;>conv=>whnf))|(refine⟨fun h_=>absurd h_ (by first|decide+kernel|(dsimp only;decide+kernel)),fun h_=>?_⟩;clear h_;((conv=>whnf)<;>repeat(with_reducible refine D1 ?_)<;>conv=>whnf)))));exact hq)):p:=h k
theorem wh {p q:Prop} (k:q) (h:q→p:=by(intro hq;((conv=>whnf)<;>repeat(with_reducible refine D1 ?_)<;>conv=>whnf);exact hq)):p:=h k
theorem sp {p a b:Prop} (ha:a) (hb:b) (h:a→b→p:=by(intro x y;first|exact⟨x,y⟩|exact cU x y|exact cS x y)):p:=h ha hb
theorem tq {p:Prop} (h:p:=by(repeat' first|exact LF|constructor)):p:=h
theorem cw {r0:TV} {c0:Nat} {o0:Ob} {Q:TV→Ob→Nat→Prop} {q:Prop} (k:q) (h:q→Q r0 o0 c0:=by(intro hq;((conv=>whnf)<;>repeat(with_reducible refine D1 ?_)<;>conv=>whnf);exact hq)):∀r o c,RR r0 c0 o0 r o c→Q r o c:=cR (h k)
theorem en {E T:Env} (L:cD T E) (fn:Func) {g:FuncId} {c0:Nat} {args:List TV} {o0:Ob} {R:TV→Ob→Nat→Prop} {code:Code} {q:Prop} (k:q) (hf:E.func g=some fn:=by kernel_rfl) (ho:∀b a,E.rF b g a=fun _=>none:=by exact fun _ _=>rfl) (hb:fn.body=some code:=by rfl) (hlen:Nat.ble args.length fn.ntmps=true:=by rfl)
 (hw:q→EK T (VC E) fn.ntmps c0 [] code (rT 0 args) o0 c0 (Lm T c0 fn.results.toList R):=by(intro hq;((conv=>whnf)<;>repeat(with_reducible refine D1 ?_)<;>conv=>whnf);exact hq)):VC E g c0 args o0 R:=VC.cV L hf ho hb hlen [] (hw k)
theorem tx {a b c q:Prop} (k:q) (h1:q→a:=by(intro hq;repeat' first|(clear hq;exact LF)|constructor|exact hq)) (h2:q→b:=by(intro hq;repeat' first|(clear hq;exact LF)|constructor|exact hq)) (h3:c:=by rfl):a∧b∧c:=⟨h1 k,h2 k,h3⟩
end Go.M
namespace Go.M
open Go Go.RowKit
def Pr (P:Program) (g:FuncId) (pre:List Value) (val:List Int→Value) (ok:List Int→Prop):Prop:=
 ∀(W:World) (l:List Int) (r o cap:Nat) (c:Array Value) (e:TypeId) (fr:Nat×Nat),
  W.heap[r]? =some (.cells c e fr)→l.length≤cap→o+cap≤c.size→(∀(i:Nat) (x:Int),l[i]? =some x→c[o+i]? =some (.int .i64 x))→ok l→
  Calls P g (List.toArray (pre++[Value.slice (some ⟨r,o,none⟩) l.length cap])) W fun en W'=>en= .returned (val l)∧Below W.heap.size W W'
theorem qs {μ:bx}:∀{l:List Value},(∀v∈l,aB v=true)→aA μ l l
 |[],_=>.nil
 |v::_,h=>.cons (.lit (h v List.mem_cons_self)) (qs fun u hu=>h u (List.mem_cons_of_mem _ hu))
theorem B8 {μ:bx}:∀{a a' b b':List Value},aA μ a a'→aA μ b b'→aA μ (a++b) (a'++b')
 |_,_,_,_,.nil,h=>h
 |_,_,_,_,.cons h1 h2,h=>.cons h1 (B8 h2 h)
theorem B9 {c:Nat} {ρ:Gh} {F:Nat→Prop} {h:ab} {t:TV} {v:Value} (hl:VR c ρ F h t v):∀{l:List Value},(∀v∈l,aB v=true)→dP c ρ F h (l.map .s++[t]) (l++[v])
 |[],_=>.cons hl .nil
 |v::_,hp=>.cons (.s (hp v List.mem_cons_self)) (B9 hl fun u hu=>hp u (List.mem_cons_of_mem _ hu))
theorem Ca {P:Program} {E:Env} {g:FuncId} (hE:bF P E) (hO:∀base B,ik P E base B) (hm:P.follows .mixedOrders=true) (hg:∀g,E.dp g=false) {pre:List Value} (Ge:∀v∈pre,aB v=true) {val:List Int→Value} {ok:List Int→Prop}
 (SN:∀l,ok l→scalar (val l)=true) (hV:∀l,ok l→VC E g 0 (pre.map .s++[.sl 1 (l.map fun n=>[.s (.int .i64 n)]) false]) [] fun r _ _=>r= .s (val l)):Pr P g pre val ok:=by
 intro W l r o cap c e fr hr fK gB hc fG;have b6:∀(i:Nat) v,(l.map (Value.int .i64))[i]? =some v→c[o+i]? =some v:=fun i v hi=>by
  rw[List.getElem?_map,Option.map_eq_some_iff]at hi;obtain⟨x,hx,rfl⟩:=hi;exact hc i x hx
 obtain⟨A,_⟩:=(ar0 W).push (vs:=l.map (Value.int .i64)) (cs:=l.map (Value.int .i64)) (qs (by simp[aB])) hr (by simp;omega) b6;generalize tC:(fun b=>if b=rP.size then some (⟨r,o,c.size⟩:MT)else Ib b)=μ at A;generalize hh:rP.push (.cells (l.map (Value.int .i64)) rP.size (rP.size+1) 0)=h at A;have fo:h.get 0=some (.cells (l.map (Value.int .i64)) 0 1 0):=by rw[←hh,ab.au];rfl
 have xk:h.size=1:=by rw[←hh];rfl
 have adi:μ 0=some ⟨r,o,c.size⟩:=by rw[←tC];rfl
 have pJ:VR 0 xM (· <h.size) h (.sl 1 (l.map fun n=>[.s (.int .i64 n)]) false) (.slice (some ⟨0,0,some 1⟩) l.length cap):=by
  refine .sl om (A.rd fo) om (by simp) fK (by simp) (by simp) (by simp) (by simp[fz,yC]) fun i j e t v q1 q2 q3=>?_;rw[List.getElem?_map]at q1;obtain⟨n,hn,rfl⟩:=Option.map_eq_some_iff.1 q1;have:j=0:=by
   have:=(List.getElem?_eq_some_iff.1 q2).1;simpa using this
  subst this;simp at q2;subst q2;rw[Nat.mul_one,Nat.add_zero,Nat.zero_add,List.getElem?_map,hn]at q3;simp at q3;subst q3;exact .s rfl
 obtain⟨n,v,h',ρ',F',r',o',c',h1,rfl,h3,h4⟩:=hV l fG h.size xM _ h _ _ (fun g cs hx=>by have:=hg g;simp[Env.dp,hx]at this) A.mem (AR.mo) (B9 pJ Ge);obtain⟨rfl,_⟩:=h4.dA;have x:aA μ (pre++[.slice (some ⟨0,0,some 1⟩) l.length cap]) (pre++[Value.slice (some ⟨r,o,none⟩) l.length cap]):=by
  refine B8 (qs Ge) (.cons ?_ .nil);have:=ar.slice (b:=0) (o:=0) (z:=1) (len:=l.length) (cap:=cap) (cap':=cap) adi fK fK (fun h=>h) (by show o+0+cap*1≤c.size;omega);simpa using this
 have:=yz hE (hO h.size W.heap.size) hm n μ h W g _ (List.toArray (pre++[Value.slice (some ⟨r,o,none⟩) l.length cap])) _ h' h1 (by simpa using x) (A.sk hg) Fence.wide 0 hZ.wide;refine(callsIn_wide.1 (this.mono ?_));rintro e W' ⟨v',a7,rfl,hv,S⟩;have e:=hv.ay (SN l fG);subst e;exact⟨rfl,S.grow.os,S.grow.tape,S.grow.output,S.grow.size,fun k hk=>S.grow.bA k hk fun b m hb _=>A.gS b m hb⟩
theorem rX {v:Value} (h:scalar v=true):aB v=true:=by
 cases v<;>simp_all[scalar,aB]
theorem zC {μ:bx}:∀{a b:List Value} {x:Value},(∀v∈a,scalar v=true)→aA μ (a++[x]) b→∃x',b=a++[x']∧ar μ x x'
 |[],b,x,_,h=>by
  cases h with
  |cons h1 h2=>cases h2;exact⟨_,rfl,h1⟩
 |v::a,b,x,hs,h=>by
  cases h with
  |cons h1 h2=>
   obtain⟨x',rfl,h3⟩:=zC (fun u hu=>hs u (List.mem_cons_of_mem _ hu)) h2;obtain rfl:=h1.ay (hs v List.mem_cons_self);exact⟨x',rfl,h3⟩
def Gf (val:List Value→List Int→Option Value) (args:List Value) (h:ab):Option (Value×ab):=match args.reverse with
 | .slice (some ⟨b,0,some 1⟩) len cap::rp=>(match h.get b with
  |some (.eQ cs)=>bO (Nat.beq len cs.length&&Nat.ble len cap&&Nat.blt 0 len&&rp.all scalar) ((val rp.reverse cs).bind fun v=>some (v,h))
  |_=>none)
 |_=>none
def Kt (P:Program) (g:FuncId) (val:List Value→List Int→Option Value):Prop:=
 ∀pre cs v,(∀u∈pre,scalar u=true)→val pre cs=some v→scalar v=true∧∀l:List Int,l.Perm cs→∃vf ok,Pr P g pre vf ok∧ok l∧vf l=v
theorem SO {P:Program} {E:Env} {base B:Nat} {g:FuncId} {val:List Value→List Int→Option Value} (hB:Kt P g val) {μ:bx} {h h':ab} {w:World} {args:List Value} {args':Array Value} {v:Value}
 (hc:Gf val args h=some (v,h')) (hr:aA μ args args'.toList) (H:bt E base B μ h w):Calls P g args' w (la E base B μ h w v h'):=by
 unfold Gf at hc;split at hc
 ·rename_i b len cap rp adj;split at hc
  ·rename_i cs hg;simp only[aj,Bool.and_eq_true,beq_iff,aW,ba,List.all_eq_true,Option.bind_eq_some_iff,Option.some.injEq,Prod.mk.injEq]at hc;obtain⟨⟨⟨⟨hlen,fK⟩,CX⟩,hsc⟩,v1,hv,rfl,rfl⟩:=hc;have ea:args=rp.reverse++[.slice (some ⟨b,0,some 1⟩) len cap]:=by
    have:=congrArg List.reverse adj;simpa using this
   subst ea;obtain⟨x',e1,hx⟩:=zC (fun u hu=>hsc u (List.mem_reverse.1 hu)) hr;obtain⟨uT,hP⟩:=hB rp.reverse cs v1 (fun u hu=>hsc u (List.mem_reverse.1 hu)) hv;cases hx with
   |lit hh=>simp[aB]at hh
   |df hb=>omega
   |slice hb q1 q2 q3 q4=>
    rename_i cap' m;obtain⟨p,p',k1,k2,k3⟩:=H.obj b m hb;rw[hg]at k1;cases k1;cases k3 with
    |eQ hp hl gQ Uh=>
     rename_i c e fr l;obtain⟨vf,ok,hO,fG,rfl⟩:=hP l hp;have hll:l.length=len:=by rw[hp.length_eq,hlen]
     have:=hO w l m.r m.s cap' c e fr k2 om (by rw[Uh];omega) gQ fG;have e2:args'=List.toArray (rp.reverse++[Value.slice (some ⟨m.r,m.s,none⟩) l.length cap']):=by
      rw[←Array.toList_inj,e1,hll];simp
     rw[e2];refine this.mono ?_;rintro en w' ⟨rfl,AT⟩;have Hx:=H.ext AT.size fun r hr=>AT.block r hr;have gr:Grow base μ w w':=⟨AT.tape,AT.os,AT.output,AT.size,fun r hr _=>AT.block r hr⟩;exact⟨_,μ,rfl,.lit (rX uT),⟨Hx,gr,μ.le_refl,fun b m h0 h1=>(by rw[h0]at h1;cases h1),fun _ _ _=>rfl,Nat.le_refl _⟩⟩
  ·cases hc
 ·cases hc
section
variable {E:Env}
theorem VC.Ps {g:FuncId} {val:List Value→List Int→Option Value} {pre:List Value} (hf:(E.func g).isSome=true) (ho:∀b a,E.rF b g a=fun h=>Gf val a h) {ks:List Int} {v:Value} (Ge:∀u∈pre,scalar u=true) (hk:0<ks.length) (hv:val pre ks=some v) (uT:scalar v=true):
 VC E g 1 (pre.map .s++[.bg 0 ks.length]) [(0,.eQ ks)] fun r o c=>r= .s v∧c=1∧o=[(0,.eQ ks)]:=by
 intro base ρ F h S cq hN hM hO hA;obtain⟨fn,hf⟩:=Option.isSome_iff_exists.1 hf;obtain⟨_,hm⟩:=hM.ct (m:=0) rfl;cases hm with
 |eQ hb hg=>
  rename_i b;have jD:cq=pre++[.slice (some ⟨b,0,some 1⟩) ks.length (ks.length+1)]:=by
   clear hv hM hO
   induction pre generalizing cq with
   |nil=>
    obtain⟨v1,m1,rfl,h1,h2⟩:=hA.aO;obtain rfl:=h2.bG;cases h1 with
    |bg pX=>rw[hb]at pX;cases pX;rfl
   |cons u pre ih=>
    obtain⟨v1,m1,rfl,h1,h2⟩:=hA.aO;rw[ih (fun x hx=>Ge x (List.mem_cons_of_mem _ hx)) _ h2];obtain⟨rfl,_⟩:=h1.dA;rfl
  subst jD;have Bf:E.rF base g (pre++[.slice (some ⟨b,0,some 1⟩) ks.length (ks.length+1)]) h=some (v,h):=by
   rw[congrFun (ho _ _) _];unfold Gf;simp only[List.reverse_append,List.reverse_cons,List.reverse_nil,List.nil_append,List.singleton_append,hg];have h1:pre.reverse.all scalar=true:=List.all_eq_true.2 fun u hu=>Ge u (List.mem_reverse.1 hu);have h2:Nat.ble ks.length (ks.length+1)=true:=Nat.ble_eq_true_of_le om;have h3:Nat.blt 0 ks.length=true:=ba.2 hk;simp[bO,h1,h2,h3,hv]
  refine⟨0,v,h,ρ,F,.s v,_,1,?_,⟨rfl,rfl,rfl⟩,hM,.s (rX uT)⟩;unfold iK fY;rw[hf];simp only[Option.bind_some,Bf]
end
end Go.M
namespace Go.M
open Go Go.RowKit Go.Maps Go.Sort Go.Shelf Go.Proofs
def jk (P:Program) (g k:FuncId):Prop:=∀(W:World) (Bm:Nat) (mb:Option Nat) (ks:List Int),W.cell? ⟨Bm,0,none⟩=some (.map mb)→ks.length≤1099511627776→(∀x∈ks,IntKind.i64.min≤x∧x≤IntKind.i64.max)→ks.Nodup→
 (mb=none∧ks=[]∨∃(r:Nat) (es:Array MapEntry) (clock:Nat),mb=some r∧W.heap[r]? =some (.map es clock)∧tt es.toList clock∧es.toList.map (·.key)=ks.map (.int .i64))→
 Calls P g #[.func (.func k) #[] #[.pointer (some ⟨Bm,0,none⟩)]] W fun e w'=>∃(v:Value) (t:TypeId) (l:List Int),e= .returned v∧l.Perm ks∧w'.ownsRow W.heap.size t 1 v ks.length (l.map (.int .i64))∧(v= .slice none 0 0↔ks=[])∧Below W.heap.size W w'
theorem py {P:Program} {ρ σ:Ren} (L8:SlLaysZI.n8 P ρ) (SK:SlLaysZI.n10 P σ) (e10:∀args w,(callFunc (σ.f 10) args).run P w= .ok (.enter (σ.f 10) args) w):jk P (ρ.f 8) (σ.f 10):=by
 intro W Bm mb ks hm hlen mH AG IV;have Z2:Bm<W.heap.size:=by
  unfold World.cell? at hm;split at hm
  ·rename_i hh;exact(Array.getElem?_eq_some_iff.1 hh).1
  ·cases hm
 have key:∃(S:List Int→Prop),(∀ss,S ss→ss.Perm ks)∧SeqGives Fence.wide (9 - 1 - 1) P (σ.f 10) #[.pointer (some ⟨Bm,0,none⟩)] encZ S ks.length W:=by
  rcases IV with⟨rfl,rfl⟩|⟨r,es,clock,rfl,hr,bR,hk⟩
  ·exact⟨_,fun ss h=>by rw[h],AnyZI.keys_gives_nil SK Fence.wide _ trivial rfl Bm W Z2 hm⟩
  ·have Wm:Keyed P (σ.t 26):=int_keyed SK.t26;have zy:∀x∈es.toList,∃n,n∈ks∧x.key= .int .i64 n∧WideElems.rd (H:=Unit) P (σ.t 26) (fun _=>some (.nil,[])) x=some ((.int .i64 n),.nil):=by
    intro x hx;have:x.key∈es.toList.map (·.key):=List.mem_map.2 ⟨x,hx,rfl⟩;rw[hk]at this;obtain⟨n,hn,e⟩:=List.mem_map.1 this;refine⟨n,hn,e.symm,?_⟩;obtain⟨h1,h2⟩:=mH n hn;unfold WideElems.rd;rw[←e,keyOf_int_mk SK.t26 (by simp only[Lit.wf,Bool.and_eq_true,decide_eq_true_eq];exact⟨h1,h2⟩)];rfl
   have Bc:(es.toList.map fun x=>intOf (WideElems.rg (H:=Unit) P (σ.t 26) (fun _=>some (.nil,[])) x).1)=ks:=by
    have h1:es.toList.map (fun x=>intOf (WideElems.rg (H:=Unit) P (σ.t 26) (fun _=>some (.nil,[])) x).1)=(es.toList.map (·.key)).map (fun v=>match v with| .int _ n=>n|_=>0):=by
     rw[List.map_map];refine List.map_congr_left fun x hx=>?_;obtain⟨n,_,e,h⟩:=zy x hx;rw[WideElems.rg_of h,Function.comp_apply,e];rfl
    rw[h1,hk,List.map_map];exact(List.map_congr_left fun x _=>rfl).trans (List.map_id ks)
   have gB:es.size=ks.length:=by
    have:=congrArg List.length hk;simpa using this
   have Wn:W.ownsMap (H:=Unit) P (σ.t 26) (fun _=>some (.nil,[])) r ks.length (.map ((es.toList.map (WideElems.rg P (σ.t 26) (fun _=>some (.nil,[])))).foldr DataW.insert [])):=by
    refine⟨es,clock,hr,⟨by rw[gB];unfold Go.maxLen;omega,⟨bR.1,bR.2,?_⟩,fun x hx=>?_⟩,Nat.le_of_eq gB,rfl⟩
    ·rw[hk];exact List.pairwise_map.2 (AG.imp fun h e=>h (by simpa using e))
    ·obtain⟨n,_,_,h⟩:=zy x hx;exact⟨_,h⟩
   have hp:(intKeys (H:=Unit) (.map ((es.toList.map (WideElems.rg P (σ.t 26) (fun _=>some (.nil,[])))).foldr DataW.insert []))).Perm ks:=by
    have:=(WideShapes.sorted_perm (es.toList.map (WideElems.rg (H:=Unit) P (σ.t 26) (fun _=>some (.nil,[]))))).map (fun p=>intOf p.1);rw[List.map_map]at this;have h2:(es.toList.map ((fun p=>intOf p.1)∘WideElems.rg (H:=Unit) P (σ.t 26) (fun _=>some (.nil,[]))))=ks:=Bc;rw[h2]at this;exact this
   have hs:=AnyZI.keys_gives SK Fence.wide (9 - 1 - 1) trivial rfl om Bm r ks.length _ W Z2 hm Wn;have e:Maps.size (H:=Unit) (.map ((es.toList.map (WideElems.rg P (σ.t 26) (fun _=>some (.nil,[])))).foldr DataW.insert []))=ks.length:=by
    have:=(WideShapes.sorted_perm (es.toList.map (WideElems.rg (H:=Unit) P (σ.t 26) (fun _=>some (.nil,[]))))).length_eq;rw[size_eq,this,List.length_map];simpa using gB
   rw[e]at hs;exact⟨_,fun ss h=>h.trans hp,hs⟩
 obtain⟨S,hS,Wo⟩:=key;have:=AnyZI.collect_in L8 Fence.wide 9 trivial trivial rfl om (σ.f 10) #[.pointer (some ⟨Bm,0,none⟩)] trivial e10 S ks.length (by unfold Go.maxLen;omega) om W Wo;refine callsIn_wide.1 (this.mono ?_);rintro e w' ⟨v,ss,rfl,hs,gT,tR,hb⟩;have hp:=hS ss hs;rw[hp.length_eq]at gT;refine⟨v,_,ss,rfl,hp,gT,tR.trans ⟨fun h=>?_,fun h=>?_⟩,hb⟩
 ·subst h;exact List.Perm.nil_eq hp |>.symm▸rfl
 ·subst h;exact List.Perm.eq_nil hp
def L9 (h:ab) (ks:List Int):Value×ab:=match ks with
 |[]=>(.slice none 0 0,h)
 |_::_=>(.slice (some ⟨h.size,0,some 1⟩) ks.length (ks.length+1),h.push (.eQ ks))
def uo (lp:List Nat) (args:List Value) (h:ab):Option (Value×ab):=match args with
 |[.func (.func k) a c]=>(match a.toList,c.toList with
  |[],[.pointer (some ⟨b,0,none⟩)]=>bO (jx k lp) ((jQ h b).bind fun mb=>(jR h mb).bind fun ks=>some (L9 h ks))
  |_,_=>none)
 |_=>none
theorem Gg {P:Program} {E:Env} {base B:Nat} {lp:List Nat} {g:FuncId} (hS:∀k∈lp,jk P g k) {μ:bx} {h h':ab} {w:World} {args:List Value} {args':Array Value} {v:Value}
 (hc:uo lp args h=some (v,h')) (hr:aA μ args args'.toList) (H:bt E base B μ h w):Calls P g args' w (la E base B μ h w v h'):=by
 unfold uo at hc;split at hc
 ·rename_i k a c;split at hc
  ·rename_i b ha gQ;simp only[aj,Option.bind_eq_some_iff,Option.some.injEq]at hc;obtain⟨hk,mb,Wp,ks,kA,iE⟩:=hc;obtain⟨bd,hg,yd⟩:=wR Wp
   -- the arguments in the world
   obtain⟨v1,pJ,e1⟩:∃v1,ar μ (.func (.func k) a c) v1∧args'= #[v1]:=by
    obtain⟨l⟩:=args';cases hr with
    |cons h1 h2=>cases h2;exact⟨_,h1,rfl⟩
   subst e1;cases pJ with
   |lit hh=>simp[aB]at hh
   |func iB ha1 mJ SL=>
    rename_i a' c';have ea:a'= #[]:=by
     have h0:a'.size=0:=by rw[←iB];have:=congrArg List.length ha;simpa using this
     exact Array.eq_empty_of_size_eq_zero h0
    subst ea;have oy:c.size=1:=by have:=congrArg List.length gQ;simpa using this
    obtain⟨p',ec⟩:∃p',c'= #[p']:=by
     obtain⟨l⟩:=c';rw[oy]at mJ
     match l,mJ with
     |[x],_=>exact⟨x,rfl⟩
     |[],mJ=>simp at mJ
     |_::_::_,mJ=>simp at mJ
    subst ec;have hp:=SL 0 (.pointer (some ⟨b,0,none⟩)) p' (by rw[←Array.getElem?_toList,gQ];rfl) rfl;obtain⟨m,hm,rfl⟩:=hp.jd;have X6:=H.root b m _ _ hm hg;have gA:h.rd b=some [.map mb]:=eW (cG hg hg) yd (by unfold ab.cellsOf;rw[hg]);obtain⟨cc,e,fr,q1,q2,q3,q4,q5⟩:=H.read hm gA;obtain⟨vm,q6,q7⟩:=q5 0 (.map mb) rfl;rw[X6]at q6 ⊢;obtain⟨Kq,rfl,IV⟩:∃Kq,vm= .map Kq∧(Kq=none∧ks=[]∨∃(r:Nat) (es:Array MapEntry) (clock:Nat),Kq=some r∧w.heap[r]? =some (.map es clock)∧tt es.toList clock∧es.toList.map (·.key)=ks.map (.int .i64)):=by
     cases mb with
     |none=>
      cases q7 with
      |lit _=>exact⟨none,rfl,.inl ⟨rfl,by simpa[jR]using kA.symm⟩⟩
     |some r=>
      obtain⟨mr,w1,rfl⟩:=q7.jZ;refine⟨_,rfl,.inr ?_⟩;obtain⟨ev,clock,wq,xH,bR,fG⟩:=mW kA;obtain⟨o,o',k1,k2,k3⟩:=H.obj r mr w1;rw[wq]at k1;cases k1;cases k3 with
      |map hs=>
       rename_i bU;refine⟨_,bU,clock,rfl,k2,?_,hs.ints xH⟩;rw[tt.iff,hs.born,←tt.iff];exact bR
    have fG:lW ks:=by
     cases mb with
     |none=>simp[jR]at kA;subst kA;exact⟨by simp,by simp,by simp⟩
     |some r=>
      obtain⟨ev,clock,wq,xH,bR,fG⟩:=mW kA;exact fG
    have yh:w.cell? ⟨m.r,0,none⟩=some (.map Kq):=by
     unfold World.cell?;simp only[q1,Option.isSome_none,Bool.false_eq_true,if_false];simpa using q6
    have:=hS k (lV hk) w m.r Kq ks yh fG.1 fG.2.1 fG.2.2 IV;simp only[Nat.add_zero];refine this.mono ?_;rintro en w' ⟨v',t,l,rfl,pq,gT,tR,hb⟩;have Hx:=H.ext hb.size fun r hr=>hb.block r hr;have gr:Grow base μ w w':=⟨hb.tape,hb.os,hb.output,hb.size,fun r hr _=>hb.block r hr⟩;cases ks with
    |nil=>
     simp only[L9,Prod.mk.injEq]at iE;obtain⟨rfl,rfl⟩:=iE;have:=tR.2 rfl;subst this;exact⟨_,μ,rfl,.lit rfl,⟨Hx,gr,μ.le_refl,fun b m h0 h1=>(by rw[h0]at h1;cases h1),fun _ _ _=>rfl,Nat.le_refl _⟩⟩
    |cons x0 l0=>
     generalize Pl:x0::l0=ks at*
     have hlen:0<ks.length:=by rw[←Pl];simp
     have Pm:L9 h ks=(.slice (some ⟨h.size,0,some 1⟩) ks.length (ks.length+1),h.push (.eQ ks)):=by rw[←Pl];rfl
     rw[Pm]at iE;simp only[Prod.mk.injEq]at iE;obtain⟨rfl,rfl⟩:=iE;obtain⟨r1,⟨_,r2⟩|⟨gb,cap,cur,rfl,r3,r4,r5,r6,r7,r8⟩⟩:=gT
     ·omega
     ·let m2:MT:=⟨gb,0,cur.size⟩
      have hll:l.length=ks.length:=pq.length_eq;have Hp:=Hx.Fc (o:=.eQ ks) (fun _ _ _ _ hh=>by cases hh);have fo:(h.push (.eQ ks)).get h.size=some (.eQ ks):=by rw[ab.au,if_pos rfl]
      have ho:iV (kl μ h.size m2) (h.push (.eQ ks)) base h.size m2 (.eQ ks) (.cells cur t (0,0)):=by
       refine .eQ (l:=l) pq (by show 0+l.length≤cur.size;omega) (fun i x hx=>?_) rfl;have hi:=(List.getElem?_eq_some_iff.1 hx).1;have:cur.toList[i]? =some (.int .i64 x):=by
        have h5:(cur.toList.take (ks.length*1))[i]? =some (.int .i64 x):=by rw[r8];simp[hx]
        rw[List.getElem?_take]at h5
        rwa [if_pos om]at h5
       show cur[0+i]? =some _;rw[Nat.zero_add];simpa using this
      have Ht:=Hp.Bu (b:=h.size) (m:=m2) (by simp[ab.size_push]) fo H.fresh H.mA (by have:=H.low;show B≤gb;omega) r4
       (fun d md hd he=>by have:=H.lt hd;simp only[m2]at he;omega) (fun _ _ _ _ hh=>by cases hh) (fun _ _ _=>rfl) ho
      refine⟨_,kl μ h.size m2,rfl,?_,Ht,gr,fZ H.fresh,fun d md h0 hd=>?_,fun d hd _=>by rw[ab.au,if_neg om],by simp[ab.size_push]⟩
      ·have:=ar.slice (μ:=kl μ h.size m2) (b:=h.size) (o:=0) (z:=1) (len:=ks.length) (cap:=ks.length+1) (cap':=cap) (m:=m2) (bC _ _ _) om r5 (fun h=>by omega) (by show 0+0+cap*1≤cur.size;omega);simpa[m2]using this
      ·by_cases ed:d=h.size
       ·subst ed;rw[bC]at hd;cases hd;exact⟨Nat.le_refl _,H.mA,.inl r3⟩
       ·rw[ng _ _ ed,h0]at hd;cases hd
  ·cases hc
 ·cases hc
end Go.M
namespace Go.M
open Go Go.RowKit
section
variable {X:Cx} {ρ:Gh} {F:Nat→Prop} {o:Ob} {c:Nat} {h:ab}
theorem Mem.Wr (H:Mem X ρ F o c h) (ks:List Int):
 let h':=h.push (.eQ ks)
 Mem X (cH ρ c (some (.dw h.size))) F ((c,.eQ ks)::o) (c+1) h'∧∀t v,VR c ρ F h t v→VR (c+1) (cH ρ c (some (.dw h.size))) F h' t v:=by
 intro h';refine H.Fv (S0:=[(h.size,true)]) (fun cs f di bd e=>by cases e) (H.BD _) (H.BE _) (H.BF _) (fun n hn=>bN _ _ om) (fun hm=>?_) rfl;exact .eQ (aP _ _ _) (by rw[ab.au,if_pos rfl])
end
section
variable {E:Env}
theorem VC.collect {g:FuncId} {lp:List Nat} {k:FuncId} (hf:(E.func g).isSome=true) (ho:∀b a,E.rF b g a=fun h=>uo lp a h) (hk:jx k lp=true) {y:TO} {ks:List Int} (hy:Gd ks y) (fG:lW ks) (bH:ks≠[]):
 VC E g 2 [.dc k [] [.ptr 1 0]] [(0,y),(1,.cells [.mp 0])] fun r o c=>r= .bg 2 ks.length∧c=3∧
  o=[(2,.eQ ks),(0,y),(1,.cells [.mp 0])]:=by
 intro base ρ F h S cq hN hM hO hA;obtain⟨fn,hf⟩:=Option.isSome_iff_exists.1 hf;obtain⟨v1,m1,rfl,h1,h2⟩:=hA.aO;obtain rfl:=h2.bG;obtain⟨_,hm⟩:=hM.ct (m:=0) rfl;obtain⟨_,hb⟩:=hM.ct (m:=1) rfl;obtain⟨b0,ev,clock,we,Y1,bR,kA⟩:=hm.keys hy;cases hb with
 |cells nh yc Ym oy=>
  rename_i b1 bd cs';have oy:=(oy.Uv (fun t v hv hf=>hv.dC hf) rfl).1;obtain⟨x1,l1,rfl,y1,y2⟩:=oy.aO;obtain rfl:=y2.bG;cases y1 with
  |mp Z4=>
   rw[we]at Z4;cases Z4;cases h1 with
   |dc iB ha1 mJ SL=>
    rename_i a kk;have ea:a= #[]:=Array.eq_empty_of_size_eq_zero (by simpa using iB.symm);subst ea;obtain⟨p',ec⟩:∃p',kk= #[p']:=by
     obtain⟨l⟩:=kk
     match l,mJ with
     |[x],_=>exact⟨x,rfl⟩
     |[],mJ=>simp at mJ
     |_::_::_,mJ=>simp at mJ
    subst ec;have hp:=SL 0 (.ptr 1 0) p' rfl rfl;cases hp with
    |ptr pX=>
     rw[nh]at pX;cases pX;have Bf:E.rF base g [.func (.func k) #[] #[.pointer (some ⟨b1,0,none⟩)]] h=some (L9 h ks):=by
      rw[congrFun (ho _ _) _];show bO (jx k lp) ((jQ h b1).bind fun mb=>(jR h mb).bind fun ks=>some (L9 h ks))=_;have Z5:jQ h b1=some (some b0):=by
       unfold jQ;rw[yc];simp[bO,Nat.ble_eq_true_of_le Ym]
      rw[hk,Z5];simp only[bO,Option.bind_some,jR,Y1,Gc kA,bR,fG,decide_true,Bool.and_self]
     have iE:L9 h ks=(.slice (some ⟨h.size,0,some 1⟩) ks.length (ks.length+1),h.push (.eQ ks)):=by
      cases ks with
      |nil=>exact absurd rfl bH
      |cons _ _=>rfl
     rw[iE]at Bf;obtain⟨M,HC⟩:=hM.Wr ks;refine⟨0,_,_,_,F,.bg 2 ks.length,_,3,?_,⟨rfl,rfl,rfl⟩,M,.bg (aP _ _ _)⟩;unfold iK fY;rw[hf];simp only[Option.bind_some,Bf]
end
theorem SP {c:Nat} {ρ:Gh} {F:Nat→Prop} {h:ab} {val:List Value→List Int→Option Value} {z:Nat} {es:List (List TV)} {fl:Bool}:∀{pre:List TV} {cq:List Value},dP c ρ F h (pre++[.sl z es fl]) cq→Gf val cq h=none:=by
 intro pre cq H;obtain⟨pv,x,rfl,hx⟩:∃pv x,cq=pv++[x]∧VR c ρ F h (.sl z es fl) x:=by
  induction pre generalizing cq with
  |nil=>
   obtain⟨v,m,rfl,h1,h2⟩:=H.aO;obtain rfl:=h2.bG;exact⟨[],v,rfl,h1⟩
  |cons t pre ih=>
   obtain⟨v,m,rfl,h1,h2⟩:=H.aO;obtain⟨pv,x,rfl,hx⟩:=ih h2;exact⟨v::pv,x,rfl,hx⟩
 unfold Gf;rw[List.reverse_append];cases hx with
 |nil=>rfl
 |sl hF hr hz hl fK u4 hle he iz hc=>
  rename_i b o len cap cs
  show(match(.slice (some ⟨b,o,some z⟩) len cap::pv.reverse:List Value)with
   | .slice (some ⟨b,0,some 1⟩) len cap::rp=>(match h.get b with
    |some (.eQ cs)=>bO (Nat.beq len cs.length&&Nat.ble len cap&&Nat.blt 0 len&&rp.all scalar) ((val rp.reverse cs).bind fun v=>some (v,h))
    |_=>none)
   |_=>none)=none
  split
  ·rename_i heq;cases heq;split
   ·rename_i hg;unfold ab.rd ab.dU at hr;simp[hg]at hr
   ·rfl
  ·rfl
abbrev SQ:=List Value→List Int→Option Value
def Pt (l:List Nat) (gs cs:List (Nat×List Nat)) (bs:List (Nat×SQ)):FuncId→List Value→ab→Option (Value×ab):=fun g args h=>match look cs g with
 |some lp=>uo lp args h
 |none=>match look bs g with
  |some val=>Gf val args h
  |none=>L1 l gs g args h
theorem SR {P:Program} {l:List Nat} {gs cs:List (Nat×List Nat)} {bs:List (Nat×SQ)} (hl:∀g∈l,Gb P g) (hs:∀g lp,look gs g=some lp→∀k∈lp,jP P g k) (hc:∀g lp,look cs g=some lp→∀k∈lp,jk P g k)
 (hb:∀g val,look bs g=some val→Kt P g val) (base B:Nat):ik P (eL P (Pt l gs cs bs)) base B:=by
 intro μ h w g args args' v h' gQ hr H F n hF;have lT:Pt l gs cs bs g args h=some (v,h'):=gQ;unfold Pt at lT;split at lT
 ·rename_i lp hi;exact vL hF (Gg (hc g lp hi) lT hr H)
 ·split at lT
  ·rename_i val hv;exact vL hF (SO (hb g val hv) lT hr H)
  ·have H2:bt (eL P (L1 l gs)) base B μ h w:=⟨H.gS,H.high,H.obj,H.own,H.alias,H.dU,H.dp,H.low,H.mA,H.wf,H.root⟩
   exact(Kr hl hs base B μ h w g args args' v h' lT hr H2 F n hF).mono fun e w' ⟨v',a7,h1,h2,h3⟩=>
    ⟨v',a7,h1,h2,⟨h3.rel.gS,h3.rel.high,h3.rel.obj,h3.rel.own,h3.rel.alias,h3.rel.dU,h3.rel.dp,h3.rel.low,h3.rel.mA,h3.rel.wf,h3.rel.root⟩,h3.grow,h3.le,h3.new,h3.HJ,h3.gB⟩
end Go.M
