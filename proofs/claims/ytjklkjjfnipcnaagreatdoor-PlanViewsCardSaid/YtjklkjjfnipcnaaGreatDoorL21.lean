/-
  Part 21 of the library that the proof leans on.
-/
import Derived.Test.YtjklkjjfnipcnaaGreatDoorL20
import Derived.Test.YtjklkjjfnipcnaaGreatDoorL12
import Derived.Shelf.Bytes.SlClone
noncomputable section
namespace Go.M
open Go Go.Proofs Go.RowKit Go.Shelf
def RZ:Value→Bool
 | .int .u8 _=>true
 |_=>false
theorem IT:∀{cs:List Value},cs.all RZ=true→∃xs:List Int,cs=xs.map (.int .u8)
 |[],_=>⟨[],rfl⟩
 |c::cs,h=>by
  rw[List.all_cons,Bool.and_eq_true]at h;obtain⟨xs,rfl⟩:=IT h.2;have h1:=h.1;unfold RZ at h1;split at h1
  ·exact⟨_::xs,rfl⟩
  ·cases h1
def rO (args:List Value) (h:ab):Option (Value×ab):=match args with
 |[.slice none _ _]=>some (.slice none 0 0,h)
 |[.slice (some ⟨b,o,some z⟩) len _]=>(h.rd b).bind fun cs=>
  aW (Nat.beq z 1&&Nat.ble (o+len) cs.length&&((cs.drop o).take len).all RZ&&Nat.ble len 140737488355328)
   (some (.slice (some ⟨h.size,0,some 1⟩) len (len+1),h.push (.cells ((cs.drop o).take len) h.size (h.size+1) 0)))
 |_=>none
def qt (P:Program) (g:FuncId):Prop:=
 (∀(a:Addr) (n c:Nat) (xs:List Int) (w:World),xs.length=n→n≤140737488355328→(∀i,i<n→w.cell? (a.add i)=some (.int .u8 (xs.getD i 0)))→
  Calls P g #[.slice (some a) n c] w fun e w'=>∃(v':Value) (t:TypeId),e= .returned v'∧w'.ownsRow w.heap.size t 1 v' n (xs.map (Value.int .u8))∧v'≠ .slice none 0 0∧Below w.heap.size w w')∧
 (∀(n c:Nat) (w:World),Calls P g #[.slice none n c] w fun e w'=>e= .returned (.slice none 0 0)∧w'=w)
theorem Bz {P:Program} {ρ:Ren} (L:SlLaysK.n4 P ρ):qt P (ρ.f 4):=
 ⟨fun a n c xs w h1 h2 h3=>(Any.bytes_Clone_at L a n c xs w h1 h2 h3).mono fun _ _ ⟨v',q1,q2,q3,q4⟩=>⟨v',_,q1,q2,q3,q4⟩,fun n c w=>Any.bytes_Clone_nil L n c w⟩
section
variable {P:Program} {E:Env} {base B:Nat} {μ:aS} {h h':ab} {w:World}
theorem xU {w':World} {t:TypeId} {v':Value} {ss:List Int} (H:aM E base B μ h w) (hb:Below w.heap.size w w') (iq:w'.ownsRow w.heap.size t 1 v' ss.length (ss.map (.int .u8))) (lG:v'≠ .slice none 0 0):
 fA E base B μ h w (.slice (some ⟨h.size,0,some 1⟩) ss.length (ss.length+1)) (h.push (.cells (ss.map (.int .u8)) h.size (h.size+1) 0)) (.returned v') w':=by
 have Hx:=H.ext hb.size fun r hr=>hb.block r hr;have gr:Grow base μ w w':=⟨hb.tape,hb.os,hb.output,hb.size,fun r hr _=>hb.block r hr⟩;obtain⟨r1,⟨r2,_⟩|⟨gb,cap,cur,rfl,r3,r4,r5,r6,r7,r8⟩⟩:=iq
 ·exact absurd r2 lG
 ·let cs:=ss.map (Value.int .u8)
  have bL:cs.length=ss.length:=by simp[cs]
  let m2:MT:=⟨gb,0,cur.size⟩
  have Hp:=Hx.DA (o:=.cells cs h.size (h.size+1) 0) (fun _ _ _ _ hh=>by cases hh;rfl);have b7:(h.push (.cells cs h.size (h.size+1) 0)).get h.size=some (.cells cs h.size (h.size+1) 0):=by rw[ab.ai,if_pos rfl]
  have ho:fR (il μ h.size m2) (h.push (.cells cs h.size (h.size+1) 0)) base h.size m2 (.cells cs h.size (h.size+1) 0) (.cells cur t (0,0)):=by
   refine .cells rfl (by show 0+cs.length≤cur.size;omega) (fun _=>Ds _) fun _ i v hv=>?_;have hi:=(List.getElem?_eq_some_iff.1 hv).1;have:cur.toList[i]? =some v:=by
    have h5:(cur.toList.take (ss.length*1))[i]? =some v:=by rw[r8];exact hv
    rw[List.getElem?_take]at h5
    rwa [if_pos om]at h5
   refine⟨v,by show cur[0+i]? =some v;rw[Nat.zero_add];simpa using this,?_⟩;obtain⟨n,_,rfl⟩:=List.mem_map.1 (List.mem_of_getElem? hv);exact .int _ _ _
  have Ht:=Hp.Ai (b:=h.size) (m:=m2) (by simp[ab.size_push]) b7 H.fresh H.jx (by have:=H.low;show B≤gb;omega) r4
   (fun d md hd he=>by have:=H.lt hd;simp only[m2]at he;omega) (fun _ _ _ _ hh=>by cases hh;exact⟨rfl,Nat.le_succ _⟩) (fun _ _ _=>rfl) ho
  refine⟨_,il μ h.size m2,rfl,?_,Ht,gr,dO H.fresh,fun d md h0 hd=>?_,fun d hd _=>by rw[ab.ai,if_neg om],by simp[ab.size_push]⟩
  ·have:=ak.slice (μ:=il μ h.size m2) (b:=h.size) (o:=0) (z:=1) (len:=ss.length) (cap:=ss.length+1) (cap':=cap) (m:=m2) (bc _ _ _) om r5 (fun h=>by omega) (by show 0+0+cap*1≤cur.size;omega);simpa[m2]using this
  ·by_cases ed:d=h.size
   ·subst ed;rw[bc]at hd;cases hd;exact⟨Nat.le_refl _,H.jx,.inl r3⟩
   ·rw[lh _ _ ed,h0]at hd;cases hd
theorem FV {g:FuncId} (hS:qt P g) {args:List Value} {args':Array Value} {v:Value}
 (hc:rO args h=some (v,h')) (hr:ao μ args args'.toList) (H:aM E base B μ h w):Calls P g args' w (fA E base B μ h w v h'):=by
 unfold rO at hc;split at hc
 ·rename_i n c;cases hc;obtain⟨v1,pn,e1⟩:∃v1,ak μ (.slice none n c) v1∧args'= #[v1]:=by
   obtain⟨l⟩:=args';cases hr with
   |cons h1 h2=>cases h2;exact⟨_,h1,rfl⟩
  subst e1;cases pn with
  |lit _=>
   refine(hS.2 n c w).mono ?_;rintro e w' ⟨rfl,rfl⟩;exact⟨_,μ,rfl,.lit rfl,⟨H,⟨rfl,rfl,rfl,Nat.le_refl _,fun _ _ _=>rfl⟩,μ.le_refl,fun b m h0 h1=>(by rw[h0]at h1;cases h1),fun _ _ _=>rfl,Nat.le_refl _⟩⟩
 ·rename_i b o z len cap;simp only[Option.bind_eq_some_iff,ae,Bool.and_eq_true,ax,beq_iff,Option.some.injEq,Prod.mk.injEq]at hc;obtain⟨cs,fj,⟨⟨⟨rfl,hle⟩,hu⟩,Ui⟩,rfl,rfl⟩:=hc;obtain⟨v1,pn,e1⟩:∃v1,ak μ (.slice (some ⟨b,o,some 1⟩) len cap) v1∧args'= #[v1]:=by
   obtain⟨l⟩:=args';cases hr with
   |cons h1 h2=>cases h2;exact⟨_,h1,rfl⟩
  subst e1;obtain⟨xs,Dw⟩:=IT hu;have Vv:xs.length=len:=by
   have:=congrArg List.length Dw;rw[List.length_map,List.length_take,List.length_drop]at this;omega
  rw[Dw];cases pn with
  |lit hh=>simp[ar]at hh
  |bU hh=>
   rename_i a;obtain rfl:xs=[]:=List.eq_nil_of_length_eq_zero Vv;refine(hS.1 a 0 0 [] w rfl (Nat.zero_le _) (fun i hi=>by omega)).mono ?_;rintro e w' ⟨v',t,rfl,q1,q2,q3⟩;exact xU (ss:=[]) H q3 q1 q2
  |slice hm k1 k2 k3 k4=>
   rename_i cap' m;subst Vv;obtain⟨c,e,fr,hw,So,bL,Ez,FW⟩:=H.read hm fj;refine(hS.1 ⟨m.r,m.s+o,none⟩ xs.length cap' xs w rfl Ui (fun i hi=>?_)).mono ?_
   ·have h1:cs[o+i]? =some (.int .u8 (xs.getD i 0)):=by
     have:((cs.drop o).take xs.length)[i]? =some (.int .u8 (xs.getD i 0)):=by
      rw[Dw,List.getElem?_map,List.getElem?_eq_getElem hi];simp[List.getD,List.getElem?_eq_getElem hi]
     rw[List.getElem?_take,if_pos hi,List.getElem?_drop]at this;exact this
    obtain⟨v',p1,p2⟩:=FW _ _ h1;obtain rfl:=p2.an rfl;have ea:Addr.add ⟨m.r,m.s+o,none⟩ i=⟨m.r,m.s+o+i,none⟩:=by
     unfold Addr.add;split
     ·rename_i h0;rw[h0];rfl
     ·rfl
    rw[ea];unfold World.cell?;simp only[hw];rw[Nat.add_assoc];simpa using p1
   ·rintro e w' ⟨v',t,rfl,q1,q2,q3⟩;exact xU H q3 q1 q2
 ·cases hc
end
theorem Mem.Q1 {X:Cx} {ρ:Gh} {F:Nat→Prop} {o:Ob} {c:Nat} {h:ab} (H:Mem X ρ F o c h) (cs:List Value):
 Mem X (bP ρ c (some (.nil 1))) (fun b=>F b∨b=h.size) o (c+1) (h.push (.cells cs h.size (h.size+1) 0)):=by
 obtain⟨S,K⟩:=H.ex;have b7:(h.push (.cells cs h.size (h.size+1) 0)).get h.size=some (.cells cs h.size (h.size+1) 0):=by rw[ab.ai,if_pos rfl]
 have hold:∀b,b<h.size→(h.push (.cells cs h.size (h.size+1) 0)).get b=h.get b:=fun b hb=>by rw[ab.ai,if_neg om]
 have MK:∀b,b<h.size→hd (h.push (.cells cs h.size (h.size+1) 0)) b=hd h b:=fun b hb=>by unfold hd;rw[hold b hb]
 refine(H.change K (fun _=>False) c (.arr 1 true []) [] (by rw[ab.size_push];omega) (H.wf.push fun _ _ _ _ e=>by cases e;exact Nat.le_refl _) (fun _ hf=>hf.elim) (fun b hb _=>hold b hb)
  (fun b l hb hr=>by rw[cL H.wf.le _ (H.CE hb)];exact hr) MK (fun _ hb=>.inl hb) (fun b hb hn=>?_) om (fun n l hn hl=>by rwa [aK _ _ om]at hl) (fun n b hb=>?_) (fun n l hl=>?_) (fun m y' aX hl=>⟨hl,aK _ _ aX,fun _ _ hf=>hf.elim⟩)
  (fun y' hl=>absurd (H.lt hl) om) (.nil (aC _ _ _) om) (by simp[cu]) (fun x hx=>by simp[cu]at hx) (fun x b hx=>by simp at hx)).1
 ·rcases hb with hb|rfl
  ·exact absurd hb hn
  ·have e:hd (h.push (.cells cs h.size (h.size+1) 0)) h.size=h.size:=bG b7;refine⟨by rw[cJ (bp b7 b7) (Nat.zero_le _) (au b7)];rfl,fun m y x _ hl hs=>?_,fun x hx=>by simp at hx,.inr (by rw[e];exact H.l9.size)⟩;rw[e];have:=(K.dF m y x hl (List.mem_map.2 ⟨_,hs,rfl⟩)).2.1;omega
 ·have:=H.names _ _ hb
  rwa [aK _ _ om]
 ·by_cases e:n=c
  ·omega
  ·rw[aK _ _ e]at hl;have:=H.names _ _ hl;omega
theorem Mem.Q2 {X:Cx} {ρ:Gh} {F:Nat→Prop} {o:Ob} {c:Nat} {h:ab} (H:Mem X ρ F o c h):Mem X (bP ρ c (some (.nil 1))) F o (c+1) h:=by
 obtain⟨S,K⟩:=H.ex
 refine(H.change K (fun _=>False) c (.arr 1 true []) [] (Nat.le_refl _) H.wf (fun _ hf=>hf.elim) (fun b hb _=>rfl)
  (fun b l hb hr=>hr) (fun _ _=>rfl) (fun _ hb=>hb) (fun b hb hn=>absurd hb hn) om (fun n l hn hl=>by rwa [aK _ _ om]at hl) (fun n b hb=>?_) (fun n l hl=>?_) (fun m y' aX hl=>⟨hl,aK _ _ aX,fun _ _ hf=>hf.elim⟩)
  (fun y' hl=>absurd (H.lt hl) om) (.nil (aC _ _ _) om) (by simp[cu]) (fun x hx=>by simp[cu]at hx) (fun x b hx=>by simp at hx)).1
 ·have:=H.names _ _ hb
  rwa [aK _ _ om]
 ·by_cases e:n=c
  ·omega
  ·rw[aK _ _ e]at hl;have:=H.names _ _ hl;omega
section
variable {E:Env}
theorem VC.NU {g:FuncId} (hf:(E.func g).isSome=true) (ho:∀b a h r,rO a h=some r→E.mn b g a h=some r) (ns:List Int) (fl:Bool) (hl:ns.length≤140737488355328):
 VC E g 0 [.sl 1 (ns.map fun n=>[.s (.int .u8 n)]) fl] [] (RR (.sl 1 (ns.map fun n=>[.s (.int .u8 n)]) false) 1 []):=by
 intro base ρ F h S dJ hN hM hO hA;obtain⟨fn,hf⟩:=Option.isSome_iff_exists.1 hf;obtain⟨v1,m1,rfl,h1,h2⟩:=hA.aG;obtain rfl:=h2.bu;have iZ:∀r,rO [v1] h=some r→eI E base 0 g [v1] h=some r:=by
  intro r hr;unfold eI ff;rw[hf];simp only[Option.bind_some,ho base _ _ _ hr]
 cases h1 with
 |nil he=>
  obtain rfl:ns=[]:=List.map_eq_nil_iff.1 he;exact⟨0,_,_,_,F,_,_,1,iZ _ rfl,⟨rfl,rfl,rfl⟩,hM.Q2,.nil rfl⟩
 |sl hF hr hz Vw fk zD hle he fy hc=>
  rename_i b o len cap cs;rw[Nat.mul_one]at hle;have hlen:ns.length=len:=by simpa using Vw
  have oi:(cs.drop o).take len=ns.map (.int .u8):=by
   refine List.ext_getElem? fun i=>?_;rw[List.getElem?_take,List.getElem?_drop,List.getElem?_map];by_cases hi:i<len
   ·rw[if_pos hi];have h2:i<ns.length:=by omega
    have h3:cs[o+i]? =some (cs[o+i]' om):=List.getElem?_eq_getElem om;have:=hc i 0 [.s (.int .u8 ns[i])] (.s (.int .u8 ns[i])) (cs[o+i]' om) (by rw[List.getElem?_map,List.getElem?_eq_getElem h2];rfl) rfl (by rw[Nat.mul_one,Nat.add_zero];exact h3);rw[h3,List.getElem?_eq_getElem h2,this.cM.1];rfl
   ·rw[if_neg hi,List.getElem?_eq_none om];rfl
  have iP:((cs.drop o).take len).all RZ=true:=by
   rw[oi,List.all_eq_true];intro x hx;obtain⟨n,_,rfl⟩:=List.mem_map.1 hx;rfl
  have hK:rO [.slice (some ⟨b,o,some 1⟩) len cap] h=some (.slice (some ⟨h.size,0,some 1⟩) len (len+1),h.push (.cells (ns.map (.int .u8)) h.size (h.size+1) 0)):=by
   show((h.rd b).bind fun cs=>aW _ _)=_;rw[hr];rw[Option.bind_some];refine ae.2 ⟨?_,by rw[oi]⟩;rw[iP,beq_iff.2 rfl,ax.2 (show o+len≤cs.length by omega),ax.2 (show len≤140737488355328 by omega)];rfl
  have b7:(h.push (.cells (ns.map (.int .u8)) h.size (h.size+1) 0)).get h.size=some (.cells (ns.map (.int .u8)) h.size (h.size+1) 0):=by rw[ab.ai,if_pos rfl]
  refine⟨0,_,_,_,_,_,_,1,iZ _ hK,⟨rfl,rfl,rfl⟩,hM.Q1 _,.sl (.inr rfl) (cJ (bp b7 b7) (Nat.zero_le _) (au b7)) om Vw om (by simp) (by simp;omega) (by simp) (by simp[fz,oU]) ?_⟩;intro i j e t v q1 q2 q3;rw[List.getElem?_map]at q1;obtain⟨x,hx,rfl⟩:=Option.map_eq_some_iff.1 q1;have hj:j=0:=by
   have:=(List.getElem?_eq_some_iff.1 q2).1;simp at this;exact this
  subst hj;simp at q2;subst q2;rw[Nat.zero_add,Nat.mul_one,Nat.add_zero,List.getElem?_map,hx]at q3;cases q3;exact .s rfl
def wN (cl:Nat) (rest:FuncId→List Value→ab→Option (Value×ab)):FuncId→List Value→ab→Option (Value×ab):=fun g args h=>match Nat.beq g cl,rO args h with
 |true,some r=>some r
 |_,_=>rest g args h
theorem Ed {P:Program} {l:kX} {cl:Nat} {rest:FuncId→List Value→ab→Option (Value×ab)} (hS:qt P cl) (hr:∀base B,eZ P (iV P l rest) base B) (base B:Nat):eZ P (iV P l (wN cl rest)) base B:=by
 intro μ h w g args args' v h' hc hv H F n hF;have jW:wN cl rest g args h=some (v,h'):=hc;unfold wN at jW;split at jW
 ·rename_i r h1 h2;obtain rfl:=beq_iff.1 h1;cases jW;exact xH hF (FV hS h2 hv H)
 ·have H2:aM (iV P l rest) base B μ h w:=⟨H.dZ,H.high,H.obj,H.own,H.alias,H.cW,H.cd,H.low,H.jx,H.wf,H.root⟩
  exact(hr base B μ h w g args args' v h' jW hv H2 F n hF).mono fun e w' ⟨v',az,h1,h2,h3⟩=>
   ⟨v',az,h1,h2,⟨⟨h3.rel.dZ,h3.rel.high,h3.rel.obj,h3.rel.own,h3.rel.alias,h3.rel.cW,h3.rel.cd,h3.rel.low,h3.rel.jx,h3.rel.wf,h3.rel.root⟩,h3.grow,h3.le,h3.new,h3.zC,h3.cI⟩⟩
end
end Go.M
end
