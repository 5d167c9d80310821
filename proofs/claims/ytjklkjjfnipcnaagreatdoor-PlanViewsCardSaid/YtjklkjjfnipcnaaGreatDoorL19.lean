/-
  Part 19 of the library that the proof leans on.
-/
import Derived.Test.YtjklkjjfnipcnaaGreatDoorL13
import Derived.Test.YtjklkjjfnipcnaaGreatDoorL18
import Derived.Test.YtjklkjjfnipcnaaGreatDoorL16
import Derived.Test.YtjklkjjfnipcnaaGreatDoorL17
import Derived.Test.YtjklkjjfnipcnaaGreatDoorL6
noncomputable section
namespace Go.M
open Go Go.Proofs
set_option maxRecDepth 100000
open Classical in
noncomputable def sC (s:Nat) (args:List Value) (h:ab):Option (Value×ab):=
 if hx:∃r n,eI ES s n 53 args h=some r then some hx.choose else none
noncomputable def IH (s:Nat):FuncId→List Value→ab→Option (Value×ab):=fun g args h=>match Nat.beq g 53 with
 |true=>sC s args h
 |false=>none
noncomputable def EC (s:Nat):=iV Tryz.prog [] (IH s)
theorem Eb (hm:Tryz.prog.follows .mixedOrders=true) (s B:Nat):eZ Tryz.prog (EC s) s B:=by
 intro μ h w g args args' v h' hc hr H F n hF;have jW:IH s g args h=some (v,h'):=hc;unfold IH at jW;split at jW
 ·rename_i hg;obtain rfl:=beq_iff.1 hg;unfold sC at jW;split at jW
  ·rename_i hx;have OP:=hx.choose_spec;rw[Option.some.injEq]at jW;rw[jW]at OP;obtain⟨k,hk⟩:=OP;have H2:aM ES s B μ h w:=⟨H.dZ,H.high,H.obj,H.own,H.alias,H.cW,H.cd,H.low,H.jx,H.wf,H.root⟩;refine(Ao (vw Tryz.prog [] mO) FJ hm k μ h w 53 args args' v h' hk hr H2 F n hF).mono fun e w' ⟨v',az,h1,h2,h3⟩=>?_;exact⟨v',az,h1,h2,⟨⟨h3.rel.dZ,h3.rel.high,h3.rel.obj,h3.rel.own,h3.rel.alias,h3.rel.cW,h3.rel.cd,h3.rel.low,h3.rel.jx,h3.rel.wf,h3.rel.root⟩,h3.grow,h3.le,h3.new,h3.zC,h3.cI⟩⟩
  ·cases jW
 ·cases jW
theorem Bm {s n:Nat} {args:List Value} {h h':ab} {v:Value} (hn:eI ES s n 53 args h=some (v,h')) (hu:∀n r,eI ES s n 53 args h=some r→r=(v,h')):sC s args h=some (v,h'):=by
 unfold sC;have hx:∃r n,eI ES s n 53 args h=some r:=⟨_,n,hn⟩;rw[dif_pos hx];obtain⟨k,hk⟩:=hx.choose_spec;rw[hu k _ hk]
end Go.M
namespace Go.M
open Go Go.Proofs
set_option maxRecDepth 100000
set_option maxHeartbeats 4000000
section
variable {E:Env} {base:Nat} {cK:oA} {rK:lQ} {ops rest:List Oper} {o:Oper} {f:AF} {g g':ab} {K:AF→ab→Option Out}
theorem al {X:Option Out} (hw:wanted ops o f=true) (h:xG E base cK rK o f g (fun v h'=>iS E base cK rK ops rest (f.put o.dst v) h' K)=X):iS E base cK rK ops (o::rest) f g K=X:=by
 unfold iS;rw[hw];exact h
theorem aH {K:KV} {v:Value} (hx:∀it,o.op≠ .next it false) (h:aB E f o=some v):xG E base cK rK o f g K=K v g:=by
 unfold xG;split
 ·rename_i it e;exact absurd e (hx it)
 ·rw[h]
theorem ng {K:KV} {v:Value} {q:RQ} (hx:∀it,o.op≠ .next it false) (hp:aB E f o=none) (h:ba E f o=some q) (hv:q.run g=some v):xG E base cK rK o f g K=K v g:=by
 unfold xG;split
 ·rename_i it e;exact absurd e (hx it)
 ·simp only[hp,h,hv]
theorem rM {K:KV} {m:Made} {hd:oG} (hx:∀it,o.op≠ .next it false) (hp:aB E f o=none) (hr:ba E f o=none) (h:aP E f o=some (m,hd)):xG E base cK rK o f g K=K (hd.val g.size) (g.push (m.obj g.size)):=by
 unfold xG;split
 ·rename_i it e;exact absurd e (hx it)
 ·simp only[hp,h,hr]
theorem nV {K:KV} {v:Value} (hx:∀it,o.op≠ .next it false) (hp:aB E f o=none) (hr:ba E f o=none) (ha:aP E f o=none) (h:bT E base f o g=some (.val v,g')):xG E base cK rK o f g K=K v g':=by
 unfold xG;split
 ·rename_i it e;exact absurd e (hx it)
 ·simp only[hp,h,hr,ha]
theorem xO {K:KV} {l:Nat} {args:List Value} (hx:∀it,o.op≠ .next it false) (hp:aB E f o=none) (hr:ba E f o=none) (ha:aP E f o=none) (h:bT E base f o g=some (.round l args,g')):xG E base cK rK o f g K=rK l args g' K:=by
 unfold xG;split
 ·rename_i it e;exact absurd e (hx it)
 ·simp only[hp,h,hr,ha]
theorem jr {K:KV} {l:Nat} {args:List Value} (hx:∀it,o.op≠ .next it false) (hp:aB E f o=none) (hr:ba E f o=none) (ha:aP E f o=none) (h:bT E base f o g=some (.enter l args,g')):xG E base cK rK o f g K=cK l args g' K:=by
 unfold xG;split
 ·rename_i it e;exact absurd e (hx it)
 ·simp only[hp,h,hr,ha]
end
theorem a7 {E:Env} {base:Nat} {cK:oA} {rK:lQ} {ops:List Oper} {f:AF} {g:ab} {K:AF→ab→Option Out}:iS E base cK rK ops [] f g K=K f g:=rfl
theorem aJ {E:Env} {base n:Nat} {a b:Code} {f:AF} {h:ab} {K:KC}:aq E base (n+1) (.seq a b) f h K=aq E base n a f h (fun ex f' h'=>match ex with| .normal=>aq E base n b f' h' K|ex=>K ex f' h'):=rfl
theorem aV {E:Env} {base n id:Nat} {ops:Array Oper} {f:AF} {h:ab} {K:KC}:aq E base (n+1) (.region id ops false) f h K=iS E base (bN E base (aq E base n)) (gp base (aq E base n)) ops.toList ops.toList f h fun f' h'=>K .normal f' h':=rfl
noncomputable def fM:Code:=match Tryz.f84.body with|some (.seq _ (.seq (.seq _ (.block _ (.rangeFunc _ _ a _))) _))=>a|_=>.skip
noncomputable def fN:Code:=match Tryz.f84.body with|some (.seq _ (.seq (.seq _ (.block _ (.rangeFunc _ _ _ b))) _))=>b|_=>.skip
@[reducible] def kZ (s:Nat):Value:=.pointer (some ⟨s,0,none⟩)
@[reducible] def xP (b n c:Nat):Value:=.slice (some ⟨b,0,some 1⟩) n c
noncomputable def zp (s:Nat) (de:Value):AF:=((((AF.enter [.slice none 0 0,de] 13).set 2 (kZ s)).set 4 (.slice none 0 0)).set 6 de)
def FN (s:Nat) (g:ab) (v:Value) (acc:List Value):Prop:=
 (acc=[]∧v= .slice none 0 0)∨(0<acc.length∧∃b f t0 ee aE,v=xP b acc.length (acc.length+1)∧g.get b=some (.cells acc f t0 ee)∧g.cW b=some (f,b,aE)∧aE≤b∧s+3≤f∧f≤b∧b<g.size)
theorem lS {g:ab} {b t:Nat} {v:Value} (h:g.get b=some (.cells [v] b b t)) (ht:t≤b):ah g b 0 1=some [v]:=by
 unfold ah;rw[cJ (bp h h) ht (au h)];rfl
theorem append_nil {s:Nat} {g:ab} {k:Int}:bq (EC s) s (g.push (.cells [.int .u32 k] g.size g.size 0)) 56 56 (.slice none 0 0) (xP g.size 1 1)=
 some (xP (g.size+1) 1 2,(g.push (.cells [.int .u32 k] g.size g.size 0)).push (.cells [.int .u32 k] (g.size+1) (g.size+1) 0)):=by
 have hr:ah (g.push (.cells [.int .u32 k] g.size g.size 0)) g.size 0 1=some [.int .u32 k]:=lS (t:=0) (by rw[ab.ai,if_pos rfl]) (Nat.zero_le _)
 have:bq (EC s) s (g.push (.cells [.int .u32 k] g.size g.size 0)) 56 56 (.slice none 0 0) (xP g.size 1 1)=
  (ah (g.push (.cells [.int .u32 k] g.size g.size 0)) g.size 0 1).bind fun new=>aW (Nat.beq new.length 1) (some (fresh (g.push (.cells [.int .u32 k] g.size g.size 0)) new 1 1)):=by
  rfl
 rw[this,hr];simp only[Option.bind_some,fresh,ab.size_push];rfl
theorem C8 {s b n f t0 ee aE x:Nat} {g:ab} {k:Int} {acc:List Value} (hx:ah g x 0 1=some [.int .u32 k]) (hb:g.get b=some (.cells acc f t0 ee)) (hf:g.cW b=some (f,b,aE)) (ht:aE≤b) (hs:s≤f) (hn:acc.length=n) (hlen:n≤1000000):
 bq (EC s) s g 56 56 (xP b n (n+1)) (xP x 1 1)=some (xP g.size (n+1) (n+1+1),dg g f aE (acc++[.int .u32 k])):=by
 have hr:ah g b 0 (n*1)=some acc:=by
  unfold ah;rw[cJ hf ht (au hb)];simp only[Option.bind_some,List.drop_zero,aO];exact⟨om,by rw[List.take_of_length_le om]⟩
 have e:bq (EC s) s g 56 56 (xP b n (n+1)) (xP x 1 1)=aW (Nat.ble ((n+1+1)*5) 1099511627776) ((ah g b 0 (n*1)).bind fun old=>(ah g x 0 1).bind fun new=>aW (Nat.beq new.length 1)
  (bif Nat.beq (n+1) n then some (fresh g (old++new) 1 (n+1))else(g.cellsOf b).bind fun cs=>(g.cW b).bind fun r=>aW (Nat.ble s r.1&&Nat.beq r.2.1 b&&new.all dW)
   (some (xP g.size (n+1) (n+1+1),(g.bk r.1 g.size (bif Nat.beq (0+n*1) cs.length then r.2.2 else g.size)).push (.cells (old++new) r.1 0 0))))):=rfl
 rw[e,hr,hx];simp only[Option.bind_some,au hb,hf];have h1:Nat.ble ((n+1+1)*5) 1099511627776=true:=ax.2 om
 have h2:Nat.beq (n+1) n=false:=by cases hh:Nat.beq (n+1) n with
  |false=>rfl
  |true=>have:=beq_iff.1 hh;omega
 have h3:Nat.ble s f=true:=ax.2 hs;have h4:Nat.beq b b=true:=beq_iff.2 rfl;have h5:Nat.beq (0+n*1) acc.length=true:=beq_iff.2 om;rw[h1,h2,h3,h4,h5];rfl
theorem FO {s:Nat} {g:ab} {v v':Value} {t:Nat} (h:g.get s=some (.cells [v] s s t)) (ht:t≤s) (hv:v'.cells= #[v']) (_:dW v'=true):
 ((g.rd s).bind fun cs=>(cB cs 0 v'.cells.toList).bind fun cs'=>(g.wr s s cs').bind fun h'=>some (iL.val undef,h'))=some (.val undef,(g.setCells s [v']).bk s s s):=by
 rw[cJ (bp h h) ht (au h),hv];have:g.wr s s [v']=some ((g.setCells s [v']).bk s s s):=by
  unfold ab.wr;rw[ax.2 (Nat.le_refl s),bp h h];simp only[aW,Option.bind_some,beq_iff.2 (rfl:s=s),ax.2 (Nat.le_refl s)]
 show((g.wr s s [v']).bind fun h'=>some (iL.val undef,h'))=_;rw[this];rfl
theorem fO {s:Nat} {g:ab} {v v':Value} {t:Nat} (h:g.get s=some (.cells [v] s s t)) (c:Nat):((g.setCells s [v']).bk s s s).get c=if c=s then some (.cells [v'] s s s)else g.get c:=by
 rw[bd];by_cases e:c=s
 ·subst e;rw[if_pos rfl,if_pos rfl,bm,if_pos rfl,h]
 ·rw[if_neg e,if_neg e,bm,if_neg e]
theorem xQ {s:Nat} {g:ab} {v v':Value} {t:Nat} (h:g.get s=some (.cells [v] s s t)) {b:Nat} {r:Nat×Nat×Nat} (hr:g.cW b=some r) (aX:r.1≠s):((g.setCells s [v']).bk s s s).cW b=some r:=by
 have hc:(g.setCells s [v']).get s=some (.cells [v'] s s t):=by rw[bm,if_pos rfl,h]
 rw[oI hc,py,hr];simp[aX]
structure Vq (s:Nat) (g g':ab) (acc:List Value) (k:Int):Prop where
 wf:Wf g'
 size:g'.size=g.size+2
 box:∃v,g'.get s=some (.cells [v] s s s)∧FN s g' v (acc++[.int .u32 k])
 bf:∀c,c<s+3→c≠s→g'.get c=g.get c
theorem Wf.II {h:ab} (W:Wf h) {c:Nat} {o1 o:dV} (hc:h.get c=some o1) (n2:cD o=true):Wf (h.put c o):=by
 have bO:=W.lt hc;refine⟨fun b hb=>?_,fun b cs f cp aE hg=>?_⟩
 ·rw[ab.size_put]at hb;rw[ab.br,if_neg om];exact W.high b hb
 ·rw[ab.br]at hg;by_cases e:b=c
  ·rw[if_pos e]at hg;cases hg;simp[cD]at n2
  ·rw[if_neg e]at hg;exact W.le _ _ _ _ _ hg
theorem Bn {s:Nat} {g:ab} {v v':Value} {t:Nat} (W:Wf g) (h:g.get s=some (.cells [v] s s t)):Wf ((g.setCells s [v']).bk s s s):=by
 have bO:=W.lt h;refine⟨fun b hb=>?_,fun b cs f cp aE hg=>?_⟩
 ·rw[bh,bW]at hb;rw[fO h,if_neg om];exact W.high b hb
 ·rw[fO h]at hg;by_cases e:b=s
  ·rw[if_pos e]at hg;cases hg;omega
  ·rw[if_neg e]at hg;exact W.le _ _ _ _ _ hg
theorem FP {s:Nat} {g:ab} {v:Value} {t:Nat} {acc:List Value} {k:Int} (W:Wf g) (cI:s+3≤g.size) (h:g.get s=some (.cells [v] s s t)) (_:t≤s) (hv:FN s g v acc) (hlen:acc.length≤1000000):
 ∃v' g3,bq (EC s) s (g.push (.cells [.int .u32 k] g.size g.size 0)) 56 56 v (xP g.size 1 1)=some (v',g3)∧g3.get s=some (.cells [v] s s t)∧v'.cells= #[v']∧dW v'=true∧Vq s g ((g3.setCells s [v']).bk s s s) acc k:=by
 obtain⟨g1,iY⟩:∃g1,g1=g.push (.cells [.int .u32 k] g.size g.size 0):=⟨_,rfl⟩;have C9:∀c,c<g.size→g1.get c=g.get c:=fun c hc=>by rw[iY,ab.ai,if_neg om]
 have Da:g1.size=g.size+1:=by rw[iY,ab.size_push]
 have T8:g1.get g.size=some (.cells [.int .u32 k] g.size g.size 0):=by rw[iY,ab.ai,if_pos rfl]
 have hx:ah g1 g.size 0 1=some [.int .u32 k]:=lS T8 (Nat.zero_le _);have W1:Wf g1:=by rw[iY];exact W.push (fun cs f cp aE e=>by cases e;exact Nat.le_refl _)
 rw[←iY];rcases hv with⟨rfl,rfl⟩|⟨pH,b,f,t0,ee,aE,rfl,hb,hf,z8,OW,T9,RT⟩
 ·have ha:bq (EC s) s g1 56 56 (.slice none 0 0) (xP g.size 1 1)=some (xP (g.size+1) 1 2,g1.push (.cells [.int .u32 k] (g.size+1) (g.size+1) 0)):=by rw[iY];exact append_nil
  obtain⟨g3,FQ⟩:∃g3,g3=g1.push (.cells [.int .u32 k] (g.size+1) (g.size+1) 0):=⟨_,rfl⟩;rw[←FQ]at ha;have vA:∀c,c<g.size→g3.get c=g.get c:=fun c hc=>by rw[FQ,ab.ai,Da,if_neg om];exact C9 c hc
  have FR:g3.get (g.size+1)=some (.cells [.int .u32 k] (g.size+1) (g.size+1) 0):=by rw[FQ,ab.ai,Da,if_pos rfl]
  have h3:g3.get s=some (.cells [.slice none 0 0] s s t):=(vA s om).trans h;have W3:Wf g3:=by rw[FQ];exact W1.push (fun cs f cp aE e=>by cases e;omega)
  refine⟨_,g3,ha,h3,rfl,rfl,⟨Bn W3 h3,?_,⟨xP (g.size+1) 1 2,?_,.inr ⟨by simp,g.size+1,g.size+1,g.size+1,0,0,rfl,?_,?_,om,by omega,Nat.le_refl _,?_⟩⟩,fun c hc aX=>?_⟩⟩
  ·rw[bh,bW,FQ,ab.size_push,Da]
  ·rw[fO h3,if_pos rfl]
  ·rw[fO h3,if_neg om];exact FR
  ·exact xQ h3 (bp FR FR) (by simp;omega)
  ·rw[bh,bW,FQ,ab.size_push,Da];omega
  ·rw[fO h3,if_neg aX];exact vA c om
 ·have kL:g1.get b=some (.cells acc f t0 ee):=(C9 b RT).trans hb;obtain⟨c0,bK⟩:=bz hf;simp only at bK;have oM:g1.get f=some (.cells c0 f b aE):=(C9 f om).trans bK;have LD:g1.cW b=some (f,b,aE):=bp kL oM;have ha:=C8 (s:=s) (x:=g.size) (g:=g1) (k:=k) hx kL LD z8 om rfl hlen;obtain⟨g3,FQ⟩:∃g3,g3=dg g1 f aE (acc++[.int .u32 k]):=⟨_,rfl⟩;rw[←FQ,Da]at ha;have vA:∀c,c<g.size→c≠f→g3.get c=g.get c:=fun c hc aX=>by
   rw[FQ];unfold dg;rw[ab.ai,bh,Da,if_neg om,bd,if_neg aX];exact C9 c hc
  have FR:g3.get (g.size+1)=some (.cells (acc++[.int .u32 k]) f 0 0):=by
   rw[FQ];unfold dg;rw[ab.ai,bh,Da,if_pos rfl]
  have QU:g3.get f=some (.cells c0 f (g.size+1) aE):=by
   rw[FQ];unfold dg;rw[ab.ai,bh,Da,if_neg om,bd,if_pos rfl,oM]
  have h3:g3.get s=some (.cells [xP b acc.length (acc.length+1)] s s t):=(vA s om om).trans h;have L2:g3.size=g.size+2:=by rw[FQ];unfold dg;rw[ab.size_push,bh,Da]
  have W3:Wf g3:=by rw[FQ];exact Hl W1 oM
  refine⟨_,g3,ha,h3,rfl,rfl,⟨Bn W3 h3,?_,⟨xP (g.size+1) (acc.length+1) (acc.length+1+1),?_,.inr ⟨by simp,g.size+1,f,0,0,aE,by simp,?_,?_,om,by omega,om,?_⟩⟩,fun c hc aX=>?_⟩⟩
  ·rw[bh,bW,L2]
  ·rw[fO h3,if_pos rfl]
  ·rw[fO h3,if_neg om];exact FR
  ·exact xQ h3 (bp FR QU) (by simp;omega)
  ·rw[bh,bW,L2];omega
  ·rw[fO h3,if_neg aX];exact vA c om om
theorem KQ {s n:Nat} {g:ab} {v:Value} {t:Nat} {acc:List Value} {k:Int} {de:Value} (W:Wf g) (cI:s+3≤g.size) (h:g.get s=some (.cells [v] s s t)) (ht:t≤s) (hv:FN s g v acc) (hlen:acc.length≤1000000):
 ∃f' g',Vq s g g' acc k∧∀K:KC,aq (EC s) s (n+2) fN ((AF.fT ([7].zip [.int .u32 k]) (zp s de)).set 5 (.int .u32 k)) g K=K .normal f' g':=by
 obtain⟨v',g3,ha,h3,hc,ho,hN⟩:=FP (k:=k) W cI h ht hv hlen;refine⟨((((((AF.fT ([7].zip [.int .u32 k]) (zp s de)).set 5 (.int .u32 k)).set 8 v).set 9 (.int .u32 k)).set 10 (xP g.size 1 1)).set 11 v'),_,hN,fun K=>?_⟩;show iS (EC s) s (bN (EC s) s (aq (EC s) s n)) (gp s (aq (EC s) s n)) _ _ _ g _=_;refine al rfl ?_;refine(ng (v:=v) (q:=.cells false s 0 1) (fun it=>by simp) rfl rfl (by show(ah g s 0 1).bind _=_;rw[lS h ht];rfl)).trans ?_;refine al rfl ?_;refine(aH (v:=.int .u32 k) (fun it=>by simp) rfl).trans ?_;refine al rfl ?_
 refine(rM (m:=.cells [.int .u32 k]) (hd:=.slice 1 1 1) (fun it=>by simp) rfl rfl rfl).trans ?_;refine al rfl ?_;refine(nV (v:=v') (g':=g3) (fun it=>by simp) rfl rfl rfl ?_).trans ?_
 ·show((match bq (EC s) s (g.push (.cells [.int .u32 k] g.size g.size 0)) 56 56 v (xP g.size 1 1)with|some r=>some r|none=>fX (EC s) (g.push (.cells [.int .u32 k] g.size g.size 0)) 56 56 v (xP g.size 1 1)).bind fun r=>some (iL.val r.1,r.2))=_;rw[ha];rfl
 refine al rfl ?_;refine(nV (v:=undef) (g':=(g3.setCells s [v']).bk s s s) (fun it=>by simp) rfl rfl rfl ?_).trans ?_
 ·show((EC s).size 56).bind (fun n=>(some (s,0)).bind fun p=>aW (Nat.beq v'.cells.size n&&v'.cells.toList.all dW) ((g3.rd p.1).bind fun cs=>(cB cs p.2 v'.cells.toList).bind fun cs'=>(g3.wr s p.1 cs').bind fun h'=>some (iL.val undef,h')))=_;have hg:(Nat.beq v'.cells.size 1&&v'.cells.toList.all dW)=true:=by rw[hc];simp[ho]
  show aW (Nat.beq v'.cells.size 1&&v'.cells.toList.all dW) ((g3.rd s).bind fun cs=>(cB cs 0 v'.cells.toList).bind fun cs'=>(g3.wr s s cs').bind fun h'=>some (iL.val undef,h'))=_;rw[hg];exact FO h3 ht hc ho
 rfl
theorem FT {s n:Nat} {f:AF} {g:ab} {K:KC}:aq (EC s) s (n+1) fM f g K=K .normal (f.set 5 (f.get 7)) g:=rfl
structure St (s m:Nat) (de:Value) (es:List MapEntry) (clock:Nat) (acc:List Value) (seen:List Nat) (g:ab):Prop where
 sz:s+3≤g.size
 box:∃v t,g.get s=some (.cells [v] s s t)∧t≤s∧FN s g v acc
 lp:g.get (s+1)=some (.loop .ready none (zp s de) [7] fM fN)
 it:g.get (s+2)=some (.bM (some m) clock seen clock)
 mp:g.get m=some (.map es clock)
 lt:m<s
 wf:Wf g
theorem FN.put {s c:Nat} {g:ab} {v:Value} {acc:List Value} {o1 o:dV} (h:FN s g v acc) (hc:g.get c=some o1) (n1:cD o1=true) (n2:cD o=true) (bO:c<s+3):FN s (g.put c o) v acc:=by
 rcases h with h|⟨hp,b,f,t0,ee,aE,q1,q2,q3,q4,q5,q6,q7⟩
 ·exact .inl h
 ·exact .inr ⟨hp,b,f,t0,ee,aE,q1,by rw[ab.br,if_neg om];exact q2,by rw[pz hc n1 n2];exact q3,q4,q5,q6,q7⟩
theorem Bo {s m n:Nat} {de:Value} {es:List MapEntry} {clock:Nat} {acc:List Value} {seen:List Nat} {g:ab} {k:Int} (H:St s m de es clock acc seen g) (hlen:acc.length≤1000000):
 ∃g',St s m de es clock (acc++[.int .u32 k]) seen g'∧∀K:KV,gp s (aq (EC s) s (n+2)) (s+1) [.int .u32 k] g K=K (.bool true) g':=by
 obtain⟨v,t,hb,ht,hv⟩:=H.box;have cI:=H.sz;obtain⟨g1,iY⟩:∃g1,g1=g.put (s+1) (.loop .busy none (zp s de) [7] fM fN):=⟨_,rfl⟩;have C9:∀c,c≠s+1→g1.get c=g.get c:=fun c hc=>by rw[iY,ab.br,if_neg hc]
 have pn:FN s g1 v acc:=by rw[iY];exact hv.put H.lp rfl rfl om
 obtain⟨f',g2,hN,hK⟩:=KQ (n:=n) (k:=k) (de:=de) (by rw[iY];exact H.wf.II H.lp rfl) (by rw[iY];exact cI) ((C9 s om).trans hb) ht pn hlen;obtain⟨v2,qA,EF⟩:=hN.box;have zG:g2.get (s+1)=some (.loop .busy none (zp s de) [7] fM fN):=by rw[hN.bf _ om om,iY,ab.br,if_pos rfl]
 have QV:∀c,c<s+3→c≠s→c≠s+1→g2.get c=g.get c:=fun c h1 h2 h3=>(hN.bf c h1 h2).trans (C9 c h3);refine⟨g2.put (s+1) (.loop .ready none (zp s de) [7] fM fN),⟨?_,⟨v2,s,?_,Nat.le_refl _,EF.put zG rfl rfl om⟩,?_,?_,?_,H.lt,hN.wf.II zG rfl⟩,fun K=>?_⟩
 ·rw[ab.size_put,hN.size,iY,ab.size_put];omega
 ·rw[ab.br,if_neg om];exact qA
 ·rw[ab.br,if_pos rfl]
 ·rw[ab.br,if_neg om,QV _ om om om];exact H.it
 ·have:=H.lt;rw[ab.br,if_neg om,QV _ om om om];exact H.mp
 ·unfold gp;rw[H.lp,ax.2 (show s≤s+1 by omega)];have hc:(Nat.beq ([7]:List Nat).length [Value.int .u32 k].length&&aj fM&&aj fN)=true:=rfl;simp only[aW,hc];rw[FT,show(AF.fT ([7].zip [Value.int .u32 k]) (zp s de)).get 7= .int .u32 k from rfl];simp only[H.lp];rw[←iY,hK];simp only[zG]
noncomputable def Bp:Code:=match Tryz.f54.body with|some (.seq _ (.block _ (.loop b)))=>b|_=>.skip
noncomputable def RU:Code:=match Bp with| .seq _ (.seq _ (.block _ b))=>b|_=>.skip
theorem gs {f:AF} {t:Nat} {v:Value} (h:t<f.n):(f.set t v).get t=v:=by rw[AF.fx,if_pos ⟨rfl,h⟩]
theorem gn {f:AF} {t u:Nat} {v:Value} (h:u≠t):(f.set t v).get u=f.get u:=by rw[AF.fx,if_neg (fun e=>h e.1)]
structure s9 (s:Nat) (f:AF):Prop where
 n:f.n=14
 g0:f.get 0= .func (.yield (s+1)) #[] #[]
 g5:f.get 5=kZ (s+2)
theorem s9.set {s t:Nat} {f:AF} {v:Value} (H:s9 s f) (h0:0≠t) (h5:5≠t):s9 s (f.set t v):=⟨(AF.rV _ _ _).trans H.n,(gn h0).trans H.g0,(gn h5).trans H.g5⟩
theorem rN {E:Env} {f:AF} {t:Nat} {cs:List Value} {o:Oper} {i:Nat} {v:Value} (ho:o.op= .extract (.tmp t) i) (h:f.get t= .tuple cs.toArray) (hv:cs[i]? =some v):aB E f o=some v:=by
 unfold aB;rw[ho];show((ev E f (.tmp t)).bind fun v=>(match v with| .tuple vs=>vs.toList[i]? |_=>none))=_;rw[show ev E f (.tmp t)=some (f.get t)from rfl,h];simpa using hv
theorem find_born {es:List MapEntry} (hn:(es.map (·.born)).Nodup) {e:MapEntry} (he:e∈es):es.find? (fun x=>x.born==e.born)=some e:=by
 induction es with
 |nil=>cases he
 |cons a l ih=>
  rw[List.find?_cons];rcases List.mem_cons.1 he with rfl |he
  ·simp
  ·have aX:a.born≠e.born:=fun h=>by
    simp only[List.map_cons,List.nodup_cons]at hn;exact hn.1 (List.mem_map.2 ⟨e,he,h.symm⟩)
   have:(a.born==e.born)=false:=by simpa using aX
   rw[this];exact ih (List.nodup_cons.1 (by simpa using hn)).2 he
theorem KR {s m n:Nat} {de:Value} {es:List MapEntry} {clock:Nat} {acc:List Value} {seen:List Nat} {g:ab} {f:AF} {e:MapEntry} {k:Int} (H:St s m de es clock acc (seen++[e.born]) g) (hf:s9 s f) (hlen:acc.length≤1000000) (bA:ox es clock) (he:e∈es) (hk:e.key= .int .u32 k):
 ∃f' g',St s m de es clock (acc++[.int .u32 k]) (seen++[e.born]) g'∧s9 s f'∧∀K:KC,aq (EC s) s (n+5) RU f g K=K .normal f' g':=by
 obtain⟨g',H',hy⟩:=Bo (n:=n) (k:=k) H hlen;have NQ:iM g (s+2)=some (.tuple #[e.key,e.val]):=by
  unfold iM;rw[H.it];simp only[H.mp,List.getLast?_append,List.getLast?_singleton,Option.some_or,Option.bind_some,aW,beq_iff.2 (rfl:clock=clock),find_born bA.2 he]
 obtain⟨f8,h8⟩:∃x,x=f.set 8 (.tuple #[e.key,e.val]):=⟨_,rfl⟩;have F8:s9 s f8:=by rw[h8];exact hf.set om om
 obtain⟨f9,h9⟩:∃x,x=f8.set 9 (.int .u32 k):=⟨_,rfl⟩;have F9:s9 s f9:=by rw[h9];exact F8.set om om
 obtain⟨f3,h3⟩:∃x,x=f9.set 3 (.int .u32 k):=⟨_,rfl⟩;have F3:s9 s f3:=by rw[h3];exact F9.set om om
 obtain⟨fa,ha⟩:∃x,x=f3.set 10 (.func (.yield (s+1)) #[] #[]):=⟨_,rfl⟩;have Fa:s9 s fa:=by rw[ha];exact F3.set om om
 obtain⟨fb,hb⟩:∃x,x=fa.set 11 (.int .u32 k):=⟨_,rfl⟩;have Fb:s9 s fb:=by rw[hb];exact Fa.set om om
 obtain⟨fc,hc⟩:∃x,x=fb.set 12 (.bool true):=⟨_,rfl⟩;have Fc:s9 s fc:=by rw[hc];exact Fb.set om om
 obtain⟨fd,hd⟩:∃x,x=fc.set 13 (.bool false):=⟨_,rfl⟩;have Fd:s9 s fd:=by rw[hd];exact Fc.set om om
 refine⟨fd,g',H',Fd,fun K=>?_⟩;show iS (EC s) s _ _ _ _ f g _=_;refine al rfl ?_;refine(nV (v:=.tuple #[e.key,e.val]) (g':=g) (fun it=>by simp) rfl rfl rfl ?_).trans ?_
 ·show((some (f.get 5)).bind fun v=>(iO v).bind fun r=>(iM g r).bind fun v=>some (iL.val v,g))=_;rw[hf.g5];show((iM g (s+2)).bind fun v=>some (iL.val v,g))=_;rw[NQ];rfl
 show iS (EC s) s _ _ _ _ (f.set 8 (.tuple #[e.key,e.val])) g _=_;rw[←h8];refine al rfl ?_;refine(aH (v:=.int .u32 k) (fun it=>by simp) (rN (cs:=[e.key,e.val]) rfl (by rw[h8,gs (by rw[hf.n];omega)]) (by rw[hk];rfl))).trans ?_;show iS (EC s) s _ _ _ _ (f8.set 9 (.int .u32 k)) g _=_;rw[←h9];refine al rfl ?_;refine(aH (v:=.int .u32 k) (fun it=>by simp) (by show some (f9.get 9)=_;rw[h9,gs (by rw[F8.n];omega)])).trans ?_;rw[a7];show aq (EC s) s (n+4) _ (f9.set 3 (.int .u32 k)) g K=_;rw[aJ,aV];rw[←h3];refine al rfl ?_
 refine(aH (v:=.func (.yield (s+1)) #[] #[]) (fun it=>by simp) (by show some (f3.get 0)=_;rw[F3.g0])).trans ?_;show iS (EC s) s _ _ _ _ (f3.set 10 (.func (.yield (s+1)) #[] #[])) g _=_;rw[←ha];refine al rfl ?_;refine(aH (v:=.int .u32 k) (fun it=>by simp) (by show some (fa.get 3)=_;rw[ha,gn om,h3,gs (by rw[F9.n];omega)])).trans ?_;show iS (EC s) s _ _ _ _ (fa.set 11 (.int .u32 k)) g _=_;rw[←hb];refine al rfl ?_;refine(xO (l:=s+1) (args:=[.int .u32 k]) (g':=g) (fun it=>by simp) rfl rfl rfl ?_).trans ?_
 ·show((some (fb.get 11)).bind fun v=>(some []).bind fun vs=>some (v::vs)).bind (fun args=>(some (fb.get 10)).bind fun g0=>(match g0 with
   | .func (.func g1) first captured=>some (iL.enter g1 (first.toList++args++captured.toList),g)
   | .func (.yield l) first _=>some (.round l (first.toList++args),g)
   |_=>none))=_
  rw[hb,gs (by rw[Fa.n];omega),gn om,ha,gs (by rw[F3.n];omega)];rfl
 rw[hy];show iS (EC s) s _ _ _ _ (fb.set 12 (.bool true)) g' _=_;rw[←hc];refine al rfl ?_;refine(aH (v:=.bool false) (fun it=>by simp) (by show((some (fc.get 12)).bind fun a=>aW (scalar a) (dw (Op.unary .not a)))=_;rw[hc,gs (by rw[Fb.n];omega)];rfl)).trans ?_;rw[a7]
 show(match(some ((fc.set 13 (.bool false)).get 13)).bind sN with
  |some true=>_
  |some false=>_
  |none=>none)=_
 rw[gs (by rw[Fc.n];omega)];subst hd;rfl
theorem Bq {X:Out} (hX:dL X X=true):∀{l:List (Option Out)},l≠[]→(∀x∈l,x=some X)→meet l=some X
 |[],h,_=>absurd rfl h
 |x::xs,_,h=>by
  obtain rfl:=h x List.mem_cons_self;unfold meet;have gen:∀b,b=true→aW b (some X)=some X:=by rintro _ rfl;rfl
  refine gen _ ?_;rw[List.all_eq_true];intro y hy;rw[h y (List.mem_cons_of_mem _ hy)];exact hX
theorem Br {s m:Nat} {de:Value} {es:List MapEntry} {clock:Nat} {acc:List Value} {seen:List Nat} {g:ab} {b:Nat} (H:St s m de es clock acc seen g):St s m de es clock acc (seen++[b]) (g.put (s+2) (.bM (some m) clock (seen++[b]) clock)):=by
 obtain⟨v,t,hb,ht,hv⟩:=H.box;have:=H.lt;exact⟨by rw[ab.size_put];exact H.sz,⟨v,t,by rw[ab.br,if_neg om];exact hb,ht,hv.put H.it rfl rfl om⟩,by rw[ab.br,if_neg om];exact H.lp,by rw[ab.br,if_pos rfl],by rw[ab.br,if_neg om];exact H.mp,H.lt,H.wf.II H.it rfl⟩
def wL (e:MapEntry):Prop:=∃k:Int,e.key= .int .u32 k
theorem lT {E:Env} {base n:Nat} {b:Code} {f:AF} {h:ab} {K:KC}:aq E base (n+1) (.loop b) f h K=aq E base n b f h (fun ex f' h'=>match ex with| .normal=>aq E base n (.loop b) f' h' K|ex=>K ex f' h'):=rfl
theorem fP {E:Env} {base n id:Nat} {b:Code} {f:AF} {h:ab} {K:KC}:aq E base (n+1) (.block id b) f h K=aq E base n b f h (fun ex f' h'=>match ex with| .exit jl=>bif Nat.beq jl id then K .normal f' h' else K (.exit jl) f' h'|ex=>K ex f' h'):=rfl
theorem qo {E:Env} {base:Nat} {cK:oA} {rK:lQ} {o:Oper} {f:AF} {g:ab} {K:KV} {it:Operand} {r:Nat} (ho:o.op= .next it false) (h:(ev E f it).bind iO=some r):xG E base cK rK o f g K=qk g r base K:=by
 unfold xG;split
 ·rename_i Yk e;rw[ho]at e;cases e;rw[h]
 ·rename_i hx;exact absurd ho (hx it)
def eA (es ch:List MapEntry):List MapEntry:=es.filter fun e=> !(ch.map (·.born)).contains e.born
theorem xR {l:List MapEntry} (hn:(l.map (·.born)).Nodup) {e:MapEntry} (he:e∈l):l.Perm (e::l.filter fun x=> !(x.born==e.born)):=by
 induction l with
 |nil=>cases he
 |cons a l ih=>
  have JU:=List.nodup_cons.1 (show(a.born::l.map (·.born)).Nodup from hn);rcases List.mem_cons.1 he with rfl |he
  ·rw[List.filter_cons_of_neg (by simp)];have:l.filter (fun x=> !(x.born==e.born))=l:=by
    rw[List.filter_eq_self];intro x hx;have:x.born≠e.born:=fun h=>JU.1 (List.mem_map.2 ⟨x,hx,h⟩);simpa using this
   rw[this]
  ·have aX:a.born≠e.born:=fun h=>JU.1 (List.mem_map.2 ⟨e,he,h.symm⟩);rw[List.filter_cons_of_pos (by simpa using aX)];exact((ih JU.2 he).cons a).trans (.swap _ _ _)
theorem xS (es ch:List MapEntry) (e:MapEntry):eA es (ch++[e])=(eA es ch).filter fun x=> !(x.born==e.born):=by
 unfold eA;rw[List.filter_filter];refine List.filter_congr fun x _=>?_;simp only[List.map_append,List.map_cons,List.map_nil,List.contains_eq_mem,List.mem_append,List.mem_singleton];by_cases h1:x.born∈ch.map (·.born)<;>by_cases h2:x.born=e.born<;>simp_all
theorem sD {E:Env} {base n:Nat} {c:Operand} {a b:Code} {f:AF} {h:ab} {K:KC} (hc:(ev E f c).bind sN=some false):aq E base (n+1) (.cond c a b) f h K=aq E base n b f h K:=by
 show(match(ev E f c).bind sN with|some true=>aq E base n a f h K|some false=>aq E base n b f h K|none=>none)=_;rw[hc]
theorem sE {E:Env} {base n:Nat} {c:Operand} {a b:Code} {f:AF} {h:ab} {K:KC} (hc:(ev E f c).bind sN=some true):aq E base (n+1) (.cond c a b) f h K=aq E base n a f h K:=by
 show(match(ev E f c).bind sN with|some true=>aq E base n a f h K|some false=>aq E base n b f h K|none=>none)=_;rw[hc]
theorem vB {E:Env} {base n:Nat} {f:AF} {h:ab} {K:KC}:aq E base (n+1) .skip f h K=K .normal f h:=rfl
theorem qp {es:List MapEntry} {clock:Nat} {seen:List Nat} (bA:ox es clock):(!(!seen.isEmpty&& !es.isEmpty&&es.all (fun e=>Nat.ble clock e.born)))=true:=by
 cases es with
 |nil=>simp
 |cons e l=>
  have:=bA.1 e List.mem_cons_self
  have hb:Nat.ble clock e.born=false:=by cases hh:Nat.ble clock e.born with
   |false=>rfl
   |true=>have:=ax.1 hh;omega
  simp[hb]
theorem KS {s m:Nat} {de:Value} {es:List MapEntry} {clock:Nat} {X:Out} (hX:dL X X=true) (bA:ox es clock) (ft:∀e∈es,wL e) (hlen:es.length≤1000000) {K:KC}
 (hK:∀(ch:List MapEntry) f g,St s m de es clock (ch.map (·.key)) (ch.map (·.born)) g→ch.Perm es→K (.exit 0) f g=some X):
 ∀(r n:Nat) (ch:List MapEntry) (f:AF) (g:ab),St s m de es clock (ch.map (·.key)) (ch.map (·.born)) g→s9 s f→(ch++eA es ch).Perm es→(eA es ch).length=r→aq (EC s) s (n+r+9) (.loop Bp) f g K=some X:=by
 intro r
 induction r with
 |zero=>
  intro n ch f g H hf hp hr;have hl:eA es ch=[]:=List.eq_nil_of_length_eq_zero hr;rw[hl,List.append_nil]at hp;rw[lT];show aq (EC s) s (n+8) (.seq _ (.seq (.cond _ .skip (.exit 0)) _)) f g _=_;rw[aJ,aV];refine al rfl ?_;refine(qo (it:=.tmp 5) (r:=s+2) rfl (by show(some (f.get 5)).bind iO=_;rw[hf.g5];rfl)).trans ?_;unfold qk;rw[ax.2 (show s≤s+2 by omega),H.it];simp only[H.mp,aW,qp bA,show es.filter (fun e=> !(ch.map (·.born)).contains e.born)=[]from hl];refine al rfl ?_
  refine(aH (v:=.bool false) (fun it=>by simp) (rN (cs:=[.bool false]) rfl (by show(f.set 6 _).get 6=_;rw[gs (by rw[hf.n];omega)]) rfl)).trans ?_;rw[a7];show aq (EC s) s (n+7) (.seq (.cond (.tmp 7) .skip (.exit 0)) _) ((f.set 6 (.tuple #[.bool false])).set 7 (.bool false)) g _=_;rw[aJ,sD (by show(some (AF.get _ 7)).bind sN=_;rw[gs (by rw[AF.rV,hf.n];omega)];rfl)];exact hK ch _ g H hp
 |succ r ih=>
  intro n ch f g H hf hp hr;have aX:eA es ch≠[]:=fun h=>by rw[h]at hr;simp at hr
  rw[lT];show aq (EC s) s (n+(r+1)+8) (.seq _ (.seq (.cond _ .skip (.exit 0)) (.block 1 RU))) f g _=_;rw[aJ,aV];refine al rfl ?_;refine(qo (it:=.tmp 5) (r:=s+2) rfl (by show(some (f.get 5)).bind iO=_;rw[hf.g5];rfl)).trans ?_;unfold qk;rw[ax.2 (show s≤s+2 by omega),H.it];simp only[H.mp,aW,qp bA];generalize hl:es.filter (fun e=> !(ch.map (·.born)).contains e.born)=l;have nH:eA es ch=l:=hl;rw[nH]at aX hr hp;cases l with
  |nil=>exact absurd rfl aX
  |cons e0 l0=>
   show meet (List.map _ (e0::l0))=_;refine Bq hX (by simp) fun x hx=>?_;obtain⟨e,he,rfl⟩:=List.mem_map.1 hx;have AH:e∈eA es ch:=by rw[nH];exact he
   have jL:e∈es:=(List.mem_filter.1 AH).1;obtain⟨k,hk⟩:=ft e jL;have gJ:(e0::l0).Perm (e::eA es (ch++[e])):=by
    rw[xS,nH];exact xR (by rw[←nH];exact List.Nodup.sublist ((List.filter_sublist (l:=es)).map _) bA.2) he
   have rG:((ch++[e])++eA es (ch++[e])).Perm es:=by
    refine List.Perm.trans ?_ hp;rw[List.append_assoc];exact(gJ.symm.append_left ch)
   have qC:(eA es (ch++[e])).length=r:=by
    have:=gJ.length_eq;rw[hr]at this;simpa using this.symm
   have bL:ch.length≤es.length:=by
    have:=hp.length_eq;simp at this;omega
   have NR:Nat.blt e.born clock=true:=aF.2 (bA.1 e jL);simp only[NR];refine al rfl ?_;refine(aH (v:=.bool true) (fun it=>by simp) (rN (cs:=[.bool true,e.key,e.val]) rfl (by show(f.set 6 _).get 6=_;rw[gs (by rw[hf.n];omega)]) rfl)).trans ?_;rw[a7];have F7:s9 s ((f.set 6 (.tuple #[.bool true,e.key,e.val])).set 7 (.bool true)):=(hf.set om om).set om om;obtain⟨f',g',H',ph,hT⟩:=KR (n:=n+r+1) (Br H) F7 (by simpa using Nat.le_trans bL hlen) bA jL hk;show aq (EC s) s (n+r+8) (.seq (.cond (.tmp 7) .skip (.exit 0)) (.block 1 RU)) ((f.set 6 (.tuple #[.bool true,e.key,e.val])).set 7 (.bool true)) _ _=_
   rw[aJ,sE (by show(some (AF.get _ 7)).bind sN=_;rw[gs (by rw[AF.rV,hf.n];omega)];rfl)];rw[vB];show aq (EC s) s (n+r+7) (.block 1 RU) _ _ _=_;rw[fP];rw[show n+r+6=n+r+1+5 by omega];rw[hT];show aq (EC s) s (n+(r+1)+8) (.loop Bp) f' g' K=_;rw[show n+(r+1)+8=n+r+9 by omega];exact ih n (ch++[e]) f' g' (by simpa[hk]using H') ph rG qC
@[reducible] def iG (B:Nat):Value:=.func (.func 54) #[] #[kZ B]
theorem eU {E:Env} {base:Nat} {run:Fz} {g:FuncId} {fn:Func} {code:Code} {args:List Value} {h:ab} {K:KV} (hf:E.func g=some fn) (ho:E.mn base g args h=none) (hb:fn.body=some code) (hl:Nat.ble args.length fn.ntmps=true):
 bN E base run g args h K=run code (AF.enter args fn.ntmps) h (fun ex f h'=>match ex with
  | .exit _=>none
  |_=>match bx E h' f fn.results.toList with
   |some vs=>K (aZ vs) h'
   |none=>none):=by
 unfold bN;rw[hf];simp only[ho,hb,hl,aW];rfl
noncomputable def Xn:Array Oper:=match Tryz.f54.body with|some (.seq (.region _ o _) _)=>o|_=> #[]
theorem IJ {s m B n:Nat} {de:Value} {es:List MapEntry} {clock:Nat} {X:Out} {g:ab} (hX:dL X X=true) (bA:ox es clock) (ft:∀e∈es,wL e) (hlen:es.length≤1000000) {K:KV}
 (cI:g.size=s+2) (W:Wf g) (hb:g.get s=some (.cells [.slice none 0 0] s s 0)) (hl:g.get (s+1)=some (.loop .ready none (zp s de) [7] fM fN)) (hm:g.get m=some (.map es clock)) (bO:m<s) (hr:ah g B 0 1=some [.map (some m)])
 (hK:∀(ch:List MapEntry) g',St s m de es clock (ch.map (·.key)) (ch.map (·.born)) g'→ch.Perm es→K (.tuple #[]) g'=some X):
 bN (EC s) s (aq (EC s) s (n+es.length+11)) 54 [.func (.yield (s+1)) #[] #[],kZ B] g K=some X:=by
 refine(eU (code:=.seq (.region 0 Xn false) (.block 0 (.loop Bp))) (show(EC s).func 54=some Tryz.f54 by kernel_rfl) rfl rfl rfl).trans ?_;rw[aJ,aV];refine al rfl ?_;refine(ng (v:=.map (some m)) (q:=.cells false B 0 1) (fun it=>by simp) rfl rfl (by show(ah g B 0 1).bind _=_;rw[hr];rfl)).trans ?_;refine al rfl ?_;refine(nV (v:=kZ g.size) (g':=g.push (.bM (some m) clock [] clock)) (fun it=>by simp) rfl rfl rfl ?_).trans ?_
 ·show(match g.get m with
   |some (.map _ clock)=>some (iL.val (.pointer (some ⟨g.size,0,none⟩)),g.push (.bM (some m) clock [] clock))
   |_=>none)=_
  rw[hm]
 rw[a7];show aq (EC s) s (n+es.length+10) (.block 0 (.loop Bp)) (((AF.enter [.func (.yield (s+1)) #[] #[],kZ B] 14).set 4 (.map (some m))).set 5 (kZ g.size)) (g.push (.bM (some m) clock [] clock)) _=_;rw[fP,cI];refine KS (de:=de) (ch:=[]) hX bA ft hlen (fun ch f g' H hp=>?_) es.length n _ _ ⟨?_,⟨.slice none 0 0,0,?_,Nat.zero_le _,.inl ⟨rfl,rfl⟩⟩,?_,?_,?_,bO,?_⟩ ⟨rfl,rfl,rfl⟩ ?_ ?_
 ·exact hK ch g' H hp
 ·rw[ab.size_push];omega
 ·rw[ab.ai,if_neg om];exact hb
 ·rw[ab.ai,if_neg om];exact hl
 ·rw[ab.ai,if_pos cI.symm];rfl
 ·rw[ab.ai,if_neg om];exact hm
 ·exact W.push (fun _ _ _ _ e=>by cases e)
 ·rw[show eA es []=es from List.filter_eq_self.2 (by simp)];exact List.Perm.refl _
 ·rw[show eA es []=es from List.filter_eq_self.2 (by simp)]
noncomputable def Vr:Array Oper:=match Tryz.f84.body with|some (.seq (.region _ o _) _)=>o|_=> #[]
noncomputable def RV:Array Oper:=match Tryz.f84.body with|some (.seq _ (.seq (.seq (.region _ o _) _) _))=>o|_=> #[]
noncomputable def O4:Array Oper:=match Tryz.f84.body with|some (.seq _ (.seq _ (.seq (.region _ o _) _)))=>o|_=> #[]
theorem sF {E:Env} {base n:Nat} {g:Operand} {ps:Array Tmp} {c7 body:Code} {f:AF} {h:ab} {K:KC} {g0:FuncId} {first captured:Array Value} (hg:ev E f g=some (.func (.func g0) first captured)) (hb:base≤h.size):
 aq E base (n+1) (.rangeFunc g ps c7 body) f h K=bN E base (aq E base n) g0 (first.toList++[.func (.yield h.size) #[] #[]]++captured.toList) (h.push (.loop .ready none f ps.toList c7 body)) fun _ h1=>
    (match h1.get h.size with
    |some (.loop st p f0 zT mB ik)=>aW (st != .busy) (match p with
     |none=>K .normal f (h1.put h.size (.loop .exhausted p f0 zT mB ik))
     |some c=>aq E base n c f (h1.put h.size (.loop .exhausted p f0 zT mB ik)) K)
    |_=>none):=by
 show(match ev E f g with
  |some (.func (.func g) first captured)=>_
  |_=>none)=_
 rw[hg];simp only[ax.2 hb,aW];rfl
theorem KT {s m B n:Nat} {es:List MapEntry} {clock:Nat} {X:Out} {h:ab} (hX:dL X X=true) (bA:ox es clock) (ft:∀e∈es,wL e) (hlen:es.length≤1000000) {K:KV}
 (hs:h.size=s) (W:Wf h) (hm:h.get m=some (.map es clock)) (hr:ah h B 0 1=some [.map (some m)])
 (hK:∀(ch:List MapEntry) v g',Wf g'→s+3≤g'.size→FN s g' v (ch.map (·.key))→ch.Perm es→K v g'=some X):
 bN (EC s) s (aq (EC s) s (n+es.length+16)) 84 [.slice none 0 0,iG B] h K=some X:=by
 have bO:=W.lt hm;rw[hs]at bO;refine(eU (code:=.seq (.region 0 Vr false) (.seq (.seq (.region 1 RV false) (.block 0 (.rangeFunc (.tmp 6) #[7] fM fN))) (.seq (.region 4 O4 false) .ret))) (show(EC s).func 84=some Tryz.f84 by kernel_rfl) rfl rfl rfl).trans ?_;rw[aJ,aV];refine al rfl ?_;refine(rM (m:=.cells [.slice none 0 0]) (hd:=.ptr) (fun it=>by simp) rfl rfl rfl).trans ?_;refine al rfl ?_;refine(aH (v:=.slice none 0 0) (fun it=>by simp) rfl).trans ?_;rw[a7,hs];obtain⟨g1,iY⟩:∃g1,g1=h.push (.cells [.slice none 0 0] s s 0):=⟨_,rfl⟩;have Da:g1.size=s+1:=by rw[iY,ab.size_push,hs]
 have W1:Wf g1:=by rw[iY];exact W.push (fun cs f cp aE e=>by cases e;omega)
 show aq (EC s) s (n+es.length+15) (.seq (.seq (.region 1 RV false) (.block 0 (.rangeFunc (.tmp 6) #[7] fM fN))) (.seq (.region 4 O4 false) .ret)) (((AF.enter [.slice none 0 0,iG B] 13).set 2 (kZ s)).set 4 (.slice none 0 0)) (h.push (.cells [.slice none 0 0] s s 0)) _=_;rw[←iY,aJ,aJ,aV];refine al rfl ?_;refine(aH (v:=iG B) (fun it=>by simp) rfl).trans ?_;rw[a7];show aq (EC s) s (n+es.length+13) (.block 0 (.rangeFunc (.tmp 6) #[7] fM fN)) (zp s (iG B)) g1 _=_;rw[fP,sF (first:= #[]) (captured:= #[kZ B]) rfl om,Da]
 show bN (EC s) s (aq (EC s) s (n+es.length+11)) 54 [.func (.yield (s+1)) #[] #[],kZ B] (g1.push (.loop .ready none (zp s (iG B)) [7] fM fN)) _=_;refine IJ (de:=iG B) hX bA ft hlen ?_ ?_ ?_ ?_ ?_ bO ?_ (fun ch g' H hp=>?_)
 ·rw[ab.size_push,Da]
 ·exact W1.push (fun _ _ _ _ e=>by cases e)
 ·rw[ab.ai,if_neg om,iY,ab.ai,if_pos hs.symm]
 ·rw[ab.ai,if_pos om]
 ·rw[ab.ai,if_neg om,iY,ab.ai,if_neg om];exact hm
 ·have:∃cs,h.rd B=some cs:=by
   unfold ah at hr;cases hh:h.rd B with
   |none=>rw[hh]at hr;simp at hr
   |some cs=>exact⟨cs,rfl⟩
  obtain⟨cs,oi⟩:=this;obtain⟨_,_,_,Ua⟩:=qQ oi;have Ub:=W.lt Ua;unfold ah at hr ⊢;rw[cL W1.le _ om,iY,cL W.le _ Ub];exact hr
 ·obtain⟨v,t,hb,ht,hv⟩:=H.box;simp only[H.lp];obtain⟨gE,IK⟩:∃gE,gE=g'.put (s+1) (.loop .exhausted none (zp s (iG B)) [7] fM fN):=⟨_,rfl⟩;have Uc:gE.get s=some (.cells [v] s s t):=by rw[IK,ab.br,if_neg om];exact hb
  show aq (EC s) s (n+es.length+14) (.seq (.region 4 O4 false) .ret) (zp s (iG B)) (g'.put (s+1) (.loop .exhausted none (zp s (iG B)) [7] fM fN)) _=_;rw[←IK,aJ,aV];refine al rfl ?_;refine(ng (v:=v) (q:=.cells false s 0 1) (fun it=>by simp) rfl rfl (by show(ah gE s 0 1).bind _=_;rw[lS Uc ht];rfl)).trans ?_;refine al rfl ?_;refine(aH (v:=v) (fun it=>by simp) rfl).trans ?_;rw[a7];exact hK ch v gE (by rw[IK];exact H.wf.II H.lp rfl) (by rw[IK,ab.size_put];exact H.sz) (by rw[IK];exact hv.put H.lp rfl rfl om) hp
noncomputable def Vs:Array Oper:=match Tryz.f52.body with|some (.seq (.region _ o _) _)=>o|_=> #[]
noncomputable def RW:Array Oper:=match Tryz.f52.body with|some (.seq _ (.seq (.region _ o _) _))=>o|_=> #[]
theorem KU {s m B n:Nat} {es:List MapEntry} {clock:Nat} {X:Out} {h:ab} (hX:dL X X=true) (bA:ox es clock) (ft:∀e∈es,wL e) (hlen:es.length≤1000000) {K:KV}
 (hs:h.size=s) (W:Wf h) (hm:h.get m=some (.map es clock)) (hr:ah h B 0 1=some [.map (some m)])
 (hK:∀(ch:List MapEntry) v g',Wf g'→s+3≤g'.size→FN s g' v (ch.map (·.key))→ch.Perm es→K v g'=some X):
 bN (EC s) s (aq (EC s) s (n+es.length+20)) 52 [iG B] h K=some X:=by
 refine(eU (code:=.seq (.region 0 Vs false) (.seq (.region 1 RW false) .ret)) (show(EC s).func 52=some Tryz.f52 by kernel_rfl) rfl rfl rfl).trans ?_;rw[aJ,aV];refine al rfl ?_;refine(aH (v:=.slice none 0 0) (fun it=>by simp) rfl).trans ?_;rw[a7];show aq (EC s) s (n+es.length+19) (.seq (.region 1 RW false) .ret) ((AF.enter [iG B] 5).set 2 (.slice none 0 0)) h _=_;rw[aJ,aV];refine al rfl ?_;refine(aH (v:=iG B) (fun it=>by simp) rfl).trans ?_;refine al rfl ?_;refine(jr (l:=84) (args:=[.slice none 0 0,iG B]) (g':=h) (fun it=>by simp) rfl rfl rfl rfl).trans ?_
 show bN (EC s) s (aq (EC s) s (n+es.length+17)) 84 [.slice none 0 0,iG B] h _=_;rw[show n+es.length+17=(n+1)+es.length+16 by omega];refine KT hX bA ft hlen hs W hm hr fun ch v g' w1 w2 w3 hp=>?_;refine al rfl ?_;refine(aH (v:=v) (fun it=>by simp) rfl).trans ?_;rw[a7];exact hK ch v g' w1 w2 w3 hp
theorem vC {E:Env} {base n m:Nat} {g:FuncId} {args:List Value} {h:ab} {r r':Value×ab} (h1:eI E base n g args h=some r) (h2:eI E base m g args h=some r'):r'=r:=by
 have a:=uT (E:=E) (base:=base) (Nat.le_max_left n m) _ _ _ _ h1;have b:=uT (E:=E) (base:=base) (Nat.le_max_right n m) _ _ _ _ h2;rw[a]at b;exact(Option.some.inj b).symm
theorem L3 {F:Nat→Prop} {h:ab}:jI ES F h:=fun g cs hg=>by
 have:(none:Option (List Value))=some cs:=hg;cases this
theorem Bs {s:Nat} {g:ab} {v:Value} {d:Array Int} (W:Wf g) (hv:FN s g v (d.toList.map (.int .u32))) (hs:s≤g.size) (hl:d.size<4096) (pH:0<d.size):
 ∃h',sC s [v] g=some (.tuple #[],h')∧ah h' (match v with| .slice (some ⟨b,_,_⟩) _ _=>b|_=>0) 0 d.size=some ((dE d.toList).map (.int .u32)):=by
 rcases hv with⟨h0,_⟩|⟨_,b,f,t0,ee,aE,rfl,hb,hf,z8,OW,T9,RT⟩
 ·have:=congrArg List.length h0;simp only[List.length_map,Array.length_toList,List.length_nil]at this;omega
 ·obtain⟨c0,bK⟩:=bz hf;simp only at bK
  let ρ:Gh:=fun n=>if n=0 then some (.arr b 1 ((d.toList.map fH).length))else none
  let S:Nat→Ft:=fun _=>[(f,true)]
  let X:=y5 s ρ (fun _=>False) [(0,bD d)] 1 g S
  have lk:∀{m y},look [(0,bD d)] m=some y→m=0∧y=bD d:=by
   intro m y hm;unfold look at hm;split at hm
   ·rename_i e;have:=beq_iff.1 e;cases hm;exact⟨this.symm,rfl⟩
   ·cases hm
  have uI:OR 1 ρ (fun _=>False) g s 0 [(f,true)] (bD d):=by
   refine .arr (b:=b) (f:=f) (t0:=t0) (ee:=ee) (aE:=aE) (cs:=d.toList.map (.int .u32)) (by simp[ρ]) hb hf z8 om om (by simp) (by simp) (by simp[fz,oU]) ?_ (by simp);intro i j e t v h1 h2 h3;rw[List.getElem?_map]at h1;obtain⟨x,hx,rfl⟩:=Option.map_eq_some_iff.1 h1;have hj:j=0:=by
    have:=(List.getElem?_eq_some_iff.1 h2).1;simp at this;exact this
   subst hj;simp at h2;subst h2;rw[Nat.mul_one,Nat.add_zero,List.getElem?_map,hx]at h3;cases h3;exact .s rfl
  have QW:MO X ρ (fun _=>False) [(0,bD d)] 1 g S:=by
   refine⟨fun m y hm=>?_,fun m y hm=>?_,fun m1 m2 y1 y2 x h1 h2 _ _=>?_,fun m y x hm hx=>?_,fun m y x b' hm hx hF=>hF.elim⟩
   ·obtain⟨rfl,rfl⟩:=lk hm;exact uI
   ·simp[S,cu]
   ·obtain⟨rfl,_⟩:=lk h1;obtain⟨rfl,_⟩:=lk h2;rfl
   ·have LN:x=f:=by simpa[S,cu]using hx
    subst LN;exact⟨by show s≤x;omega,W.lt bK,.inl ⟨m,y,hm,hx⟩⟩
  have jT:Mem X ρ (fun _=>False) [(0,bD d)] 1 g:=by
   refine⟨⟨S,QW⟩,fun m l hm=>?_,fun b hb=>hb.elim,fun b hb=>hb,W,.refl _ _ _,hs,fun b hb=>hb.elim,⟨Nat.le_refl _,fun _ _ _ hl=>hl,fun _ _ _ hl=>hl⟩⟩;by_cases e:m=0
   ·omega
   ·simp[ρ,e]at hm
  have Tk:cX 1 ρ (fun _=>False) g [.tk 0] [xP b (d.toList.map (Value.int .u32)).length ((d.toList.map (Value.int .u32)).length+1)]:=by
   refine .cons (.tk om rfl (fun b' z len hx=>?_) (fun z hx=>?_)) .nil
   ·simp[ρ]at hx;obtain⟨rfl,rfl,rfl⟩:=hx;exact⟨d.size+1,om,by simp⟩
   ·simp[ρ]at hx
  obtain⟨n,v,h',ρ',F',r,o',c',QX,⟨e,⟨hp,Ud⟩,rfl,rfl,rfl⟩,hM,hr⟩:=IF d hl s ρ (fun _=>False) g S _ L3 jT QW Tk;obtain⟨a,rfl,ha⟩:=hr.pX;have ea:a= #[]:=by
   have:=ha.bu;exact Array.toList_eq_nil_iff.1 this
  subst ea;refine⟨h',Bm QX (fun n r jA=>vC QX jA),?_⟩;show ah h' b 0 d.size=_;obtain⟨S',Ue⟩:=hM.ex;have Uf:=Ue.bR 0 (bD e) rfl;have jL:e.toList=dE d.toList:=(Sort.sorted_unique_holds Sort.swo_ltInt (fun x y h1 h2=>by simp[Sort.ltInt]at h1 h2;omega) d e hp Ud).trans (by unfold dE;congr 1;funext x y;simp[Sort.ltInt];by_cases h:x≤y<;>simp[h]<;>omega);have key:∀{SS:Ft} {y:TO},OR 1 ρ' F' h' X.base 0 SS y→y=bD e→∃cs,h'.rd b=some cs∧cs.length=d.size∧cs=e.toList.map (.int .u32):=by
   intro SS y H hy;cases H with
   |nil bE hz=>
    exfalso;have:=hM.wy.2.1 0 _ Nat.zero_lt_one bE;simp[y5,ρ]at this
   |arr bE jy ph Kv A5 iJ nH zN wC jW DH=>
    rename_i z w es b' f' t1 tS cC cs;cases hy;have du:=hM.wy.2.1 0 _ Nat.zero_lt_one bE;simp[y5,ρ]at du;obtain⟨rfl,hlen⟩:=du;have bL:cs.length=e.toList.length:=by simpa using nH
    refine⟨cs,cJ ph Kv (au jy),by rw[bL,Array.length_toList,hp.1],?_⟩;refine List.ext_getElem? fun i=>?_;rw[List.getElem?_map];cases hx:e.toList[i]? with
    |none=>
     have:e.toList.length≤i:=by simpa using hx
     rw[List.getElem?_eq_none om];rfl
    |some x=>
     have hi:=(List.getElem?_eq_some_iff.1 hx).1;have h1:=jW i 0 (fH x) (.s (.int .u32 x)) (cs[i]' om) (by rw[List.getElem?_map,hx];rfl) rfl (by simp);obtain⟨q1,_⟩:=h1.cM;rw[List.getElem?_eq_getElem om,q1];rfl
   |_=>cases hy
  obtain⟨cs,h1,h2,h3⟩:=key Uf rfl;unfold ah;rw[h1];simp only[Option.bind_some,List.drop_zero,aO];refine⟨om,?_⟩;rw[List.take_of_length_le om,h3,jL]
theorem Bt {s:Nat} {g:ab} (W:Wf g) (hs:s≤g.size):∃h',sC s [.slice none 0 0] g=some (.tuple #[],h'):=by
 have QW:MO (y5 s qR (fun _=>False) [] 0 g fun _=>[]) qR (fun _=>False) [] 0 g fun _=>[]:=
  ⟨fun m y hl=>(by cases hl),fun m y hl=>(by cases hl),fun m1 m2 y1 y2 x h1=>(by cases h1),fun m y x hl=>(by cases hl),fun m y x b hl=>(by cases hl)⟩
 have jT:Mem (y5 s qR (fun _=>False) [] 0 g fun _=>[]) qR (fun _=>False) [] 0 g:=
  ⟨⟨_,QW⟩,fun m l hm=>(by cases hm),fun b hb=>hb.elim,fun b hb=>hb,W,.refl _ _ _,hs,fun b hb=>hb.elim,⟨Nat.le_refl _,fun _ _ _ hl=>hl,fun _ _ _ hl=>hl⟩⟩
 obtain⟨n,v,h',ρ',F',r,o',c',QX,⟨rfl,rfl,rfl⟩,hM,hr⟩:=IG s qR (fun _=>False) g (fun _=>[]) [.slice none 0 0] L3 jT QW (.cons (.nil rfl) .nil);obtain⟨a,rfl,ha⟩:=hr.pX;have ea:a= #[]:=Array.toList_eq_nil_iff.1 ha.bu;subst ea;exact⟨h',Bm QX (fun n r jA=>vC QX jA)⟩
def qq (ks:List Int):Out:=match ks with
 |[]=>[.bool true,.slice none 0 0]
 |_=>.bool false::goInt ks.length::goInt (1:Nat)::(dE ks).map (.int .u32)
theorem Bu:∀l:List Int,dL (l.map (.int .u32)) (l.map (.int .u32))=true
 |[]=>rfl
 |x::l=>by
  simp only[List.map_cons,dL,fZ,Bu l,beq_self_eq_true,Bool.and_self]
theorem xT (ks:List Int):dL (qq ks) (qq ks)=true:=by
 unfold qq;split
 ·rfl
 ·simp only[dL,fZ,goInt,Bu,beq_self_eq_true,Bool.and_self]
def IL:Value→Int
 | .int _ n=>n
 |_=>0
def ta (e:MapEntry):Int:=IL e.key
noncomputable def Vt:Array Oper:=match Tryz.f31.body with|some (.seq (.region _ o _) _)=>o|_=> #[]
noncomputable def RX:Array Oper:=match Tryz.f31.body with|some (.seq _ (.seq (.region _ o _) _))=>o|_=> #[]
noncomputable def L4:Array Oper:=match Tryz.f31.body with|some (.seq _ (.seq _ (.seq (.region _ o _) _)))=>o|_=> #[]
noncomputable def L5:Array Oper:=match Tryz.f31.body with|some (.seq _ (.seq _ (.seq _ (.seq (.region _ o _) _))))=>o|_=> #[]
theorem Db {s m B n:Nat} {es:List MapEntry} {clock:Nat} {ks:List Int} {h:ab} (bA:ox es clock) (pJ:es.map (·.key)=ks.map (.int .u32)) (hlen:ks.length<4096)
 (hs:h.size=s) (W:Wf h) (hm:h.get m=some (.map es clock)) (hr:ah h B 0 1=some [.map (some m)]):
 bN (EC s) s (aq (EC s) s (n+es.length+25)) 31 [iG B] h (s6 s)=some (qq ks):=by
 have AH:es.length=ks.length:=by have:=congrArg List.length pJ;simpa using this
 have ft:∀e∈es,wL e:=by
  intro e he;have:e.key∈es.map (·.key):=List.mem_map.2 ⟨e,he,rfl⟩;rw[pJ]at this;obtain⟨k,_,hk⟩:=List.mem_map.1 this;exact⟨k,hk.symm⟩
 refine(eU (code:=.seq (.region 0 Vt false) (.seq (.region 1 RX false) (.seq (.region 2 L4 false) (.seq (.region 3 L5 false) .ret)))) (show(EC s).func 31=some Tryz.f31 by kernel_rfl) rfl rfl rfl).trans ?_;rw[aJ,aV];refine al rfl ?_;refine(aH (v:=.slice none 0 0) (fun it=>by simp) rfl).trans ?_;rw[a7];show aq (EC s) s (n+es.length+24) (.seq (.region 1 RX false) (.seq (.region 2 L4 false) (.seq (.region 3 L5 false) .ret))) ((AF.enter [iG B] 9).set 2 (.slice none 0 0)) h _=_;rw[aJ,aV];refine al rfl ?_;refine(aH (v:=iG B) (fun it=>by simp) rfl).trans ?_;refine al rfl ?_
 refine(jr (l:=52) (args:=[iG B]) (g':=h) (fun it=>by simp) rfl rfl rfl rfl).trans ?_;show bN (EC s) s (aq (EC s) s (n+es.length+22)) 52 [iG B] h _=_;rw[show n+es.length+22=(n+2)+es.length+20 by omega];refine KU (xT ks) bA ft om hs W hm hr fun ch v g' w1 w2 w3 hp=>?_;refine al rfl ?_;refine(aH (v:=v) (fun it=>by simp) rfl).trans ?_;rw[a7];show aq (EC s) s (n+es.length+23) (.seq (.region 2 L4 false) (.seq (.region 3 L5 false) .ret)) (((((AF.enter [iG B] 9).set 2 (.slice none 0 0)).set 4 (iG B)).set 5 v).set 3 v) g' _=_;rw[aJ,aV];refine al rfl ?_;refine(aH (v:=v) (fun it=>by simp) rfl).trans ?_
 refine al rfl ?_;refine(jr (l:=53) (args:=[v]) (g':=g') (fun it=>by simp) rfl rfl rfl rfl).trans ?_
 -- what came
 have AW:(ch.map (·.key)).Perm (ks.map (.int .u32)):=by rw[←pJ];exact hp.map _
 obtain⟨d,hd,QY⟩:∃d:Array Int,ch.map (·.key)=d.toList.map (.int .u32)∧d.toList.Perm ks:=by
  refine⟨(ch.map ta).toArray,?_,?_⟩
  ·show ch.map (·.key)=(ch.map ta).map (.int .u32);rw[List.map_map];refine List.map_congr_left fun e he=>?_;obtain⟨k,hk⟩:=ft e (hp.mem_iff.1 he);simp[ta,IL,hk]
  ·show(ch.map ta).Perm ks;have:es.map ta=ks:=by
    have:es.map ta=(es.map (·.key)).map IL:=by rw[List.map_map];rfl
    rw[this,pJ,List.map_map];exact(List.map_congr_left fun x _=>rfl).trans (List.map_id ks)
   rw[←this];exact hp.map _
 have cI:d.size=ks.length:=by have:=QY.length_eq;simpa using this
 have QL:dE d.toList=dE ks:=mergeSort_perm QY;have L2:s≤g'.size:=by omega
 have hv:=w3;rw[hd]at hv
 have fin:∀h',sC s [v] g'=some (.tuple #[],h')→s6 s v h'=some (qq ks)→bN (EC s) s (aq (EC s) s (n+es.length+21)) 53 [v] g' (fun v1 h1=>iS (EC s) s (bN (EC s) s (aq (EC s) s (n+es.length+21))) (gp s (aq (EC s) s (n+es.length+21))) L4.toList [] (((((((AF.enter [iG B] 9).set 2 (.slice none 0 0)).set 4 (iG B)).set 5 v).set 3 v).set 6 v).set 7 v1) h1 fun f' h2=>aq (EC s) s (n+es.length+22) (.seq (.region 3 L5 false) .ret) f' h2 fun ex f h'=>match ex with
  | .exit _=>none
  |_=>match bx (EC s) h' f Tryz.f31.results.toList with
   |some vs=>s6 s (aZ vs) h'
   |none=>none)=some (qq ks):=by
  intro h' q1 q2;unfold bN;rw[show(EC s).func 53=some Tryz.f53 by kernel_rfl];simp only[show(EC s).mn s 53 [v] g'=some (.tuple #[],h')from q1];rw[a7,aJ,aV];refine al rfl ?_;refine(aH (v:=v) (fun it=>by simp) rfl).trans ?_;refine al rfl ?_;refine(aH (v:=v) (fun it=>by simp) rfl).trans ?_;rw[a7];exact q2
 rcases Nat.eq_zero_or_pos d.size with h0|h0
 ·have EM:ks=[]:=List.eq_nil_of_length_eq_zero om;have Nc:v= .slice none 0 0:=by
   rcases hv with⟨_,hv⟩|⟨pH,_⟩
   ·exact hv
   ·simp at pH;omega
  obtain⟨h',q1⟩:=Bt w1 L2;rw[←Nc]at q1;refine fin h' q1 ?_;rw[Nc,EM];rfl
 ·obtain⟨h',q1,q2⟩:=Bs w1 hv L2 om h0;refine fin h' q1 ?_;rcases hv with⟨hv,_⟩|⟨_,b,f,t0,ee,aE,rfl,hb,hf,z8,OW,T9,RT⟩
  ·have:=congrArg List.length hv;simp only[List.length_map,Array.length_toList,List.length_nil]at this;omega
  ·have q2:ah h' b 0 d.size=some ((dE d.toList).map (.int .u32)):=q2;have aX:ks≠[]:=fun h=>by rw[h]at cI;simp only[List.length_nil]at cI;omega
   unfold s6;simp only[List.length_map,Array.length_toList,Nat.mul_one,q2,Option.bind_some];have QE:((dE d.toList).map (Value.int .u32)).all scalar=true:=by
    rw[List.all_eq_true];intro x hx;obtain⟨y,_,rfl⟩:=List.mem_map.1 hx;rfl
   rw[ax.2 (show s≤b by omega),aF.2 h0,QE,QL];unfold qq;cases ks with
   |nil=>exact absurd rfl aX
   |cons x l=>rw[cI];rfl
def vD:List MapEntry→Option (List Int)
 |[]=>some []
 |e::l=>match e.key,vD l with
  | .int .u32 n,some ks=>some (n::ks)
  |_,_=>none
theorem pd:∀{ev:List MapEntry} {ks:List Int},vD ev=some ks→ev.map (·.key)=ks.map (.int .u32)
 |[],ks,h=>by simp[vD]at h;subst h;rfl
 |e::l,ks,h=>by
  unfold vD at h;split at h
  ·rename_i n JL hk hl;cases h;simp only[List.map_cons,hk,pd hl]
  ·cases h
theorem Bv:∀{ev:List MapEntry} {ks:List Int},ev.map (·.key)=ks.map (.int .u32)→vD ev=some ks
 |[],ks,h=>by cases ks with
  |nil=>rfl
  |cons _ _=>simp at h
 |e::l,ks,h=>by
  cases ks with
  |nil=>simp at h
  |cons n ks=>
   simp only[List.map_cons,List.cons.injEq]at h;unfold vD;rw[h.1,Bv h.2]
def qs (h:ab):Option Nat→Option (List Int)
 |none=>none
 |some r=>match h.get r with
  |some (.map ev clock)=>(vD ev).bind fun ks=>aW (decide (ox ev clock)&&Nat.blt ks.length 4096) (some ks)
  |_=>none
def Bw (h:ab) (ks:List Int):Value×ab:=match ks with
 |[]=>(.slice none 0 0,h)
 |_::_=>(.slice (some ⟨h.size,0,some 1⟩) ks.length (ks.length+1),h.push (.cells ((dE ks).map (.int .u32)) h.size (h.size+1) 0))
def nW (args:List Value) (h:ab):Option (Value×ab):=match args with
 |[.func (.func k) a c]=>(match a.toList,c.toList with
  |[],[.pointer (some ⟨b,0,none⟩)]=>aW (Nat.beq k 54) ((kG h b).bind fun mb=>(qs h mb).bind fun ks=>some (Bw h ks))
  |_,_=>none)
 |_=>none
theorem vE (h:ab) (ks:List Int):vn h (qq ks)=some (Bw h ks):=by
 cases ks with
 |nil=>rfl
 |cons x l=>rfl
theorem Dc {E:Env} {base B:Nat} (hm:Tryz.prog.follows .mixedOrders=true) (hg:∀g,(EC 0).cd g=true→E.cd g=true) {μ:aS} {h h':ab} {w:World} {args:List Value} {args':Array Value} {v:Value}
 (hc:nW args h=some (v,h')) (hr:ao μ args args'.toList) (H:aM E base B μ h w) {F:Fence} (hF:c4 F) (n:Nat):CallsIn F n Tryz.prog 31 args' w (fA E base B μ h w v h'):=by
 unfold nW at hc;split at hc
 ·rename_i k a c;split at hc
  ·rename_i b ha qI;simp only[ae,Option.bind_eq_some_iff,Option.some.injEq,beq_iff]at hc;obtain⟨rfl,mb,NS,ks,jO,vp⟩:=hc;obtain⟨aE,oL,tT⟩:=sx NS;cases mb with
   |none=>simp[qs]at jO
   |some r=>
    simp only[qs]at jO;split at jO
    ·rename_i ev clock pj;simp only[Option.bind_eq_some_iff,ae,Bool.and_eq_true,decide_eq_true_eq,aF,Option.some.injEq]at jO;obtain⟨JL,pJ,⟨bA,bO⟩,rfl⟩:=jO;have ea:a= #[]:=Array.toList_eq_nil_iff.1 ha;have ec:c= #[kZ b]:=by rw[←Array.toList_inj,qI]
     subst ea;subst ec;have W:Wf h:=⟨H.high,H.wf⟩;have hK:=pd pJ;have bH:=Db (n:=0) (B:=b) bA hK bO rfl W pj (lS oL tT);have H2:=H.Ih (E0:=EC h.size) (fun g EN=>hg g EN);refine(Bh (vw Tryz.prog [] (IH h.size)) (Eb hm h.size _) hm (0+ev.length+25) μ h w 31 _ args' _ (qq JL) bH hr H2 F n hF).mono ?_;rintro e w' ⟨u,u',h1,b6,Ug,rfl,hv,S⟩;refine vo H rfl ?_ Ug hv S;rw[vE,vp]
    ·cases jO
  ·cases hc
 ·cases hc
def Ec (ks:List Int):TO→Prop
 | .map _ es=>es.map (·.1)=ks.map (.int .u32)
 | .eC _ es op=>op=[]∧es.map (·.1)=ks.map (.int .u32)
 |_=>False
theorem OR.QZ {c:Nat} {ρ:Gh} {F:Nat→Prop} {h:ab} {base n:Nat} {S:Ft} {y:TO} {ks:List Int} (H:OR c ρ F h base n S y) (hk:Ec ks y):∃b ev clock,ρ n=some (.cO b)∧h.get b=some (.map ev clock)∧ox ev clock∧ev.map (·.key)=ks.map (.int .u32):=by
 cases H with
 |map hb hg hl hc bA=>
  rename_i kd es b clock ev;refine⟨_,_,_,hb,hg,bA,?_⟩;rw[←show es.map (·.1)=ks.map (.int .u32)from hk];refine List.ext_getElem? fun i=>?_;rw[List.getElem?_map,List.getElem?_map];cases he:es[i]? with
  |none=>
   have:es.length≤i:=by simpa using he
   rw[List.getElem?_eq_none om];rfl
  |some e=>
   have hi:=(List.getElem?_eq_some_iff.1 he).1;obtain⟨q1,_⟩:=hc i e ev[i] he (List.getElem?_eq_getElem om);rw[List.getElem?_eq_getElem om];simp[q1]
 |eC hb hg bL hc bA=>
  obtain⟨rfl,hk⟩:=hk;refine⟨_,_,_,hb,hg,bA,?_⟩;rw[←hk];have key:∀{S:Ft} {kd:Nat} {l:List (Value×TV)} {m:List MapEntry},gj c ρ F h base kd S l m→m.map (·.key)=l.map (·.1):=by
   intro S kd l m hE
   induction hE with
   |nil=>rfl
   |cons h1 _ _ _ _ ih=>simp[h1,ih]
  exact key hc
 |_=>exact hk.elim
theorem Mem.Q0 {X:Cx} {ρ:Gh} {F:Nat→Prop} {o:Ob} {c:Nat} {h:ab} (H:Mem X ρ F o c h) (cs:List Value):
 Mem X (bP ρ c (some (.nil 1))) (fun b=>F b∨b=h.size) o (c+1) (h.push (.cells cs h.size (h.size+1) 0)):=by
 obtain⟨S,K⟩:=H.ex;have b7:(h.push (.cells cs h.size (h.size+1) 0)).get h.size=some (.cells cs h.size (h.size+1) 0):=by rw[ab.ai,if_pos rfl]
 have hold:∀b,b<h.size→(h.push (.cells cs h.size (h.size+1) 0)).get b=h.get b:=fun b hb=>by rw[ab.ai,if_neg om]
 have MK:∀b,b<h.size→hd (h.push (.cells cs h.size (h.size+1) 0)) b=hd h b:=fun b hb=>by unfold hd;rw[hold b hb]
 refine(H.change K (fun _=>False) c (.arr 1 true []) [] (by rw[ab.size_push];omega) (H.wf.push fun _ _ _ _ e=>by cases e;exact Nat.le_refl _) (fun _ hf=>hf.elim) (fun b hb _=>hold b hb)
  (fun b l hb hr=>by rw[cL H.wf.le _ (H.CE hb)];exact hr) MK (fun _ hb=>.inl hb) (fun b hb hn=>?_) om (fun n l hn hl=>by rwa [aK _ _ om]at hl) (fun n b hb=>?_) (fun n l hl=>?_) (fun m y' aX hl=>⟨hl,aK _ _ aX,fun _ _ hf=>hf.elim⟩)
  (fun y' hl=>absurd (H.lt hl) om) (.nil (aC _ _ _) om) (by simp[cu]) (fun x hx=>by simp[cu]at hx) (fun x b hx=>by simp at hx)).1
 ·rcases hb with hb|rfl
  ·exact absurd hb hn
  ·have e:hd (h.push (.cells cs h.size (h.size+1) 0)) h.size=h.size:=bG b7;refine⟨by rw[cJ (bp b7 b7) (Nat.zero_le _) (au b7)];rfl,fun m y x _ hl hs=>?_,fun x hx=>by simp at hx,.inr (by rw[e];exact H.l9.size)⟩;rw[e];have:=(K.dF m y x hl (List.mem_map.2 ⟨_,hs,rfl⟩)).2.1;omega
 ·have:=H.names _ _ hb
  rwa [aK _ _ om]
 ·by_cases e:n=c
  ·omega
  ·rw[aK _ _ e]at hl;have:=H.names _ _ hl;omega
theorem Mem.bump {X:Cx} {ρ:Gh} {F:Nat→Prop} {o:Ob} {c:Nat} {h:ab} (H:Mem X ρ F o c h):Mem X (bP ρ c (some (.nil 1))) F o (c+1) h:=by
 obtain⟨S,K⟩:=H.ex
 refine(H.change K (fun _=>False) c (.arr 1 true []) [] (Nat.le_refl _) H.wf (fun _ hf=>hf.elim) (fun b hb _=>rfl)
  (fun b l hb hr=>hr) (fun _ _=>rfl) (fun _ hb=>hb) (fun b hb hn=>absurd hb hn) om (fun n l hn hl=>by rwa [aK _ _ om]at hl) (fun n b hb=>?_) (fun n l hl=>?_) (fun m y' aX hl=>⟨hl,aK _ _ aX,fun _ _ hf=>hf.elim⟩)
  (fun y' hl=>absurd (H.lt hl) om) (.nil (aC _ _ _) om) (by simp[cu]) (fun x hx=>by simp[cu]at hx) (fun x b hx=>by simp at hx)).1
 ·have:=H.names _ _ hb
  rwa [aK _ _ om]
 ·by_cases e:n=c
  ·omega
  ·rw[aK _ _ e]at hl;have:=H.names _ _ hl;omega
theorem VC.IM {E:Env} (hf:(E.func 31).isSome=true) (ho:∀b a h r,nW a h=some r→E.mn b 31 a h=some r) {y:TO} {ks:List Int} (hy:Ec ks y) (BZ:ks.length<4096):
 VC E 31 2 [.de 54 [] [.ptr 1 0]] [(0,y),(1,.cells [.mp 0])] (RR (.sl 1 ((dE ks).map fH) false) 3 [(0,y),(1,.cells [.mp 0])]):=by
 intro base ρ F h S dJ hN hM hO hA;obtain⟨fn,hf⟩:=Option.isSome_iff_exists.1 hf;obtain⟨v1,m1,rfl,h1,h2⟩:=hA.aG;obtain rfl:=h2.bu;obtain⟨_,hm⟩:=hM.bR (m:=0) rfl;obtain⟨_,hb⟩:=hM.bR (m:=1) rfl;obtain⟨b0,ev,clock,te,PG,bA,jO⟩:=hm.QZ hy;cases hb with
 |cells kL iY Xo l5=>
  rename_i b1 aE cs';have l5:=(l5.OU (fun t v hv hf=>hv.c6 hf) rfl).1;obtain⟨x1,l1,rfl,y1,y2⟩:=l5.aG;obtain rfl:=y2.bu;cases y1 with
  |mp Vu=>
   rw[te]at Vu;cases Vu;cases h1 with
   |de zJ Yl Fp RY=>
    rename_i a kk;have ea:a= #[]:=Array.eq_empty_of_size_eq_zero (by simpa using zJ.symm);subst ea;obtain⟨p',ec⟩:∃p',kk= #[p']:=by
     obtain⟨l⟩:=kk
     match l,Fp with
     |[x],_=>exact⟨x,rfl⟩
     |[],Fp=>simp at Fp
     |_::_::_,Fp=>simp at Fp
    subst ec;have hp:=RY 0 (.ptr 1 0) p' rfl rfl;cases hp with
    |ptr qA=>
     rw[kL]at qA;cases qA;have NT:E.mn base 31 [iG b1] h=some (Bw h ks):=by
      refine ho _ _ _ _ ?_;show aW (Nat.beq 54 54) ((kG h b1).bind fun mb=>(qs h mb).bind fun ks=>some (Bw h ks))=_;have Xp:kG h b1=some (some b0):=by
       unfold kG;rw[iY];simp[aW,Nat.ble_eq_true_of_le Xo]
      rw[beq_iff.2 (rfl:54=54),Xp];simp only[aW,Option.bind_some,qs,PG,Bv jO,bA,aF.2 BZ,decide_true,Bool.and_self]
     have iZ:∀r,E.mn base 31 [iG b1] h=some r→eI E base 0 31 [iG b1] h=some r:=by
      intro r hr;unfold eI ff;rw[hf];simp only[Option.bind_some,hr]
     cases zO:ks with
     |nil=>
      subst zO;exact⟨0,_,_,_,F,_,_,3,iZ _ NT,⟨rfl,rfl,rfl⟩,hM.bump,.nil (by simp[dE])⟩
     |cons e0 l0=>
      rw[←zO];have vp:Bw h ks=(.slice (some ⟨h.size,0,some 1⟩) ks.length (ks.length+1),h.push (.cells ((dE ks).map (.int .u32)) h.size (h.size+1) 0)):=by rw[zO];rfl
      rw[vp]at NT;have b7:(h.push (.cells ((dE ks).map (.int .u32)) h.size (h.size+1) 0)).get h.size=some (.cells ((dE ks).map (.int .u32)) h.size (h.size+1) 0):=by rw[ab.ai,if_pos rfl]
      refine⟨0,_,_,_,_,_,_,3,iZ _ NT,⟨rfl,rfl,rfl⟩,hM.Q0 _,.sl (.inr rfl) (cJ (bp b7 b7) (Nat.zero_le _) (au b7)) om (by simp[xI]) om (by simp) (by simp[xI]) (by simp) (by simp[fz,oU]) ?_⟩;intro i j e t v q1 q2 q3;rw[List.getElem?_map]at q1;obtain⟨x,hx,rfl⟩:=Option.map_eq_some_iff.1 q1;have hj:j=0:=by
       have:=(List.getElem?_eq_some_iff.1 q2).1;simp at this;exact this
      subst hj;simp at q2;subst q2;rw[Nat.zero_add,Nat.mul_one,Nat.add_zero,List.getElem?_map,hx]at q3;cases q3;exact .s rfl
noncomputable def vF:Code:=match Tryz.f83.body with|some (.seq _ (.block _ (.loop b)))=>b|_=>.skip
noncomputable def KW:Code:=match vF with| .seq _ (.seq _ (.block _ b))=>b|_=>.skip
theorem IN {s m n:Nat} {de:Value} {es:List MapEntry} {clock:Nat} {acc:List Value} {seen:List Nat} {g:ab} {f:AF} {e:MapEntry} {k:Int} (H:St s m de es clock acc (seen++[e.born]) g) (hf:s9 s f) (hlen:acc.length≤1000000) (bA:ox es clock) (he:e∈es) (hk:e.key= .int .u32 k):
 ∃f' g',St s m de es clock (acc++[.int .u32 k]) (seen++[e.born]) g'∧s9 s f'∧∀K:KC,aq (EC s) s (n+5) KW f g K=K .normal f' g':=by
 obtain⟨g',H',hy⟩:=Bo (n:=n) (k:=k) H hlen;have NQ:iM g (s+2)=some (.tuple #[e.key,e.val]):=by
  unfold iM;rw[H.it];simp only[H.mp,List.getLast?_append,List.getLast?_singleton,Option.some_or,Option.bind_some,aW,beq_iff.2 (rfl:clock=clock),find_born bA.2 he]
 obtain⟨f8,h8⟩:∃x,x=f.set 8 (.tuple #[e.key,e.val]):=⟨_,rfl⟩;have F8:s9 s f8:=by rw[h8];exact hf.set om om
 obtain⟨f9,h9⟩:∃x,x=f8.set 9 (.int .u32 k):=⟨_,rfl⟩;have F9:s9 s f9:=by rw[h9];exact F8.set om om
 obtain⟨f3,h3⟩:∃x,x=f9.set 3 (.int .u32 k):=⟨_,rfl⟩;have F3:s9 s f3:=by rw[h3];exact F9.set om om
 obtain⟨fa,ha⟩:∃x,x=f3.set 10 (.func (.yield (s+1)) #[] #[]):=⟨_,rfl⟩;have Fa:s9 s fa:=by rw[ha];exact F3.set om om
 obtain⟨fb,hb⟩:∃x,x=fa.set 11 (.int .u32 k):=⟨_,rfl⟩;have Fb:s9 s fb:=by rw[hb];exact Fa.set om om
 obtain⟨fc,hc⟩:∃x,x=fb.set 12 (.bool true):=⟨_,rfl⟩;have Fc:s9 s fc:=by rw[hc];exact Fb.set om om
 obtain⟨fd,hd⟩:∃x,x=fc.set 13 (.bool false):=⟨_,rfl⟩;have Fd:s9 s fd:=by rw[hd];exact Fc.set om om
 refine⟨fd,g',H',Fd,fun K=>?_⟩;show iS (EC s) s _ _ _ _ f g _=_;refine al rfl ?_;refine(nV (v:=.tuple #[e.key,e.val]) (g':=g) (fun it=>by simp) rfl rfl rfl ?_).trans ?_
 ·show((some (f.get 5)).bind fun v=>(iO v).bind fun r=>(iM g r).bind fun v=>some (iL.val v,g))=_;rw[hf.g5];show((iM g (s+2)).bind fun v=>some (iL.val v,g))=_;rw[NQ];rfl
 show iS (EC s) s _ _ _ _ (f.set 8 (.tuple #[e.key,e.val])) g _=_;rw[←h8];refine al rfl ?_;refine(aH (v:=.int .u32 k) (fun it=>by simp) (rN (cs:=[e.key,e.val]) rfl (by rw[h8,gs (by rw[hf.n];omega)]) (by rw[hk];rfl))).trans ?_;show iS (EC s) s _ _ _ _ (f8.set 9 (.int .u32 k)) g _=_;rw[←h9];refine al rfl ?_;refine(aH (v:=.int .u32 k) (fun it=>by simp) (by show some (f9.get 9)=_;rw[h9,gs (by rw[F8.n];omega)])).trans ?_;rw[a7];show aq (EC s) s (n+4) _ (f9.set 3 (.int .u32 k)) g K=_;rw[aJ,aV];rw[←h3];refine al rfl ?_
 refine(aH (v:=.func (.yield (s+1)) #[] #[]) (fun it=>by simp) (by show some (f3.get 0)=_;rw[F3.g0])).trans ?_;show iS (EC s) s _ _ _ _ (f3.set 10 (.func (.yield (s+1)) #[] #[])) g _=_;rw[←ha];refine al rfl ?_;refine(aH (v:=.int .u32 k) (fun it=>by simp) (by show some (fa.get 3)=_;rw[ha,gn om,h3,gs (by rw[F9.n];omega)])).trans ?_;show iS (EC s) s _ _ _ _ (fa.set 11 (.int .u32 k)) g _=_;rw[←hb];refine al rfl ?_;refine(xO (l:=s+1) (args:=[.int .u32 k]) (g':=g) (fun it=>by simp) rfl rfl rfl ?_).trans ?_
 ·show((some (fb.get 11)).bind fun v=>(some []).bind fun vs=>some (v::vs)).bind (fun args=>(some (fb.get 10)).bind fun g0=>(match g0 with
   | .func (.func g1) first captured=>some (iL.enter g1 (first.toList++args++captured.toList),g)
   | .func (.yield l) first _=>some (.round l (first.toList++args),g)
   |_=>none))=_
  rw[hb,gs (by rw[Fa.n];omega),gn om,ha,gs (by rw[F3.n];omega)];rfl
 rw[hy];show iS (EC s) s _ _ _ _ (fb.set 12 (.bool true)) g' _=_;rw[←hc];refine al rfl ?_;refine(aH (v:=.bool false) (fun it=>by simp) (by show((some (fc.get 12)).bind fun a=>aW (scalar a) (dw (Op.unary .not a)))=_;rw[hc,gs (by rw[Fb.n];omega)];rfl)).trans ?_;rw[a7]
 show(match(some ((fc.set 13 (.bool false)).get 13)).bind sN with
  |some true=>_
  |some false=>_
  |none=>none)=_
 rw[gs (by rw[Fc.n];omega)];subst hd;rfl
theorem IP {s m:Nat} {de:Value} {es:List MapEntry} {clock:Nat} {X:Out} (hX:dL X X=true) (bA:ox es clock) (ft:∀e∈es,wL e) (hlen:es.length≤1000000) {K:KC}
 (hK:∀(ch:List MapEntry) f g,St s m de es clock (ch.map (·.key)) (ch.map (·.born)) g→ch.Perm es→K (.exit 0) f g=some X):
 ∀(r n:Nat) (ch:List MapEntry) (f:AF) (g:ab),St s m de es clock (ch.map (·.key)) (ch.map (·.born)) g→s9 s f→(ch++eA es ch).Perm es→(eA es ch).length=r→aq (EC s) s (n+r+9) (.loop vF) f g K=some X:=by
 intro r
 induction r with
 |zero=>
  intro n ch f g H hf hp hr;have hl:eA es ch=[]:=List.eq_nil_of_length_eq_zero hr;rw[hl,List.append_nil]at hp;rw[lT];show aq (EC s) s (n+8) (.seq _ (.seq (.cond _ .skip (.exit 0)) _)) f g _=_;rw[aJ,aV];refine al rfl ?_;refine(qo (it:=.tmp 5) (r:=s+2) rfl (by show(some (f.get 5)).bind iO=_;rw[hf.g5];rfl)).trans ?_;unfold qk;rw[ax.2 (show s≤s+2 by omega),H.it];simp only[H.mp,aW,qp bA,show es.filter (fun e=> !(ch.map (·.born)).contains e.born)=[]from hl];refine al rfl ?_
  refine(aH (v:=.bool false) (fun it=>by simp) (rN (cs:=[.bool false]) rfl (by show(f.set 6 _).get 6=_;rw[gs (by rw[hf.n];omega)]) rfl)).trans ?_;rw[a7];show aq (EC s) s (n+7) (.seq (.cond (.tmp 7) .skip (.exit 0)) _) ((f.set 6 (.tuple #[.bool false])).set 7 (.bool false)) g _=_;rw[aJ,sD (by show(some (AF.get _ 7)).bind sN=_;rw[gs (by rw[AF.rV,hf.n];omega)];rfl)];exact hK ch _ g H hp
 |succ r ih=>
  intro n ch f g H hf hp hr;have aX:eA es ch≠[]:=fun h=>by rw[h]at hr;simp at hr
  rw[lT];show aq (EC s) s (n+(r+1)+8) (.seq _ (.seq (.cond _ .skip (.exit 0)) (.block 1 KW))) f g _=_;rw[aJ,aV];refine al rfl ?_;refine(qo (it:=.tmp 5) (r:=s+2) rfl (by show(some (f.get 5)).bind iO=_;rw[hf.g5];rfl)).trans ?_;unfold qk;rw[ax.2 (show s≤s+2 by omega),H.it];simp only[H.mp,aW,qp bA];generalize hl:es.filter (fun e=> !(ch.map (·.born)).contains e.born)=l;have nH:eA es ch=l:=hl;rw[nH]at aX hr hp;cases l with
  |nil=>exact absurd rfl aX
  |cons e0 l0=>
   show meet (List.map _ (e0::l0))=_;refine Bq hX (by simp) fun x hx=>?_;obtain⟨e,he,rfl⟩:=List.mem_map.1 hx;have AH:e∈eA es ch:=by rw[nH];exact he
   have jL:e∈es:=(List.mem_filter.1 AH).1;obtain⟨k,hk⟩:=ft e jL;have gJ:(e0::l0).Perm (e::eA es (ch++[e])):=by
    rw[xS,nH];exact xR (by rw[←nH];exact List.Nodup.sublist ((List.filter_sublist (l:=es)).map _) bA.2) he
   have rG:((ch++[e])++eA es (ch++[e])).Perm es:=by
    refine List.Perm.trans ?_ hp;rw[List.append_assoc];exact(gJ.symm.append_left ch)
   have qC:(eA es (ch++[e])).length=r:=by
    have:=gJ.length_eq;rw[hr]at this;simpa using this.symm
   have bL:ch.length≤es.length:=by
    have:=hp.length_eq;simp at this;omega
   have NR:Nat.blt e.born clock=true:=aF.2 (bA.1 e jL);simp only[NR];refine al rfl ?_;refine(aH (v:=.bool true) (fun it=>by simp) (rN (cs:=[.bool true,e.key,e.val]) rfl (by show(f.set 6 _).get 6=_;rw[gs (by rw[hf.n];omega)]) rfl)).trans ?_;rw[a7];have F7:s9 s ((f.set 6 (.tuple #[.bool true,e.key,e.val])).set 7 (.bool true)):=(hf.set om om).set om om;obtain⟨f',g',H',ph,hT⟩:=IN (n:=n+r+1) (Br H) F7 (by simpa using Nat.le_trans bL hlen) bA jL hk;show aq (EC s) s (n+r+8) (.seq (.cond (.tmp 7) .skip (.exit 0)) (.block 1 KW)) ((f.set 6 (.tuple #[.bool true,e.key,e.val])).set 7 (.bool true)) _ _=_
   rw[aJ,sE (by show(some (AF.get _ 7)).bind sN=_;rw[gs (by rw[AF.rV,hf.n];omega)];rfl)];rw[vB];show aq (EC s) s (n+r+7) (.block 1 KW) _ _ _=_;rw[fP];rw[show n+r+6=n+r+1+5 by omega];rw[hT];show aq (EC s) s (n+(r+1)+8) (.loop vF) f' g' K=_;rw[show n+(r+1)+8=n+r+9 by omega];exact ih n (ch++[e]) f' g' (by simpa[hk]using H') ph rG qC
@[reducible] def eV (B:Nat):Value:=.func (.func 83) #[] #[kZ B]
noncomputable def Uh:Array Oper:=match Tryz.f83.body with|some (.seq (.region _ o _) _)=>o|_=> #[]
theorem FU {s m B n:Nat} {de:Value} {es:List MapEntry} {clock:Nat} {X:Out} {g:ab} (hX:dL X X=true) (bA:ox es clock) (ft:∀e∈es,wL e) (hlen:es.length≤1000000) {K:KV}
 (cI:g.size=s+2) (W:Wf g) (hb:g.get s=some (.cells [.slice none 0 0] s s 0)) (hl:g.get (s+1)=some (.loop .ready none (zp s de) [7] fM fN)) (hm:g.get m=some (.map es clock)) (bO:m<s) (hr:ah g B 0 1=some [.map (some m)])
 (hK:∀(ch:List MapEntry) g',St s m de es clock (ch.map (·.key)) (ch.map (·.born)) g'→ch.Perm es→K (.tuple #[]) g'=some X):
 bN (EC s) s (aq (EC s) s (n+es.length+11)) 83 [.func (.yield (s+1)) #[] #[],kZ B] g K=some X:=by
 refine(eU (code:=.seq (.region 0 Uh false) (.block 0 (.loop vF))) (show(EC s).func 83=some Tryz.f83 by kernel_rfl) rfl rfl rfl).trans ?_;rw[aJ,aV];refine al rfl ?_;refine(ng (v:=.map (some m)) (q:=.cells false B 0 1) (fun it=>by simp) rfl rfl (by show(ah g B 0 1).bind _=_;rw[hr];rfl)).trans ?_;refine al rfl ?_;refine(nV (v:=kZ g.size) (g':=g.push (.bM (some m) clock [] clock)) (fun it=>by simp) rfl rfl rfl ?_).trans ?_
 ·show(match g.get m with
   |some (.map _ clock)=>some (iL.val (.pointer (some ⟨g.size,0,none⟩)),g.push (.bM (some m) clock [] clock))
   |_=>none)=_
  rw[hm]
 rw[a7];show aq (EC s) s (n+es.length+10) (.block 0 (.loop vF)) (((AF.enter [.func (.yield (s+1)) #[] #[],kZ B] 14).set 4 (.map (some m))).set 5 (kZ g.size)) (g.push (.bM (some m) clock [] clock)) _=_;rw[fP,cI];refine IP (de:=de) (ch:=[]) hX bA ft hlen (fun ch f g' H hp=>?_) es.length n _ _ ⟨?_,⟨.slice none 0 0,0,?_,Nat.zero_le _,.inl ⟨rfl,rfl⟩⟩,?_,?_,?_,bO,?_⟩ ⟨rfl,rfl,rfl⟩ ?_ ?_
 ·exact hK ch g' H hp
 ·rw[ab.size_push];omega
 ·rw[ab.ai,if_neg om];exact hb
 ·rw[ab.ai,if_neg om];exact hl
 ·rw[ab.ai,if_pos cI.symm];rfl
 ·rw[ab.ai,if_neg om];exact hm
 ·exact W.push (fun _ _ _ _ e=>by cases e)
 ·rw[show eA es []=es from List.filter_eq_self.2 (by simp)];exact List.Perm.refl _
 ·rw[show eA es []=es from List.filter_eq_self.2 (by simp)]
theorem IQ {s m B n:Nat} {es:List MapEntry} {clock:Nat} {X:Out} {h:ab} (hX:dL X X=true) (bA:ox es clock) (ft:∀e∈es,wL e) (hlen:es.length≤1000000) {K:KV}
 (hs:h.size=s) (W:Wf h) (hm:h.get m=some (.map es clock)) (hr:ah h B 0 1=some [.map (some m)])
 (hK:∀(ch:List MapEntry) v g',Wf g'→s+3≤g'.size→FN s g' v (ch.map (·.key))→ch.Perm es→K v g'=some X):
 bN (EC s) s (aq (EC s) s (n+es.length+16)) 84 [.slice none 0 0,eV B] h K=some X:=by
 have bO:=W.lt hm;rw[hs]at bO;refine(eU (code:=.seq (.region 0 Vr false) (.seq (.seq (.region 1 RV false) (.block 0 (.rangeFunc (.tmp 6) #[7] fM fN))) (.seq (.region 4 O4 false) .ret))) (show(EC s).func 84=some Tryz.f84 by kernel_rfl) rfl rfl rfl).trans ?_;rw[aJ,aV];refine al rfl ?_;refine(rM (m:=.cells [.slice none 0 0]) (hd:=.ptr) (fun it=>by simp) rfl rfl rfl).trans ?_;refine al rfl ?_;refine(aH (v:=.slice none 0 0) (fun it=>by simp) rfl).trans ?_;rw[a7,hs];obtain⟨g1,iY⟩:∃g1,g1=h.push (.cells [.slice none 0 0] s s 0):=⟨_,rfl⟩;have Da:g1.size=s+1:=by rw[iY,ab.size_push,hs]
 have W1:Wf g1:=by rw[iY];exact W.push (fun cs f cp aE e=>by cases e;omega)
 show aq (EC s) s (n+es.length+15) (.seq (.seq (.region 1 RV false) (.block 0 (.rangeFunc (.tmp 6) #[7] fM fN))) (.seq (.region 4 O4 false) .ret)) (((AF.enter [.slice none 0 0,eV B] 13).set 2 (kZ s)).set 4 (.slice none 0 0)) (h.push (.cells [.slice none 0 0] s s 0)) _=_;rw[←iY,aJ,aJ,aV];refine al rfl ?_;refine(aH (v:=eV B) (fun it=>by simp) rfl).trans ?_;rw[a7];show aq (EC s) s (n+es.length+13) (.block 0 (.rangeFunc (.tmp 6) #[7] fM fN)) (zp s (eV B)) g1 _=_;rw[fP,sF (first:= #[]) (captured:= #[kZ B]) rfl om,Da]
 show bN (EC s) s (aq (EC s) s (n+es.length+11)) 83 [.func (.yield (s+1)) #[] #[],kZ B] (g1.push (.loop .ready none (zp s (eV B)) [7] fM fN)) _=_;refine FU (de:=eV B) hX bA ft hlen ?_ ?_ ?_ ?_ ?_ bO ?_ (fun ch g' H hp=>?_)
 ·rw[ab.size_push,Da]
 ·exact W1.push (fun _ _ _ _ e=>by cases e)
 ·rw[ab.ai,if_neg om,iY,ab.ai,if_pos hs.symm]
 ·rw[ab.ai,if_pos om]
 ·rw[ab.ai,if_neg om,iY,ab.ai,if_neg om];exact hm
 ·have:∃cs,h.rd B=some cs:=by
   unfold ah at hr;cases hh:h.rd B with
   |none=>rw[hh]at hr;simp at hr
   |some cs=>exact⟨cs,rfl⟩
  obtain⟨cs,oi⟩:=this;obtain⟨_,_,_,Ua⟩:=qQ oi;have Ub:=W.lt Ua;unfold ah at hr ⊢;rw[cL W1.le _ om,iY,cL W.le _ Ub];exact hr
 ·obtain⟨v,t,hb,ht,hv⟩:=H.box;simp only[H.lp];obtain⟨gE,IK⟩:∃gE,gE=g'.put (s+1) (.loop .exhausted none (zp s (eV B)) [7] fM fN):=⟨_,rfl⟩;have Uc:gE.get s=some (.cells [v] s s t):=by rw[IK,ab.br,if_neg om];exact hb
  show aq (EC s) s (n+es.length+14) (.seq (.region 4 O4 false) .ret) (zp s (eV B)) (g'.put (s+1) (.loop .exhausted none (zp s (eV B)) [7] fM fN)) _=_;rw[←IK,aJ,aV];refine al rfl ?_;refine(ng (v:=v) (q:=.cells false s 0 1) (fun it=>by simp) rfl rfl (by show(ah gE s 0 1).bind _=_;rw[lS Uc ht];rfl)).trans ?_;refine al rfl ?_;refine(aH (v:=v) (fun it=>by simp) rfl).trans ?_;rw[a7];exact hK ch v gE (by rw[IK];exact H.wf.II H.lp rfl) (by rw[IK,ab.size_put];exact H.sz) (by rw[IK];exact hv.put H.lp rfl rfl om) hp
theorem IS {s m B n:Nat} {es:List MapEntry} {clock:Nat} {X:Out} {h:ab} (hX:dL X X=true) (bA:ox es clock) (ft:∀e∈es,wL e) (hlen:es.length≤1000000) {K:KV}
 (hs:h.size=s) (W:Wf h) (hm:h.get m=some (.map es clock)) (hr:ah h B 0 1=some [.map (some m)])
 (hK:∀(ch:List MapEntry) v g',Wf g'→s+3≤g'.size→FN s g' v (ch.map (·.key))→ch.Perm es→K v g'=some X):
 bN (EC s) s (aq (EC s) s (n+es.length+20)) 52 [eV B] h K=some X:=by
 refine(eU (code:=.seq (.region 0 Vs false) (.seq (.region 1 RW false) .ret)) (show(EC s).func 52=some Tryz.f52 by kernel_rfl) rfl rfl rfl).trans ?_;rw[aJ,aV];refine al rfl ?_;refine(aH (v:=.slice none 0 0) (fun it=>by simp) rfl).trans ?_;rw[a7];show aq (EC s) s (n+es.length+19) (.seq (.region 1 RW false) .ret) ((AF.enter [eV B] 5).set 2 (.slice none 0 0)) h _=_;rw[aJ,aV];refine al rfl ?_;refine(aH (v:=eV B) (fun it=>by simp) rfl).trans ?_;refine al rfl ?_;refine(jr (l:=84) (args:=[.slice none 0 0,eV B]) (g':=h) (fun it=>by simp) rfl rfl rfl rfl).trans ?_
 show bN (EC s) s (aq (EC s) s (n+es.length+17)) 84 [.slice none 0 0,eV B] h _=_;rw[show n+es.length+17=(n+1)+es.length+16 by omega];refine IQ hX bA ft hlen hs W hm hr fun ch v g' w1 w2 w3 hp=>?_;refine al rfl ?_;refine(aH (v:=v) (fun it=>by simp) rfl).trans ?_;rw[a7];exact hK ch v g' w1 w2 w3 hp
theorem Bx {s m B n:Nat} {es:List MapEntry} {clock:Nat} {ks:List Int} {h:ab} (bA:ox es clock) (pJ:es.map (·.key)=ks.map (.int .u32)) (hlen:ks.length<4096)
 (hs:h.size=s) (W:Wf h) (hm:h.get m=some (.map es clock)) (hr:ah h B 0 1=some [.map (some m)]):
 bN (EC s) s (aq (EC s) s (n+es.length+25)) 31 [eV B] h (s6 s)=some (qq ks):=by
 have AH:es.length=ks.length:=by have:=congrArg List.length pJ;simpa using this
 have ft:∀e∈es,wL e:=by
  intro e he;have:e.key∈es.map (·.key):=List.mem_map.2 ⟨e,he,rfl⟩;rw[pJ]at this;obtain⟨k,_,hk⟩:=List.mem_map.1 this;exact⟨k,hk.symm⟩
 refine(eU (code:=.seq (.region 0 Vt false) (.seq (.region 1 RX false) (.seq (.region 2 L4 false) (.seq (.region 3 L5 false) .ret)))) (show(EC s).func 31=some Tryz.f31 by kernel_rfl) rfl rfl rfl).trans ?_;rw[aJ,aV];refine al rfl ?_;refine(aH (v:=.slice none 0 0) (fun it=>by simp) rfl).trans ?_;rw[a7];show aq (EC s) s (n+es.length+24) (.seq (.region 1 RX false) (.seq (.region 2 L4 false) (.seq (.region 3 L5 false) .ret))) ((AF.enter [eV B] 9).set 2 (.slice none 0 0)) h _=_;rw[aJ,aV];refine al rfl ?_;refine(aH (v:=eV B) (fun it=>by simp) rfl).trans ?_;refine al rfl ?_
 refine(jr (l:=52) (args:=[eV B]) (g':=h) (fun it=>by simp) rfl rfl rfl rfl).trans ?_;show bN (EC s) s (aq (EC s) s (n+es.length+22)) 52 [eV B] h _=_;rw[show n+es.length+22=(n+2)+es.length+20 by omega];refine IS (xT ks) bA ft om hs W hm hr fun ch v g' w1 w2 w3 hp=>?_;refine al rfl ?_;refine(aH (v:=v) (fun it=>by simp) rfl).trans ?_;rw[a7];show aq (EC s) s (n+es.length+23) (.seq (.region 2 L4 false) (.seq (.region 3 L5 false) .ret)) (((((AF.enter [eV B] 9).set 2 (.slice none 0 0)).set 4 (eV B)).set 5 v).set 3 v) g' _=_;rw[aJ,aV];refine al rfl ?_;refine(aH (v:=v) (fun it=>by simp) rfl).trans ?_
 refine al rfl ?_;refine(jr (l:=53) (args:=[v]) (g':=g') (fun it=>by simp) rfl rfl rfl rfl).trans ?_
 -- what came
 have AW:(ch.map (·.key)).Perm (ks.map (.int .u32)):=by rw[←pJ];exact hp.map _
 obtain⟨d,hd,QY⟩:∃d:Array Int,ch.map (·.key)=d.toList.map (.int .u32)∧d.toList.Perm ks:=by
  refine⟨(ch.map ta).toArray,?_,?_⟩
  ·show ch.map (·.key)=(ch.map ta).map (.int .u32);rw[List.map_map];refine List.map_congr_left fun e he=>?_;obtain⟨k,hk⟩:=ft e (hp.mem_iff.1 he);simp[ta,IL,hk]
  ·show(ch.map ta).Perm ks;have:es.map ta=ks:=by
    have:es.map ta=(es.map (·.key)).map IL:=by rw[List.map_map];rfl
    rw[this,pJ,List.map_map];exact(List.map_congr_left fun x _=>rfl).trans (List.map_id ks)
   rw[←this];exact hp.map _
 have cI:d.size=ks.length:=by have:=QY.length_eq;simpa using this
 have QL:dE d.toList=dE ks:=mergeSort_perm QY;have L2:s≤g'.size:=by omega
 have hv:=w3;rw[hd]at hv
 have fin:∀h',sC s [v] g'=some (.tuple #[],h')→s6 s v h'=some (qq ks)→bN (EC s) s (aq (EC s) s (n+es.length+21)) 53 [v] g' (fun v1 h1=>iS (EC s) s (bN (EC s) s (aq (EC s) s (n+es.length+21))) (gp s (aq (EC s) s (n+es.length+21))) L4.toList [] (((((((AF.enter [eV B] 9).set 2 (.slice none 0 0)).set 4 (eV B)).set 5 v).set 3 v).set 6 v).set 7 v1) h1 fun f' h2=>aq (EC s) s (n+es.length+22) (.seq (.region 3 L5 false) .ret) f' h2 fun ex f h'=>match ex with
  | .exit _=>none
  |_=>match bx (EC s) h' f Tryz.f31.results.toList with
   |some vs=>s6 s (aZ vs) h'
   |none=>none)=some (qq ks):=by
  intro h' q1 q2;unfold bN;rw[show(EC s).func 53=some Tryz.f53 by kernel_rfl];simp only[show(EC s).mn s 53 [v] g'=some (.tuple #[],h')from q1];rw[a7,aJ,aV];refine al rfl ?_;refine(aH (v:=v) (fun it=>by simp) rfl).trans ?_;refine al rfl ?_;refine(aH (v:=v) (fun it=>by simp) rfl).trans ?_;rw[a7];exact q2
 rcases Nat.eq_zero_or_pos d.size with h0|h0
 ·have EM:ks=[]:=List.eq_nil_of_length_eq_zero om;have Nc:v= .slice none 0 0:=by
   rcases hv with⟨_,hv⟩|⟨pH,_⟩
   ·exact hv
   ·simp at pH;omega
  obtain⟨h',q1⟩:=Bt w1 L2;rw[←Nc]at q1;refine fin h' q1 ?_;rw[Nc,EM];rfl
 ·obtain⟨h',q1,q2⟩:=Bs w1 hv L2 om h0;refine fin h' q1 ?_;rcases hv with⟨hv,_⟩|⟨_,b,f,t0,ee,aE,rfl,hb,hf,z8,OW,T9,RT⟩
  ·have:=congrArg List.length hv;simp only[List.length_map,Array.length_toList,List.length_nil]at this;omega
  ·have q2:ah h' b 0 d.size=some ((dE d.toList).map (.int .u32)):=q2;have aX:ks≠[]:=fun h=>by rw[h]at cI;simp only[List.length_nil]at cI;omega
   unfold s6;simp only[List.length_map,Array.length_toList,Nat.mul_one,q2,Option.bind_some];have QE:((dE d.toList).map (Value.int .u32)).all scalar=true:=by
    rw[List.all_eq_true];intro x hx;obtain⟨y,_,rfl⟩:=List.mem_map.1 hx;rfl
   rw[ax.2 (show s≤b by omega),aF.2 h0,QE,QL];unfold qq;cases ks with
   |nil=>exact absurd rfl aX
   |cons x l=>rw[cI];rfl
def nh (args:List Value) (h:ab):Option (Value×ab):=match args with
 |[.func (.func k) a c]=>(match a.toList,c.toList with
  |[],[.pointer (some ⟨b,0,none⟩)]=>aW (Nat.beq k 83) ((kG h b).bind fun mb=>(qs h mb).bind fun ks=>some (Bw h ks))
  |_,_=>none)
 |_=>none
theorem By {E:Env} {base B:Nat} (hm:Tryz.prog.follows .mixedOrders=true) (hg:∀g,(EC 0).cd g=true→E.cd g=true) {μ:aS} {h h':ab} {w:World} {args:List Value} {args':Array Value} {v:Value}
 (hc:nh args h=some (v,h')) (hr:ao μ args args'.toList) (H:aM E base B μ h w) {F:Fence} (hF:c4 F) (n:Nat):CallsIn F n Tryz.prog 31 args' w (fA E base B μ h w v h'):=by
 unfold nh at hc;split at hc
 ·rename_i k a c;split at hc
  ·rename_i b ha qI;simp only[ae,Option.bind_eq_some_iff,Option.some.injEq,beq_iff]at hc;obtain⟨rfl,mb,NS,ks,jO,vp⟩:=hc;obtain⟨aE,oL,tT⟩:=sx NS;cases mb with
   |none=>simp[qs]at jO
   |some r=>
    simp only[qs]at jO;split at jO
    ·rename_i ev clock pj;simp only[Option.bind_eq_some_iff,ae,Bool.and_eq_true,decide_eq_true_eq,aF,Option.some.injEq]at jO;obtain⟨JL,pJ,⟨bA,bO⟩,rfl⟩:=jO;have ea:a= #[]:=Array.toList_eq_nil_iff.1 ha;have ec:c= #[kZ b]:=by rw[←Array.toList_inj,qI]
     subst ea;subst ec;have W:Wf h:=⟨H.high,H.wf⟩;have hK:=pd pJ;have bH:=Bx (n:=0) (B:=b) bA hK bO rfl W pj (lS oL tT);have H2:=H.Ih (E0:=EC h.size) (fun g EN=>hg g EN);refine(Bh (vw Tryz.prog [] (IH h.size)) (Eb hm h.size _) hm (0+ev.length+25) μ h w 31 _ args' _ (qq JL) bH hr H2 F n hF).mono ?_;rintro e w' ⟨u,u',h1,b6,Ug,rfl,hv,S⟩;refine vo H rfl ?_ Ug hv S;rw[vE,vp]
    ·cases jO
  ·cases hc
 ·cases hc
end Go.M
end
