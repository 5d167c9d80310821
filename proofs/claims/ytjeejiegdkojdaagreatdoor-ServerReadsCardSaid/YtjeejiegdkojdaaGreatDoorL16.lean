/-
  Part 16 of the library that the proof leans on.
-/
import Derived.Test.YtjeejiegdkojdaaGreatDoorL14
import Derived.Test.YtjeejiegdkojdaaGreatDoorL15
import Derived.Test.YtjeejiegdkojdaaGreatDoorL6
namespace Go.M
open Go Go.Proofs
set_option maxRecDepth 100000
open Classical in
noncomputable def yI (s:Nat) (args:List Value) (h:ab):Option (Value×ab):=
 if hx:∃r n,fK ES s n 266 args h=some r then some hx.choose else none
noncomputable def Sl (s:Nat):FuncId→List Value→ab→Option (Value×ab):=fun g args h=>match Nat.beq g 266 with
 |true=>yI s args h
 |false=>none
noncomputable def EC (s:Nat):=mw Tryz.prog [] (Sl s)
theorem So (hm:Tryz.prog.follows .mixedOrders=true) (s B:Nat):iJ Tryz.prog (EC s) s B:=by
 intro μ h w g args args' v h' hc hr H F n hF;have lx:Sl s g args h=some (v,h'):=hc;unfold Sl at lx;split at lx
 ·rename_i hg;obtain rfl:=beq_iff.1 hg;unfold yI at lx;split at lx
  ·rename_i hx;have Yz:=hx.choose_spec;rw[Option.some.injEq]at lx;rw[lx]at Yz;obtain⟨k,hk⟩:=Yz;have H2:bh ES s B μ h w:=⟨H.gh,H.high,H.obj,H.own,H.alias,H.dr,H.dc,H.low,H.l5,H.wf,H.root⟩;refine(xp (rU Tryz.prog [] jJ) qm hm k μ h w 266 args args' v h' hk hr H2 F n hF).mono fun e w' ⟨v',aU,h1,h2,h3⟩=>?_;exact⟨v',aU,h1,h2,⟨⟨h3.rel.gh,h3.rel.high,h3.rel.obj,h3.rel.own,h3.rel.alias,h3.rel.dr,h3.rel.dc,h3.rel.low,h3.rel.l5,h3.rel.wf,h3.rel.root⟩,h3.grow,h3.le,h3.new,h3.Gy,h3.fL⟩⟩
  ·cases lx
 ·cases lx
theorem EY {s n:Nat} {args:List Value} {h h':ab} {v:Value} (hn:fK ES s n 266 args h=some (v,h')) (hu:∀n r,fK ES s n 266 args h=some r→r=(v,h')):yI s args h=some (v,h'):=by
 unfold yI;have hx:∃r n,fK ES s n 266 args h=some r:=⟨_,n,hn⟩;rw[dif_pos hx];obtain⟨k,hk⟩:=hx.choose_spec;rw[hu k _ hk]
end Go.M
namespace Go.M
open Go Go.Proofs
set_option maxRecDepth 100000
set_option maxHeartbeats 4000000
section
variable {E:Env} {base:Nat} {cK:qM} {rK:n9} {ops rest:List Oper} {o:Oper} {f:AF} {g g':ab} {K:AF→ab→Option Out}
theorem a7 {X:Option Out} (hw:wanted ops o f=true) (h:AM E base cK rK o f g (fun v h'=>oJ E base cK rK ops rest (f.put o.dst v) h' K)=X):oJ E base cK rK ops (o::rest) f g K=X:=by
 unfold oJ;rw[hw];exact h
theorem cp {K:KV} {v:Value} (hx:∀it,o.op≠ .next it false) (h:aM E f o=some v):AM E base cK rK o f g K=K v g:=by
 unfold AM;split
 ·rename_i it e;exact absurd e (hx it)
 ·rw[h]
theorem yJ {K:KV} {v:Value} {q:RQ} (hx:∀it,o.op≠ .next it false) (hp:aM E f o=none) (h:bL E f o=some q) (hv:q.run g=some v):AM E base cK rK o f g K=K v g:=by
 unfold AM;split
 ·rename_i it e;exact absurd e (hx it)
 ·simp only[hp,h,hv]
theorem AX {K:KV} {m:Made} {hd:qT} (hx:∀it,o.op≠ .next it false) (hp:aM E f o=none) (hr:bL E f o=none) (h:bf E f o=some (m,hd)):AM E base cK rK o f g K=K (hd.val g.size) (g.push (m.obj g.size)):=by
 unfold AM;split
 ·rename_i it e;exact absurd e (hx it)
 ·simp only[hp,h,hr]
theorem wH {K:KV} {v:Value} (hx:∀it,o.op≠ .next it false) (hp:aM E f o=none) (hr:bL E f o=none) (ha:bf E f o=none) (h:da E base f o g=some (.val v,g')):AM E base cK rK o f g K=K v g':=by
 unfold AM;split
 ·rename_i it e;exact absurd e (hx it)
 ·simp only[hp,h,hr,ha]
theorem Ln {K:KV} {l:Nat} {args:List Value} (hx:∀it,o.op≠ .next it false) (hp:aM E f o=none) (hr:bL E f o=none) (ha:bf E f o=none) (h:da E base f o g=some (.round l args,g')):AM E base cK rK o f g K=rK l args g' K:=by
 unfold AM;split
 ·rename_i it e;exact absurd e (hx it)
 ·simp only[hp,h,hr,ha]
theorem uJ {K:KV} {l:Nat} {args:List Value} (hx:∀it,o.op≠ .next it false) (hp:aM E f o=none) (hr:bL E f o=none) (ha:bf E f o=none) (h:da E base f o g=some (.enter l args,g')):AM E base cK rK o f g K=cK l args g' K:=by
 unfold AM;split
 ·rename_i it e;exact absurd e (hx it)
 ·simp only[hp,h,hr,ha]
end
theorem eA {E:Env} {base:Nat} {cK:qM} {rK:n9} {ops:List Oper} {f:AF} {g:ab} {K:AF→ab→Option Out}:oJ E base cK rK ops [] f g K=K f g:=rfl
theorem cJ {E:Env} {base n:Nat} {a b:Code} {f:AF} {h:ab} {K:KC}:aL E base (n+1) (.seq a b) f h K=aL E base n a f h (fun ex f' h'=>match ex with| .normal=>aL E base n b f' h' K|ex=>K ex f' h'):=rfl
theorem dR {E:Env} {base n id:Nat} {ops:Array Oper} {f:AF} {h:ab} {K:KC}:aL E base (n+1) (.region id ops false) f h K=oJ E base (ef E base (aL E base n)) (jF base (aL E base n)) ops.toList ops.toList f h fun f' h'=>K .normal f' h':=rfl
noncomputable def m5:Code:=match Tryz.f273.body with|some (.seq _ (.seq (.seq _ (.block _ (.rangeFunc _ _ a _))) _))=>a|_=>.skip
noncomputable def m6:Code:=match Tryz.f273.body with|some (.seq _ (.seq (.seq _ (.block _ (.rangeFunc _ _ _ b))) _))=>b|_=>.skip
@[reducible] def yK (s:Nat):Value:=.pointer (some ⟨s,0,none⟩)
@[reducible] def AY (b n c:Nat):Value:=.slice (some ⟨b,0,some 1⟩) n c
noncomputable def Lo (s:Nat) (cH:Value):AF:=((((AF.enter [.slice none 0 0,cH] 13).set 2 (yK s)).set 4 (.slice none 0 0)).set 6 cH)
def O7 (s:Nat) (g:ab) (v:Value) (acc:List Value):Prop:=
 (acc=[]∧v= .slice none 0 0)∨(0<acc.length∧∃b f t0 eX aQ,v=AY b acc.length (acc.length+1)∧g.get b=some (.cells acc f t0 eX)∧g.dr b=some (f,b,aQ)∧aQ≤b∧s+3≤f∧f≤b∧b<g.size)
theorem ta {g:ab} {b t:Nat} {v:Value} (h:g.get b=some (.cells [v] b b t)) (ht:t≤b):ae g b 0 1=some [v]:=by
 unfold ae;rw[dD (bM h h) ht (aB h)];rfl
theorem append_nil {s:Nat} {g:ab} {k:Int}:bI (EC s) s (g.push (.cells [.int .u32 k] g.size g.size 0)) 218 218 (.slice none 0 0) (AY g.size 1 1)=
 some (AY (g.size+1) 1 2,(g.push (.cells [.int .u32 k] g.size g.size 0)).push (.cells [.int .u32 k] (g.size+1) (g.size+1) 0)):=by
 have hr:ae (g.push (.cells [.int .u32 k] g.size g.size 0)) g.size 0 1=some [.int .u32 k]:=ta (t:=0) (by rw[ab.aq,if_pos rfl]) (Nat.zero_le _)
 have:bI (EC s) s (g.push (.cells [.int .u32 k] g.size g.size 0)) 218 218 (.slice none 0 0) (AY g.size 1 1)=
  (ae (g.push (.cells [.int .u32 k] g.size g.size 0)) g.size 0 1).bind fun new=>bF (Nat.beq new.length 1) (some (fresh (g.push (.cells [.int .u32 k] g.size g.size 0)) new 1 1)):=by
  rfl
 rw[this,hr];simp only[Option.bind_some,fresh,ab.size_push];rfl
theorem HP {s b n f t0 eX aQ x:Nat} {g:ab} {k:Int} {acc:List Value} (hx:ae g x 0 1=some [.int .u32 k]) (hb:g.get b=some (.cells acc f t0 eX)) (hf:g.dr b=some (f,b,aQ)) (ht:aQ≤b) (hs:s≤f) (hn:acc.length=n) (hlen:n≤1000000):
 bI (EC s) s g 218 218 (AY b n (n+1)) (AY x 1 1)=some (AY g.size (n+1) (n+1+1),dQ g f aQ (acc++[.int .u32 k])):=by
 have hr:ae g b 0 (n*1)=some acc:=by
  unfold ae;rw[dD hf ht (aB hb)];simp only[Option.bind_some,List.drop_zero,aW];exact⟨om,by rw[List.take_of_length_le om]⟩
 have e:bI (EC s) s g 218 218 (AY b n (n+1)) (AY x 1 1)=bF (Nat.ble ((n+1+1)*5) 1099511627776) ((ae g b 0 (n*1)).bind fun old=>(ae g x 0 1).bind fun new=>bF (Nat.beq new.length 1)
  (bif Nat.beq (n+1) n then some (fresh g (old++new) 1 (n+1))else(g.cellsOf b).bind fun cs=>(g.dr b).bind fun r=>bF (Nat.ble s r.1&&Nat.beq r.2.1 b&&new.all dY)
   (some (AY g.size (n+1) (n+1+1),(g.bB r.1 g.size (bif Nat.beq (0+n*1) cs.length then r.2.2 else g.size)).push (.cells (old++new) r.1 0 0))))):=rfl
 rw[e,hr,hx];simp only[Option.bind_some,aB hb,hf];have h1:Nat.ble ((n+1+1)*5) 1099511627776=true:=aG.2 om
 have h2:Nat.beq (n+1) n=false:=by cases hh:Nat.beq (n+1) n with
  |false=>rfl
  |true=>have:=beq_iff.1 hh;omega
 have h3:Nat.ble s f=true:=aG.2 hs;have h4:Nat.beq b b=true:=beq_iff.2 rfl;have h5:Nat.beq (0+n*1) acc.length=true:=beq_iff.2 om;rw[h1,h2,h3,h4,h5];rfl
theorem Lp {s:Nat} {g:ab} {v v':Value} {t:Nat} (h:g.get s=some (.cells [v] s s t)) (ht:t≤s) (hv:v'.cells= #[v']) (_:dY v'=true):
 ((g.rd s).bind fun cs=>(c8 cs 0 v'.cells.toList).bind fun cs'=>(g.wr s s cs').bind fun h'=>some (lY.val undef,h'))=some (.val undef,(g.setCells s [v']).bB s s s):=by
 rw[dD (bM h h) ht (aB h),hv];have:g.wr s s [v']=some ((g.setCells s [v']).bB s s s):=by
  unfold ab.wr;rw[aG.2 (Nat.le_refl s),bM h h];simp only[bF,Option.bind_some,beq_iff.2 (rfl:s=s),aG.2 (Nat.le_refl s)]
 show((g.wr s s [v']).bind fun h'=>some (lY.val undef,h'))=_;rw[this];rfl
theorem iq {s:Nat} {g:ab} {v v':Value} {t:Nat} (h:g.get s=some (.cells [v] s s t)) (c:Nat):((g.setCells s [v']).bB s s s).get c=if c=s then some (.cells [v'] s s s)else g.get c:=by
 rw[br];by_cases e:c=s
 ·subst e;rw[if_pos rfl,if_pos rfl,bC,if_pos rfl,h]
 ·rw[if_neg e,if_neg e,bC,if_neg e]
theorem AZ {s:Nat} {g:ab} {v v':Value} {t:Nat} (h:g.get s=some (.cells [v] s s t)) {b:Nat} {r:Nat×Nat×Nat} (hr:g.dr b=some r) (bc:r.1≠s):((g.setCells s [v']).bB s s s).dr b=some r:=by
 have hc:(g.setCells s [v']).get s=some (.cells [v'] s s t):=by rw[bC,if_pos rfl,h]
 rw[qX hc,sb,hr];simp[bc]
structure Nxt (s:Nat) (g g':ab) (acc:List Value) (k:Int):Prop where
 wf:Wf g'
 size:g'.size=g.size+2
 box:∃v,g'.get s=some (.cells [v] s s s)∧O7 s g' v (acc++[.int .u32 k])
 bl:∀c,c<s+3→c≠s→g'.get c=g.get c
theorem Wf.Sp {h:ab} (W:Wf h) {c:Nat} {o1 o:fi} (hc:h.get c=some o1) (n2:dg o=true):Wf (h.put c o):=by
 have bH:=W.lt hc;refine⟨fun b hb=>?_,fun b cs f cA aQ hg=>?_⟩
 ·rw[ab.size_put]at hb;rw[ab.bJ,if_neg om];exact W.high b hb
 ·rw[ab.bJ]at hg;by_cases e:b=c
  ·rw[if_pos e]at hg;cases hg;simp[dg]at n2
  ·rw[if_neg e]at hg;exact W.le _ _ _ _ _ hg
theorem EZ {s:Nat} {g:ab} {v v':Value} {t:Nat} (W:Wf g) (h:g.get s=some (.cells [v] s s t)):Wf ((g.setCells s [v']).bB s s s):=by
 have bH:=W.lt h;refine⟨fun b hb=>?_,fun b cs f cA aQ hg=>?_⟩
 ·rw[bw,cz]at hb;rw[iq h,if_neg om];exact W.high b hb
 ·rw[iq h]at hg;by_cases e:b=s
  ·rw[if_pos e]at hg;cases hg;omega
  ·rw[if_neg e]at hg;exact W.le _ _ _ _ _ hg
theorem Lq {s:Nat} {g:ab} {v:Value} {t:Nat} {acc:List Value} {k:Int} (W:Wf g) (fL:s+3≤g.size) (h:g.get s=some (.cells [v] s s t)) (_:t≤s) (hv:O7 s g v acc) (hlen:acc.length≤1000000):
 ∃v' g3,bI (EC s) s (g.push (.cells [.int .u32 k] g.size g.size 0)) 218 218 v (AY g.size 1 1)=some (v',g3)∧g3.get s=some (.cells [v] s s t)∧v'.cells= #[v']∧dY v'=true∧Nxt s g ((g3.setCells s [v']).bB s s s) acc k:=by
 obtain⟨g1,mI⟩:∃g1,g1=g.push (.cells [.int .u32 k] g.size g.size 0):=⟨_,rfl⟩;have HQ:∀c,c<g.size→g1.get c=g.get c:=fun c hc=>by rw[mI,ab.aq,if_neg om]
 have MZ:g1.size=g.size+1:=by rw[mI,ab.size_push]
 have aea:g1.get g.size=some (.cells [.int .u32 k] g.size g.size 0):=by rw[mI,ab.aq,if_pos rfl]
 have hx:ae g1 g.size 0 1=some [.int .u32 k]:=ta aea (Nat.zero_le _);have W1:Wf g1:=by rw[mI];exact W.push (fun cs f cA aQ e=>by cases e;exact Nat.le_refl _)
 rw[←mI];rcases hv with⟨rfl,rfl⟩|⟨sk,b,f,t0,eX,aQ,rfl,hb,hf,Gg,ZR,UR,YO⟩
 ·have ha:bI (EC s) s g1 218 218 (.slice none 0 0) (AY g.size 1 1)=some (AY (g.size+1) 1 2,g1.push (.cells [.int .u32 k] (g.size+1) (g.size+1) 0)):=by rw[mI];exact append_nil
  obtain⟨g3,Ls⟩:∃g3,g3=g1.push (.cells [.int .u32 k] (g.size+1) (g.size+1) 0):=⟨_,rfl⟩;rw[←Ls]at ha;have O8:∀c,c<g.size→g3.get c=g.get c:=fun c hc=>by rw[Ls,ab.aq,MZ,if_neg om];exact HQ c hc
  have Lt:g3.get (g.size+1)=some (.cells [.int .u32 k] (g.size+1) (g.size+1) 0):=by rw[Ls,ab.aq,MZ,if_pos rfl]
  have h3:g3.get s=some (.cells [.slice none 0 0] s s t):=(O8 s om).trans h;have W3:Wf g3:=by rw[Ls];exact W1.push (fun cs f cA aQ e=>by cases e;omega)
  refine⟨_,g3,ha,h3,rfl,rfl,⟨EZ W3 h3,?_,⟨AY (g.size+1) 1 2,?_,.inr ⟨by simp,g.size+1,g.size+1,g.size+1,0,0,rfl,?_,?_,om,by omega,Nat.le_refl _,?_⟩⟩,fun c hc bc=>?_⟩⟩
  ·rw[bw,cz,Ls,ab.size_push,MZ]
  ·rw[iq h3,if_pos rfl]
  ·rw[iq h3,if_neg om];exact Lt
  ·exact AZ h3 (bM Lt Lt) (by simp;omega)
  ·rw[bw,cz,Ls,ab.size_push,MZ];omega
  ·rw[iq h3,if_neg bc];exact O8 c om
 ·have oB:g1.get b=some (.cells acc f t0 eX):=(HQ b YO).trans hb;obtain⟨c0,bQ⟩:=bO hf;simp only at bQ;have qZ:g1.get f=some (.cells c0 f b aQ):=(HQ f om).trans bQ;have ZU:g1.dr b=some (f,b,aQ):=bM oB qZ;have ha:=HP (s:=s) (x:=g.size) (g:=g1) (k:=k) hx oB ZU Gg om rfl hlen;obtain⟨g3,Ls⟩:∃g3,g3=dQ g1 f aQ (acc++[.int .u32 k]):=⟨_,rfl⟩;rw[←Ls,MZ]at ha;have O8:∀c,c<g.size→c≠f→g3.get c=g.get c:=fun c hc bc=>by
   rw[Ls];unfold dQ;rw[ab.aq,bw,MZ,if_neg om,br,if_neg bc];exact HQ c hc
  have Lt:g3.get (g.size+1)=some (.cells (acc++[.int .u32 k]) f 0 0):=by
   rw[Ls];unfold dQ;rw[ab.aq,bw,MZ,if_pos rfl]
  have aaM:g3.get f=some (.cells c0 f (g.size+1) aQ):=by
   rw[Ls];unfold dQ;rw[ab.aq,bw,MZ,if_neg om,br,if_pos rfl,qZ]
  have h3:g3.get s=some (.cells [AY b acc.length (acc.length+1)] s s t):=(O8 s om om).trans h;have hs3:g3.size=g.size+2:=by rw[Ls];unfold dQ;rw[ab.size_push,bw,MZ]
  have W3:Wf g3:=by rw[Ls];exact N7 W1 qZ
  refine⟨_,g3,ha,h3,rfl,rfl,⟨EZ W3 h3,?_,⟨AY (g.size+1) (acc.length+1) (acc.length+1+1),?_,.inr ⟨by simp,g.size+1,f,0,0,aQ,by simp,?_,?_,om,by omega,om,?_⟩⟩,fun c hc bc=>?_⟩⟩
  ·rw[bw,cz,hs3]
  ·rw[iq h3,if_pos rfl]
  ·rw[iq h3,if_neg om];exact Lt
  ·exact AZ h3 (bM Lt aaM) (by simp;omega)
  ·rw[bw,cz,hs3];omega
  ·rw[iq h3,if_neg bc];exact O8 c om om
theorem Sr {s n:Nat} {g:ab} {v:Value} {t:Nat} {acc:List Value} {k:Int} {cH:Value} (W:Wf g) (fL:s+3≤g.size) (h:g.get s=some (.cells [v] s s t)) (ht:t≤s) (hv:O7 s g v acc) (hlen:acc.length≤1000000):
 ∃f' g',Nxt s g g' acc k∧∀K:KC,aL (EC s) s (n+2) m6 ((AF.jZ ([7].zip [.int .u32 k]) (Lo s cH)).set 5 (.int .u32 k)) g K=K .normal f' g':=by
 obtain⟨v',g3,ha,h3,hc,ho,hN⟩:=Lq (k:=k) W fL h ht hv hlen;refine⟨((((((AF.jZ ([7].zip [.int .u32 k]) (Lo s cH)).set 5 (.int .u32 k)).set 8 v).set 9 (.int .u32 k)).set 10 (AY g.size 1 1)).set 11 v'),_,hN,fun K=>?_⟩;show oJ (EC s) s (ef (EC s) s (aL (EC s) s n)) (jF s (aL (EC s) s n)) _ _ _ g _=_;refine a7 rfl ?_;refine(yJ (v:=v) (q:=.cells false s 0 1) (fun it=>by simp) rfl rfl (by show(ae g s 0 1).bind _=_;rw[ta h ht];rfl)).trans ?_;refine a7 rfl ?_;refine(cp (v:=.int .u32 k) (fun it=>by simp) rfl).trans ?_;refine a7 rfl ?_
 refine(AX (m:=.cells [.int .u32 k]) (hd:=.slice 1 1 1) (fun it=>by simp) rfl rfl rfl).trans ?_;refine a7 rfl ?_;refine(wH (v:=v') (g':=g3) (fun it=>by simp) rfl rfl rfl ?_).trans ?_
 ·show((match bI (EC s) s (g.push (.cells [.int .u32 k] g.size g.size 0)) 218 218 v (AY g.size 1 1)with|some r=>some r|none=>iF (EC s) (g.push (.cells [.int .u32 k] g.size g.size 0)) 218 218 v (AY g.size 1 1)).bind fun r=>some (lY.val r.1,r.2))=_;rw[ha];rfl
 refine a7 rfl ?_;refine(wH (v:=undef) (g':=(g3.setCells s [v']).bB s s s) (fun it=>by simp) rfl rfl rfl ?_).trans ?_
 ·show((EC s).size 218).bind (fun n=>(some (s,0)).bind fun p=>bF (Nat.beq v'.cells.size n&&v'.cells.toList.all dY) ((g3.rd p.1).bind fun cs=>(c8 cs p.2 v'.cells.toList).bind fun cs'=>(g3.wr s p.1 cs').bind fun h'=>some (lY.val undef,h')))=_;have hg:(Nat.beq v'.cells.size 1&&v'.cells.toList.all dY)=true:=by rw[hc];simp[ho]
  show bF (Nat.beq v'.cells.size 1&&v'.cells.toList.all dY) ((g3.rd s).bind fun cs=>(c8 cs 0 v'.cells.toList).bind fun cs'=>(g3.wr s s cs').bind fun h'=>some (lY.val undef,h'))=_;rw[hg];exact Lp h3 ht hc ho
 rfl
theorem Lu {s n:Nat} {f:AF} {g:ab} {K:KC}:aL (EC s) s (n+1) m5 f g K=K .normal (f.set 5 (f.get 7)) g:=rfl
structure St (s m:Nat) (cH:Value) (es:List MapEntry) (clock:Nat) (acc:List Value) (seen:List Nat) (g:ab):Prop where
 sz:s+3≤g.size
 box:∃v t,g.get s=some (.cells [v] s s t)∧t≤s∧O7 s g v acc
 lp:g.get (s+1)=some (.loop .ready none (Lo s cH) [7] m5 m6)
 it:g.get (s+2)=some (.cy (some m) clock seen clock)
 mp:g.get m=some (.map es clock)
 lt:m<s
 wf:Wf g
theorem O7.put {s c:Nat} {g:ab} {v:Value} {acc:List Value} {o1 o:fi} (h:O7 s g v acc) (hc:g.get c=some o1) (n1:dg o1=true) (n2:dg o=true) (bH:c<s+3):O7 s (g.put c o) v acc:=by
 rcases h with h|⟨hp,b,f,t0,eX,aQ,q1,q2,q3,q4,q5,q6,q7⟩
 ·exact .inl h
 ·exact .inr ⟨hp,b,f,t0,eX,aQ,q1,by rw[ab.bJ,if_neg om];exact q2,by rw[sc hc n1 n2];exact q3,q4,q5,q6,q7⟩
theorem O9 {s m n:Nat} {cH:Value} {es:List MapEntry} {clock:Nat} {acc:List Value} {seen:List Nat} {g:ab} {k:Int} (H:St s m cH es clock acc seen g) (hlen:acc.length≤1000000):
 ∃g',St s m cH es clock (acc++[.int .u32 k]) seen g'∧∀K:KV,jF s (aL (EC s) s (n+2)) (s+1) [.int .u32 k] g K=K (.bool true) g':=by
 obtain⟨v,t,hb,ht,hv⟩:=H.box;have fL:=H.sz;obtain⟨g1,mI⟩:∃g1,g1=g.put (s+1) (.loop .busy none (Lo s cH) [7] m5 m6):=⟨_,rfl⟩;have HQ:∀c,c≠s+1→g1.get c=g.get c:=fun c hc=>by rw[mI,ab.bJ,if_neg hc]
 have vt:O7 s g1 v acc:=by rw[mI];exact hv.put H.lp rfl rfl om
 obtain⟨f',g2,hN,hK⟩:=Sr (n:=n) (k:=k) (cH:=cH) (by rw[mI];exact H.wf.Sp H.lp rfl) (by rw[mI];exact fL) ((HQ s om).trans hb) ht vt hlen;obtain⟨v2,rY,IS⟩:=hN.box;have Gk:g2.get (s+1)=some (.loop .busy none (Lo s cH) [7] m5 m6):=by rw[hN.bl _ om om,mI,ab.bJ,if_pos rfl]
 have aaO:∀c,c<s+3→c≠s→c≠s+1→g2.get c=g.get c:=fun c h1 h2 h3=>(hN.bl c h1 h2).trans (HQ c h3);refine⟨g2.put (s+1) (.loop .ready none (Lo s cH) [7] m5 m6),⟨?_,⟨v2,s,?_,Nat.le_refl _,IS.put Gk rfl rfl om⟩,?_,?_,?_,H.lt,hN.wf.Sp Gk rfl⟩,fun K=>?_⟩
 ·rw[ab.size_put,hN.size,mI,ab.size_put];omega
 ·rw[ab.bJ,if_neg om];exact rY
 ·rw[ab.bJ,if_pos rfl]
 ·rw[ab.bJ,if_neg om,aaO _ om om om];exact H.it
 ·have:=H.lt;rw[ab.bJ,if_neg om,aaO _ om om om];exact H.mp
 ·unfold jF;rw[H.lp,aG.2 (show s≤s+1 by omega)];have hc:(Nat.beq ([7]:List Nat).length [Value.int .u32 k].length&&aY m5&&aY m6)=true:=rfl;simp only[bF,hc];rw[Lu,show(AF.jZ ([7].zip [Value.int .u32 k]) (Lo s cH)).get 7= .int .u32 k from rfl];simp only[H.lp];rw[←mI,hK];simp only[Gk]
noncomputable def E2:Code:=match Tryz.f267.body with|some (.seq _ (.block _ (.loop b)))=>b|_=>.skip
noncomputable def kB1:Code:=match E2 with| .seq _ (.seq _ (.block _ b))=>b|_=>.skip
theorem gs {f:AF} {t:Nat} {v:Value} (h:t<f.n):(f.set t v).get t=v:=by rw[AF.g7,if_pos ⟨rfl,h⟩]
theorem gn {f:AF} {t u:Nat} {v:Value} (h:u≠t):(f.set t v).get u=f.get u:=by rw[AF.g7,if_neg (fun e=>h e.1)]
structure Js (s:Nat) (f:AF):Prop where
 n:f.n=14
 g0:f.get 0= .func (.yield (s+1)) #[] #[]
 g5:f.get 5=yK (s+2)
theorem Js.set {s t:Nat} {f:AF} {v:Value} (H:Js s f) (h0:0≠t) (h5:5≠t):Js s (f.set t v):=⟨(AF.z7 _ _ _).trans H.n,(gn h0).trans H.g0,(gn h5).trans H.g5⟩
theorem HR {E:Env} {f:AF} {t:Nat} {cs:List Value} {o:Oper} {i:Nat} {v:Value} (ho:o.op= .extract (.tmp t) i) (h:f.get t= .tuple cs.toArray) (hv:cs[i]? =some v):aM E f o=some v:=by
 unfold aM;rw[ho];show((ev E f (.tmp t)).bind fun v=>(match v with| .tuple vs=>vs.toList[i]? |_=>none))=_;rw[show ev E f (.tmp t)=some (f.get t)from rfl,h];simpa using hv
theorem find_born {es:List MapEntry} (hn:(es.map (·.born)).Nodup) {e:MapEntry} (he:e∈es):es.find? (fun x=>x.born==e.born)=some e:=by
 induction es with
 |nil=>cases he
 |cons a l ih=>
  rw[List.find?_cons];rcases List.mem_cons.1 he with rfl |he
  ·simp
  ·have bc:a.born≠e.born:=fun h=>by
    simp only[List.map_cons,List.nodup_cons]at hn;exact hn.1 (List.mem_map.2 ⟨e,he,h.symm⟩)
   have:(a.born==e.born)=false:=by simpa using bc
   rw[this];exact ih (List.nodup_cons.1 (by simpa using hn)).2 he
theorem Su {s m n:Nat} {cH:Value} {es:List MapEntry} {clock:Nat} {acc:List Value} {seen:List Nat} {g:ab} {f:AF} {e:MapEntry} {k:Int} (H:St s m cH es clock acc (seen++[e.born]) g) (hf:Js s f) (hlen:acc.length≤1000000) (bW:vo es clock) (he:e∈es) (hk:e.key= .int .u32 k):
 ∃f' g',St s m cH es clock (acc++[.int .u32 k]) (seen++[e.born]) g'∧Js s f'∧∀K:KC,aL (EC s) s (n+5) kB1 f g K=K .normal f' g':=by
 obtain⟨g',H',hy⟩:=O9 (n:=n) (k:=k) H hlen;have aeb:oX g (s+2)=some (.tuple #[e.key,e.val]):=by
  unfold oX;rw[H.it];simp only[H.mp,List.getLast?_append,List.getLast?_singleton,Option.some_or,Option.bind_some,bF,beq_iff.2 (rfl:clock=clock),find_born bW.2 he]
 obtain⟨f8,h8⟩:∃x,x=f.set 8 (.tuple #[e.key,e.val]):=⟨_,rfl⟩;have F8:Js s f8:=by rw[h8];exact hf.set om om
 obtain⟨f9,h9⟩:∃x,x=f8.set 9 (.int .u32 k):=⟨_,rfl⟩;have F9:Js s f9:=by rw[h9];exact F8.set om om
 obtain⟨f3,h3⟩:∃x,x=f9.set 3 (.int .u32 k):=⟨_,rfl⟩;have F3:Js s f3:=by rw[h3];exact F9.set om om
 obtain⟨fa,ha⟩:∃x,x=f3.set 10 (.func (.yield (s+1)) #[] #[]):=⟨_,rfl⟩;have Fa:Js s fa:=by rw[ha];exact F3.set om om
 obtain⟨fb,hb⟩:∃x,x=fa.set 11 (.int .u32 k):=⟨_,rfl⟩;have Fb:Js s fb:=by rw[hb];exact Fa.set om om
 obtain⟨fc,hc⟩:∃x,x=fb.set 12 (.bool true):=⟨_,rfl⟩;have Fc:Js s fc:=by rw[hc];exact Fb.set om om
 obtain⟨fd,hd⟩:∃x,x=fc.set 13 (.bool false):=⟨_,rfl⟩;have Fd:Js s fd:=by rw[hd];exact Fc.set om om
 refine⟨fd,g',H',Fd,fun K=>?_⟩;show oJ (EC s) s _ _ _ _ f g _=_;refine a7 rfl ?_;refine(wH (v:=.tuple #[e.key,e.val]) (g':=g) (fun it=>by simp) rfl rfl rfl ?_).trans ?_
 ·show((some (f.get 5)).bind fun v=>(nw v).bind fun r=>(oX g r).bind fun v=>some (lY.val v,g))=_;rw[hf.g5];show((oX g (s+2)).bind fun v=>some (lY.val v,g))=_;rw[aeb];rfl
 show oJ (EC s) s _ _ _ _ (f.set 8 (.tuple #[e.key,e.val])) g _=_;rw[←h8];refine a7 rfl ?_;refine(cp (v:=.int .u32 k) (fun it=>by simp) (HR (cs:=[e.key,e.val]) rfl (by rw[h8,gs (by rw[hf.n];omega)]) (by rw[hk];rfl))).trans ?_;show oJ (EC s) s _ _ _ _ (f8.set 9 (.int .u32 k)) g _=_;rw[←h9];refine a7 rfl ?_;refine(cp (v:=.int .u32 k) (fun it=>by simp) (by show some (f9.get 9)=_;rw[h9,gs (by rw[F8.n];omega)])).trans ?_;rw[eA];show aL (EC s) s (n+4) _ (f9.set 3 (.int .u32 k)) g K=_;rw[cJ,dR];rw[←h3];refine a7 rfl ?_
 refine(cp (v:=.func (.yield (s+1)) #[] #[]) (fun it=>by simp) (by show some (f3.get 0)=_;rw[F3.g0])).trans ?_;show oJ (EC s) s _ _ _ _ (f3.set 10 (.func (.yield (s+1)) #[] #[])) g _=_;rw[←ha];refine a7 rfl ?_;refine(cp (v:=.int .u32 k) (fun it=>by simp) (by show some (fa.get 3)=_;rw[ha,gn om,h3,gs (by rw[F9.n];omega)])).trans ?_;show oJ (EC s) s _ _ _ _ (fa.set 11 (.int .u32 k)) g _=_;rw[←hb];refine a7 rfl ?_;refine(Ln (l:=s+1) (args:=[.int .u32 k]) (g':=g) (fun it=>by simp) rfl rfl rfl ?_).trans ?_
 ·show((some (fb.get 11)).bind fun v=>(some []).bind fun vs=>some (v::vs)).bind (fun args=>(some (fb.get 10)).bind fun g0=>(match g0 with
   | .func (.func g1) first captured=>some (lY.enter g1 (first.toList++args++captured.toList),g)
   | .func (.yield l) first _=>some (.round l (first.toList++args),g)
   |_=>none))=_
  rw[hb,gs (by rw[Fa.n];omega),gn om,ha,gs (by rw[F3.n];omega)];rfl
 rw[hy];show oJ (EC s) s _ _ _ _ (fb.set 12 (.bool true)) g' _=_;rw[←hc];refine a7 rfl ?_;refine(cp (v:=.bool false) (fun it=>by simp) (by show((some (fc.get 12)).bind fun a=>bF (scalar a) (eG (Op.unary .not a)))=_;rw[hc,gs (by rw[Fb.n];omega)];rfl)).trans ?_;rw[eA]
 show(match(some ((fc.set 13 (.bool false)).get 13)).bind Dl with
  |some true=>_
  |some false=>_
  |none=>none)=_
 rw[gs (by rw[Fc.n];omega)];subst hd;rfl
theorem Pa {X:Out} (hX:gu X X=true):∀{l:List (Option Out)},l≠[]→(∀x∈l,x=some X)→meet l=some X
 |[],h,_=>absurd rfl h
 |x::xs,_,h=>by
  obtain rfl:=h x List.mem_cons_self;unfold meet;have gen:∀b,b=true→bF b (some X)=some X:=by rintro _ rfl;rfl
  refine gen _ ?_;rw[List.all_eq_true];intro y hy;rw[h y (List.mem_cons_of_mem _ hy)];exact hX
theorem Pb {s m:Nat} {cH:Value} {es:List MapEntry} {clock:Nat} {acc:List Value} {seen:List Nat} {g:ab} {b:Nat} (H:St s m cH es clock acc seen g):St s m cH es clock acc (seen++[b]) (g.put (s+2) (.cy (some m) clock (seen++[b]) clock)):=by
 obtain⟨v,t,hb,ht,hv⟩:=H.box;have:=H.lt;exact⟨by rw[ab.size_put];exact H.sz,⟨v,t,by rw[ab.bJ,if_neg om];exact hb,ht,hv.put H.it rfl rfl om⟩,by rw[ab.bJ,if_neg om];exact H.lp,by rw[ab.bJ,if_pos rfl],by rw[ab.bJ,if_neg om];exact H.mp,H.lt,H.wf.Sp H.it rfl⟩
def Pc (e:MapEntry):Prop:=∃k:Int,e.key= .int .u32 k
theorem yL {E:Env} {base n:Nat} {b:Code} {f:AF} {h:ab} {K:KC}:aL E base (n+1) (.loop b) f h K=aL E base n b f h (fun ex f' h'=>match ex with| .normal=>aL E base n (.loop b) f' h' K|ex=>K ex f' h'):=rfl
theorem pD {E:Env} {base n id:Nat} {b:Code} {f:AF} {h:ab} {K:KC}:aL E base (n+1) (.block id b) f h K=aL E base n b f h (fun ex f' h'=>match ex with| .exit nk=>bif Nat.beq nk id then K .normal f' h' else K (.exit nk) f' h'|ex=>K ex f' h'):=rfl
theorem E3 {E:Env} {base:Nat} {cK:qM} {rK:n9} {o:Oper} {f:AF} {g:ab} {K:KV} {it:Operand} {r:Nat} (ho:o.op= .next it false) (h:(ev E f it).bind nw=some r):AM E base cK rK o f g K=yq g r base K:=by
 unfold AM;split
 ·rename_i it' e;rw[ho]at e;cases e;rw[h]
 ·rename_i hx;exact absurd ho (hx it)
def lO (es ch:List MapEntry):List MapEntry:=es.filter fun e=> !(ch.map (·.born)).contains e.born
theorem Lv {l:List MapEntry} (hn:(l.map (·.born)).Nodup) {e:MapEntry} (he:e∈l):l.Perm (e::l.filter fun x=> !(x.born==e.born)):=by
 induction l with
 |nil=>cases he
 |cons a l ih=>
  have Rb:=List.nodup_cons.1 (show(a.born::l.map (·.born)).Nodup from hn);rcases List.mem_cons.1 he with rfl |he
  ·rw[List.filter_cons_of_neg (by simp)];have:l.filter (fun x=> !(x.born==e.born))=l:=by
    rw[List.filter_eq_self];intro x hx;have:x.born≠e.born:=fun h=>Rb.1 (List.mem_map.2 ⟨x,hx,h⟩);simpa using this
   rw[this]
  ·have bc:a.born≠e.born:=fun h=>Rb.1 (List.mem_map.2 ⟨e,he,h.symm⟩);rw[List.filter_cons_of_pos (by simpa using bc)];exact((ih Rb.2 he).cons a).trans (.swap _ _ _)
theorem Lx (es ch:List MapEntry) (e:MapEntry):lO es (ch++[e])=(lO es ch).filter fun x=> !(x.born==e.born):=by
 unfold lO;rw[List.filter_filter];refine List.filter_congr fun x _=>?_;simp only[List.map_append,List.map_cons,List.map_nil,List.contains_eq_mem,List.mem_append,List.mem_singleton];by_cases h1:x.born∈ch.map (·.born)<;>by_cases h2:x.born=e.born<;>simp_all
theorem E4 {E:Env} {base n:Nat} {c:Operand} {a b:Code} {f:AF} {h:ab} {K:KC} (hc:(ev E f c).bind Dl=some false):aL E base (n+1) (.cond c a b) f h K=aL E base n b f h K:=by
 show(match(ev E f c).bind Dl with|some true=>aL E base n a f h K|some false=>aL E base n b f h K|none=>none)=_;rw[hc]
theorem E5 {E:Env} {base n:Nat} {c:Operand} {a b:Code} {f:AF} {h:ab} {K:KC} (hc:(ev E f c).bind Dl=some true):aL E base (n+1) (.cond c a b) f h K=aL E base n a f h K:=by
 show(match(ev E f c).bind Dl with|some true=>aL E base n a f h K|some false=>aL E base n b f h K|none=>none)=_;rw[hc]
theorem HT {E:Env} {base n:Nat} {f:AF} {h:ab} {K:KC}:aL E base (n+1) .skip f h K=K .normal f h:=rfl
theorem E6 {es:List MapEntry} {clock:Nat} {seen:List Nat} (bW:vo es clock):(!(!seen.isEmpty&& !es.isEmpty&&es.all (fun e=>Nat.ble clock e.born)))=true:=by
 cases es with
 |nil=>simp
 |cons e l=>
  have:=bW.1 e List.mem_cons_self
  have hb:Nat.ble clock e.born=false:=by cases hh:Nat.ble clock e.born with
   |false=>rfl
   |true=>have:=aG.1 hh;omega
  simp[hb]
theorem Sv {s m:Nat} {cH:Value} {es:List MapEntry} {clock:Nat} {X:Out} (hX:gu X X=true) (bW:vo es clock) (ml:∀e∈es,Pc e) (hlen:es.length≤1000000) {K:KC}
 (hK:∀(ch:List MapEntry) f g,St s m cH es clock (ch.map (·.key)) (ch.map (·.born)) g→ch.Perm es→K (.exit 0) f g=some X):
 ∀(r n:Nat) (ch:List MapEntry) (f:AF) (g:ab),St s m cH es clock (ch.map (·.key)) (ch.map (·.born)) g→Js s f→(ch++lO es ch).Perm es→(lO es ch).length=r→aL (EC s) s (n+r+9) (.loop E2) f g K=some X:=by
 intro r
 induction r with
 |zero=>
  intro n ch f g H hf hp hr;have hl:lO es ch=[]:=List.eq_nil_of_length_eq_zero hr;rw[hl,List.append_nil]at hp;rw[yL];show aL (EC s) s (n+8) (.seq _ (.seq (.cond _ .skip (.exit 0)) _)) f g _=_;rw[cJ,dR];refine a7 rfl ?_;refine(E3 (it:=.tmp 5) (r:=s+2) rfl (by show(some (f.get 5)).bind nw=_;rw[hf.g5];rfl)).trans ?_;unfold yq;rw[aG.2 (show s≤s+2 by omega),H.it];simp only[H.mp,bF,E6 bW,show es.filter (fun e=> !(ch.map (·.born)).contains e.born)=[]from hl];refine a7 rfl ?_
  refine(cp (v:=.bool false) (fun it=>by simp) (HR (cs:=[.bool false]) rfl (by show(f.set 6 _).get 6=_;rw[gs (by rw[hf.n];omega)]) rfl)).trans ?_;rw[eA];show aL (EC s) s (n+7) (.seq (.cond (.tmp 7) .skip (.exit 0)) _) ((f.set 6 (.tuple #[.bool false])).set 7 (.bool false)) g _=_;rw[cJ,E4 (by show(some (AF.get _ 7)).bind Dl=_;rw[gs (by rw[AF.z7,hf.n];omega)];rfl)];exact hK ch _ g H hp
 |succ r ih=>
  intro n ch f g H hf hp hr;have bc:lO es ch≠[]:=fun h=>by rw[h]at hr;simp at hr
  rw[yL];show aL (EC s) s (n+(r+1)+8) (.seq _ (.seq (.cond _ .skip (.exit 0)) (.block 1 kB1))) f g _=_;rw[cJ,dR];refine a7 rfl ?_;refine(E3 (it:=.tmp 5) (r:=s+2) rfl (by show(some (f.get 5)).bind nw=_;rw[hf.g5];rfl)).trans ?_;unfold yq;rw[aG.2 (show s≤s+2 by omega),H.it];simp only[H.mp,bF,E6 bW];generalize hl:es.filter (fun e=> !(ch.map (·.born)).contains e.born)=l;have rN:lO es ch=l:=hl;rw[rN]at bc hr hp;cases l with
  |nil=>exact absurd rfl bc
  |cons e0 l0=>
   show meet (List.map _ (e0::l0))=_;refine Pa hX (by simp) fun x hx=>?_;obtain⟨e,he,rfl⟩:=List.mem_map.1 hx;have vu:e∈lO es ch:=by rw[rN];exact he
   have mj:e∈es:=(List.mem_filter.1 vu).1;obtain⟨k,hk⟩:=ml e mj;have nS:(e0::l0).Perm (e::lO es (ch++[e])):=by
    rw[Lx,rN];exact Lv (by rw[←rN];exact List.Nodup.sublist ((List.filter_sublist (l:=es)).map _) bW.2) he
   have hp2:((ch++[e])++lO es (ch++[e])).Perm es:=by
    refine List.Perm.trans ?_ hp;rw[List.append_assoc];exact(nS.symm.append_left ch)
   have pX:(lO es (ch++[e])).length=r:=by
    have:=nS.length_eq;rw[hr]at this;simpa using this.symm
   have bT:ch.length≤es.length:=by
    have:=hp.length_eq;simp at this;omega
   have aec:Nat.blt e.born clock=true:=aS.2 (bW.1 e mj);simp only[aec];refine a7 rfl ?_;refine(cp (v:=.bool true) (fun it=>by simp) (HR (cs:=[.bool true,e.key,e.val]) rfl (by show(f.set 6 _).get 6=_;rw[gs (by rw[hf.n];omega)]) rfl)).trans ?_;rw[eA];have F7:Js s ((f.set 6 (.tuple #[.bool true,e.key,e.val])).set 7 (.bool true)):=(hf.set om om).set om om;obtain⟨f',g',H',zr,hT⟩:=Su (n:=n+r+1) (Pb H) F7 (by simpa using Nat.le_trans bT hlen) bW mj hk;show aL (EC s) s (n+r+8) (.seq (.cond (.tmp 7) .skip (.exit 0)) (.block 1 kB1)) ((f.set 6 (.tuple #[.bool true,e.key,e.val])).set 7 (.bool true)) _ _=_
   rw[cJ,E5 (by show(some (AF.get _ 7)).bind Dl=_;rw[gs (by rw[AF.z7,hf.n];omega)];rfl)];rw[HT];show aL (EC s) s (n+r+7) (.block 1 kB1) _ _ _=_;rw[pD];rw[show n+r+6=n+r+1+5 by omega];rw[hT];show aL (EC s) s (n+(r+1)+8) (.loop E2) f' g' K=_;rw[show n+(r+1)+8=n+r+9 by omega];exact ih n (ch++[e]) f' g' (by simpa[hk]using H') zr hp2 pX
@[reducible] def jR (B:Nat):Value:=.func (.func 267) #[] #[yK B]
theorem og {E:Env} {base:Nat} {run:K5} {g:FuncId} {fn:Func} {code:Code} {args:List Value} {h:ab} {K:KV} (hf:E.func g=some fn) (ho:E.tS base g args h=none) (hb:fn.body=some code) (hl:Nat.ble args.length fn.ntmps=true):
 ef E base run g args h K=run code (AF.enter args fn.ntmps) h (fun ex f h'=>match ex with
  | .exit _=>none
  |_=>match df E h' f fn.results.toList with
   |some vs=>K (cX vs) h'
   |none=>none):=by
 unfold ef;rw[hf];simp only[ho,hb,hl,bF];rfl
noncomputable def kR0:Array Oper:=match Tryz.f267.body with|some (.seq (.region _ o _) _)=>o|_=> #[]
theorem Pd {s m B n:Nat} {cH:Value} {es:List MapEntry} {clock:Nat} {X:Out} {g:ab} (hX:gu X X=true) (bW:vo es clock) (ml:∀e∈es,Pc e) (hlen:es.length≤1000000) {K:KV}
 (fL:g.size=s+2) (W:Wf g) (hb:g.get s=some (.cells [.slice none 0 0] s s 0)) (hl:g.get (s+1)=some (.loop .ready none (Lo s cH) [7] m5 m6)) (hm:g.get m=some (.map es clock)) (bH:m<s) (hr:ae g B 0 1=some [.map (some m)])
 (hK:∀(ch:List MapEntry) g',St s m cH es clock (ch.map (·.key)) (ch.map (·.born)) g'→ch.Perm es→K (.tuple #[]) g'=some X):
 ef (EC s) s (aL (EC s) s (n+es.length+11)) 267 [.func (.yield (s+1)) #[] #[],yK B] g K=some X:=by
 refine(og (code:=.seq (.region 0 kR0 false) (.block 0 (.loop E2))) (show(EC s).func 267=some Tryz.f267 by kernel_rfl) rfl rfl rfl).trans ?_;rw[cJ,dR];refine a7 rfl ?_;refine(yJ (v:=.map (some m)) (q:=.cells false B 0 1) (fun it=>by simp) rfl rfl (by show(ae g B 0 1).bind _=_;rw[hr];rfl)).trans ?_;refine a7 rfl ?_;refine(wH (v:=yK g.size) (g':=g.push (.cy (some m) clock [] clock)) (fun it=>by simp) rfl rfl rfl ?_).trans ?_
 ·show(match g.get m with
   |some (.map _ clock)=>some (lY.val (.pointer (some ⟨g.size,0,none⟩)),g.push (.cy (some m) clock [] clock))
   |_=>none)=_
  rw[hm]
 rw[eA];show aL (EC s) s (n+es.length+10) (.block 0 (.loop E2)) (((AF.enter [.func (.yield (s+1)) #[] #[],yK B] 14).set 4 (.map (some m))).set 5 (yK g.size)) (g.push (.cy (some m) clock [] clock)) _=_;rw[pD,fL];refine Sv (cH:=cH) (ch:=[]) hX bW ml hlen (fun ch f g' H hp=>?_) es.length n _ _ ⟨?_,⟨.slice none 0 0,0,?_,Nat.zero_le _,.inl ⟨rfl,rfl⟩⟩,?_,?_,?_,bH,?_⟩ ⟨rfl,rfl,rfl⟩ ?_ ?_
 ·exact hK ch g' H hp
 ·rw[ab.size_push];omega
 ·rw[ab.aq,if_neg om];exact hb
 ·rw[ab.aq,if_neg om];exact hl
 ·rw[ab.aq,if_pos fL.symm];rfl
 ·rw[ab.aq,if_neg om];exact hm
 ·exact W.push (fun _ _ _ _ e=>by cases e)
 ·rw[show lO es []=es from List.filter_eq_self.2 (by simp)];exact List.Perm.refl _
 ·rw[show lO es []=es from List.filter_eq_self.2 (by simp)]
noncomputable def aR0:Array Oper:=match Tryz.f273.body with|some (.seq (.region _ o _) _)=>o|_=> #[]
noncomputable def aR1:Array Oper:=match Tryz.f273.body with|some (.seq _ (.seq (.seq (.region _ o _) _) _))=>o|_=> #[]
noncomputable def aR4:Array Oper:=match Tryz.f273.body with|some (.seq _ (.seq _ (.seq (.region _ o _) _)))=>o|_=> #[]
theorem E7 {E:Env} {base n:Nat} {g:Operand} {ps:Array Tmp} {iW body:Code} {f:AF} {h:ab} {K:KC} {g0:FuncId} {first captured:Array Value} (hg:ev E f g=some (.func (.func g0) first captured)) (hb:base≤h.size):
 aL E base (n+1) (.rangeFunc g ps iW body) f h K=ef E base (aL E base n) g0 (first.toList++[.func (.yield h.size) #[] #[]]++captured.toList) (h.push (.loop .ready none f ps.toList iW body)) fun _ h1=>
    (match h1.get h.size with
    |some (.loop st p f0 MN vQ ou)=>bF (st != .busy) (match p with
     |none=>K .normal f (h1.put h.size (.loop .exhausted p f0 MN vQ ou))
     |some c=>aL E base n c f (h1.put h.size (.loop .exhausted p f0 MN vQ ou)) K)
    |_=>none):=by
 show(match ev E f g with
  |some (.func (.func g) first captured)=>_
  |_=>none)=_
 rw[hg];simp only[aG.2 hb,bF];rfl
theorem Sw {s m B n:Nat} {es:List MapEntry} {clock:Nat} {X:Out} {h:ab} (hX:gu X X=true) (bW:vo es clock) (ml:∀e∈es,Pc e) (hlen:es.length≤1000000) {K:KV}
 (hs:h.size=s) (W:Wf h) (hm:h.get m=some (.map es clock)) (hr:ae h B 0 1=some [.map (some m)])
 (hK:∀(ch:List MapEntry) v g',Wf g'→s+3≤g'.size→O7 s g' v (ch.map (·.key))→ch.Perm es→K v g'=some X):
 ef (EC s) s (aL (EC s) s (n+es.length+16)) 273 [.slice none 0 0,jR B] h K=some X:=by
 have bH:=W.lt hm;rw[hs]at bH;refine(og (code:=.seq (.region 0 aR0 false) (.seq (.seq (.region 1 aR1 false) (.block 0 (.rangeFunc (.tmp 6) #[7] m5 m6))) (.seq (.region 4 aR4 false) .ret))) (show(EC s).func 273=some Tryz.f273 by kernel_rfl) rfl rfl rfl).trans ?_;rw[cJ,dR];refine a7 rfl ?_;refine(AX (m:=.cells [.slice none 0 0]) (hd:=.ptr) (fun it=>by simp) rfl rfl rfl).trans ?_;refine a7 rfl ?_;refine(cp (v:=.slice none 0 0) (fun it=>by simp) rfl).trans ?_;rw[eA,hs];obtain⟨g1,mI⟩:∃g1,g1=h.push (.cells [.slice none 0 0] s s 0):=⟨_,rfl⟩;have MZ:g1.size=s+1:=by rw[mI,ab.size_push,hs]
 have W1:Wf g1:=by rw[mI];exact W.push (fun cs f cA aQ e=>by cases e;omega)
 show aL (EC s) s (n+es.length+15) (.seq (.seq (.region 1 aR1 false) (.block 0 (.rangeFunc (.tmp 6) #[7] m5 m6))) (.seq (.region 4 aR4 false) .ret)) (((AF.enter [.slice none 0 0,jR B] 13).set 2 (yK s)).set 4 (.slice none 0 0)) (h.push (.cells [.slice none 0 0] s s 0)) _=_;rw[←mI,cJ,cJ,dR];refine a7 rfl ?_;refine(cp (v:=jR B) (fun it=>by simp) rfl).trans ?_;rw[eA];show aL (EC s) s (n+es.length+13) (.block 0 (.rangeFunc (.tmp 6) #[7] m5 m6)) (Lo s (jR B)) g1 _=_;rw[pD,E7 (first:= #[]) (captured:= #[yK B]) rfl om,MZ]
 show ef (EC s) s (aL (EC s) s (n+es.length+11)) 267 [.func (.yield (s+1)) #[] #[],yK B] (g1.push (.loop .ready none (Lo s (jR B)) [7] m5 m6)) _=_;refine Pd (cH:=jR B) hX bW ml hlen ?_ ?_ ?_ ?_ ?_ bH ?_ (fun ch g' H hp=>?_)
 ·rw[ab.size_push,MZ]
 ·exact W1.push (fun _ _ _ _ e=>by cases e)
 ·rw[ab.aq,if_neg om,mI,ab.aq,if_pos hs.symm]
 ·rw[ab.aq,if_pos om]
 ·rw[ab.aq,if_neg om,mI,ab.aq,if_neg om];exact hm
 ·have:∃cs,h.rd B=some cs:=by
   unfold ae at hr;cases hh:h.rd B with
   |none=>rw[hh]at hr;simp at hr
   |some cs=>exact⟨cs,rfl⟩
  obtain⟨cs,o7⟩:=this;obtain⟨_,_,_,hgB⟩:=xE o7;have hBl:=W.lt hgB;unfold ae at hr ⊢;rw[ew W1.le _ om,mI,ew W.le _ hBl];exact hr
 ·obtain⟨v,t,hb,ht,hv⟩:=H.box;simp only[H.lp];obtain⟨gE,hgE⟩:∃gE,gE=g'.put (s+1) (.loop .exhausted none (Lo s (jR B)) [7] m5 m6):=⟨_,rfl⟩;have hbE:gE.get s=some (.cells [v] s s t):=by rw[hgE,ab.bJ,if_neg om];exact hb
  show aL (EC s) s (n+es.length+14) (.seq (.region 4 aR4 false) .ret) (Lo s (jR B)) (g'.put (s+1) (.loop .exhausted none (Lo s (jR B)) [7] m5 m6)) _=_;rw[←hgE,cJ,dR];refine a7 rfl ?_;refine(yJ (v:=v) (q:=.cells false s 0 1) (fun it=>by simp) rfl rfl (by show(ae gE s 0 1).bind _=_;rw[ta hbE ht];rfl)).trans ?_;refine a7 rfl ?_;refine(cp (v:=v) (fun it=>by simp) rfl).trans ?_;rw[eA];exact hK ch v gE (by rw[hgE];exact H.wf.Sp H.lp rfl) (by rw[hgE,ab.size_put];exact H.sz) (by rw[hgE];exact hv.put H.lp rfl rfl om) hp
noncomputable def cR0:Array Oper:=match Tryz.f265.body with|some (.seq (.region _ o _) _)=>o|_=> #[]
noncomputable def cR1:Array Oper:=match Tryz.f265.body with|some (.seq _ (.seq (.region _ o _) _))=>o|_=> #[]
theorem Sx {s m B n:Nat} {es:List MapEntry} {clock:Nat} {X:Out} {h:ab} (hX:gu X X=true) (bW:vo es clock) (ml:∀e∈es,Pc e) (hlen:es.length≤1000000) {K:KV}
 (hs:h.size=s) (W:Wf h) (hm:h.get m=some (.map es clock)) (hr:ae h B 0 1=some [.map (some m)])
 (hK:∀(ch:List MapEntry) v g',Wf g'→s+3≤g'.size→O7 s g' v (ch.map (·.key))→ch.Perm es→K v g'=some X):
 ef (EC s) s (aL (EC s) s (n+es.length+20)) 265 [jR B] h K=some X:=by
 refine(og (code:=.seq (.region 0 cR0 false) (.seq (.region 1 cR1 false) .ret)) (show(EC s).func 265=some Tryz.f265 by kernel_rfl) rfl rfl rfl).trans ?_;rw[cJ,dR];refine a7 rfl ?_;refine(cp (v:=.slice none 0 0) (fun it=>by simp) rfl).trans ?_;rw[eA];show aL (EC s) s (n+es.length+19) (.seq (.region 1 cR1 false) .ret) ((AF.enter [jR B] 5).set 2 (.slice none 0 0)) h _=_;rw[cJ,dR];refine a7 rfl ?_;refine(cp (v:=jR B) (fun it=>by simp) rfl).trans ?_;refine a7 rfl ?_;refine(uJ (l:=273) (args:=[.slice none 0 0,jR B]) (g':=h) (fun it=>by simp) rfl rfl rfl rfl).trans ?_
 show ef (EC s) s (aL (EC s) s (n+es.length+17)) 273 [.slice none 0 0,jR B] h _=_;rw[show n+es.length+17=(n+1)+es.length+16 by omega];refine Sw hX bW ml hlen hs W hm hr fun ch v g' w1 w2 w3 hp=>?_;refine a7 rfl ?_;refine(cp (v:=v) (fun it=>by simp) rfl).trans ?_;rw[eA];exact hK ch v g' w1 w2 w3 hp
theorem yM {E:Env} {base n m:Nat} {g:FuncId} {args:List Value} {h:ab} {r r':Value×ab} (h1:fK E base n g args h=some r) (h2:fK E base m g args h=some r'):r'=r:=by
 have a:=xO (E:=E) (base:=base) (Nat.le_max_left n m) _ _ _ _ h1;have b:=xO (E:=E) (base:=base) (Nat.le_max_right n m) _ _ _ _ h2;rw[a]at b;exact(Option.some.inj b).symm
theorem U0 {F:Nat→Prop} {h:ab}:kW ES F h:=fun g cs hg=>by
 have:(none:Option (List Value))=some cs:=hg;cases this
theorem Pe {s:Nat} {g:ab} {v:Value} {d:Array Int} (W:Wf g) (hv:O7 s g v (d.toList.map (.int .u32))) (hs:s≤g.size) (hl:d.size<13) (sk:0<d.size):
 ∃h',yI s [v] g=some (.tuple #[],h')∧ae h' (match v with| .slice (some ⟨b,_,_⟩) _ _=>b|_=>0) 0 d.size=some ((eI d.toList).map (.int .u32)):=by
 rcases hv with⟨h0,_⟩|⟨_,b,f,t0,eX,aQ,rfl,hb,hf,Gg,ZR,UR,YO⟩
 ·have:=congrArg List.length h0;simp only[List.length_map,Array.length_toList,List.length_nil]at this;omega
 ·obtain⟨c0,bQ⟩:=bO hf;simp only at bQ
  let ρ:Gh:=fun n=>if n=0 then some (.arr b 1 ((d.toList.map jQ).length))else none
  let S:Nat→Ft:=fun _=>[(f,true)]
  let X:=zy s ρ (fun _=>False) [(0,qA d)] 1 g S
  have lk:∀{m y},look [(0,qA d)] m=some y→m=0∧y=qA d:=by
   intro m y hm;unfold look at hm;split at hm
   ·rename_i e;have:=beq_iff.1 e;cases hm;exact⟨this.symm,rfl⟩
   ·cases hm
  have vp:OR 1 ρ (fun _=>False) g s 0 [(f,true)] (qA d):=by
   refine .arr (b:=b) (f:=f) (t0:=t0) (eX:=eX) (aQ:=aQ) (cs:=d.toList.map (.int .u32)) (by simp[ρ]) hb hf Gg om om (by simp) (by simp) (by simp[fz,xr]) ?_ (by simp);intro i j e t v h1 h2 h3;rw[List.getElem?_map]at h1;obtain⟨x,hx,rfl⟩:=Option.map_eq_some_iff.1 h1;have hj:j=0:=by
    have:=(List.getElem?_eq_some_iff.1 h2).1;simp at this;exact this
   subst hj;simp at h2;subst h2;rw[Nat.mul_one,Nat.add_zero,List.getElem?_map,hx]at h3;cases h3;exact .s rfl
  have hmo:MO X ρ (fun _=>False) [(0,qA d)] 1 g S:=by
   refine⟨fun m y hm=>?_,fun m y hm=>?_,fun m1 m2 y1 y2 x h1 h2 _ _=>?_,fun m y x hm hx=>?_,fun m y x b' hm hx hF=>hF.elim⟩
   ·obtain⟨rfl,rfl⟩:=lk hm;exact vp
   ·simp[S,dk]
   ·obtain⟨rfl,_⟩:=lk h1;obtain⟨rfl,_⟩:=lk h2;rfl
   ·have UI:x=f:=by simpa[S,dk]using hx
    subst UI;exact⟨by show s≤x;omega,W.lt bQ,.inl ⟨m,y,hm,hx⟩⟩
  have l7:Mem X ρ (fun _=>False) [(0,qA d)] 1 g:=by
   refine⟨⟨S,hmo⟩,fun m l hm=>?_,fun b hb=>hb.elim,fun b hb=>hb,W,.refl _ _ _,hs,fun b hb=>hb.elim,⟨Nat.le_refl _,fun _ _ _ hl=>hl,fun _ _ _ hl=>hl⟩⟩;by_cases e:m=0
   ·omega
   ·simp[ρ,e]at hm
  have hvr:dI 1 ρ (fun _=>False) g [.tk 0] [AY b (d.toList.map (Value.int .u32)).length ((d.toList.map (Value.int .u32)).length+1)]:=by
   refine .cons (.tk om rfl (fun b' z len hx=>?_) (fun z hx=>?_)) .nil
   ·simp[ρ]at hx;obtain⟨rfl,rfl,rfl⟩:=hx;exact⟨d.size+1,om,by simp⟩
   ·simp[ρ]at hx
  obtain⟨n,v,h',ρ',F',r,o',c',hac,⟨e,⟨hp,aee⟩,rfl,rfl,rfl⟩,hM,hr⟩:=O5 d hl s ρ (fun _=>False) g S _ U0 l7 hmo hvr;obtain⟨a,rfl,ha⟩:=hr.sJ;have ea:a= #[]:=by
   have:=ha.bK;exact Array.toList_eq_nil_iff.1 this
  subst ea;refine⟨h',EY hac (fun n r kQ=>yM hac kQ),?_⟩;show ae h' b 0 d.size=_;obtain⟨S',aef⟩:=hM.ex;have aeg:=aef.b7 0 (qA e) rfl;have mj:e.toList=eI d.toList:=(Sort.sorted_unique_holds Sort.swo_ltInt (fun x y h1 h2=>by simp[Sort.ltInt]at h1 h2;omega) d e hp aee).trans (by unfold eI;congr 1;funext x y;simp[Sort.ltInt];by_cases h:x≤y<;>simp[h]<;>omega);have key:∀{SS:Ft} {y:TO},OR 1 ρ' F' h' X.base 0 SS y→y=qA e→∃cs,h'.rd b=some cs∧cs.length=d.size∧cs=e.toList.map (.int .u32):=by
   intro SS y H hy;cases H with
   |nil bX hz=>
    exfalso;have:=hM.zJ.2.1 0 _ Nat.zero_lt_one bX;simp[zy,ρ]at this
   |arr bX kO zr RT ED jY rN Dt zL lx QV=>
    rename_i z w es b' f' t1 wW c9 cs;cases hy;have eE:=hM.zJ.2.1 0 _ Nat.zero_lt_one bX;simp[zy,ρ]at eE;obtain⟨rfl,hlen⟩:=eE;have bT:cs.length=e.toList.length:=by simpa using rN
    refine⟨cs,dD zr RT (aB kO),by rw[bT,Array.length_toList,hp.1],?_⟩;refine List.ext_getElem? fun i=>?_;rw[List.getElem?_map];cases hx:e.toList[i]? with
    |none=>
     have:e.toList.length≤i:=by simpa using hx
     rw[List.getElem?_eq_none om];rfl
    |some x=>
     have hi:=(List.getElem?_eq_some_iff.1 hx).1;have h1:=lx i 0 (jQ x) (.s (.int .u32 x)) (cs[i]' om) (by rw[List.getElem?_map,hx];rfl) rfl (by simp);obtain⟨q1,_⟩:=h1.dj;rw[List.getElem?_eq_getElem om,q1];rfl
   |_=>cases hy
  obtain⟨cs,h1,h2,h3⟩:=key aeg rfl;unfold ae;rw[h1];simp only[Option.bind_some,List.drop_zero,aW];refine⟨om,?_⟩;rw[List.take_of_length_le om,h3,mj]
theorem Pf {s:Nat} {g:ab} (W:Wf g) (hs:s≤g.size):∃h',yI s [.slice none 0 0] g=some (.tuple #[],h'):=by
 have hmo:MO (zy s um (fun _=>False) [] 0 g fun _=>[]) um (fun _=>False) [] 0 g fun _=>[]:=
  ⟨fun m y hl=>(by cases hl),fun m y hl=>(by cases hl),fun m1 m2 y1 y2 x h1=>(by cases h1),fun m y x hl=>(by cases hl),fun m y x b hl=>(by cases hl)⟩
 have l7:Mem (zy s um (fun _=>False) [] 0 g fun _=>[]) um (fun _=>False) [] 0 g:=
  ⟨⟨_,hmo⟩,fun m l hm=>(by cases hm),fun b hb=>hb.elim,fun b hb=>hb,W,.refl _ _ _,hs,fun b hb=>hb.elim,⟨Nat.le_refl _,fun _ _ _ hl=>hl,fun _ _ _ hl=>hl⟩⟩
 obtain⟨n,v,h',ρ',F',r,o',c',hac,⟨rfl,rfl,rfl⟩,hM,hr⟩:=O6 s um (fun _=>False) g (fun _=>[]) [.slice none 0 0] U0 l7 hmo (.cons (.nil rfl) .nil);obtain⟨a,rfl,ha⟩:=hr.sJ;have ea:a= #[]:=Array.toList_eq_nil_iff.1 ha.bK;subst ea;exact⟨h',EY hac (fun n r kQ=>yM hac kQ)⟩
def CW (ks:List Int):Out:=match ks with
 |[]=>[.bool true,.slice none 0 0]
 |_=>.bool false::goInt ks.length::goInt (1:Nat)::(eI ks).map (.int .u32)
theorem E8:∀l:List Int,gu (l.map (.int .u32)) (l.map (.int .u32))=true
 |[]=>rfl
 |x::l=>by
  simp only[List.map_cons,gu,jG,E8 l,beq_self_eq_true,Bool.and_self]
theorem Ly (ks:List Int):gu (CW ks) (CW ks)=true:=by
 unfold CW;split
 ·rfl
 ·simp only[gu,jG,goInt,E8,beq_self_eq_true,Bool.and_self]
def Xd:Value→Int
 | .int _ n=>n
 |_=>0
def LB (e:MapEntry):Int:=Xd e.key
noncomputable def sR0:Array Oper:=match Tryz.f239.body with|some (.seq (.region _ o _) _)=>o|_=> #[]
noncomputable def sR1:Array Oper:=match Tryz.f239.body with|some (.seq _ (.seq (.region _ o _) _))=>o|_=> #[]
noncomputable def sR2:Array Oper:=match Tryz.f239.body with|some (.seq _ (.seq _ (.seq (.region _ o _) _)))=>o|_=> #[]
noncomputable def sR3:Array Oper:=match Tryz.f239.body with|some (.seq _ (.seq _ (.seq _ (.seq (.region _ o _) _))))=>o|_=> #[]
theorem HU {s m B n:Nat} {es:List MapEntry} {clock:Nat} {ks:List Int} {h:ab} (bW:vo es clock) (Ac:es.map (·.key)=ks.map (.int .u32)) (hlen:ks.length<13)
 (hs:h.size=s) (W:Wf h) (hm:h.get m=some (.map es clock)) (hr:ae h B 0 1=some [.map (some m)]):
 ef (EC s) s (aL (EC s) s (n+es.length+25)) 239 [jR B] h (EO s)=some (CW ks):=by
 have vu:es.length=ks.length:=by have:=congrArg List.length Ac;simpa using this
 have ml:∀e∈es,Pc e:=by
  intro e he;have:e.key∈es.map (·.key):=List.mem_map.2 ⟨e,he,rfl⟩;rw[Ac]at this;obtain⟨k,_,hk⟩:=List.mem_map.1 this;exact⟨k,hk.symm⟩
 refine(og (code:=.seq (.region 0 sR0 false) (.seq (.region 1 sR1 false) (.seq (.region 2 sR2 false) (.seq (.region 3 sR3 false) .ret)))) (show(EC s).func 239=some Tryz.f239 by kernel_rfl) rfl rfl rfl).trans ?_;rw[cJ,dR];refine a7 rfl ?_;refine(cp (v:=.slice none 0 0) (fun it=>by simp) rfl).trans ?_;rw[eA];show aL (EC s) s (n+es.length+24) (.seq (.region 1 sR1 false) (.seq (.region 2 sR2 false) (.seq (.region 3 sR3 false) .ret))) ((AF.enter [jR B] 9).set 2 (.slice none 0 0)) h _=_;rw[cJ,dR];refine a7 rfl ?_;refine(cp (v:=jR B) (fun it=>by simp) rfl).trans ?_;refine a7 rfl ?_
 refine(uJ (l:=265) (args:=[jR B]) (g':=h) (fun it=>by simp) rfl rfl rfl rfl).trans ?_;show ef (EC s) s (aL (EC s) s (n+es.length+22)) 265 [jR B] h _=_;rw[show n+es.length+22=(n+2)+es.length+20 by omega];refine Sx (Ly ks) bW ml om hs W hm hr fun ch v g' w1 w2 w3 hp=>?_;refine a7 rfl ?_;refine(cp (v:=v) (fun it=>by simp) rfl).trans ?_;rw[eA];show aL (EC s) s (n+es.length+23) (.seq (.region 2 sR2 false) (.seq (.region 3 sR3 false) .ret)) (((((AF.enter [jR B] 9).set 2 (.slice none 0 0)).set 4 (jR B)).set 5 v).set 3 v) g' _=_;rw[cJ,dR];refine a7 rfl ?_
 refine(cp (v:=v) (fun it=>by simp) rfl).trans ?_;refine a7 rfl ?_;refine(uJ (l:=266) (args:=[v]) (g':=g') (fun it=>by simp) rfl rfl rfl rfl).trans ?_
 -- what came
 have Aw:(ch.map (·.key)).Perm (ks.map (.int .u32)):=by rw[←Ac];exact hp.map _
 obtain⟨d,hd,hdk⟩:∃d:Array Int,ch.map (·.key)=d.toList.map (.int .u32)∧d.toList.Perm ks:=by
  refine⟨(ch.map LB).toArray,?_,?_⟩
  ·show ch.map (·.key)=(ch.map LB).map (.int .u32);rw[List.map_map];refine List.map_congr_left fun e he=>?_;obtain⟨k,hk⟩:=ml e (hp.mem_iff.1 he);simp[LB,Xd,hk]
  ·show(ch.map LB).Perm ks;have:es.map LB=ks:=by
    have:es.map LB=(es.map (·.key)).map Xd:=by rw[List.map_map];rfl
    rw[this,Ac,List.map_map];exact(List.map_congr_left fun x _=>rfl).trans (List.map_id ks)
   rw[←this];exact hp.map _
 have fL:d.size=ks.length:=by have:=hdk.length_eq;simpa using this
 have hss:eI d.toList=eI ks:=mergeSort_perm hdk;have hs3:s≤g'.size:=by omega
 have hv:=w3;rw[hd]at hv
 have fin:∀h',yI s [v] g'=some (.tuple #[],h')→EO s v h'=some (CW ks)→ef (EC s) s (aL (EC s) s (n+es.length+21)) 266 [v] g' (fun v1 h1=>oJ (EC s) s (ef (EC s) s (aL (EC s) s (n+es.length+21))) (jF s (aL (EC s) s (n+es.length+21))) sR2.toList [] (((((((AF.enter [jR B] 9).set 2 (.slice none 0 0)).set 4 (jR B)).set 5 v).set 3 v).set 6 v).set 7 v1) h1 fun f' h2=>aL (EC s) s (n+es.length+22) (.seq (.region 3 sR3 false) .ret) f' h2 fun ex f h'=>match ex with
  | .exit _=>none
  |_=>match df (EC s) h' f Tryz.f239.results.toList with
   |some vs=>EO s (cX vs) h'
   |none=>none)=some (CW ks):=by
  intro h' q1 q2;unfold ef;rw[show(EC s).func 266=some Tryz.f266 by kernel_rfl];simp only[show(EC s).tS s 266 [v] g'=some (.tuple #[],h')from q1];rw[eA,cJ,dR];refine a7 rfl ?_;refine(cp (v:=v) (fun it=>by simp) rfl).trans ?_;refine a7 rfl ?_;refine(cp (v:=v) (fun it=>by simp) rfl).trans ?_;rw[eA];exact q2
 rcases Nat.eq_zero_or_pos d.size with h0|h0
 ·have Kp:ks=[]:=List.eq_nil_of_length_eq_zero om;have UJ:v= .slice none 0 0:=by
   rcases hv with⟨_,hv⟩|⟨sk,_⟩
   ·exact hv
   ·simp at sk;omega
  obtain⟨h',q1⟩:=Pf w1 hs3;rw[←UJ]at q1;refine fin h' q1 ?_;rw[UJ,Kp];rfl
 ·obtain⟨h',q1,q2⟩:=Pe w1 hv hs3 om h0;refine fin h' q1 ?_;rcases hv with⟨hv,_⟩|⟨_,b,f,t0,eX,aQ,rfl,hb,hf,Gg,ZR,UR,YO⟩
  ·have:=congrArg List.length hv;simp only[List.length_map,Array.length_toList,List.length_nil]at this;omega
  ·have q2:ae h' b 0 d.size=some ((eI d.toList).map (.int .u32)):=q2;have bc:ks≠[]:=fun h=>by rw[h]at fL;simp only[List.length_nil]at fL;omega
   unfold EO;simp only[List.length_map,Array.length_toList,Nat.mul_one,q2,Option.bind_some];have hsc:((eI d.toList).map (Value.int .u32)).all scalar=true:=by
    rw[List.all_eq_true];intro x hx;obtain⟨y,_,rfl⟩:=List.mem_map.1 hx;rfl
   rw[aG.2 (show s≤b by omega),aS.2 h0,hsc,hss];unfold CW;cases ks with
   |nil=>exact absurd rfl bc
   |cons x l=>rw[fL];rfl
def yN:List MapEntry→Option (List Int)
 |[]=>some []
 |e::l=>match e.key,yN l with
  | .int .u32 n,some ks=>some (n::ks)
  |_,_=>none
theorem yO:∀{ev:List MapEntry} {ks:List Int},yN ev=some ks→ev.map (·.key)=ks.map (.int .u32)
 |[],ks,h=>by simp[yN]at h;subst h;rfl
 |e::l,ks,h=>by
  unfold yN at h;split at h
  ·rename_i n UN hk hl;cases h;simp only[List.map_cons,hk,yO hl]
  ·cases h
theorem E9:∀{ev:List MapEntry} {ks:List Int},ev.map (·.key)=ks.map (.int .u32)→yN ev=some ks
 |[],ks,h=>by cases ks with
  |nil=>rfl
  |cons _ _=>simp at h
 |e::l,ks,h=>by
  cases ks with
  |nil=>simp at h
  |cons n ks=>
   simp only[List.map_cons,List.cons.injEq]at h;unfold yN;rw[h.1,E9 h.2]
def yP (h:ab):Option Nat→Option (List Int)
 |none=>none
 |some r=>match h.get r with
  |some (.map ev clock)=>(yN ev).bind fun ks=>bF (decide (vo ev clock)&&Nat.blt ks.length 13) (some ks)
  |_=>none
def Pg (h:ab) (ks:List Int):Value×ab:=match ks with
 |[]=>(.slice none 0 0,h)
 |_::_=>(.slice (some ⟨h.size,0,some 1⟩) ks.length (ks.length+1),h.push (.cells ((eI ks).map (.int .u32)) h.size (h.size+1) 0))
def qn (args:List Value) (h:ab):Option (Value×ab):=match args with
 |[.func (.func k) a c]=>(match a.toList,c.toList with
  |[],[.pointer (some ⟨b,0,none⟩)]=>bF (Nat.beq k 267) ((pA h b).bind fun mb=>(yP h mb).bind fun ks=>some (Pg h ks))
  |_,_=>none)
 |_=>none
theorem HV (h:ab) (ks:List Int):yx h (CW ks)=some (Pg h ks):=by
 cases ks with
 |nil=>rfl
 |cons x l=>rfl
theorem HW {E:Env} {base B:Nat} (hm:Tryz.prog.follows .mixedOrders=true) (hg:∀g,(EC 0).dc g=true→E.dc g=true) {μ:bn} {h h':ab} {w:World} {args:List Value} {args':Array Value} {v:Value}
 (hc:qn args h=some (v,h')) (hr:ay μ args args'.toList) (H:bh E base B μ h w) {F:Fence} (hF:gO F) (n:Nat):CallsIn F n Tryz.prog 239 args' w (lI E base B μ h w v h'):=by
 unfold qn at hc;split at hc
 ·rename_i k a c;split at hc
  ·rename_i b ha np;simp only[ai,Option.bind_eq_some_iff,Option.some.injEq,beq_iff]at hc;obtain⟨rfl,mb,aeh,ks,qO,oc⟩:=hc;obtain⟨aQ,o8,vR⟩:=ET aeh;cases mb with
   |none=>simp[yP]at qO
   |some r=>
    simp only[yP]at qO;split at qO
    ·rename_i ev clock zt;simp only[Option.bind_eq_some_iff,ai,Bool.and_eq_true,decide_eq_true_eq,aS,Option.some.injEq]at qO;obtain⟨UN,Ac,⟨bW,bH⟩,rfl⟩:=qO;have ea:a= #[]:=Array.toList_eq_nil_iff.1 ha;have ec:c= #[yK b]:=by rw[←Array.toList_inj,np]
     subst ea;subst ec;have W:Wf h:=⟨H.high,H.wf⟩;have hK:=yO Ac;have gD:=HU (n:=0) (B:=b) bW hK bH rfl W zt (ta o8 vR);have H2:=H.CM (E0:=EC h.size) (fun g VY=>hg g VY);refine(sX (rU Tryz.prog [] (Sl h.size)) (So hm h.size _) hm (0+ev.length+25) μ h w 239 _ args' _ (CW UN) gD hr H2 F n hF).mono ?_;rintro e w' ⟨u,u',h1,fQ,hKo,rfl,hv,S⟩;refine rS H rfl ?_ hKo hv S;rw[HV,oc]
    ·cases qO
  ·cases hc
 ·cases hc
def Jt (ks:List Int):TO→Prop
 | .map _ es=>es.map (·.1)=ks.map (.int .u32)
 | .eL _ es op=>op=[]∧es.map (·.1)=ks.map (.int .u32)
 |_=>False
theorem OR.aaS {c:Nat} {ρ:Gh} {F:Nat→Prop} {h:ab} {base n:Nat} {S:Ft} {y:TO} {ks:List Int} (H:OR c ρ F h base n S y) (hk:Jt ks y):∃b ev clock,ρ n=some (.dw b)∧h.get b=some (.map ev clock)∧vo ev clock∧ev.map (·.key)=ks.map (.int .u32):=by
 cases H with
 |map hb hg hl hc bW=>
  rename_i kd es b clock ev;refine⟨_,_,_,hb,hg,bW,?_⟩;rw[←show es.map (·.1)=ks.map (.int .u32)from hk];refine List.ext_getElem? fun i=>?_;rw[List.getElem?_map,List.getElem?_map];cases he:es[i]? with
  |none=>
   have:es.length≤i:=by simpa using he
   rw[List.getElem?_eq_none om];rfl
  |some e=>
   have hi:=(List.getElem?_eq_some_iff.1 he).1;obtain⟨q1,_⟩:=hc i e ev[i] he (List.getElem?_eq_getElem om);rw[List.getElem?_eq_getElem om];simp[q1]
 |eL hb hg bT hc bW=>
  obtain⟨rfl,hk⟩:=hk;refine⟨_,_,_,hb,hg,bW,?_⟩;rw[←hk];have key:∀{S:Ft} {kd:Nat} {l:List (Value×TV)} {m:List MapEntry},iN c ρ F h base kd S l m→m.map (·.key)=l.map (·.1):=by
   intro S kd l m hE
   induction hE with
   |nil=>rfl
   |cons h1 _ _ _ _ ih=>simp[h1,ih]
  exact key hc
 |_=>exact hk.elim
theorem Mem.aaT {X:Cx} {ρ:Gh} {F:Nat→Prop} {o:Ob} {c:Nat} {h:ab} (H:Mem X ρ F o c h) (cs:List Value):
 Mem X (ct ρ c (some (.nil 1))) (fun b=>F b∨b=h.size) o (c+1) (h.push (.cells cs h.size (h.size+1) 0)):=by
 obtain⟨S,K⟩:=H.ex;have dK:(h.push (.cells cs h.size (h.size+1) 0)).get h.size=some (.cells cs h.size (h.size+1) 0):=by rw[ab.aq,if_pos rfl]
 have hold:∀b,b<h.size→(h.push (.cells cs h.size (h.size+1) 0)).get b=h.get b:=fun b hb=>by rw[ab.aq,if_neg om]
 have Wc:∀b,b<h.size→hd (h.push (.cells cs h.size (h.size+1) 0)) b=hd h b:=fun b hb=>by unfold hd;rw[hold b hb]
 refine(H.change K (fun _=>False) c (.arr 1 true []) [] (by rw[ab.size_push];omega) (H.wf.push fun _ _ _ _ e=>by cases e;exact Nat.le_refl _) (fun _ hf=>hf.elim) (fun b hb _=>hold b hb)
  (fun b l hb hr=>by rw[ew H.wf.le _ (H.I7 hb)];exact hr) Wc (fun _ hb=>.inl hb) (fun b hb hn=>?_) om (fun n l hn hl=>by rwa [bj _ _ om]at hl) (fun n b hb=>?_) (fun n l hl=>?_) (fun m y' bc hl=>⟨hl,bj _ _ bc,fun _ _ hf=>hf.elim⟩)
  (fun y' hl=>absurd (H.lt hl) om) (.nil (aI _ _ _) om) (by simp[dk]) (fun x hx=>by simp[dk]at hx) (fun x b hx=>by simp at hx)).1
 ·rcases hb with hb|rfl
  ·exact absurd hb hn
  ·have e:hd (h.push (.cells cs h.size (h.size+1) 0)) h.size=h.size:=bZ dK;refine⟨by rw[dD (bM dK dK) (Nat.zero_le _) (aB dK)];rfl,fun m y x _ hl hs=>?_,fun x hx=>by simp at hx,.inr (by rw[e];exact H.oH.size)⟩;rw[e];have:=(K.eT m y x hl (List.mem_map.2 ⟨_,hs,rfl⟩)).2.1;omega
 ·have:=H.names _ _ hb
  rwa [bj _ _ om]
 ·by_cases e:n=c
  ·omega
  ·rw[bj _ _ e]at hl;have:=H.names _ _ hl;omega
theorem Mem.bump {X:Cx} {ρ:Gh} {F:Nat→Prop} {o:Ob} {c:Nat} {h:ab} (H:Mem X ρ F o c h):Mem X (ct ρ c (some (.nil 1))) F o (c+1) h:=by
 obtain⟨S,K⟩:=H.ex
 refine(H.change K (fun _=>False) c (.arr 1 true []) [] (Nat.le_refl _) H.wf (fun _ hf=>hf.elim) (fun b hb _=>rfl)
  (fun b l hb hr=>hr) (fun _ _=>rfl) (fun _ hb=>hb) (fun b hb hn=>absurd hb hn) om (fun n l hn hl=>by rwa [bj _ _ om]at hl) (fun n b hb=>?_) (fun n l hl=>?_) (fun m y' bc hl=>⟨hl,bj _ _ bc,fun _ _ hf=>hf.elim⟩)
  (fun y' hl=>absurd (H.lt hl) om) (.nil (aI _ _ _) om) (by simp[dk]) (fun x hx=>by simp[dk]at hx) (fun x b hx=>by simp at hx)).1
 ·have:=H.names _ _ hb
  rwa [bj _ _ om]
 ·by_cases e:n=c
  ·omega
  ·rw[bj _ _ e]at hl;have:=H.names _ _ hl;omega
theorem VC.qn {E:Env} (hf:(E.func 239).isSome=true) (ho:∀b a,E.tS b 239 a=fun h=>qn a h) {y:TO} {ks:List Int} (hy:Jt ks y) (NQ:ks.length<13):
 VC E 239 2 [.cH 267 [] [.ptr 1 0]] [(0,y),(1,.cells [.mp 0])] (RR (.sl 1 ((eI ks).map jQ) false) 3 [(0,y),(1,.cells [.mp 0])]):=by
 intro base ρ F h S dX hN hM hO hA;obtain⟨fn,hf⟩:=Option.isSome_iff_exists.1 hf;obtain⟨v1,m1,rfl,h1,h2⟩:=hA.aP;obtain rfl:=h2.bK;obtain⟨_,hm⟩:=hM.b7 (m:=0) rfl;obtain⟨_,hb⟩:=hM.b7 (m:=1) rfl;obtain⟨b0,ev,clock,wU,V1,bW,qO⟩:=hm.aaS hy;cases hb with
 |cells oB mI ht1 kp=>
  rename_i b1 aQ cs';have kp:=(kp.YE (fun t v hv hf=>hv.dN hf) rfl).1;obtain⟨x1,l1,rfl,y1,y2⟩:=kp.aP;obtain rfl:=y2.bK;cases y1 with
  |mp hbm=>
   rw[wU]at hbm;cases hbm;cases h1 with
   |cH Dr ha1 KR ha2=>
    rename_i a kk;have ea:a= #[]:=Array.eq_empty_of_size_eq_zero (by simpa using Dr.symm);subst ea;obtain⟨p',ec⟩:∃p',kk= #[p']:=by
     obtain⟨l⟩:=kk
     match l,KR with
     |[x],_=>exact⟨x,rfl⟩
     |[],KR=>simp at KR
     |_::_::_,KR=>simp at KR
    subst ec;have hp:=ha2 0 (.ptr 1 0) p' rfl rfl;cases hp with
    |ptr rY=>
     rw[oB]at rY;cases rY;have Ph:E.tS base 239 [jR b1] h=some (Pg h ks):=by
      rw[congrFun (ho _ _) _];show bF (Nat.beq 267 267) ((pA h b1).bind fun mb=>(yP h mb).bind fun ks=>some (Pg h ks))=_;have hbx:pA h b1=some (some b0):=by
       unfold pA;rw[mI];simp[bF,Nat.ble_eq_true_of_le ht1]
      rw[beq_iff.2 (rfl:267=267),hbx];simp only[bF,Option.bind_some,yP,V1,E9 qO,bW,aS.2 NQ,decide_true,Bool.and_self]
     have so:∀r,E.tS base 239 [jR b1] h=some r→fK E base 0 239 [jR b1] h=some r:=by
      intro r hr;unfold fK gy;rw[hf];simp only[Option.bind_some,hr]
     cases Du:ks with
     |nil=>
      subst Du;exact⟨0,_,_,_,F,_,_,3,so _ Ph,⟨rfl,rfl,rfl⟩,hM.bump,.nil (by simp[eI])⟩
     |cons e0 l0=>
      rw[←Du];have oc:Pg h ks=(.slice (some ⟨h.size,0,some 1⟩) ks.length (ks.length+1),h.push (.cells ((eI ks).map (.int .u32)) h.size (h.size+1) 0)):=by rw[Du];rfl
      rw[oc]at Ph;have dK:(h.push (.cells ((eI ks).map (.int .u32)) h.size (h.size+1) 0)).get h.size=some (.cells ((eI ks).map (.int .u32)) h.size (h.size+1) 0):=by rw[ab.aq,if_pos rfl]
      refine⟨0,_,_,_,_,_,_,3,so _ Ph,⟨rfl,rfl,rfl⟩,hM.aaT _,.sl (.inr rfl) (dD (bM dK dK) (Nat.zero_le _) (aB dK)) om (by simp[AS]) om (by simp) (by simp[AS]) (by simp) (by simp[fz,xr]) ?_⟩;intro i j e t v q1 q2 q3;rw[List.getElem?_map]at q1;obtain⟨x,hx,rfl⟩:=Option.map_eq_some_iff.1 q1;have hj:j=0:=by
       have:=(List.getElem?_eq_some_iff.1 q2).1;simp at this;exact this
      subst hj;simp at q2;subst q2;rw[Nat.zero_add,Nat.mul_one,Nat.add_zero,List.getElem?_map,hx]at q3;cases q3;exact .s rfl
end Go.M
