/-
  Part 16 of the library that the proof leans on.
-/
import Derived.Test.YteoljjhhdgplnaaGreatDoorL14
import Derived.Test.YteoljjhhdgplnaaGreatDoorL15
import Derived.Test.YteoljjhhdgplnaaGreatDoorL6
namespace Go.M
open Go Go.Proofs
set_option maxRecDepth 100000
open Classical in
noncomputable def vJ (s:Nat) (args:List Value) (h:ah):Option (Value×ah):=
 if hx:∃r n,e6 ES s n 111 args h=some r then some hx.choose else none
noncomputable def OB (s:Nat):FuncId→List Value→ah→Option (Value×ah):=fun g args h=>match Nat.beq g 111 with
 |true=>vJ s args h
 |false=>none
noncomputable def EC (s:Nat):=jF Tryz.prog [] (OB s)
theorem OC (hm:Tryz.prog.follows .mixedOrders=true) (s B:Nat):iy Tryz.prog (EC s) s B:=by
 intro μ h w g args args' v h' hc hr H F n hF;have kB:OB s g args h=some (v,h'):=hc;unfold OB at kB;split at kB
 ·rename_i hg;obtain rfl:=beq_iff.1 hg;unfold vJ at kB;split at kB
  ·rename_i hx;have Uf:=hx.choose_spec;rw[Option.some.injEq]at kB;rw[kB]at Uf;obtain⟨k,hk⟩:=Uf;have H2:aX ES s B μ h w:=⟨H.fy,H.high,H.obj,H.own,H.alias,H.c8,H.cW,H.low,H.lq,H.wf,H.root⟩;refine(uF (pt Tryz.prog [] jX) od hm k μ h w 111 args args' v h' hk hr H2 F n hF).mono fun e w' ⟨v',aK,h1,h2,h3⟩=>?_;exact⟨v',aK,h1,h2,⟨⟨h3.rel.fy,h3.rel.high,h3.rel.obj,h3.rel.own,h3.rel.alias,h3.rel.c8,h3.rel.cW,h3.rel.low,h3.rel.lq,h3.rel.wf,h3.rel.root⟩,h3.grow,h3.le,h3.new,h3.ET,h3.eY⟩⟩
  ·cases kB
 ·cases kB
theorem B6 {s n:Nat} {args:List Value} {h h':ah} {v:Value} (hn:e6 ES s n 111 args h=some (v,h')) (hu:∀n r,e6 ES s n 111 args h=some r→r=(v,h')):vJ s args h=some (v,h'):=by
 unfold vJ;have hx:∃r n,e6 ES s n 111 args h=some r:=⟨_,n,hn⟩;rw[dif_pos hx];obtain⟨k,hk⟩:=hx.choose_spec;rw[hu k _ hk]
end Go.M
namespace Go.M
open Go Go.Proofs
set_option maxRecDepth 100000
set_option maxHeartbeats 4000000
section
variable {E:Env} {base:Nat} {cK:oL} {rK:lW} {ops rest:List Oper} {o:Oper} {f:AF} {g g':ah} {K:AF→ah→Option Out}
theorem aR {X:Option Out} (hw:wanted ops o f=true) (h:xU E base cK rK o f g (fun v h'=>mA E base cK rK ops rest (f.put o.dst v) h' K)=X):mA E base cK rK ops (o::rest) f g K=X:=by
 unfold mA;rw[hw];exact h
theorem bS {K:KV} {v:Value} (hx:∀it,o.op≠ .next it false) (h:aB E f o=some v):xU E base cK rK o f g K=K v g:=by
 unfold xU;split
 ·rename_i it e;exact absurd e (hx it)
 ·rw[h]
theorem vK {K:KV} {v:Value} {q:RQ} (hx:∀it,o.op≠ .next it false) (hp:aB E f o=none) (h:bt E f o=some q) (hv:q.run g=some v):xU E base cK rK o f g K=K v g:=by
 unfold xU;split
 ·rename_i it e;exact absurd e (hx it)
 ·simp only[hp,h,hv]
theorem yk {K:KV} {m:Made} {hd:oR} (hx:∀it,o.op≠ .next it false) (hp:aB E f o=none) (hr:bt E f o=none) (h:aV E f o=some (m,hd)):xU E base cK rK o f g K=K (hd.val g.size) (g.push (m.obj g.size)):=by
 unfold xU;split
 ·rename_i it e;exact absurd e (hx it)
 ·simp only[hp,h,hr]
theorem tX {K:KV} {v:Value} (hx:∀it,o.op≠ .next it false) (hp:aB E f o=none) (hr:bt E f o=none) (ha:aV E f o=none) (h:cH E base f o g=some (.val v,g')):xU E base cK rK o f g K=K v g':=by
 unfold xU;split
 ·rename_i it e;exact absurd e (hx it)
 ·simp only[hp,h,hr,ha]
theorem HM {K:KV} {l:Nat} {args:List Value} (hx:∀it,o.op≠ .next it false) (hp:aB E f o=none) (hr:bt E f o=none) (ha:aV E f o=none) (h:cH E base f o g=some (.round l args,g')):xU E base cK rK o f g K=rK l args g' K:=by
 unfold xU;split
 ·rename_i it e;exact absurd e (hx it)
 ·simp only[hp,h,hr,ha]
theorem rV {K:KV} {l:Nat} {args:List Value} (hx:∀it,o.op≠ .next it false) (hp:aB E f o=none) (hr:bt E f o=none) (ha:aV E f o=none) (h:cH E base f o g=some (.enter l args,g')):xU E base cK rK o f g K=cK l args g' K:=by
 unfold xU;split
 ·rename_i it e;exact absurd e (hx it)
 ·simp only[hp,h,hr,ha]
end
theorem dK {E:Env} {base:Nat} {cK:oL} {rK:lW} {ops:List Oper} {f:AF} {g:ah} {K:AF→ah→Option Out}:mA E base cK rK ops [] f g K=K f g:=rfl
theorem cm {E:Env} {base n:Nat} {a b:Code} {f:AF} {h:ah} {K:KC}:aA E base (n+1) (.seq a b) f h K=aA E base n a f h (fun ex f' h'=>match ex with| .normal=>aA E base n b f' h' K|ex=>K ex f' h'):=rfl
theorem du {E:Env} {base n id:Nat} {ops:Array Oper} {f:AF} {h:ah} {K:KC}:aA E base (n+1) (.region id ops false) f h K=mA E base (dE E base (aA E base n)) (im base (aA E base n)) ops.toList ops.toList f h fun f' h'=>K .normal f' h':=rfl
noncomputable def kX:Code:=match Tryz.f161.body with|some (.seq _ (.seq (.seq _ (.block _ (.rangeFunc _ _ a _))) _))=>a|_=>.skip
noncomputable def kY:Code:=match Tryz.f161.body with|some (.seq _ (.seq (.seq _ (.block _ (.rangeFunc _ _ _ b))) _))=>b|_=>.skip
@[reducible] def vL (s:Nat):Value:=.pointer (some ⟨s,0,none⟩)
@[reducible] def yl (b n c:Nat):Value:=.slice (some ⟨b,0,some 1⟩) n c
noncomputable def HP (s:Nat) (cJ:Value):AF:=((((AF.enter [.slice none 0 0,cJ] 13).set 2 (vL s)).set 4 (.slice none 0 0)).set 6 cJ)
def K9 (s:Nat) (g:ah) (v:Value) (acc:List Value):Prop:=
 (acc=[]∧v= .slice none 0 0)∨(0<acc.length∧∃b f t0 eg aF,v=yl b acc.length (acc.length+1)∧g.get b=some (.cells acc f t0 eg)∧g.c8 b=some (f,b,aF)∧aF≤b∧s+3≤f∧f≤b∧b<g.size)
theorem qE {g:ah} {b t:Nat} {v:Value} (h:g.get b=some (.cells [v] b b t)) (ht:t≤b):ai g b 0 1=some [v]:=by
 unfold ai;rw[dq (bu h h) ht (au h)];rfl
theorem append_nil {s:Nat} {g:ah} {k:Int}:bq (EC s) s (g.push (.cells [.int .u32 k] g.size g.size 0)) 83 83 (.slice none 0 0) (yl g.size 1 1)=
 some (yl (g.size+1) 1 2,(g.push (.cells [.int .u32 k] g.size g.size 0)).push (.cells [.int .u32 k] (g.size+1) (g.size+1) 0)):=by
 have hr:ai (g.push (.cells [.int .u32 k] g.size g.size 0)) g.size 0 1=some [.int .u32 k]:=qE (t:=0) (by rw[ah.ak,if_pos rfl]) (Nat.zero_le _)
 have:bq (EC s) s (g.push (.cells [.int .u32 k] g.size g.size 0)) 83 83 (.slice none 0 0) (yl g.size 1 1)=
  (ai (g.push (.cells [.int .u32 k] g.size g.size 0)) g.size 0 1).bind fun new=>bp (Nat.beq new.length 1) (some (fresh (g.push (.cells [.int .u32 k] g.size g.size 0)) new 1 1)):=by
  rfl
 rw[this,hr];simp only[Option.bind_some,fresh,ah.size_push];rfl
theorem D6 {s b n f t0 eg aF x:Nat} {g:ah} {k:Int} {acc:List Value} (hx:ai g x 0 1=some [.int .u32 k]) (hb:g.get b=some (.cells acc f t0 eg)) (hf:g.c8 b=some (f,b,aF)) (ht:aF≤b) (hs:s≤f) (hn:acc.length=n) (hlen:n≤1000000):
 bq (EC s) s g 83 83 (yl b n (n+1)) (yl x 1 1)=some (yl g.size (n+1) (n+1+1),dz g f aF (acc++[.int .u32 k])):=by
 have hr:ai g b 0 (n*1)=some acc:=by
  unfold ai;rw[dq hf ht (au hb)];simp only[Option.bind_some,List.drop_zero,aM];exact⟨om,by rw[List.take_of_length_le om]⟩
 have e:bq (EC s) s g 83 83 (yl b n (n+1)) (yl x 1 1)=bp (Nat.ble ((n+1+1)*5) 1099511627776) ((ai g b 0 (n*1)).bind fun old=>(ai g x 0 1).bind fun new=>bp (Nat.beq new.length 1)
  (bif Nat.beq (n+1) n then some (fresh g (old++new) 1 (n+1))else(g.cellsOf b).bind fun cs=>(g.c8 b).bind fun r=>bp (Nat.ble s r.1&&Nat.beq r.2.1 b&&new.all eF)
   (some (yl g.size (n+1) (n+1+1),(g.bm r.1 g.size (bif Nat.beq (0+n*1) cs.length then r.2.2 else g.size)).push (.cells (old++new) r.1 0 0))))):=rfl
 rw[e,hr,hx];simp only[Option.bind_some,au hb,hf];have h1:Nat.ble ((n+1+1)*5) 1099511627776=true:=az.2 om
 have h2:Nat.beq (n+1) n=false:=by cases hh:Nat.beq (n+1) n with
  |false=>rfl
  |true=>have:=beq_iff.1 hh;omega
 have h3:Nat.ble s f=true:=az.2 hs;have h4:Nat.beq b b=true:=beq_iff.2 rfl;have h5:Nat.beq (0+n*1) acc.length=true:=beq_iff.2 om;rw[h1,h2,h3,h4,h5];rfl
theorem HQ {s:Nat} {g:ah} {v v':Value} {t:Nat} (h:g.get s=some (.cells [v] s s t)) (ht:t≤s) (hv:v'.cells= #[v']) (_:eF v'=true):
 ((g.rd s).bind fun cs=>(cF cs 0 v'.cells.toList).bind fun cs'=>(g.wr s s cs').bind fun h'=>some (kb.val undef,h'))=some (.val undef,(g.setCells s [v']).bm s s s):=by
 rw[dq (bu h h) ht (au h),hv];have:g.wr s s [v']=some ((g.setCells s [v']).bm s s s):=by
  unfold ah.wr;rw[az.2 (Nat.le_refl s),bu h h];simp only[bp,Option.bind_some,beq_iff.2 (rfl:s=s),az.2 (Nat.le_refl s)]
 show((g.wr s s [v']).bind fun h'=>some (kb.val undef,h'))=_;rw[this];rfl
theorem gg {s:Nat} {g:ah} {v v':Value} {t:Nat} (h:g.get s=some (.cells [v] s s t)) (c:Nat):((g.setCells s [v']).bm s s s).get c=if c=s then some (.cells [v'] s s s)else g.get c:=by
 rw[bf];by_cases e:c=s
 ·subst e;rw[if_pos rfl,if_pos rfl,bn,if_pos rfl,h]
 ·rw[if_neg e,if_neg e,bn,if_neg e]
theorem ym {s:Nat} {g:ah} {v v':Value} {t:Nat} (h:g.get s=some (.cells [v] s s t)) {b:Nat} {r:Nat×Nat×Nat} (hr:g.c8 b=some r) (bc:r.1≠s):((g.setCells s [v']).bm s s s).c8 b=some r:=by
 have hc:(g.setCells s [v']).get s=some (.cells [v'] s s t):=by rw[bn,if_pos rfl,h]
 rw[oV hc,pM,hr];simp[bc]
structure Nxt (s:Nat) (g g':ah) (acc:List Value) (k:Int):Prop where
 wf:Wf g'
 size:g'.size=g.size+2
 box:∃v,g'.get s=some (.cells [v] s s s)∧K9 s g' v (acc++[.int .u32 k])
 bd:∀c,c<s+3→c≠s→g'.get c=g.get c
theorem Wf.OD {h:ah} (W:Wf h) {c:Nat} {o1 o:ew} (hc:h.get c=some o1) (n2:cM o=true):Wf (h.put c o):=by
 have bj:=W.lt hc;refine⟨fun b hb=>?_,fun b cs f cu aF hg=>?_⟩
 ·rw[ah.size_put]at hb;rw[ah.br,if_neg om];exact W.high b hb
 ·rw[ah.br]at hg;by_cases e:b=c
  ·rw[if_pos e]at hg;cases hg;simp[cM]at n2
  ·rw[if_neg e]at hg;exact W.le _ _ _ _ _ hg
theorem B7 {s:Nat} {g:ah} {v v':Value} {t:Nat} (W:Wf g) (h:g.get s=some (.cells [v] s s t)):Wf ((g.setCells s [v']).bm s s s):=by
 have bj:=W.lt h;refine⟨fun b hb=>?_,fun b cs f cu aF hg=>?_⟩
 ·rw[bk,b8]at hb;rw[gg h,if_neg om];exact W.high b hb
 ·rw[gg h]at hg;by_cases e:b=s
  ·rw[if_pos e]at hg;cases hg;omega
  ·rw[if_neg e]at hg;exact W.le _ _ _ _ _ hg
theorem HR {s:Nat} {g:ah} {v:Value} {t:Nat} {acc:List Value} {k:Int} (W:Wf g) (eY:s+3≤g.size) (h:g.get s=some (.cells [v] s s t)) (_:t≤s) (hv:K9 s g v acc) (hlen:acc.length≤1000000):
 ∃v' g3,bq (EC s) s (g.push (.cells [.int .u32 k] g.size g.size 0)) 83 83 v (yl g.size 1 1)=some (v',g3)∧g3.get s=some (.cells [v] s s t)∧v'.cells= #[v']∧eF v'=true∧Nxt s g ((g3.setCells s [v']).bm s s s) acc k:=by
 obtain⟨g1,kG⟩:∃g1,g1=g.push (.cells [.int .u32 k] g.size g.size 0):=⟨_,rfl⟩;have D7:∀c,c<g.size→g1.get c=g.get c:=fun c hc=>by rw[kG,ah.ak,if_neg om]
 have Jh:g1.size=g.size+1:=by rw[kG,ah.size_push]
 have Z0:g1.get g.size=some (.cells [.int .u32 k] g.size g.size 0):=by rw[kG,ah.ak,if_pos rfl]
 have hx:ai g1 g.size 0 1=some [.int .u32 k]:=qE Z0 (Nat.zero_le _);have W1:Wf g1:=by rw[kG];exact W.push (fun cs f cu aF e=>by cases e;exact Nat.le_refl _)
 rw[←kG];rcases hv with⟨rfl,rfl⟩|⟨wG,b,f,t0,eg,aF,rfl,hb,hf,CS,VA,Qw,SA⟩
 ·have ha:bq (EC s) s g1 83 83 (.slice none 0 0) (yl g.size 1 1)=some (yl (g.size+1) 1 2,g1.push (.cells [.int .u32 k] (g.size+1) (g.size+1) 0)):=by rw[kG];exact append_nil
  obtain⟨g3,HS⟩:∃g3,g3=g1.push (.cells [.int .u32 k] (g.size+1) (g.size+1) 0):=⟨_,rfl⟩;rw[←HS]at ha;have La:∀c,c<g.size→g3.get c=g.get c:=fun c hc=>by rw[HS,ah.ak,Jh,if_neg om];exact D7 c hc
  have HT:g3.get (g.size+1)=some (.cells [.int .u32 k] (g.size+1) (g.size+1) 0):=by rw[HS,ah.ak,Jh,if_pos rfl]
  have h3:g3.get s=some (.cells [.slice none 0 0] s s t):=(La s om).trans h;have W3:Wf g3:=by rw[HS];exact W1.push (fun cs f cu aF e=>by cases e;omega)
  refine⟨_,g3,ha,h3,rfl,rfl,⟨B7 W3 h3,?_,⟨yl (g.size+1) 1 2,?_,.inr ⟨by simp,g.size+1,g.size+1,g.size+1,0,0,rfl,?_,?_,om,by omega,Nat.le_refl _,?_⟩⟩,fun c hc bc=>?_⟩⟩
  ·rw[bk,b8,HS,ah.size_push,Jh]
  ·rw[gg h3,if_pos rfl]
  ·rw[gg h3,if_neg om];exact HT
  ·exact ym h3 (bu HT HT) (by simp;omega)
  ·rw[bk,b8,HS,ah.size_push,Jh];omega
  ·rw[gg h3,if_neg bc];exact La c om
 ·have oW:g1.get b=some (.cells acc f t0 eg):=(D7 b SA).trans hb;obtain⟨c0,bC⟩:=bw hf;simp only at bC;have oY:g1.get f=some (.cells c0 f b aF):=(D7 f om).trans bC;have VE:g1.c8 b=some (f,b,aF):=bu oW oY;have ha:=D6 (s:=s) (x:=g.size) (g:=g1) (k:=k) hx oW VE CS om rfl hlen;obtain⟨g3,HS⟩:∃g3,g3=dz g1 f aF (acc++[.int .u32 k]):=⟨_,rfl⟩;rw[←HS,Jh]at ha;have La:∀c,c<g.size→c≠f→g3.get c=g.get c:=fun c hc bc=>by
   rw[HS];unfold dz;rw[ah.ak,bk,Jh,if_neg om,bf,if_neg bc];exact D7 c hc
  have HT:g3.get (g.size+1)=some (.cells (acc++[.int .u32 k]) f 0 0):=by
   rw[HS];unfold dz;rw[ah.ak,bk,Jh,if_pos rfl]
  have Ww:g3.get f=some (.cells c0 f (g.size+1) aF):=by
   rw[HS];unfold dz;rw[ah.ak,bk,Jh,if_neg om,bf,if_pos rfl,oY]
  have h3:g3.get s=some (.cells [yl b acc.length (acc.length+1)] s s t):=(La s om om).trans h;have Wx:g3.size=g.size+2:=by rw[HS];unfold dz;rw[ah.size_push,bk,Jh]
  have W3:Wf g3:=by rw[HS];exact J4 W1 oY
  refine⟨_,g3,ha,h3,rfl,rfl,⟨B7 W3 h3,?_,⟨yl (g.size+1) (acc.length+1) (acc.length+1+1),?_,.inr ⟨by simp,g.size+1,f,0,0,aF,by simp,?_,?_,om,by omega,om,?_⟩⟩,fun c hc bc=>?_⟩⟩
  ·rw[bk,b8,Wx]
  ·rw[gg h3,if_pos rfl]
  ·rw[gg h3,if_neg om];exact HT
  ·exact ym h3 (bu HT Ww) (by simp;omega)
  ·rw[bk,b8,Wx];omega
  ·rw[gg h3,if_neg bc];exact La c om om
theorem OE {s n:Nat} {g:ah} {v:Value} {t:Nat} {acc:List Value} {k:Int} {cJ:Value} (W:Wf g) (eY:s+3≤g.size) (h:g.get s=some (.cells [v] s s t)) (ht:t≤s) (hv:K9 s g v acc) (hlen:acc.length≤1000000):
 ∃f' g',Nxt s g g' acc k∧∀K:KC,aA (EC s) s (n+2) kY ((AF.iK ([7].zip [.int .u32 k]) (HP s cJ)).set 5 (.int .u32 k)) g K=K .normal f' g':=by
 obtain⟨v',g3,ha,h3,hc,ho,hN⟩:=HR (k:=k) W eY h ht hv hlen;refine⟨((((((AF.iK ([7].zip [.int .u32 k]) (HP s cJ)).set 5 (.int .u32 k)).set 8 v).set 9 (.int .u32 k)).set 10 (yl g.size 1 1)).set 11 v'),_,hN,fun K=>?_⟩;show mA (EC s) s (dE (EC s) s (aA (EC s) s n)) (im s (aA (EC s) s n)) _ _ _ g _=_;refine aR rfl ?_;refine(vK (v:=v) (q:=.cells false s 0 1) (fun it=>by simp) rfl rfl (by show(ai g s 0 1).bind _=_;rw[qE h ht];rfl)).trans ?_;refine aR rfl ?_;refine(bS (v:=.int .u32 k) (fun it=>by simp) rfl).trans ?_;refine aR rfl ?_
 refine(yk (m:=.cells [.int .u32 k]) (hd:=.slice 1 1 1) (fun it=>by simp) rfl rfl rfl).trans ?_;refine aR rfl ?_;refine(tX (v:=v') (g':=g3) (fun it=>by simp) rfl rfl rfl ?_).trans ?_
 ·show((match bq (EC s) s (g.push (.cells [.int .u32 k] g.size g.size 0)) 83 83 v (yl g.size 1 1)with|some r=>some r|none=>gz (EC s) (g.push (.cells [.int .u32 k] g.size g.size 0)) 83 83 v (yl g.size 1 1)).bind fun r=>some (kb.val r.1,r.2))=_;rw[ha];rfl
 refine aR rfl ?_;refine(tX (v:=undef) (g':=(g3.setCells s [v']).bm s s s) (fun it=>by simp) rfl rfl rfl ?_).trans ?_
 ·show((EC s).size 83).bind (fun n=>(some (s,0)).bind fun p=>bp (Nat.beq v'.cells.size n&&v'.cells.toList.all eF) ((g3.rd p.1).bind fun cs=>(cF cs p.2 v'.cells.toList).bind fun cs'=>(g3.wr s p.1 cs').bind fun h'=>some (kb.val undef,h')))=_;have hg:(Nat.beq v'.cells.size 1&&v'.cells.toList.all eF)=true:=by rw[hc];simp[ho]
  show bp (Nat.beq v'.cells.size 1&&v'.cells.toList.all eF) ((g3.rd s).bind fun cs=>(cF cs 0 v'.cells.toList).bind fun cs'=>(g3.wr s s cs').bind fun h'=>some (kb.val undef,h'))=_;rw[hg];exact HQ h3 ht hc ho
 rfl
theorem HU {s n:Nat} {f:AF} {g:ah} {K:KC}:aA (EC s) s (n+1) kX f g K=K .normal (f.set 5 (f.get 7)) g:=rfl
structure St (s m:Nat) (cJ:Value) (es:List MapEntry) (clock:Nat) (acc:List Value) (seen:List Nat) (g:ah):Prop where
 sz:s+3≤g.size
 box:∃v t,g.get s=some (.cells [v] s s t)∧t≤s∧K9 s g v acc
 lp:g.get (s+1)=some (.loop .ready none (HP s cJ) [7] kX kY)
 it:g.get (s+2)=some (.bY (some m) clock seen clock)
 mp:g.get m=some (.map es clock)
 lt:m<s
 wf:Wf g
theorem K9.put {s c:Nat} {g:ah} {v:Value} {acc:List Value} {o1 o:ew} (h:K9 s g v acc) (hc:g.get c=some o1) (n1:cM o1=true) (n2:cM o=true) (bj:c<s+3):K9 s (g.put c o) v acc:=by
 rcases h with h|⟨hp,b,f,t0,eg,aF,q1,q2,q3,q4,q5,q6,q7⟩
 ·exact .inl h
 ·exact .inr ⟨hp,b,f,t0,eg,aF,q1,by rw[ah.br,if_neg om];exact q2,by rw[pN hc n1 n2];exact q3,q4,q5,q6,q7⟩
theorem Lb {s m n:Nat} {cJ:Value} {es:List MapEntry} {clock:Nat} {acc:List Value} {seen:List Nat} {g:ah} {k:Int} (H:St s m cJ es clock acc seen g) (hlen:acc.length≤1000000):
 ∃g',St s m cJ es clock (acc++[.int .u32 k]) seen g'∧∀K:KV,im s (aA (EC s) s (n+2)) (s+1) [.int .u32 k] g K=K (.bool true) g':=by
 obtain⟨v,t,hb,ht,hv⟩:=H.box;have eY:=H.sz;obtain⟨g1,kG⟩:∃g1,g1=g.put (s+1) (.loop .busy none (HP s cJ) [7] kX kY):=⟨_,rfl⟩;have D7:∀c,c≠s+1→g1.get c=g.get c:=fun c hc=>by rw[kG,ah.br,if_neg hc]
 have tM:K9 s g1 v acc:=by rw[kG];exact hv.put H.lp rfl rfl om
 obtain⟨f',g2,hN,hK⟩:=OE (n:=n) (k:=k) (cJ:=cJ) (by rw[kG];exact H.wf.OD H.lp rfl) (by rw[kG];exact eY) ((D7 s om).trans hb) ht tM hlen;obtain⟨v2,tj,JE⟩:=hN.box;have E4:g2.get (s+1)=some (.loop .busy none (HP s cJ) [7] kX kY):=by rw[hN.bd _ om om,kG,ah.br,if_pos rfl]
 have Wy:∀c,c<s+3→c≠s→c≠s+1→g2.get c=g.get c:=fun c h1 h2 h3=>(hN.bd c h1 h2).trans (D7 c h3);refine⟨g2.put (s+1) (.loop .ready none (HP s cJ) [7] kX kY),⟨?_,⟨v2,s,?_,Nat.le_refl _,JE.put E4 rfl rfl om⟩,?_,?_,?_,H.lt,hN.wf.OD E4 rfl⟩,fun K=>?_⟩
 ·rw[ah.size_put,hN.size,kG,ah.size_put];omega
 ·rw[ah.br,if_neg om];exact tj
 ·rw[ah.br,if_pos rfl]
 ·rw[ah.br,if_neg om,Wy _ om om om];exact H.it
 ·have:=H.lt;rw[ah.br,if_neg om,Wy _ om om om];exact H.mp
 ·unfold im;rw[H.lp,az.2 (show s≤s+1 by omega)];have hc:(Nat.beq ([7]:List Nat).length [Value.int .u32 k].length&&aO kX&&aO kY)=true:=rfl;simp only[bp,hc];rw[HU,show(AF.iK ([7].zip [Value.int .u32 k]) (HP s cJ)).get 7= .int .u32 k from rfl];simp only[H.lp];rw[←kG,hK];simp only[E4]
noncomputable def B8:Code:=match Tryz.f112.body with|some (.seq _ (.block _ (.loop b)))=>b|_=>.skip
noncomputable def X2:Code:=match B8 with| .seq _ (.seq _ (.block _ b))=>b|_=>.skip
theorem gs {f:AF} {t:Nat} {v:Value} (h:t<f.n):(f.set t v).get t=v:=by rw[AF.fO,if_pos ⟨rfl,h⟩]
theorem gn {f:AF} {t u:Nat} {v:Value} (h:u≠t):(f.set t v).get u=f.get u:=by rw[AF.fO,if_neg (fun e=>h e.1)]
structure FO (s:Nat) (f:AF):Prop where
 n:f.n=14
 g0:f.get 0= .func (.yield (s+1)) #[] #[]
 g5:f.get 5=vL (s+2)
theorem FO.set {s t:Nat} {f:AF} {v:Value} (H:FO s f) (h0:0≠t) (h5:5≠t):FO s (f.set t v):=⟨(AF.xe _ _ _).trans H.n,(gn h0).trans H.g0,(gn h5).trans H.g5⟩
theorem D8 {E:Env} {f:AF} {t:Nat} {cs:List Value} {o:Oper} {i:Nat} {v:Value} (ho:o.op= .extract (.tmp t) i) (h:f.get t= .tuple cs.toArray) (hv:cs[i]? =some v):aB E f o=some v:=by
 unfold aB;rw[ho];show((ev E f (.tmp t)).bind fun v=>(match v with| .tuple vs=>vs.toList[i]? |_=>none))=_;rw[show ev E f (.tmp t)=some (f.get t)from rfl,h];simpa using hv
theorem find_born {es:List MapEntry} (hn:(es.map (·.born)).Nodup) {e:MapEntry} (he:e∈es):es.find? (fun x=>x.born==e.born)=some e:=by
 induction es with
 |nil=>cases he
 |cons a l ih=>
  rw[List.find?_cons];rcases List.mem_cons.1 he with rfl |he
  ·simp
  ·have bc:a.born≠e.born:=fun h=>by
    simp only[List.map_cons,List.nodup_cons]at hn;exact hn.1 (List.mem_map.2 ⟨e,he,h.symm⟩)
   have:(a.born==e.born)=false:=by simpa using bc
   rw[this];exact ih (List.nodup_cons.1 (by simpa using hn)).2 he
theorem OF {s m n:Nat} {cJ:Value} {es:List MapEntry} {clock:Nat} {acc:List Value} {seen:List Nat} {g:ah} {f:AF} {e:MapEntry} {k:Int} (H:St s m cJ es clock acc (seen++[e.born]) g) (hf:FO s f) (hlen:acc.length≤1000000) (bU:sN es clock) (he:e∈es) (hk:e.key= .int .u32 k):
 ∃f' g',St s m cJ es clock (acc++[.int .u32 k]) (seen++[e.born]) g'∧FO s f'∧∀K:KC,aA (EC s) s (n+5) X2 f g K=K .normal f' g':=by
 obtain⟨g',H',hy⟩:=Lb (n:=n) (k:=k) H hlen;have Z1:mJ g (s+2)=some (.tuple #[e.key,e.val]):=by
  unfold mJ;rw[H.it];simp only[H.mp,List.getLast?_append,List.getLast?_singleton,Option.some_or,Option.bind_some,bp,beq_iff.2 (rfl:clock=clock),find_born bU.2 he]
 obtain⟨f8,h8⟩:∃x,x=f.set 8 (.tuple #[e.key,e.val]):=⟨_,rfl⟩;have F8:FO s f8:=by rw[h8];exact hf.set om om
 obtain⟨f9,h9⟩:∃x,x=f8.set 9 (.int .u32 k):=⟨_,rfl⟩;have F9:FO s f9:=by rw[h9];exact F8.set om om
 obtain⟨f3,h3⟩:∃x,x=f9.set 3 (.int .u32 k):=⟨_,rfl⟩;have F3:FO s f3:=by rw[h3];exact F9.set om om
 obtain⟨fa,ha⟩:∃x,x=f3.set 10 (.func (.yield (s+1)) #[] #[]):=⟨_,rfl⟩;have Fa:FO s fa:=by rw[ha];exact F3.set om om
 obtain⟨fb,hb⟩:∃x,x=fa.set 11 (.int .u32 k):=⟨_,rfl⟩;have Fb:FO s fb:=by rw[hb];exact Fa.set om om
 obtain⟨fc,hc⟩:∃x,x=fb.set 12 (.bool true):=⟨_,rfl⟩;have Fc:FO s fc:=by rw[hc];exact Fb.set om om
 obtain⟨fd,hd⟩:∃x,x=fc.set 13 (.bool false):=⟨_,rfl⟩;have Fd:FO s fd:=by rw[hd];exact Fc.set om om
 refine⟨fd,g',H',Fd,fun K=>?_⟩;show mA (EC s) s _ _ _ _ f g _=_;refine aR rfl ?_;refine(tX (v:=.tuple #[e.key,e.val]) (g':=g) (fun it=>by simp) rfl rfl rfl ?_).trans ?_
 ·show((some (f.get 5)).bind fun v=>(ly v).bind fun r=>(mJ g r).bind fun v=>some (kb.val v,g))=_;rw[hf.g5];show((mJ g (s+2)).bind fun v=>some (kb.val v,g))=_;rw[Z1];rfl
 show mA (EC s) s _ _ _ _ (f.set 8 (.tuple #[e.key,e.val])) g _=_;rw[←h8];refine aR rfl ?_;refine(bS (v:=.int .u32 k) (fun it=>by simp) (D8 (cs:=[e.key,e.val]) rfl (by rw[h8,gs (by rw[hf.n];omega)]) (by rw[hk];rfl))).trans ?_;show mA (EC s) s _ _ _ _ (f8.set 9 (.int .u32 k)) g _=_;rw[←h9];refine aR rfl ?_;refine(bS (v:=.int .u32 k) (fun it=>by simp) (by show some (f9.get 9)=_;rw[h9,gs (by rw[F8.n];omega)])).trans ?_;rw[dK];show aA (EC s) s (n+4) _ (f9.set 3 (.int .u32 k)) g K=_;rw[cm,du];rw[←h3];refine aR rfl ?_
 refine(bS (v:=.func (.yield (s+1)) #[] #[]) (fun it=>by simp) (by show some (f3.get 0)=_;rw[F3.g0])).trans ?_;show mA (EC s) s _ _ _ _ (f3.set 10 (.func (.yield (s+1)) #[] #[])) g _=_;rw[←ha];refine aR rfl ?_;refine(bS (v:=.int .u32 k) (fun it=>by simp) (by show some (fa.get 3)=_;rw[ha,gn om,h3,gs (by rw[F9.n];omega)])).trans ?_;show mA (EC s) s _ _ _ _ (fa.set 11 (.int .u32 k)) g _=_;rw[←hb];refine aR rfl ?_;refine(HM (l:=s+1) (args:=[.int .u32 k]) (g':=g) (fun it=>by simp) rfl rfl rfl ?_).trans ?_
 ·show((some (fb.get 11)).bind fun v=>(some []).bind fun vs=>some (v::vs)).bind (fun args=>(some (fb.get 10)).bind fun g0=>(match g0 with
   | .func (.func g1) first captured=>some (kb.enter g1 (first.toList++args++captured.toList),g)
   | .func (.yield l) first _=>some (.round l (first.toList++args),g)
   |_=>none))=_
  rw[hb,gs (by rw[Fa.n];omega),gn om,ha,gs (by rw[F3.n];omega)];rfl
 rw[hy];show mA (EC s) s _ _ _ _ (fb.set 12 (.bool true)) g' _=_;rw[←hc];refine aR rfl ?_;refine(bS (v:=.bool false) (fun it=>by simp) (by show((some (fc.get 12)).bind fun a=>bp (scalar a) (dQ (Op.unary .not a)))=_;rw[hc,gs (by rw[Fb.n];omega)];rfl)).trans ?_;rw[dK]
 show(match(some ((fc.set 13 (.bool false)).get 13)).bind Av with
  |some true=>_
  |some false=>_
  |none=>none)=_
 rw[gs (by rw[Fc.n];omega)];subst hd;rfl
theorem Lc {X:Out} (hX:fw X X=true):∀{l:List (Option Out)},l≠[]→(∀x∈l,x=some X)→meet l=some X
 |[],h,_=>absurd rfl h
 |x::xs,_,h=>by
  obtain rfl:=h x List.mem_cons_self;unfold meet;have gen:∀b,b=true→bp b (some X)=some X:=by rintro _ rfl;rfl
  refine gen _ ?_;rw[List.all_eq_true];intro y hy;rw[h y (List.mem_cons_of_mem _ hy)];exact hX
theorem Ld {s m:Nat} {cJ:Value} {es:List MapEntry} {clock:Nat} {acc:List Value} {seen:List Nat} {g:ah} {b:Nat} (H:St s m cJ es clock acc seen g):St s m cJ es clock acc (seen++[b]) (g.put (s+2) (.bY (some m) clock (seen++[b]) clock)):=by
 obtain⟨v,t,hb,ht,hv⟩:=H.box;have:=H.lt;exact⟨by rw[ah.size_put];exact H.sz,⟨v,t,by rw[ah.br,if_neg om];exact hb,ht,hv.put H.it rfl rfl om⟩,by rw[ah.br,if_neg om];exact H.lp,by rw[ah.br,if_pos rfl],by rw[ah.br,if_neg om];exact H.mp,H.lt,H.wf.OD H.it rfl⟩
def Le (e:MapEntry):Prop:=∃k:Int,e.key= .int .u32 k
theorem vM {E:Env} {base n:Nat} {b:Code} {f:AF} {h:ah} {K:KC}:aA E base (n+1) (.loop b) f h K=aA E base n b f h (fun ex f' h'=>match ex with| .normal=>aA E base n (.loop b) f' h' K|ex=>K ex f' h'):=rfl
theorem nu {E:Env} {base n id:Nat} {b:Code} {f:AF} {h:ah} {K:KC}:aA E base (n+1) (.block id b) f h K=aA E base n b f h (fun ex f' h'=>match ex with| .exit lh=>bif Nat.beq lh id then K .normal f' h' else K (.exit lh) f' h'|ex=>K ex f' h'):=rfl
theorem B9 {E:Env} {base:Nat} {cK:oL} {rK:lW} {o:Oper} {f:AF} {g:ah} {K:KV} {it:Operand} {r:Nat} (ho:o.op= .next it false) (h:(ev E f it).bind ly=some r):xU E base cK rK o f g K=vw g r base K:=by
 unfold xU;split
 ·rename_i it' e;rw[ho]at e;cases e;rw[h]
 ·rename_i hx;exact absurd ho (hx it)
def j7 (es ch:List MapEntry):List MapEntry:=es.filter fun e=> !(ch.map (·.born)).contains e.born
theorem HV {l:List MapEntry} (hn:(l.map (·.born)).Nodup) {e:MapEntry} (he:e∈l):l.Perm (e::l.filter fun x=> !(x.born==e.born)):=by
 induction l with
 |nil=>cases he
 |cons a l ih=>
  have Nv:=List.nodup_cons.1 (show(a.born::l.map (·.born)).Nodup from hn);rcases List.mem_cons.1 he with rfl |he
  ·rw[List.filter_cons_of_neg (by simp)];have:l.filter (fun x=> !(x.born==e.born))=l:=by
    rw[List.filter_eq_self];intro x hx;have:x.born≠e.born:=fun h=>Nv.1 (List.mem_map.2 ⟨x,hx,h⟩);simpa using this
   rw[this]
  ·have bc:a.born≠e.born:=fun h=>Nv.1 (List.mem_map.2 ⟨e,he,h.symm⟩);rw[List.filter_cons_of_pos (by simpa using bc)];exact((ih Nv.2 he).cons a).trans (.swap _ _ _)
theorem HW (es ch:List MapEntry) (e:MapEntry):j7 es (ch++[e])=(j7 es ch).filter fun x=> !(x.born==e.born):=by
 unfold j7;rw[List.filter_filter];refine List.filter_congr fun x _=>?_;simp only[List.map_append,List.map_cons,List.map_nil,List.contains_eq_mem,List.mem_append,List.mem_singleton];by_cases h1:x.born∈ch.map (·.born)<;>by_cases h2:x.born=e.born<;>simp_all
theorem Ca {E:Env} {base n:Nat} {c:Operand} {a b:Code} {f:AF} {h:ah} {K:KC} (hc:(ev E f c).bind Av=some false):aA E base (n+1) (.cond c a b) f h K=aA E base n b f h K:=by
 show(match(ev E f c).bind Av with|some true=>aA E base n a f h K|some false=>aA E base n b f h K|none=>none)=_;rw[hc]
theorem Cb {E:Env} {base n:Nat} {c:Operand} {a b:Code} {f:AF} {h:ah} {K:KC} (hc:(ev E f c).bind Av=some true):aA E base (n+1) (.cond c a b) f h K=aA E base n a f h K:=by
 show(match(ev E f c).bind Av with|some true=>aA E base n a f h K|some false=>aA E base n b f h K|none=>none)=_;rw[hc]
theorem D9 {E:Env} {base n:Nat} {f:AF} {h:ah} {K:KC}:aA E base (n+1) .skip f h K=K .normal f h:=rfl
theorem Cc {es:List MapEntry} {clock:Nat} {seen:List Nat} (bU:sN es clock):(!(!seen.isEmpty&& !es.isEmpty&&es.all (fun e=>Nat.ble clock e.born)))=true:=by
 cases es with
 |nil=>simp
 |cons e l=>
  have:=bU.1 e List.mem_cons_self
  have hb:Nat.ble clock e.born=false:=by cases hh:Nat.ble clock e.born with
   |false=>rfl
   |true=>have:=az.1 hh;omega
  simp[hb]
theorem OG {s m:Nat} {cJ:Value} {es:List MapEntry} {clock:Nat} {X:Out} (hX:fw X X=true) (bU:sN es clock) (kr:∀e∈es,Le e) (hlen:es.length≤1000000) {K:KC}
 (hK:∀(ch:List MapEntry) f g,St s m cJ es clock (ch.map (·.key)) (ch.map (·.born)) g→ch.Perm es→K (.exit 0) f g=some X):
 ∀(r n:Nat) (ch:List MapEntry) (f:AF) (g:ah),St s m cJ es clock (ch.map (·.key)) (ch.map (·.born)) g→FO s f→(ch++j7 es ch).Perm es→(j7 es ch).length=r→aA (EC s) s (n+r+9) (.loop B8) f g K=some X:=by
 intro r
 induction r with
 |zero=>
  intro n ch f g H hf hp hr;have hl:j7 es ch=[]:=List.eq_nil_of_length_eq_zero hr;rw[hl,List.append_nil]at hp;rw[vM];show aA (EC s) s (n+8) (.seq _ (.seq (.cond _ .skip (.exit 0)) _)) f g _=_;rw[cm,du];refine aR rfl ?_;refine(B9 (it:=.tmp 5) (r:=s+2) rfl (by show(some (f.get 5)).bind ly=_;rw[hf.g5];rfl)).trans ?_;unfold vw;rw[az.2 (show s≤s+2 by omega),H.it];simp only[H.mp,bp,Cc bU,show es.filter (fun e=> !(ch.map (·.born)).contains e.born)=[]from hl];refine aR rfl ?_
  refine(bS (v:=.bool false) (fun it=>by simp) (D8 (cs:=[.bool false]) rfl (by show(f.set 6 _).get 6=_;rw[gs (by rw[hf.n];omega)]) rfl)).trans ?_;rw[dK];show aA (EC s) s (n+7) (.seq (.cond (.tmp 7) .skip (.exit 0)) _) ((f.set 6 (.tuple #[.bool false])).set 7 (.bool false)) g _=_;rw[cm,Ca (by show(some (AF.get _ 7)).bind Av=_;rw[gs (by rw[AF.xe,hf.n];omega)];rfl)];exact hK ch _ g H hp
 |succ r ih=>
  intro n ch f g H hf hp hr;have bc:j7 es ch≠[]:=fun h=>by rw[h]at hr;simp at hr
  rw[vM];show aA (EC s) s (n+(r+1)+8) (.seq _ (.seq (.cond _ .skip (.exit 0)) (.block 1 X2))) f g _=_;rw[cm,du];refine aR rfl ?_;refine(B9 (it:=.tmp 5) (r:=s+2) rfl (by show(some (f.get 5)).bind ly=_;rw[hf.g5];rfl)).trans ?_;unfold vw;rw[az.2 (show s≤s+2 by omega),H.it];simp only[H.mp,bp,Cc bU];generalize hl:es.filter (fun e=> !(ch.map (·.born)).contains e.born)=l;have ql:j7 es ch=l:=hl;rw[ql]at bc hr hp;cases l with
  |nil=>exact absurd rfl bc
  |cons e0 l0=>
   show meet (List.map _ (e0::l0))=_;refine Lc hX (by simp) fun x hx=>?_;obtain⟨e,he,rfl⟩:=List.mem_map.1 hx;have Kc:e∈j7 es ch:=by rw[ql];exact he
   have kq:e∈es:=(List.mem_filter.1 Kc).1;obtain⟨k,hk⟩:=kr e kq;have mi:(e0::l0).Perm (e::j7 es (ch++[e])):=by
    rw[HW,ql];exact HV (by rw[←ql];exact List.Nodup.sublist ((List.filter_sublist (l:=es)).map _) bU.2) he
   have hp2:((ch++[e])++j7 es (ch++[e])).Perm es:=by
    refine List.Perm.trans ?_ hp;rw[List.append_assoc];exact(mi.symm.append_left ch)
   have Ay:(j7 es (ch++[e])).length=r:=by
    have:=mi.length_eq;rw[hr]at this;simpa using this.symm
   have bV:ch.length≤es.length:=by
    have:=hp.length_eq;simp at this;omega
   have Z2:Nat.blt e.born clock=true:=aI.2 (bU.1 e kq);simp only[Z2];refine aR rfl ?_;refine(bS (v:=.bool true) (fun it=>by simp) (D8 (cs:=[.bool true,e.key,e.val]) rfl (by show(f.set 6 _).get 6=_;rw[gs (by rw[hf.n];omega)]) rfl)).trans ?_;rw[dK];have F7:FO s ((f.set 6 (.tuple #[.bool true,e.key,e.val])).set 7 (.bool true)):=(hf.set om om).set om om;obtain⟨f',g',H',wu,hT⟩:=OF (n:=n+r+1) (Ld H) F7 (by simpa using Nat.le_trans bV hlen) bU kq hk;show aA (EC s) s (n+r+8) (.seq (.cond (.tmp 7) .skip (.exit 0)) (.block 1 X2)) ((f.set 6 (.tuple #[.bool true,e.key,e.val])).set 7 (.bool true)) _ _=_
   rw[cm,Cb (by show(some (AF.get _ 7)).bind Av=_;rw[gs (by rw[AF.xe,hf.n];omega)];rfl)];rw[D9];show aA (EC s) s (n+r+7) (.block 1 X2) _ _ _=_;rw[nu];rw[show n+r+6=n+r+1+5 by omega];rw[hT];show aA (EC s) s (n+(r+1)+8) (.loop B8) f' g' K=_;rw[show n+(r+1)+8=n+r+9 by omega];exact ih n (ch++[e]) f' g' (by simpa[hk]using H') wu hp2 Ay
@[reducible] def iE (B:Nat):Value:=.func (.func 112) #[] #[vL B]
theorem l6 {E:Env} {base:Nat} {run:Hv} {g:FuncId} {fn:Func} {code:Code} {args:List Value} {h:ah} {K:KV} (hf:E.func g=some fn) (ho:E.tc base g args h=none) (hb:fn.body=some code) (hl:Nat.ble args.length fn.ntmps=true):
 dE E base run g args h K=run code (AF.enter args fn.ntmps) h (fun ex f h'=>match ex with
  | .exit _=>none
  |_=>match cL E h' f fn.results.toList with
   |some vs=>K (cz vs) h'
   |none=>none):=by
 unfold dE;rw[hf];simp only[ho,hb,hl,bp];rfl
noncomputable def kR0:Array Oper:=match Tryz.f112.body with|some (.seq (.region _ o _) _)=>o|_=> #[]
theorem Lf {s m B n:Nat} {cJ:Value} {es:List MapEntry} {clock:Nat} {X:Out} {g:ah} (hX:fw X X=true) (bU:sN es clock) (kr:∀e∈es,Le e) (hlen:es.length≤1000000) {K:KV}
 (eY:g.size=s+2) (W:Wf g) (hb:g.get s=some (.cells [.slice none 0 0] s s 0)) (hl:g.get (s+1)=some (.loop .ready none (HP s cJ) [7] kX kY)) (hm:g.get m=some (.map es clock)) (bj:m<s) (hr:ai g B 0 1=some [.map (some m)])
 (hK:∀(ch:List MapEntry) g',St s m cJ es clock (ch.map (·.key)) (ch.map (·.born)) g'→ch.Perm es→K (.tuple #[]) g'=some X):
 dE (EC s) s (aA (EC s) s (n+es.length+11)) 112 [.func (.yield (s+1)) #[] #[],vL B] g K=some X:=by
 refine(l6 (code:=.seq (.region 0 kR0 false) (.block 0 (.loop B8))) (show(EC s).func 112=some Tryz.f112 by kernel_rfl) rfl rfl rfl).trans ?_;rw[cm,du];refine aR rfl ?_;refine(vK (v:=.map (some m)) (q:=.cells false B 0 1) (fun it=>by simp) rfl rfl (by show(ai g B 0 1).bind _=_;rw[hr];rfl)).trans ?_;refine aR rfl ?_;refine(tX (v:=vL g.size) (g':=g.push (.bY (some m) clock [] clock)) (fun it=>by simp) rfl rfl rfl ?_).trans ?_
 ·show(match g.get m with
   |some (.map _ clock)=>some (kb.val (.pointer (some ⟨g.size,0,none⟩)),g.push (.bY (some m) clock [] clock))
   |_=>none)=_
  rw[hm]
 rw[dK];show aA (EC s) s (n+es.length+10) (.block 0 (.loop B8)) (((AF.enter [.func (.yield (s+1)) #[] #[],vL B] 14).set 4 (.map (some m))).set 5 (vL g.size)) (g.push (.bY (some m) clock [] clock)) _=_;rw[nu,eY];refine OG (cJ:=cJ) (ch:=[]) hX bU kr hlen (fun ch f g' H hp=>?_) es.length n _ _ ⟨?_,⟨.slice none 0 0,0,?_,Nat.zero_le _,.inl ⟨rfl,rfl⟩⟩,?_,?_,?_,bj,?_⟩ ⟨rfl,rfl,rfl⟩ ?_ ?_
 ·exact hK ch g' H hp
 ·rw[ah.size_push];omega
 ·rw[ah.ak,if_neg om];exact hb
 ·rw[ah.ak,if_neg om];exact hl
 ·rw[ah.ak,if_pos eY.symm];rfl
 ·rw[ah.ak,if_neg om];exact hm
 ·exact W.push (fun _ _ _ _ e=>by cases e)
 ·rw[show j7 es []=es from List.filter_eq_self.2 (by simp)];exact List.Perm.refl _
 ·rw[show j7 es []=es from List.filter_eq_self.2 (by simp)]
noncomputable def aR0:Array Oper:=match Tryz.f161.body with|some (.seq (.region _ o _) _)=>o|_=> #[]
noncomputable def aR1:Array Oper:=match Tryz.f161.body with|some (.seq _ (.seq (.seq (.region _ o _) _) _))=>o|_=> #[]
noncomputable def Z3:Array Oper:=match Tryz.f161.body with|some (.seq _ (.seq _ (.seq (.region _ o _) _)))=>o|_=> #[]
theorem Cd {E:Env} {base n:Nat} {g:Operand} {ps:Array Tmp} {gO body:Code} {f:AF} {h:ah} {K:KC} {g0:FuncId} {first captured:Array Value} (hg:ev E f g=some (.func (.func g0) first captured)) (hb:base≤h.size):
 aA E base (n+1) (.rangeFunc g ps gO body) f h K=dE E base (aA E base n) g0 (first.toList++[.func (.yield h.size) #[] #[]]++captured.toList) (h.push (.loop .ready none f ps.toList gO body)) fun _ h1=>
    (match h1.get h.size with
    |some (.loop st p f0 I4 tf ma)=>bp (st != .busy) (match p with
     |none=>K .normal f (h1.put h.size (.loop .exhausted p f0 I4 tf ma))
     |some c=>aA E base n c f (h1.put h.size (.loop .exhausted p f0 I4 tf ma)) K)
    |_=>none):=by
 show(match ev E f g with
  |some (.func (.func g) first captured)=>_
  |_=>none)=_
 rw[hg];simp only[az.2 hb,bp];rfl
theorem OH {s m B n:Nat} {es:List MapEntry} {clock:Nat} {X:Out} {h:ah} (hX:fw X X=true) (bU:sN es clock) (kr:∀e∈es,Le e) (hlen:es.length≤1000000) {K:KV}
 (hs:h.size=s) (W:Wf h) (hm:h.get m=some (.map es clock)) (hr:ai h B 0 1=some [.map (some m)])
 (hK:∀(ch:List MapEntry) v g',Wf g'→s+3≤g'.size→K9 s g' v (ch.map (·.key))→ch.Perm es→K v g'=some X):
 dE (EC s) s (aA (EC s) s (n+es.length+16)) 161 [.slice none 0 0,iE B] h K=some X:=by
 have bj:=W.lt hm;rw[hs]at bj;refine(l6 (code:=.seq (.region 0 aR0 false) (.seq (.seq (.region 1 aR1 false) (.block 0 (.rangeFunc (.tmp 6) #[7] kX kY))) (.seq (.region 4 Z3 false) .ret))) (show(EC s).func 161=some Tryz.f161 by kernel_rfl) rfl rfl rfl).trans ?_;rw[cm,du];refine aR rfl ?_;refine(yk (m:=.cells [.slice none 0 0]) (hd:=.ptr) (fun it=>by simp) rfl rfl rfl).trans ?_;refine aR rfl ?_;refine(bS (v:=.slice none 0 0) (fun it=>by simp) rfl).trans ?_;rw[dK,hs];obtain⟨g1,kG⟩:∃g1,g1=h.push (.cells [.slice none 0 0] s s 0):=⟨_,rfl⟩;have Jh:g1.size=s+1:=by rw[kG,ah.size_push,hs]
 have W1:Wf g1:=by rw[kG];exact W.push (fun cs f cu aF e=>by cases e;omega)
 show aA (EC s) s (n+es.length+15) (.seq (.seq (.region 1 aR1 false) (.block 0 (.rangeFunc (.tmp 6) #[7] kX kY))) (.seq (.region 4 Z3 false) .ret)) (((AF.enter [.slice none 0 0,iE B] 13).set 2 (vL s)).set 4 (.slice none 0 0)) (h.push (.cells [.slice none 0 0] s s 0)) _=_;rw[←kG,cm,cm,du];refine aR rfl ?_;refine(bS (v:=iE B) (fun it=>by simp) rfl).trans ?_;rw[dK];show aA (EC s) s (n+es.length+13) (.block 0 (.rangeFunc (.tmp 6) #[7] kX kY)) (HP s (iE B)) g1 _=_;rw[nu,Cd (first:= #[]) (captured:= #[vL B]) rfl om,Jh]
 show dE (EC s) s (aA (EC s) s (n+es.length+11)) 112 [.func (.yield (s+1)) #[] #[],vL B] (g1.push (.loop .ready none (HP s (iE B)) [7] kX kY)) _=_;refine Lf (cJ:=iE B) hX bU kr hlen ?_ ?_ ?_ ?_ ?_ bj ?_ (fun ch g' H hp=>?_)
 ·rw[ah.size_push,Jh]
 ·exact W1.push (fun _ _ _ _ e=>by cases e)
 ·rw[ah.ak,if_neg om,kG,ah.ak,if_pos hs.symm]
 ·rw[ah.ak,if_pos om]
 ·rw[ah.ak,if_neg om,kG,ah.ak,if_neg om];exact hm
 ·have:∃cs,h.rd B=some cs:=by
   unfold ai at hr;cases hh:h.rd B with
   |none=>rw[hh]at hr;simp at hr
   |some cs=>exact⟨cs,rfl⟩
  obtain⟨cs,oz⟩:=this;obtain⟨_,_,_,hgB⟩:=uP oz;have hBl:=W.lt hgB;unfold ai at hr ⊢;rw[dH W1.le _ om,kG,dH W.le _ hBl];exact hr
 ·obtain⟨v,t,hb,ht,hv⟩:=H.box;simp only[H.lp];obtain⟨gE,Wz⟩:∃gE,gE=g'.put (s+1) (.loop .exhausted none (HP s (iE B)) [7] kX kY):=⟨_,rfl⟩;have hbE:gE.get s=some (.cells [v] s s t):=by rw[Wz,ah.br,if_neg om];exact hb
  show aA (EC s) s (n+es.length+14) (.seq (.region 4 Z3 false) .ret) (HP s (iE B)) (g'.put (s+1) (.loop .exhausted none (HP s (iE B)) [7] kX kY)) _=_;rw[←Wz,cm,du];refine aR rfl ?_;refine(vK (v:=v) (q:=.cells false s 0 1) (fun it=>by simp) rfl rfl (by show(ai gE s 0 1).bind _=_;rw[qE hbE ht];rfl)).trans ?_;refine aR rfl ?_;refine(bS (v:=v) (fun it=>by simp) rfl).trans ?_;rw[dK];exact hK ch v gE (by rw[Wz];exact H.wf.OD H.lp rfl) (by rw[Wz,ah.size_put];exact H.sz) (by rw[Wz];exact hv.put H.lp rfl rfl om) hp
noncomputable def cR0:Array Oper:=match Tryz.f110.body with|some (.seq (.region _ o _) _)=>o|_=> #[]
noncomputable def cR1:Array Oper:=match Tryz.f110.body with|some (.seq _ (.seq (.region _ o _) _))=>o|_=> #[]
theorem OI {s m B n:Nat} {es:List MapEntry} {clock:Nat} {X:Out} {h:ah} (hX:fw X X=true) (bU:sN es clock) (kr:∀e∈es,Le e) (hlen:es.length≤1000000) {K:KV}
 (hs:h.size=s) (W:Wf h) (hm:h.get m=some (.map es clock)) (hr:ai h B 0 1=some [.map (some m)])
 (hK:∀(ch:List MapEntry) v g',Wf g'→s+3≤g'.size→K9 s g' v (ch.map (·.key))→ch.Perm es→K v g'=some X):
 dE (EC s) s (aA (EC s) s (n+es.length+20)) 110 [iE B] h K=some X:=by
 refine(l6 (code:=.seq (.region 0 cR0 false) (.seq (.region 1 cR1 false) .ret)) (show(EC s).func 110=some Tryz.f110 by kernel_rfl) rfl rfl rfl).trans ?_;rw[cm,du];refine aR rfl ?_;refine(bS (v:=.slice none 0 0) (fun it=>by simp) rfl).trans ?_;rw[dK];show aA (EC s) s (n+es.length+19) (.seq (.region 1 cR1 false) .ret) ((AF.enter [iE B] 5).set 2 (.slice none 0 0)) h _=_;rw[cm,du];refine aR rfl ?_;refine(bS (v:=iE B) (fun it=>by simp) rfl).trans ?_;refine aR rfl ?_;refine(rV (l:=161) (args:=[.slice none 0 0,iE B]) (g':=h) (fun it=>by simp) rfl rfl rfl rfl).trans ?_
 show dE (EC s) s (aA (EC s) s (n+es.length+17)) 161 [.slice none 0 0,iE B] h _=_;rw[show n+es.length+17=(n+1)+es.length+16 by omega];refine OH hX bU kr hlen hs W hm hr fun ch v g' w1 w2 w3 hp=>?_;refine aR rfl ?_;refine(bS (v:=v) (fun it=>by simp) rfl).trans ?_;rw[dK];exact hK ch v g' w1 w2 w3 hp
theorem vN {E:Env} {base n m:Nat} {g:FuncId} {args:List Value} {h:ah} {r r':Value×ah} (h1:e6 E base n g args h=some r) (h2:e6 E base m g args h=some r'):r'=r:=by
 have a:=u3 (E:=E) (base:=base) (Nat.le_max_left n m) _ _ _ _ h1;have b:=u3 (E:=E) (base:=base) (Nat.le_max_right n m) _ _ _ _ h2;rw[a]at b;exact(Option.some.inj b).symm
theorem QD {F:Nat→Prop} {h:ah}:jA ES F h:=fun g cs hg=>by
 have:(none:Option (List Value))=some cs:=hg;cases this
theorem Lg {s:Nat} {g:ah} {v:Value} {d:Array Int} (W:Wf g) (hv:K9 s g v (d.toList.map (.int .u32))) (hs:s≤g.size) (hl:d.size<13) (wG:0<d.size):
 ∃h',vJ s [v] g=some (.tuple #[],h')∧ai h' (match v with| .slice (some ⟨b,_,_⟩) _ _=>b|_=>0) 0 d.size=some ((b7 d.toList).map (.int .u32)):=by
 rcases hv with⟨h0,_⟩|⟨_,b,f,t0,eg,aF,rfl,hb,hf,CS,VA,Qw,SA⟩
 ·have:=congrArg List.length h0;simp only[List.length_map,Array.length_toList,List.length_nil]at this;omega
 ·obtain⟨c0,bC⟩:=bw hf;simp only at bC
  let ρ:Gh:=fun n=>if n=0 then some (.arr b 1 ((d.toList.map hZ).length))else none
  let S:Nat→Ft:=fun _=>[(f,true)]
  let X:=zL s ρ (fun _=>False) [(0,ox d)] 1 g S
  have lk:∀{m y},look [(0,ox d)] m=some y→m=0∧y=ox d:=by
   intro m y hm;unfold look at hm;split at hm
   ·rename_i e;have:=beq_iff.1 e;cases hm;exact⟨this.symm,rfl⟩
   ·cases hm
  have sO:OR 1 ρ (fun _=>False) g s 0 [(f,true)] (ox d):=by
   refine .arr (b:=b) (f:=f) (t0:=t0) (eg:=eg) (aF:=aF) (cs:=d.toList.map (.int .u32)) (by simp[ρ]) hb hf CS om om (by simp) (by simp) (by simp[fz,uH]) ?_ (by simp);intro i j e t v h1 h2 h3;rw[List.getElem?_map]at h1;obtain⟨x,hx,rfl⟩:=Option.map_eq_some_iff.1 h1;have hj:j=0:=by
    have:=(List.getElem?_eq_some_iff.1 h2).1;simp at this;exact this
   subst hj;simp at h2;subst h2;rw[Nat.mul_one,Nat.add_zero,List.getElem?_map,hx]at h3;cases h3;exact .s rfl
  have WA:MO X ρ (fun _=>False) [(0,ox d)] 1 g S:=by
   refine⟨fun m y hm=>?_,fun m y hm=>?_,fun m1 m2 y1 y2 x h1 h2 _ _=>?_,fun m y x hm hx=>?_,fun m y x b' hm hx hF=>hF.elim⟩
   ·obtain⟨rfl,rfl⟩:=lk hm;exact sO
   ·simp[S,cQ]
   ·obtain⟨rfl,_⟩:=lk h1;obtain⟨rfl,_⟩:=lk h2;rfl
   ·have Qo:x=f:=by simpa[S,cQ]using hx
    subst Qo;exact⟨by show s≤x;omega,W.lt bC,.inl ⟨m,y,hm,hx⟩⟩
  have ux:Mem X ρ (fun _=>False) [(0,ox d)] 1 g:=by
   refine⟨⟨S,WA⟩,fun m l hm=>?_,fun b hb=>hb.elim,fun b hb=>hb,W,.refl _ _ _,hs,fun b hb=>hb.elim,⟨Nat.le_refl _,fun _ _ _ hl=>hl,fun _ _ _ hl=>hl⟩⟩;by_cases e:m=0
   ·omega
   ·simp[ρ,e]at hm
  have Zn:dh 1 ρ (fun _=>False) g [.tk 0] [yl b (d.toList.map (Value.int .u32)).length ((d.toList.map (Value.int .u32)).length+1)]:=by
   refine .cons (.tk om rfl (fun b' z len hx=>?_) (fun z hx=>?_)) .nil
   ·simp[ρ]at hx;obtain⟨rfl,rfl,rfl⟩:=hx;exact⟨d.size+1,om,by simp⟩
   ·simp[ρ]at hx
  obtain⟨n,v,h',ρ',F',r,o',c',WB,⟨e,⟨hp,Z4⟩,rfl,rfl,rfl⟩,hM,hr⟩:=K7 d hl s ρ (fun _=>False) g S _ QD ux WA Zn;obtain⟨a,rfl,ha⟩:=hr.qe;have ea:a= #[]:=by
   have:=ha.bz;exact Array.toList_eq_nil_iff.1 this
  subst ea;refine⟨h',B6 WB (fun n r jM=>vN WB jM),?_⟩;show ai h' b 0 d.size=_;obtain⟨S',Z5⟩:=hM.ex;have Z6:=Z5.bN 0 (ox e) rfl;have kq:e.toList=b7 d.toList:=(Sort.sorted_unique_holds Sort.swo_ltInt (fun x y h1 h2=>by simp[Sort.ltInt]at h1 h2;omega) d e hp Z4).trans (by unfold b7;congr 1;funext x y;simp[Sort.ltInt];by_cases h:x≤y<;>simp[h]<;>omega);have key:∀{SS:Ft} {y:TO},OR 1 ρ' F' h' X.base 0 SS y→y=ox e→∃cs,h'.rd b=some cs∧cs.length=d.size∧cs=e.toList.map (.int .u32):=by
   intro SS y H hy;cases H with
   |nil bJ hz=>
    exfalso;have:=hM.wO.2.1 0 _ Nat.zero_lt_one bJ;simp[zL,ρ]at this
   |arr bJ jl wu Od BN iJ ql AG wQ kB Nh=>
    rename_i z w es b' f' t1 ue cG cs;cases hy;have dN:=hM.wO.2.1 0 _ Nat.zero_lt_one bJ;simp[zL,ρ]at dN;obtain⟨rfl,hlen⟩:=dN;have bV:cs.length=e.toList.length:=by simpa using ql
    refine⟨cs,dq wu Od (au jl),by rw[bV,Array.length_toList,hp.1],?_⟩;refine List.ext_getElem? fun i=>?_;rw[List.getElem?_map];cases hx:e.toList[i]? with
    |none=>
     have:e.toList.length≤i:=by simpa using hx
     rw[List.getElem?_eq_none om];rfl
    |some x=>
     have hi:=(List.getElem?_eq_some_iff.1 hx).1;have h1:=kB i 0 (hZ x) (.s (.int .u32 x)) (cs[i]' om) (by rw[List.getElem?_map,hx];rfl) rfl (by simp);obtain⟨q1,_⟩:=h1.de;rw[List.getElem?_eq_getElem om,q1];rfl
   |_=>cases hy
  obtain⟨cs,h1,h2,h3⟩:=key Z6 rfl;unfold ai;rw[h1];simp only[Option.bind_some,List.drop_zero,aM];refine⟨om,?_⟩;rw[List.take_of_length_le om,h3,kq]
theorem Lh {s:Nat} {g:ah} (W:Wf g) (hs:s≤g.size):∃h',vJ s [.slice none 0 0] g=some (.tuple #[],h'):=by
 have WA:MO (zL s rA (fun _=>False) [] 0 g fun _=>[]) rA (fun _=>False) [] 0 g fun _=>[]:=
  ⟨fun m y hl=>(by cases hl),fun m y hl=>(by cases hl),fun m1 m2 y1 y2 x h1=>(by cases h1),fun m y x hl=>(by cases hl),fun m y x b hl=>(by cases hl)⟩
 have ux:Mem (zL s rA (fun _=>False) [] 0 g fun _=>[]) rA (fun _=>False) [] 0 g:=
  ⟨⟨_,WA⟩,fun m l hm=>(by cases hm),fun b hb=>hb.elim,fun b hb=>hb,W,.refl _ _ _,hs,fun b hb=>hb.elim,⟨Nat.le_refl _,fun _ _ _ hl=>hl,fun _ _ _ hl=>hl⟩⟩
 obtain⟨n,v,h',ρ',F',r,o',c',WB,⟨rfl,rfl,rfl⟩,hM,hr⟩:=K8 s rA (fun _=>False) g (fun _=>[]) [.slice none 0 0] QD ux WA (.cons (.nil rfl) .nil);obtain⟨a,rfl,ha⟩:=hr.qe;have ea:a= #[]:=Array.toList_eq_nil_iff.1 ha.bz;subst ea;exact⟨h',B6 WB (fun n r jM=>vN WB jM)⟩
def Ad (ks:List Int):Out:=match ks with
 |[]=>[.bool true,.slice none 0 0]
 |_=>.bool false::goInt ks.length::goInt (1:Nat)::(b7 ks).map (.int .u32)
theorem Ce:∀l:List Int,fw (l.map (.int .u32)) (l.map (.int .u32))=true
 |[]=>rfl
 |x::l=>by
  simp only[List.map_cons,fw,iq,Ce l,beq_self_eq_true,Bool.and_self]
theorem HX (ks:List Int):fw (Ad ks) (Ad ks)=true:=by
 unfold Ad;split
 ·rfl
 ·simp only[fw,iq,goInt,Ce,beq_self_eq_true,Bool.and_self]
def SL:Value→Int
 | .int _ n=>n
 |_=>0
def HY (e:MapEntry):Int:=SL e.key
noncomputable def sR0:Array Oper:=match Tryz.f76.body with|some (.seq (.region _ o _) _)=>o|_=> #[]
noncomputable def sR1:Array Oper:=match Tryz.f76.body with|some (.seq _ (.seq (.region _ o _) _))=>o|_=> #[]
noncomputable def X3:Array Oper:=match Tryz.f76.body with|some (.seq _ (.seq _ (.seq (.region _ o _) _)))=>o|_=> #[]
noncomputable def X4:Array Oper:=match Tryz.f76.body with|some (.seq _ (.seq _ (.seq _ (.seq (.region _ o _) _))))=>o|_=> #[]
theorem Ea {s m B n:Nat} {es:List MapEntry} {clock:Nat} {ks:List Int} {h:ah} (bU:sN es clock) (xi:es.map (·.key)=ks.map (.int .u32)) (hlen:ks.length<13)
 (hs:h.size=s) (W:Wf h) (hm:h.get m=some (.map es clock)) (hr:ai h B 0 1=some [.map (some m)]):
 dE (EC s) s (aA (EC s) s (n+es.length+25)) 76 [iE B] h (BY s)=some (Ad ks):=by
 have Kc:es.length=ks.length:=by have:=congrArg List.length xi;simpa using this
 have kr:∀e∈es,Le e:=by
  intro e he;have:e.key∈es.map (·.key):=List.mem_map.2 ⟨e,he,rfl⟩;rw[xi]at this;obtain⟨k,_,hk⟩:=List.mem_map.1 this;exact⟨k,hk.symm⟩
 refine(l6 (code:=.seq (.region 0 sR0 false) (.seq (.region 1 sR1 false) (.seq (.region 2 X3 false) (.seq (.region 3 X4 false) .ret)))) (show(EC s).func 76=some Tryz.f76 by kernel_rfl) rfl rfl rfl).trans ?_;rw[cm,du];refine aR rfl ?_;refine(bS (v:=.slice none 0 0) (fun it=>by simp) rfl).trans ?_;rw[dK];show aA (EC s) s (n+es.length+24) (.seq (.region 1 sR1 false) (.seq (.region 2 X3 false) (.seq (.region 3 X4 false) .ret))) ((AF.enter [iE B] 9).set 2 (.slice none 0 0)) h _=_;rw[cm,du];refine aR rfl ?_;refine(bS (v:=iE B) (fun it=>by simp) rfl).trans ?_;refine aR rfl ?_
 refine(rV (l:=110) (args:=[iE B]) (g':=h) (fun it=>by simp) rfl rfl rfl rfl).trans ?_;show dE (EC s) s (aA (EC s) s (n+es.length+22)) 110 [iE B] h _=_;rw[show n+es.length+22=(n+2)+es.length+20 by omega];refine OI (HX ks) bU kr om hs W hm hr fun ch v g' w1 w2 w3 hp=>?_;refine aR rfl ?_;refine(bS (v:=v) (fun it=>by simp) rfl).trans ?_;rw[dK];show aA (EC s) s (n+es.length+23) (.seq (.region 2 X3 false) (.seq (.region 3 X4 false) .ret)) (((((AF.enter [iE B] 9).set 2 (.slice none 0 0)).set 4 (iE B)).set 5 v).set 3 v) g' _=_;rw[cm,du];refine aR rfl ?_
 refine(bS (v:=v) (fun it=>by simp) rfl).trans ?_;refine aR rfl ?_;refine(rV (l:=111) (args:=[v]) (g':=g') (fun it=>by simp) rfl rfl rfl rfl).trans ?_
 -- what came
 have xG:(ch.map (·.key)).Perm (ks.map (.int .u32)):=by rw[←xi];exact hp.map _
 obtain⟨d,hd,hdk⟩:∃d:Array Int,ch.map (·.key)=d.toList.map (.int .u32)∧d.toList.Perm ks:=by
  refine⟨(ch.map HY).toArray,?_,?_⟩
  ·show ch.map (·.key)=(ch.map HY).map (.int .u32);rw[List.map_map];refine List.map_congr_left fun e he=>?_;obtain⟨k,hk⟩:=kr e (hp.mem_iff.1 he);simp[HY,SL,hk]
  ·show(ch.map HY).Perm ks;have:es.map HY=ks:=by
    have:es.map HY=(es.map (·.key)).map SL:=by rw[List.map_map];rfl
    rw[this,xi,List.map_map];exact(List.map_congr_left fun x _=>rfl).trans (List.map_id ks)
   rw[←this];exact hp.map _
 have eY:d.size=ks.length:=by have:=hdk.length_eq;simpa using this
 have hss:b7 d.toList=b7 ks:=mergeSort_perm hdk;have Wx:s≤g'.size:=by omega
 have hv:=w3;rw[hd]at hv
 have fin:∀h',vJ s [v] g'=some (.tuple #[],h')→BY s v h'=some (Ad ks)→dE (EC s) s (aA (EC s) s (n+es.length+21)) 111 [v] g' (fun v1 h1=>mA (EC s) s (dE (EC s) s (aA (EC s) s (n+es.length+21))) (im s (aA (EC s) s (n+es.length+21))) X3.toList [] (((((((AF.enter [iE B] 9).set 2 (.slice none 0 0)).set 4 (iE B)).set 5 v).set 3 v).set 6 v).set 7 v1) h1 fun f' h2=>aA (EC s) s (n+es.length+22) (.seq (.region 3 X4 false) .ret) f' h2 fun ex f h'=>match ex with
  | .exit _=>none
  |_=>match cL (EC s) h' f Tryz.f76.results.toList with
   |some vs=>BY s (cz vs) h'
   |none=>none)=some (Ad ks):=by
  intro h' q1 q2;unfold dE;rw[show(EC s).func 111=some Tryz.f111 by kernel_rfl];simp only[show(EC s).tc s 111 [v] g'=some (.tuple #[],h')from q1];rw[dK,cm,du];refine aR rfl ?_;refine(bS (v:=v) (fun it=>by simp) rfl).trans ?_;refine aR rfl ?_;refine(bS (v:=v) (fun it=>by simp) rfl).trans ?_;rw[dK];exact q2
 rcases Nat.eq_zero_or_pos d.size with h0|h0
 ·have E6:ks=[]:=List.eq_nil_of_length_eq_zero om;have Us:v= .slice none 0 0:=by
   rcases hv with⟨_,hv⟩|⟨wG,_⟩
   ·exact hv
   ·simp at wG;omega
  obtain⟨h',q1⟩:=Lh w1 Wx;rw[←Us]at q1;refine fin h' q1 ?_;rw[Us,E6];rfl
 ·obtain⟨h',q1,q2⟩:=Lg w1 hv Wx om h0;refine fin h' q1 ?_;rcases hv with⟨hv,_⟩|⟨_,b,f,t0,eg,aF,rfl,hb,hf,CS,VA,Qw,SA⟩
  ·have:=congrArg List.length hv;simp only[List.length_map,Array.length_toList,List.length_nil]at this;omega
  ·have q2:ai h' b 0 d.size=some ((b7 d.toList).map (.int .u32)):=q2;have bc:ks≠[]:=fun h=>by rw[h]at eY;simp only[List.length_nil]at eY;omega
   unfold BY;simp only[List.length_map,Array.length_toList,Nat.mul_one,q2,Option.bind_some];have ZL:((b7 d.toList).map (Value.int .u32)).all scalar=true:=by
    rw[List.all_eq_true];intro x hx;obtain⟨y,_,rfl⟩:=List.mem_map.1 hx;rfl
   rw[az.2 (show s≤b by omega),aI.2 h0,ZL,hss];unfold Ad;cases ks with
   |nil=>exact absurd rfl bc
   |cons x l=>rw[eY];rfl
def vO:List MapEntry→Option (List Int)
 |[]=>some []
 |e::l=>match e.key,vO l with
  | .int .u32 n,some ks=>some (n::ks)
  |_,_=>none
theorem vP:∀{ev:List MapEntry} {ks:List Int},vO ev=some ks→ev.map (·.key)=ks.map (.int .u32)
 |[],ks,h=>by simp[vO]at h;subst h;rfl
 |e::l,ks,h=>by
  unfold vO at h;split at h
  ·rename_i n Qt hk hl;cases h;simp only[List.map_cons,hk,vP hl]
  ·cases h
theorem Cf:∀{ev:List MapEntry} {ks:List Int},ev.map (·.key)=ks.map (.int .u32)→vO ev=some ks
 |[],ks,h=>by cases ks with
  |nil=>rfl
  |cons _ _=>simp at h
 |e::l,ks,h=>by
  cases ks with
  |nil=>simp at h
  |cons n ks=>
   simp only[List.map_cons,List.cons.injEq]at h;unfold vO;rw[h.1,Cf h.2]
def vQ (h:ah):Option Nat→Option (List Int)
 |none=>none
 |some r=>match h.get r with
  |some (.map ev clock)=>(vO ev).bind fun ks=>bp (decide (sN ev clock)&&Nat.blt ks.length 13) (some ks)
  |_=>none
def Lj (h:ah) (ks:List Int):Value×ah:=match ks with
 |[]=>(.slice none 0 0,h)
 |_::_=>(.slice (some ⟨h.size,0,some 1⟩) ks.length (ks.length+1),h.push (.cells ((b7 ks).map (.int .u32)) h.size (h.size+1) 0))
def og (args:List Value) (h:ah):Option (Value×ah):=match args with
 |[.func (.func k) a c]=>(match a.toList,c.toList with
  |[],[.pointer (some ⟨b,0,none⟩)]=>bp (Nat.beq k 112) ((ni h b).bind fun mb=>(vQ h mb).bind fun ks=>some (Lj h ks))
  |_,_=>none)
 |_=>none
theorem Eb (h:ah) (ks:List Int):vA h (Ad ks)=some (Lj h ks):=by
 cases ks with
 |nil=>rfl
 |cons x l=>rfl
theorem Ec {E:Env} {base B:Nat} (hm:Tryz.prog.follows .mixedOrders=true) (hg:∀g,(EC 0).cW g=true→E.cW g=true) {μ:ba} {h h':ah} {w:World} {args:List Value} {args':Array Value} {v:Value}
 (hc:og args h=some (v,h')) (hr:aq μ args args'.toList) (H:aX E base B μ h w) {F:Fence} (hF:fT F) (n:Nat):CallsIn F n Tryz.prog 76 args' w (lF E base B μ h w v h'):=by
 unfold og at hc;split at hc
 ·rename_i k a c;split at hc
  ·rename_i b ha me;simp only[aj,Option.bind_eq_some_iff,Option.some.injEq,beq_iff]at hc;obtain⟨rfl,mb,Z7,ks,nv,lX⟩:=hc;obtain⟨aF,mO,yZ⟩:=B0 Z7;cases mb with
   |none=>simp[vQ]at nv
   |some r=>
    simp only[vQ]at nv;split at nv
    ·rename_i ev clock wv;simp only[Option.bind_eq_some_iff,aj,Bool.and_eq_true,decide_eq_true_eq,aI,Option.some.injEq]at nv;obtain⟨Qt,xi,⟨bU,bj⟩,rfl⟩:=nv;have ea:a= #[]:=Array.toList_eq_nil_iff.1 ha;have ec:c= #[vL b]:=by rw[←Array.toList_inj,me]
     subst ea;subst ec;have W:Wf h:=⟨H.high,H.wf⟩;have hK:=vP xi;have fC:=Ea (n:=0) (B:=b) bU hK bj rfl W wv (qE mO yZ);have H2:=H.z6 (E0:=EC h.size) (fun g Rq=>hg g Rq);refine(qx (pt Tryz.prog [] (OB h.size)) (OC hm h.size _) hm (0+ev.length+25) μ h w 76 _ args' _ (Ad Qt) fC hr H2 F n hF).mono ?_;rintro e w' ⟨u,u',h1,e7,hKo,rfl,hv,S⟩;refine pq H rfl ?_ hKo hv S;rw[Eb,lX]
    ·cases nv
  ·cases hc
 ·cases hc
def FP (ks:List Int):TO→Prop
 | .map _ es=>es.map (·.1)=ks.map (.int .u32)
 | .dY _ es op=>op=[]∧es.map (·.1)=ks.map (.int .u32)
 |_=>False
theorem OR.WC {c:Nat} {ρ:Gh} {F:Nat→Prop} {h:ah} {base n:Nat} {S:Ft} {y:TO} {ks:List Int} (H:OR c ρ F h base n S y) (hk:FP ks y):∃b ev clock,ρ n=some (.cX b)∧h.get b=some (.map ev clock)∧sN ev clock∧ev.map (·.key)=ks.map (.int .u32):=by
 cases H with
 |map hb hg hl hc bU=>
  rename_i kd es b clock ev;refine⟨_,_,_,hb,hg,bU,?_⟩;rw[←show es.map (·.1)=ks.map (.int .u32)from hk];refine List.ext_getElem? fun i=>?_;rw[List.getElem?_map,List.getElem?_map];cases he:es[i]? with
  |none=>
   have:es.length≤i:=by simpa using he
   rw[List.getElem?_eq_none om];rfl
  |some e=>
   have hi:=(List.getElem?_eq_some_iff.1 he).1;obtain⟨q1,_⟩:=hc i e ev[i] he (List.getElem?_eq_getElem om);rw[List.getElem?_eq_getElem om];simp[q1]
 |dY hb hg bV hc bU=>
  obtain⟨rfl,hk⟩:=hk;refine⟨_,_,_,hb,hg,bU,?_⟩;rw[←hk];have key:∀{S:Ft} {kd:Nat} {l:List (Value×TV)} {m:List MapEntry},gG c ρ F h base kd S l m→m.map (·.key)=l.map (·.1):=by
   intro S kd l m hE
   induction hE with
   |nil=>rfl
   |cons h1 _ _ _ _ ih=>simp[h1,ih]
  exact key hc
 |_=>exact hk.elim
theorem Mem.WD {X:Cx} {ρ:Gh} {F:Nat→Prop} {o:Ob} {c:Nat} {h:ah} (H:Mem X ρ F o c h) (cs:List Value):
 Mem X (bX ρ c (some (.nil 1))) (fun b=>F b∨b=h.size) o (c+1) (h.push (.cells cs h.size (h.size+1) 0)):=by
 obtain⟨S,K⟩:=H.ex;have dL:(h.push (.cells cs h.size (h.size+1) 0)).get h.size=some (.cells cs h.size (h.size+1) 0):=by rw[ah.ak,if_pos rfl]
 have hold:∀b,b<h.size→(h.push (.cells cs h.size (h.size+1) 0)).get b=h.get b:=fun b hb=>by rw[ah.ak,if_neg om]
 have Vv:∀b,b<h.size→hd (h.push (.cells cs h.size (h.size+1) 0)) b=hd h b:=fun b hb=>by unfold hd;rw[hold b hb]
 refine(H.change K (fun _=>False) c (.arr 1 true []) [] (by rw[ah.size_push];omega) (H.wf.push fun _ _ _ _ e=>by cases e;exact Nat.le_refl _) (fun _ hf=>hf.elim) (fun b hb _=>hold b hb)
  (fun b l hb hr=>by rw[dH H.wf.le _ (H.Fo hb)];exact hr) Vv (fun _ hb=>.inl hb) (fun b hb hn=>?_) om (fun n l hn hl=>by rwa [aW _ _ om]at hl) (fun n b hb=>?_) (fun n l hl=>?_) (fun m y' bc hl=>⟨hl,aW _ _ bc,fun _ _ hf=>hf.elim⟩)
  (fun y' hl=>absurd (H.lt hl) om) (.nil (aD _ _ _) om) (by simp[cQ]) (fun x hx=>by simp[cQ]at hx) (fun x b hx=>by simp at hx)).1
 ·rcases hb with hb|rfl
  ·exact absurd hb hn
  ·have e:hd (h.push (.cells cs h.size (h.size+1) 0)) h.size=h.size:=bH dL;refine⟨by rw[dq (bu dL dL) (Nat.zero_le _) (au dL)];rfl,fun m y x _ hl hs=>?_,fun x hx=>by simp at hx,.inr (by rw[e];exact H.my.size)⟩;rw[e];have:=(K.eD m y x hl (List.mem_map.2 ⟨_,hs,rfl⟩)).2.1;omega
 ·have:=H.names _ _ hb
  rwa [aW _ _ om]
 ·by_cases e:n=c
  ·omega
  ·rw[aW _ _ e]at hl;have:=H.names _ _ hl;omega
theorem Mem.bump {X:Cx} {ρ:Gh} {F:Nat→Prop} {o:Ob} {c:Nat} {h:ah} (H:Mem X ρ F o c h):Mem X (bX ρ c (some (.nil 1))) F o (c+1) h:=by
 obtain⟨S,K⟩:=H.ex
 refine(H.change K (fun _=>False) c (.arr 1 true []) [] (Nat.le_refl _) H.wf (fun _ hf=>hf.elim) (fun b hb _=>rfl)
  (fun b l hb hr=>hr) (fun _ _=>rfl) (fun _ hb=>hb) (fun b hb hn=>absurd hb hn) om (fun n l hn hl=>by rwa [aW _ _ om]at hl) (fun n b hb=>?_) (fun n l hl=>?_) (fun m y' bc hl=>⟨hl,aW _ _ bc,fun _ _ hf=>hf.elim⟩)
  (fun y' hl=>absurd (H.lt hl) om) (.nil (aD _ _ _) om) (by simp[cQ]) (fun x hx=>by simp[cQ]at hx) (fun x b hx=>by simp at hx)).1
 ·have:=H.names _ _ hb
  rwa [aW _ _ om]
 ·by_cases e:n=c
  ·omega
  ·rw[aW _ _ e]at hl;have:=H.names _ _ hl;omega
theorem VC.og {E:Env} (hf:(E.func 76).isSome=true) (ho:∀b a,E.tc b 76 a=fun h=>og a h) {y:TO} {ks:List Int} (hy:FP ks y) (sK:ks.length<13):
 VC E 76 2 [.cJ 112 [] [.ptr 1 0]] [(0,y),(1,.cells [.mp 0])] (RR (.sl 1 ((b7 ks).map hZ) false) 3 [(0,y),(1,.cells [.mp 0])]):=by
 intro base ρ F h S dJ hN hM hO hA;obtain⟨fn,hf⟩:=Option.isSome_iff_exists.1 hf;obtain⟨v1,m1,rfl,h1,h2⟩:=hA.aH;obtain rfl:=h2.bz;obtain⟨_,hm⟩:=hM.bN (m:=0) rfl;obtain⟨_,hb⟩:=hM.bN (m:=1) rfl;obtain⟨b0,ev,clock,xf,YQ,bU,nv⟩:=hm.WC hy;cases hb with
 |cells oW kG ht1 nK=>
  rename_i b1 aF cs';have nK:=(nK.Uk (fun t v hv hf=>hv.dm hf) rfl).1;obtain⟨x1,l1,rfl,y1,y2⟩:=nK.aH;obtain rfl:=y2.bz;cases y1 with
  |mp hbm=>
   rw[xf]at hbm;cases hbm;cases h1 with
   |cJ AA ha1 Hj ha2=>
    rename_i a kk;have ea:a= #[]:=Array.eq_empty_of_size_eq_zero (by simpa using AA.symm);subst ea;obtain⟨p',ec⟩:∃p',kk= #[p']:=by
     obtain⟨l⟩:=kk
     match l,Hj with
     |[x],_=>exact⟨x,rfl⟩
     |[],Hj=>simp at Hj
     |_::_::_,Hj=>simp at Hj
    subst ec;have hp:=ha2 0 (.ptr 1 0) p' rfl rfl;cases hp with
    |ptr tj=>
     rw[oW]at tj;cases tj;have SM:E.tc base 76 [iE b1] h=some (Lj h ks):=by
      rw[congrFun (ho _ _) _];show bp (Nat.beq 112 112) ((ni h b1).bind fun mb=>(vQ h mb).bind fun ks=>some (Lj h ks))=_;have hbx:ni h b1=some (some b0):=by
       unfold ni;rw[kG];simp[bp,Nat.ble_eq_true_of_le ht1]
      rw[beq_iff.2 (rfl:112=112),hbx];simp only[bp,Option.bind_some,vQ,YQ,Cf nv,bU,aI.2 sK,decide_true,Bool.and_self]
     have pX:∀r,E.tc base 76 [iE b1] h=some r→e6 E base 0 76 [iE b1] h=some r:=by
      intro r hr;unfold e6 fR;rw[hf];simp only[Option.bind_some,hr]
     cases Fz:ks with
     |nil=>
      subst Fz;exact⟨0,_,_,_,F,_,_,3,pX _ SM,⟨rfl,rfl,rfl⟩,hM.bump,.nil (by simp[b7])⟩
     |cons e0 l0=>
      rw[←Fz];have lX:Lj h ks=(.slice (some ⟨h.size,0,some 1⟩) ks.length (ks.length+1),h.push (.cells ((b7 ks).map (.int .u32)) h.size (h.size+1) 0)):=by rw[Fz];rfl
      rw[lX]at SM;have dL:(h.push (.cells ((b7 ks).map (.int .u32)) h.size (h.size+1) 0)).get h.size=some (.cells ((b7 ks).map (.int .u32)) h.size (h.size+1) 0):=by rw[ah.ak,if_pos rfl]
      refine⟨0,_,_,_,_,_,_,3,pX _ SM,⟨rfl,rfl,rfl⟩,hM.WD _,.sl (.inr rfl) (dq (bu dL dL) (Nat.zero_le _) (au dL)) om (by simp[xZ]) om (by simp) (by simp[xZ]) (by simp) (by simp[fz,uH]) ?_⟩;intro i j e t v q1 q2 q3;rw[List.getElem?_map]at q1;obtain⟨x,hx,rfl⟩:=Option.map_eq_some_iff.1 q1;have hj:j=0:=by
       have:=(List.getElem?_eq_some_iff.1 q2).1;simp at this;exact this
      subst hj;simp at q2;subst q2;rw[Nat.zero_add,Nat.mul_one,Nat.add_zero,List.getElem?_map,hx]at q3;cases q3;exact .s rfl
end Go.M
