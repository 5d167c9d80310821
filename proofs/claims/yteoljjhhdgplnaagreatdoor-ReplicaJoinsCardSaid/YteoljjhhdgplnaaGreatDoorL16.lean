/-
  Part 16 of the library that the proof leans on.
-/
import Derived.Test.YteoljjhhdgplnaaGreatDoorL14
import Derived.Test.YteoljjhhdgplnaaGreatDoorL15
import Derived.Test.YteoljjhhdgplnaaGreatDoorL6
namespace Go.M
open Go Go.Proofs
set_option maxRecDepth 100000
open Classical in
noncomputable def Bd (s:Nat) (args:List Value) (h:ah):Option (Value×ah):=
 if hx:∃r n,fW ES s n 111 args h=some r then some hx.choose else none
noncomputable def Ww (s:Nat):FuncId→List Value→ah→Option (Value×ah):=fun g args h=>match Nat.beq g 111 with
 |true=>Bd s args h
 |false=>none
noncomputable def EC (s:Nat):=lW Tryz.prog [] (Ww s)
theorem Wx (hm:Tryz.prog.follows .mixedOrders=true) (s B:Nat):kf Tryz.prog (EC s) s B:=by
 intro μ h w g args args' v h' hc hr H F n hF;have nW:Ww s g args h=some (v,h'):=hc;unfold Ww at nW;split at nW
 ·rename_i hg;obtain rfl:=beq_iff.1 hg;unfold Bd at nW;split at nW
  ·rename_i hx;have hsp:=hx.choose_spec;rw[Option.some.injEq]at nW;rw[nW]at hsp;obtain⟨k,hk⟩:=hsp;have H2:bB ES s B μ h w:=⟨H.g8,H.high,H.obj,H.own,H.alias,H.dQ,H.dN,H.low,H.mF,H.wf,H.root⟩;refine(Ac (uy Tryz.prog [] mN) so hm k μ h w 111 args args' v h' hk hr H2 F n hF).mono fun e w' ⟨v',bd,h1,h2,h3⟩=>?_;exact⟨v',bd,h1,h2,⟨⟨h3.rel.g8,h3.rel.high,h3.rel.obj,h3.rel.own,h3.rel.alias,h3.rel.dQ,h3.rel.dN,h3.rel.low,h3.rel.mF,h3.rel.wf,h3.rel.root⟩,h3.grow,h3.le,h3.new,h3.L3,h3.fq⟩⟩
  ·cases nW
 ·cases nW
theorem Iv {s n:Nat} {args:List Value} {h h':ah} {v:Value} (hn:fW ES s n 111 args h=some (v,h')) (hu:∀n r,fW ES s n 111 args h=some r→r=(v,h')):Bd s args h=some (v,h'):=by
 unfold Bd;have hx:∃r n,fW ES s n 111 args h=some r:=⟨_,n,hn⟩;rw[dif_pos hx];obtain⟨k,hk⟩:=hx.choose_spec;rw[hu k _ hk]
end Go.M
namespace Go.M
open Go Go.Proofs
set_option maxRecDepth 100000
set_option maxHeartbeats 4000000
section
variable {E:Env} {base:Nat} {cK:tw} {rK:pt} {ops rest:List Oper} {o:Oper} {f:AF} {g g':ah} {K:AF→ah→Option Out}
theorem bo {X:Option Out} (hw:wanted ops o f=true) (h:Dk E base cK rK o f g (fun v h'=>p7 E base cK rK ops rest (f.put o.dst v) h' K)=X):p7 E base cK rK ops (o::rest) f g K=X:=by
 unfold p7;rw[hw];exact h
theorem cL {K:KV} {v:Value} (hx:∀it,o.op≠ .next it false) (h:aO E f o=some v):Dk E base cK rK o f g K=K v g:=by
 unfold Dk;split
 ·rename_i it e;exact absurd e (hx it)
 ·rw[h]
theorem Be {K:KV} {v:Value} {q:RQ} (hx:∀it,o.op≠ .next it false) (hp:aO E f o=none) (h:bP E f o=some q) (hv:q.run g=some v):Dk E base cK rK o f g K=K v g:=by
 unfold Dk;split
 ·rename_i it e;exact absurd e (hx it)
 ·simp only[hp,h,hv]
theorem Dw {K:KV} {m:Made} {hd:tM} (hx:∀it,o.op≠ .next it false) (hp:aO E f o=none) (hr:bP E f o=none) (h:bt E f o=some (m,hd)):Dk E base cK rK o f g K=K (hd.val g.size) (g.push (m.obj g.size)):=by
 unfold Dk;split
 ·rename_i it e;exact absurd e (hx it)
 ·simp only[hp,h,hr]
theorem zp {K:KV} {v:Value} (hx:∀it,o.op≠ .next it false) (hp:aO E f o=none) (hr:bP E f o=none) (ha:bt E f o=none) (h:dk E base f o g=some (.val v,g')):Dk E base cK rK o f g K=K v g':=by
 unfold Dk;split
 ·rename_i it e;exact absurd e (hx it)
 ·simp only[hp,h,hr,ha]
theorem OY {K:KV} {l:Nat} {args:List Value} (hx:∀it,o.op≠ .next it false) (hp:aO E f o=none) (hr:bP E f o=none) (ha:bt E f o=none) (h:dk E base f o g=some (.round l args,g')):Dk E base cK rK o f g K=rK l args g' K:=by
 unfold Dk;split
 ·rename_i it e;exact absurd e (hx it)
 ·simp only[hp,h,hr,ha]
theorem w6 {K:KV} {l:Nat} {args:List Value} (hx:∀it,o.op≠ .next it false) (hp:aO E f o=none) (hr:bP E f o=none) (ha:bt E f o=none) (h:dk E base f o g=some (.enter l args,g')):Dk E base cK rK o f g K=cK l args g' K:=by
 unfold Dk;split
 ·rename_i it e;exact absurd e (hx it)
 ·simp only[hp,h,hr,ha]
end
theorem eT {E:Env} {base:Nat} {cK:tw} {rK:pt} {ops:List Oper} {f:AF} {g:ah} {K:AF→ah→Option Out}:p7 E base cK rK ops [] f g K=K f g:=rfl
theorem dc {E:Env} {base n:Nat} {a b:Code} {f:AF} {h:ah} {K:KC}:aP E base (n+1) (.seq a b) f h K=aP E base n a f h (fun ex f' h'=>match ex with| .normal=>aP E base n b f' h' K|ex=>K ex f' h'):=rfl
theorem eB {E:Env} {base n id:Nat} {ops:Array Oper} {f:AF} {h:ah} {K:KC}:aP E base (n+1) (.region id ops false) f h K=p7 E base (eP E base (aP E base n)) (j9 base (aP E base n)) ops.toList ops.toList f h fun f' h'=>K .normal f' h':=rfl
noncomputable def oG:Code:=match Tryz.f161.body with|some (.seq _ (.seq (.seq _ (.block _ (.rangeFunc _ _ a _))) _))=>a|_=>.skip
noncomputable def oH:Code:=match Tryz.f161.body with|some (.seq _ (.seq (.seq _ (.block _ (.rangeFunc _ _ _ b))) _))=>b|_=>.skip
@[reducible] def Bf (s:Nat):Value:=.pointer (some ⟨s,0,none⟩)
@[reducible] def Dx (b n c:Nat):Value:=.slice (some ⟨b,0,some 1⟩) n c
noncomputable def OZ (s:Nat) (dg:Value):AF:=((((AF.enter [.slice none 0 0,dg] 13).set 2 (Bf s)).set 4 (.slice none 0 0)).set 6 dg)
def SO (s:Nat) (g:ah) (v:Value) (acc:List Value):Prop:=
 (acc=[]∧v= .slice none 0 0)∨(0<acc.length∧∃b f t0 fy aS,v=Dx b acc.length (acc.length+1)∧g.get b=some (.cells acc f t0 fy)∧g.dQ b=some (f,b,aS)∧aS≤b∧s+3≤f∧f≤b∧b<g.size)
theorem vO {g:ah} {b t:Nat} {v:Value} (h:g.get b=some (.cells [v] b b t)) (ht:t≤b):ai g b 0 1=some [v]:=by
 unfold ai;rw[eu (bR h h) ht (az h)];rfl
theorem append_nil {s:Nat} {g:ah} {k:Int}:bQ (EC s) s (g.push (.cells [.int .u32 k] g.size g.size 0)) 83 83 (.slice none 0 0) (Dx g.size 1 1)=
 some (Dx (g.size+1) 1 2,(g.push (.cells [.int .u32 k] g.size g.size 0)).push (.cells [.int .u32 k] (g.size+1) (g.size+1) 0)):=by
 have hr:ai (g.push (.cells [.int .u32 k] g.size g.size 0)) g.size 0 1=some [.int .u32 k]:=vO (t:=0) (by rw[ah.al,if_pos rfl]) (Nat.zero_le _)
 have:bQ (EC s) s (g.push (.cells [.int .u32 k] g.size g.size 0)) 83 83 (.slice none 0 0) (Dx g.size 1 1)=
  (ai (g.push (.cells [.int .u32 k] g.size g.size 0)) g.size 0 1).bind fun new=>bL (Nat.beq new.length 1) (some (fresh (g.push (.cells [.int .u32 k] g.size g.size 0)) new 1 1)):=by
  rfl
 rw[this,hr];simp only[Option.bind_some,fresh,ah.size_push];rfl
theorem K6 {s b n f t0 fy aS x:Nat} {g:ah} {k:Int} {acc:List Value} (hx:ai g x 0 1=some [.int .u32 k]) (hb:g.get b=some (.cells acc f t0 fy)) (hf:g.dQ b=some (f,b,aS)) (ht:aS≤b) (hs:s≤f) (hn:acc.length=n) (hlen:n≤1000000):
 bQ (EC s) s g 83 83 (Dx b n (n+1)) (Dx x 1 1)=some (Dx g.size (n+1) (n+1+1),eL g f aS (acc++[.int .u32 k])):=by
 have hr:ai g b 0 (n*1)=some acc:=by
  unfold ai;rw[eu hf ht (az hb)];simp only[Option.bind_some,List.drop_zero,bf];exact⟨om,by rw[List.take_of_length_le om]⟩
 have e:bQ (EC s) s g 83 83 (Dx b n (n+1)) (Dx x 1 1)=bL (Nat.ble ((n+1+1)*5) 1099511627776) ((ai g b 0 (n*1)).bind fun old=>(ai g x 0 1).bind fun new=>bL (Nat.beq new.length 1)
  (bif Nat.beq (n+1) n then some (fresh g (old++new) 1 (n+1))else(g.cellsOf b).bind fun cs=>(g.dQ b).bind fun r=>bL (Nat.ble s r.1&&Nat.beq r.2.1 b&&new.all fU)
   (some (Dx g.size (n+1) (n+1+1),(g.bM r.1 g.size (bif Nat.beq (0+n*1) cs.length then r.2.2 else g.size)).push (.cells (old++new) r.1 0 0))))):=rfl
 rw[e,hr,hx];simp only[Option.bind_some,az hb,hf];have h1:Nat.ble ((n+1+1)*5) 1099511627776=true:=aL.2 om
 have h2:Nat.beq (n+1) n=false:=by cases hh:Nat.beq (n+1) n with
  |false=>rfl
  |true=>have:=beq_iff.1 hh;omega
 have h3:Nat.ble s f=true:=aL.2 hs;have h4:Nat.beq b b=true:=beq_iff.2 rfl;have h5:Nat.beq (0+n*1) acc.length=true:=beq_iff.2 om;rw[h1,h2,h3,h4,h5];rfl
theorem O0 {s:Nat} {g:ah} {v v':Value} {t:Nat} (h:g.get s=some (.cells [v] s s t)) (ht:t≤s) (hv:v'.cells= #[v']) (_:fU v'=true):
 ((g.rd s).bind fun cs=>(dz cs 0 v'.cells.toList).bind fun cs'=>(g.wr s s cs').bind fun h'=>some (mj.val undef,h'))=some (.val undef,(g.setCells s [v']).bM s s s):=by
 rw[eu (bR h h) ht (az h),hv];have:g.wr s s [v']=some ((g.setCells s [v']).bM s s s):=by
  unfold ah.wr;rw[aL.2 (Nat.le_refl s),bR h h];simp only[bL,Option.bind_some,beq_iff.2 (rfl:s=s),aL.2 (Nat.le_refl s)]
 show((g.wr s s [v']).bind fun h'=>some (mj.val undef,h'))=_;rw[this];rfl
theorem iU {s:Nat} {g:ah} {v v':Value} {t:Nat} (h:g.get s=some (.cells [v] s s t)) (c:Nat):((g.setCells s [v']).bM s s s).get c=if c=s then some (.cells [v'] s s s)else g.get c:=by
 rw[bF];by_cases e:c=s
 ·subst e;rw[if_pos rfl,if_pos rfl,bN,if_pos rfl,h]
 ·rw[if_neg e,if_neg e,bN,if_neg e]
theorem Dy {s:Nat} {g:ah} {v v':Value} {t:Nat} (h:g.get s=some (.cells [v] s s t)) {b:Nat} {r:Nat×Nat×Nat} (hr:g.dQ b=some r) (bC:r.1≠s):((g.setCells s [v']).bM s s s).dQ b=some r:=by
 have hc:(g.setCells s [v']).get s=some (.cells [v'] s s t):=by rw[bN,if_pos rfl,h]
 rw[tQ hc,uU,hr];simp[bC]
structure Nxt (s:Nat) (g g':ah) (acc:List Value) (k:Int):Prop where
 wf:Wf g'
 size:g'.size=g.size+2
 box:∃v,g'.get s=some (.cells [v] s s s)∧SO s g' v (acc++[.int .u32 k])
 bx:∀c,c<s+3→c≠s→g'.get c=g.get c
theorem Wf.Iw {h:ah} (W:Wf h) {c:Nat} {o1 o:eC} (hc:h.get c=some o1) (n2:bJ o=true):Wf (h.put c o):=by
 have bw:=W.lt hc;refine⟨fun b hb=>?_,fun b cs f dj aS hg=>?_⟩
 ·rw[ah.size_put]at hb;rw[ah.br,if_neg om];exact W.high b hb
 ·rw[ah.br]at hg;by_cases e:b=c
  ·rw[if_pos e]at hg;cases hg;simp[bJ]at n2
  ·rw[if_neg e]at hg;exact W.le _ _ _ _ _ hg
theorem Ix {s:Nat} {g:ah} {v v':Value} {t:Nat} (W:Wf g) (h:g.get s=some (.cells [v] s s t)):Wf ((g.setCells s [v']).bM s s s):=by
 have bw:=W.lt h;refine⟨fun b hb=>?_,fun b cs f dj aS hg=>?_⟩
 ·rw[bI,cX]at hb;rw[iU h,if_neg om];exact W.high b hb
 ·rw[iU h]at hg;by_cases e:b=s
  ·rw[if_pos e]at hg;cases hg;omega
  ·rw[if_neg e]at hg;exact W.le _ _ _ _ _ hg
theorem O1 {s:Nat} {g:ah} {v:Value} {t:Nat} {acc:List Value} {k:Int} (W:Wf g) (fq:s+3≤g.size) (h:g.get s=some (.cells [v] s s t)) (_:t≤s) (hv:SO s g v acc) (hlen:acc.length≤1000000):
 ∃v' g3,bQ (EC s) s (g.push (.cells [.int .u32 k] g.size g.size 0)) 83 83 v (Dx g.size 1 1)=some (v',g3)∧g3.get s=some (.cells [v] s s t)∧v'.cells= #[v']∧fU v'=true∧Nxt s g ((g3.setCells s [v']).bM s s s) acc k:=by
 obtain⟨g1,od⟩:∃g1,g1=g.push (.cells [.int .u32 k] g.size g.size 0):=⟨_,rfl⟩;have K7:∀c,c<g.size→g1.get c=g.get c:=fun c hc=>by rw[od,ah.al,if_neg om]
 have Qu:g1.size=g.size+1:=by rw[od,ah.size_push]
 have ajm:g1.get g.size=some (.cells [.int .u32 k] g.size g.size 0):=by rw[od,ah.al,if_pos rfl]
 have hx:ai g1 g.size 0 1=some [.int .u32 k]:=vO ajm (Nat.zero_le _);have W1:Wf g1:=by rw[od];exact W.push (fun cs f dj aS e=>by cases e;exact Nat.le_refl _)
 rw[←od];rcases hv with⟨rfl,rfl⟩|⟨BW,b,f,t0,fy,aS,rfl,hb,hf,JA,hsf,YW,OM⟩
 ·have ha:bQ (EC s) s g1 83 83 (.slice none 0 0) (Dx g.size 1 1)=some (Dx (g.size+1) 1 2,g1.push (.cells [.int .u32 k] (g.size+1) (g.size+1) 0)):=by rw[od];exact append_nil
  obtain⟨g3,O2⟩:∃g3,g3=g1.push (.cells [.int .u32 k] (g.size+1) (g.size+1) 0):=⟨_,rfl⟩;rw[←O2]at ha;have SP:∀c,c<g.size→g3.get c=g.get c:=fun c hc=>by rw[O2,ah.al,Qu,if_neg om];exact K7 c hc
  have O3:g3.get (g.size+1)=some (.cells [.int .u32 k] (g.size+1) (g.size+1) 0):=by rw[O2,ah.al,Qu,if_pos rfl]
  have h3:g3.get s=some (.cells [.slice none 0 0] s s t):=(SP s om).trans h;have W3:Wf g3:=by rw[O2];exact W1.push (fun cs f dj aS e=>by cases e;omega)
  refine⟨_,g3,ha,h3,rfl,rfl,⟨Ix W3 h3,?_,⟨Dx (g.size+1) 1 2,?_,.inr ⟨by simp,g.size+1,g.size+1,g.size+1,0,0,rfl,?_,?_,om,by omega,Nat.le_refl _,?_⟩⟩,fun c hc bC=>?_⟩⟩
  ·rw[bI,cX,O2,ah.size_push,Qu]
  ·rw[iU h3,if_pos rfl]
  ·rw[iU h3,if_neg om];exact O3
  ·exact Dy h3 (bR O3 O3) (by simp;omega)
  ·rw[bI,cX,O2,ah.size_push,Qu];omega
  ·rw[iU h3,if_neg bC];exact SP c om
 ·have rW:g1.get b=some (.cells acc f t0 fy):=(K7 b OM).trans hb;obtain⟨c0,bZ⟩:=bS hf;simp only at bZ;have tS:g1.get f=some (.cells c0 f b aS):=(K7 f om).trans bZ;have hf1:g1.dQ b=some (f,b,aS):=bR rW tS;have ha:=K6 (s:=s) (x:=g.size) (g:=g1) (k:=k) hx rW hf1 JA om rfl hlen;obtain⟨g3,O2⟩:∃g3,g3=eL g1 f aS (acc++[.int .u32 k]):=⟨_,rfl⟩;rw[←O2,Qu]at ha;have SP:∀c,c<g.size→c≠f→g3.get c=g.get c:=fun c hc bC=>by
   rw[O2];unfold eL;rw[ah.al,bI,Qu,if_neg om,bF,if_neg bC];exact K7 c hc
  have O3:g3.get (g.size+1)=some (.cells (acc++[.int .u32 k]) f 0 0):=by
   rw[O2];unfold eL;rw[ah.al,bI,Qu,if_pos rfl]
  have afo:g3.get f=some (.cells c0 f (g.size+1) aS):=by
   rw[O2];unfold eL;rw[ah.al,bI,Qu,if_neg om,bF,if_pos rfl,tS]
  have h3:g3.get s=some (.cells [Dx b acc.length (acc.length+1)] s s t):=(SP s om om).trans h;have hs3:g3.size=g.size+2:=by rw[O2];unfold eL;rw[ah.size_push,bI,Qu]
  have W3:Wf g3:=by rw[O2];exact Rm W1 tS
  refine⟨_,g3,ha,h3,rfl,rfl,⟨Ix W3 h3,?_,⟨Dx (g.size+1) (acc.length+1) (acc.length+1+1),?_,.inr ⟨by simp,g.size+1,f,0,0,aS,by simp,?_,?_,om,by omega,om,?_⟩⟩,fun c hc bC=>?_⟩⟩
  ·rw[bI,cX,hs3]
  ·rw[iU h3,if_pos rfl]
  ·rw[iU h3,if_neg om];exact O3
  ·exact Dy h3 (bR O3 afo) (by simp;omega)
  ·rw[bI,cX,hs3];omega
  ·rw[iU h3,if_neg bC];exact SP c om om
theorem Wy {s n:Nat} {g:ah} {v:Value} {t:Nat} {acc:List Value} {k:Int} {dg:Value} (W:Wf g) (fq:s+3≤g.size) (h:g.get s=some (.cells [v] s s t)) (ht:t≤s) (hv:SO s g v acc) (hlen:acc.length≤1000000):
 ∃f' g',Nxt s g g' acc k∧∀K:KC,aP (EC s) s (n+2) oH ((AF.jc ([7].zip [.int .u32 k]) (OZ s dg)).set 5 (.int .u32 k)) g K=K .normal f' g':=by
 obtain⟨v',g3,ha,h3,hc,ho,hN⟩:=O1 (k:=k) W fq h ht hv hlen;refine⟨((((((AF.jc ([7].zip [.int .u32 k]) (OZ s dg)).set 5 (.int .u32 k)).set 8 v).set 9 (.int .u32 k)).set 10 (Dx g.size 1 1)).set 11 v'),_,hN,fun K=>?_⟩;show p7 (EC s) s (eP (EC s) s (aP (EC s) s n)) (j9 s (aP (EC s) s n)) _ _ _ g _=_;refine bo rfl ?_;refine(Be (v:=v) (q:=.cells false s 0 1) (fun it=>by simp) rfl rfl (by show(ai g s 0 1).bind _=_;rw[vO h ht];rfl)).trans ?_;refine bo rfl ?_;refine(cL (v:=.int .u32 k) (fun it=>by simp) rfl).trans ?_;refine bo rfl ?_
 refine(Dw (m:=.cells [.int .u32 k]) (hd:=.slice 1 1 1) (fun it=>by simp) rfl rfl rfl).trans ?_;refine bo rfl ?_;refine(zp (v:=v') (g':=g3) (fun it=>by simp) rfl rfl rfl ?_).trans ?_
 ·show((match bQ (EC s) s (g.push (.cells [.int .u32 k] g.size g.size 0)) 83 83 v (Dx g.size 1 1)with|some r=>some r|none=>jg (EC s) (g.push (.cells [.int .u32 k] g.size g.size 0)) 83 83 v (Dx g.size 1 1)).bind fun r=>some (mj.val r.1,r.2))=_;rw[ha];rfl
 refine bo rfl ?_;refine(zp (v:=undef) (g':=(g3.setCells s [v']).bM s s s) (fun it=>by simp) rfl rfl rfl ?_).trans ?_
 ·show((EC s).size 83).bind (fun n=>(some (s,0)).bind fun p=>bL (Nat.beq v'.cells.size n&&v'.cells.toList.all fU) ((g3.rd p.1).bind fun cs=>(dz cs p.2 v'.cells.toList).bind fun cs'=>(g3.wr s p.1 cs').bind fun h'=>some (mj.val undef,h')))=_;have hg:(Nat.beq v'.cells.size 1&&v'.cells.toList.all fU)=true:=by rw[hc];simp[ho]
  show bL (Nat.beq v'.cells.size 1&&v'.cells.toList.all fU) ((g3.rd s).bind fun cs=>(dz cs 0 v'.cells.toList).bind fun cs'=>(g3.wr s s cs').bind fun h'=>some (mj.val undef,h'))=_;rw[hg];exact O0 h3 ht hc ho
 rfl
theorem O4 {s n:Nat} {f:AF} {g:ah} {K:KC}:aP (EC s) s (n+1) oG f g K=K .normal (f.set 5 (f.get 7)) g:=rfl
structure St (s m:Nat) (dg:Value) (es:List MapEntry) (clock:Nat) (acc:List Value) (seen:List Nat) (g:ah):Prop where
 sz:s+3≤g.size
 box:∃v t,g.get s=some (.cells [v] s s t)∧t≤s∧SO s g v acc
 lp:g.get (s+1)=some (.loop .ready none (OZ s dg) [7] oG oH)
 it:g.get (s+2)=some (.cV (some m) clock seen clock)
 mp:g.get m=some (.map es clock)
 lt:m<s
 wf:Wf g
theorem SO.put {s c:Nat} {g:ah} {v:Value} {acc:List Value} {o1 o:eC} (h:SO s g v acc) (hc:g.get c=some o1) (n1:bJ o1=true) (n2:bJ o=true) (bw:c<s+3):SO s (g.put c o) v acc:=by
 rcases h with h|⟨hp,b,f,t0,fy,aS,q1,q2,q3,q4,q5,q6,q7⟩
 ·exact .inl h
 ·exact .inr ⟨hp,b,f,t0,fy,aS,q1,by rw[ah.br,if_neg om];exact q2,by rw[uV hc n1 n2];exact q3,q4,q5,q6,q7⟩
theorem SQ {s m n:Nat} {dg:Value} {es:List MapEntry} {clock:Nat} {acc:List Value} {seen:List Nat} {g:ah} {k:Int} (H:St s m dg es clock acc seen g) (hlen:acc.length≤1000000):
 ∃g',St s m dg es clock (acc++[.int .u32 k]) seen g'∧∀K:KV,j9 s (aP (EC s) s (n+2)) (s+1) [.int .u32 k] g K=K (.bool true) g':=by
 obtain⟨v,t,hb,ht,hv⟩:=H.box;have fq:=H.sz;obtain⟨g1,od⟩:∃g1,g1=g.put (s+1) (.loop .busy none (OZ s dg) [7] oG oH):=⟨_,rfl⟩;have K7:∀c,c≠s+1→g1.get c=g.get c:=fun c hc=>by rw[od,ah.br,if_neg hc]
 have zc:SO s g1 v acc:=by rw[od];exact hv.put H.lp rfl rfl om
 obtain⟨f',g2,hN,hK⟩:=Wy (n:=n) (k:=k) (dg:=dg) (by rw[od];exact H.wf.Iw H.lp rfl) (by rw[od];exact fq) ((K7 s om).trans hb) ht zc hlen;obtain⟨v2,uO,QX⟩:=hN.box;have Mc:g2.get (s+1)=some (.loop .busy none (OZ s dg) [7] oG oH):=by rw[hN.bx _ om om,od,ah.br,if_pos rfl]
 have afq:∀c,c<s+3→c≠s→c≠s+1→g2.get c=g.get c:=fun c h1 h2 h3=>(hN.bx c h1 h2).trans (K7 c h3);refine⟨g2.put (s+1) (.loop .ready none (OZ s dg) [7] oG oH),⟨?_,⟨v2,s,?_,Nat.le_refl _,QX.put Mc rfl rfl om⟩,?_,?_,?_,H.lt,hN.wf.Iw Mc rfl⟩,fun K=>?_⟩
 ·rw[ah.size_put,hN.size,od,ah.size_put];omega
 ·rw[ah.br,if_neg om];exact uO
 ·rw[ah.br,if_pos rfl]
 ·rw[ah.br,if_neg om,afq _ om om om];exact H.it
 ·have:=H.lt;rw[ah.br,if_neg om,afq _ om om om];exact H.mp
 ·unfold j9;rw[H.lp,aL.2 (show s≤s+1 by omega)];have hc:(Nat.beq ([7]:List Nat).length [Value.int .u32 k].length&&aZ oG&&aZ oH)=true:=rfl;simp only[bL,hc];rw[O4,show(AF.jc ([7].zip [Value.int .u32 k]) (OZ s dg)).get 7= .int .u32 k from rfl];simp only[H.lp];rw[←od,hK];simp only[Mc]
noncomputable def Iy:Code:=match Tryz.f112.body with|some (.seq _ (.block _ (.loop b)))=>b|_=>.skip
noncomputable def kB1:Code:=match Iy with| .seq _ (.seq _ (.block _ b))=>b|_=>.skip
theorem gs {f:AF} {t:Nat} {v:Value} (h:t<f.n):(f.set t v).get t=v:=by rw[AF.iB,if_pos ⟨rfl,h⟩]
theorem gn {f:AF} {t u:Nat} {v:Value} (h:u≠t):(f.set t v).get u=f.get u:=by rw[AF.iB,if_neg (fun e=>h e.1)]
structure MS (s:Nat) (f:AF):Prop where
 n:f.n=14
 g0:f.get 0= .func (.yield (s+1)) #[] #[]
 g5:f.get 5=Bf (s+2)
theorem MS.set {s t:Nat} {f:AF} {v:Value} (H:MS s f) (h0:0≠t) (h5:5≠t):MS s (f.set t v):=⟨(AF.zG _ _ _).trans H.n,(gn h0).trans H.g0,(gn h5).trans H.g5⟩
theorem K8 {E:Env} {f:AF} {t:Nat} {cs:List Value} {o:Oper} {i:Nat} {v:Value} (ho:o.op= .extract (.tmp t) i) (h:f.get t= .tuple cs.toArray) (hv:cs[i]? =some v):aO E f o=some v:=by
 unfold aO;rw[ho];show((ev E f (.tmp t)).bind fun v=>(match v with| .tuple vs=>vs.toList[i]? |_=>none))=_;rw[show ev E f (.tmp t)=some (f.get t)from rfl,h];simpa using hv
theorem find_born {es:List MapEntry} (hn:(es.map (·.born)).Nodup) {e:MapEntry} (he:e∈es):es.find? (fun x=>x.born==e.born)=some e:=by
 induction es with
 |nil=>cases he
 |cons a l ih=>
  rw[List.find?_cons];rcases List.mem_cons.1 he with rfl |he
  ·simp
  ·have bC:a.born≠e.born:=fun h=>by
    simp only[List.map_cons,List.nodup_cons]at hn;exact hn.1 (List.mem_map.2 ⟨e,he,h.symm⟩)
   have:(a.born==e.born)=false:=by simpa using bC
   rw[this];exact ih (List.nodup_cons.1 (by simpa using hn)).2 he
theorem Wz {s m n:Nat} {dg:Value} {es:List MapEntry} {clock:Nat} {acc:List Value} {seen:List Nat} {g:ah} {f:AF} {e:MapEntry} {k:Int} (H:St s m dg es clock acc (seen++[e.born]) g) (hf:MS s f) (hlen:acc.length≤1000000) (bz:xT es clock) (he:e∈es) (hk:e.key= .int .u32 k):
 ∃f' g',St s m dg es clock (acc++[.int .u32 k]) (seen++[e.born]) g'∧MS s f'∧∀K:KC,aP (EC s) s (n+5) kB1 f g K=K .normal f' g':=by
 obtain⟨g',H',hy⟩:=SQ (n:=n) (k:=k) H hlen;have ajn:qg g (s+2)=some (.tuple #[e.key,e.val]):=by
  unfold qg;rw[H.it];simp only[H.mp,List.getLast?_append,List.getLast?_singleton,Option.some_or,Option.bind_some,bL,beq_iff.2 (rfl:clock=clock),find_born bz.2 he]
 obtain⟨f8,h8⟩:∃x,x=f.set 8 (.tuple #[e.key,e.val]):=⟨_,rfl⟩;have F8:MS s f8:=by rw[h8];exact hf.set om om
 obtain⟨f9,h9⟩:∃x,x=f8.set 9 (.int .u32 k):=⟨_,rfl⟩;have F9:MS s f9:=by rw[h9];exact F8.set om om
 obtain⟨f3,h3⟩:∃x,x=f9.set 3 (.int .u32 k):=⟨_,rfl⟩;have F3:MS s f3:=by rw[h3];exact F9.set om om
 obtain⟨fa,ha⟩:∃x,x=f3.set 10 (.func (.yield (s+1)) #[] #[]):=⟨_,rfl⟩;have Fa:MS s fa:=by rw[ha];exact F3.set om om
 obtain⟨fb,hb⟩:∃x,x=fa.set 11 (.int .u32 k):=⟨_,rfl⟩;have Fb:MS s fb:=by rw[hb];exact Fa.set om om
 obtain⟨fc,hc⟩:∃x,x=fb.set 12 (.bool true):=⟨_,rfl⟩;have Fc:MS s fc:=by rw[hc];exact Fb.set om om
 obtain⟨fd,hd⟩:∃x,x=fc.set 13 (.bool false):=⟨_,rfl⟩;have Fd:MS s fd:=by rw[hd];exact Fc.set om om
 refine⟨fd,g',H',Fd,fun K=>?_⟩;show p7 (EC s) s _ _ _ _ f g _=_;refine bo rfl ?_;refine(zp (v:=.tuple #[e.key,e.val]) (g':=g) (fun it=>by simp) rfl rfl rfl ?_).trans ?_
 ·show((some (f.get 5)).bind fun v=>(oT v).bind fun r=>(qg g r).bind fun v=>some (mj.val v,g))=_;rw[hf.g5];show((qg g (s+2)).bind fun v=>some (mj.val v,g))=_;rw[ajn];rfl
 show p7 (EC s) s _ _ _ _ (f.set 8 (.tuple #[e.key,e.val])) g _=_;rw[←h8];refine bo rfl ?_;refine(cL (v:=.int .u32 k) (fun it=>by simp) (K8 (cs:=[e.key,e.val]) rfl (by rw[h8,gs (by rw[hf.n];omega)]) (by rw[hk];rfl))).trans ?_;show p7 (EC s) s _ _ _ _ (f8.set 9 (.int .u32 k)) g _=_;rw[←h9];refine bo rfl ?_;refine(cL (v:=.int .u32 k) (fun it=>by simp) (by show some (f9.get 9)=_;rw[h9,gs (by rw[F8.n];omega)])).trans ?_;rw[eT];show aP (EC s) s (n+4) _ (f9.set 3 (.int .u32 k)) g K=_;rw[dc,eB];rw[←h3];refine bo rfl ?_
 refine(cL (v:=.func (.yield (s+1)) #[] #[]) (fun it=>by simp) (by show some (f3.get 0)=_;rw[F3.g0])).trans ?_;show p7 (EC s) s _ _ _ _ (f3.set 10 (.func (.yield (s+1)) #[] #[])) g _=_;rw[←ha];refine bo rfl ?_;refine(cL (v:=.int .u32 k) (fun it=>by simp) (by show some (fa.get 3)=_;rw[ha,gn om,h3,gs (by rw[F9.n];omega)])).trans ?_;show p7 (EC s) s _ _ _ _ (fa.set 11 (.int .u32 k)) g _=_;rw[←hb];refine bo rfl ?_;refine(OY (l:=s+1) (args:=[.int .u32 k]) (g':=g) (fun it=>by simp) rfl rfl rfl ?_).trans ?_
 ·show((some (fb.get 11)).bind fun v=>(some []).bind fun vs=>some (v::vs)).bind (fun args=>(some (fb.get 10)).bind fun g0=>(match g0 with
   | .func (.func g1) first captured=>some (mj.enter g1 (first.toList++args++captured.toList),g)
   | .func (.yield l) first _=>some (.round l (first.toList++args),g)
   |_=>none))=_
  rw[hb,gs (by rw[Fa.n];omega),gn om,ha,gs (by rw[F3.n];omega)];rfl
 rw[hy];show p7 (EC s) s _ _ _ _ (fb.set 12 (.bool true)) g' _=_;rw[←hc];refine bo rfl ?_;refine(cL (v:=.bool false) (fun it=>by simp) (by show((some (fc.get 12)).bind fun a=>bL (scalar a) (e8 (Op.unary .not a)))=_;rw[hc,gs (by rw[Fb.n];omega)];rfl)).trans ?_;rw[eT]
 show(match(some ((fc.set 13 (.bool false)).get 13)).bind Gs with
  |some true=>_
  |some false=>_
  |none=>none)=_
 rw[gs (by rw[Fc.n];omega)];subst hd;rfl
theorem SR {X:Out} (hX:gZ X X=true):∀{l:List (Option Out)},l≠[]→(∀x∈l,x=some X)→meet l=some X
 |[],h,_=>absurd rfl h
 |x::xs,_,h=>by
  obtain rfl:=h x List.mem_cons_self;unfold meet;have gen:∀b,b=true→bL b (some X)=some X:=by rintro _ rfl;rfl
  refine gen _ ?_;rw[List.all_eq_true];intro y hy;rw[h y (List.mem_cons_of_mem _ hy)];exact hX
theorem SU {s m:Nat} {dg:Value} {es:List MapEntry} {clock:Nat} {acc:List Value} {seen:List Nat} {g:ah} {b:Nat} (H:St s m dg es clock acc seen g):St s m dg es clock acc (seen++[b]) (g.put (s+2) (.cV (some m) clock (seen++[b]) clock)):=by
 obtain⟨v,t,hb,ht,hv⟩:=H.box;have:=H.lt;exact⟨by rw[ah.size_put];exact H.sz,⟨v,t,by rw[ah.br,if_neg om];exact hb,ht,hv.put H.it rfl rfl om⟩,by rw[ah.br,if_neg om];exact H.lp,by rw[ah.br,if_pos rfl],by rw[ah.br,if_neg om];exact H.mp,H.lt,H.wf.Iw H.it rfl⟩
def SV (e:MapEntry):Prop:=∃k:Int,e.key= .int .u32 k
theorem Bg {E:Env} {base n:Nat} {b:Code} {f:AF} {h:ah} {K:KC}:aP E base (n+1) (.loop b) f h K=aP E base n b f h (fun ex f' h'=>match ex with| .normal=>aP E base n (.loop b) f' h' K|ex=>K ex f' h'):=rfl
theorem qX {E:Env} {base n id:Nat} {b:Code} {f:AF} {h:ah} {K:KC}:aP E base (n+1) (.block id b) f h K=aP E base n b f h (fun ex f' h'=>match ex with| .exit nU=>bif Nat.beq nU id then K .normal f' h' else K (.exit nU) f' h'|ex=>K ex f' h'):=rfl
theorem Iz {E:Env} {base:Nat} {cK:tw} {rK:pt} {o:Oper} {f:AF} {g:ah} {K:KV} {it:Operand} {r:Nat} (ho:o.op= .next it false) (h:(ev E f it).bind oT=some r):Dk E base cK rK o f g K=AX g r base K:=by
 unfold Dk;split
 ·rename_i it' e;rw[ho]at e;cases e;rw[h]
 ·rename_i hx;exact absurd ho (hx it)
def mT (es ch:List MapEntry):List MapEntry:=es.filter fun e=> !(ch.map (·.born)).contains e.born
theorem O5 {l:List MapEntry} (hn:(l.map (·.born)).Nodup) {e:MapEntry} (he:e∈l):l.Perm (e::l.filter fun x=> !(x.born==e.born)):=by
 induction l with
 |nil=>cases he
 |cons a l ih=>
  have U8:=List.nodup_cons.1 (show(a.born::l.map (·.born)).Nodup from hn);rcases List.mem_cons.1 he with rfl |he
  ·rw[List.filter_cons_of_neg (by simp)];have:l.filter (fun x=> !(x.born==e.born))=l:=by
    rw[List.filter_eq_self];intro x hx;have:x.born≠e.born:=fun h=>U8.1 (List.mem_map.2 ⟨x,hx,h⟩);simpa using this
   rw[this]
  ·have bC:a.born≠e.born:=fun h=>U8.1 (List.mem_map.2 ⟨e,he,h.symm⟩);rw[List.filter_cons_of_pos (by simpa using bC)];exact((ih U8.2 he).cons a).trans (.swap _ _ _)
theorem O6 (es ch:List MapEntry) (e:MapEntry):mT es (ch++[e])=(mT es ch).filter fun x=> !(x.born==e.born):=by
 unfold mT;rw[List.filter_filter];refine List.filter_congr fun x _=>?_;simp only[List.map_append,List.map_cons,List.map_nil,List.contains_eq_mem,List.mem_append,List.mem_singleton];by_cases h1:x.born∈ch.map (·.born)<;>by_cases h2:x.born=e.born<;>simp_all
theorem IA {E:Env} {base n:Nat} {c:Operand} {a b:Code} {f:AF} {h:ah} {K:KC} (hc:(ev E f c).bind Gs=some false):aP E base (n+1) (.cond c a b) f h K=aP E base n b f h K:=by
 show(match(ev E f c).bind Gs with|some true=>aP E base n a f h K|some false=>aP E base n b f h K|none=>none)=_;rw[hc]
theorem IB {E:Env} {base n:Nat} {c:Operand} {a b:Code} {f:AF} {h:ah} {K:KC} (hc:(ev E f c).bind Gs=some true):aP E base (n+1) (.cond c a b) f h K=aP E base n a f h K:=by
 show(match(ev E f c).bind Gs with|some true=>aP E base n a f h K|some false=>aP E base n b f h K|none=>none)=_;rw[hc]
theorem K9 {E:Env} {base n:Nat} {f:AF} {h:ah} {K:KC}:aP E base (n+1) .skip f h K=K .normal f h:=rfl
theorem IC {es:List MapEntry} {clock:Nat} {seen:List Nat} (bz:xT es clock):(!(!seen.isEmpty&& !es.isEmpty&&es.all (fun e=>Nat.ble clock e.born)))=true:=by
 cases es with
 |nil=>simp
 |cons e l=>
  have:=bz.1 e List.mem_cons_self
  have hb:Nat.ble clock e.born=false:=by cases hh:Nat.ble clock e.born with
   |false=>rfl
   |true=>have:=aL.1 hh;omega
  simp[hb]
theorem WA {s m:Nat} {dg:Value} {es:List MapEntry} {clock:Nat} {X:Out} (hX:gZ X X=true) (bz:xT es clock) (nw:∀e∈es,SV e) (hlen:es.length≤1000000) {K:KC}
 (hK:∀(ch:List MapEntry) f g,St s m dg es clock (ch.map (·.key)) (ch.map (·.born)) g→ch.Perm es→K (.exit 0) f g=some X):
 ∀(r n:Nat) (ch:List MapEntry) (f:AF) (g:ah),St s m dg es clock (ch.map (·.key)) (ch.map (·.born)) g→MS s f→(ch++mT es ch).Perm es→(mT es ch).length=r→aP (EC s) s (n+r+9) (.loop Iy) f g K=some X:=by
 intro r
 induction r with
 |zero=>
  intro n ch f g H hf hp hr;have hl:mT es ch=[]:=List.eq_nil_of_length_eq_zero hr;rw[hl,List.append_nil]at hp;rw[Bg];show aP (EC s) s (n+8) (.seq _ (.seq (.cond _ .skip (.exit 0)) _)) f g _=_;rw[dc,eB];refine bo rfl ?_;refine(Iz (it:=.tmp 5) (r:=s+2) rfl (by show(some (f.get 5)).bind oT=_;rw[hf.g5];rfl)).trans ?_;unfold AX;rw[aL.2 (show s≤s+2 by omega),H.it];simp only[H.mp,bL,IC bz,show es.filter (fun e=> !(ch.map (·.born)).contains e.born)=[]from hl];refine bo rfl ?_
  refine(cL (v:=.bool false) (fun it=>by simp) (K8 (cs:=[.bool false]) rfl (by show(f.set 6 _).get 6=_;rw[gs (by rw[hf.n];omega)]) rfl)).trans ?_;rw[eT];show aP (EC s) s (n+7) (.seq (.cond (.tmp 7) .skip (.exit 0)) _) ((f.set 6 (.tuple #[.bool false])).set 7 (.bool false)) g _=_;rw[dc,IA (by show(some (AF.get _ 7)).bind Gs=_;rw[gs (by rw[AF.zG,hf.n];omega)];rfl)];exact hK ch _ g H hp
 |succ r ih=>
  intro n ch f g H hf hp hr;have bC:mT es ch≠[]:=fun h=>by rw[h]at hr;simp at hr
  rw[Bg];show aP (EC s) s (n+(r+1)+8) (.seq _ (.seq (.cond _ .skip (.exit 0)) (.block 1 kB1))) f g _=_;rw[dc,eB];refine bo rfl ?_;refine(Iz (it:=.tmp 5) (r:=s+2) rfl (by show(some (f.get 5)).bind oT=_;rw[hf.g5];rfl)).trans ?_;unfold AX;rw[aL.2 (show s≤s+2 by omega),H.it];simp only[H.mp,bL,IC bz];generalize hl:es.filter (fun e=> !(ch.map (·.born)).contains e.born)=l;have vw:mT es ch=l:=hl;rw[vw]at bC hr hp;cases l with
  |nil=>exact absurd rfl bC
  |cons e0 l0=>
   show meet (List.map _ (e0::l0))=_;refine SR hX (by simp) fun x hx=>?_;obtain⟨e,he,rfl⟩:=List.mem_map.1 hx;have Mu:e∈mT es ch:=by rw[vw];exact he
   have nv:e∈es:=(List.mem_filter.1 Mu).1;obtain⟨k,hk⟩:=nw e nv;have pR:(e0::l0).Perm (e::mT es (ch++[e])):=by
    rw[O6,vw];exact O5 (by rw[←vw];exact List.Nodup.sublist ((List.filter_sublist (l:=es)).map _) bz.2) he
   have hp2:((ch++[e])++mT es (ch++[e])).Perm es:=by
    refine List.Perm.trans ?_ hp;rw[List.append_assoc];exact(pR.symm.append_left ch)
   have oO:(mT es (ch++[e])).length=r:=by
    have:=pR.length_eq;rw[hr]at this;simpa using this.symm
   have cH:ch.length≤es.length:=by
    have:=hp.length_eq;simp at this;omega
   have ajo:Nat.blt e.born clock=true:=bc.2 (bz.1 e nv);simp only[ajo];refine bo rfl ?_;refine(cL (v:=.bool true) (fun it=>by simp) (K8 (cs:=[.bool true,e.key,e.val]) rfl (by show(f.set 6 _).get 6=_;rw[gs (by rw[hf.n];omega)]) rfl)).trans ?_;rw[eT];have F7:MS s ((f.set 6 (.tuple #[.bool true,e.key,e.val])).set 7 (.bool true)):=(hf.set om om).set om om;obtain⟨f',g',H',BP,hT⟩:=Wz (n:=n+r+1) (SU H) F7 (by simpa using Nat.le_trans cH hlen) bz nv hk;show aP (EC s) s (n+r+8) (.seq (.cond (.tmp 7) .skip (.exit 0)) (.block 1 kB1)) ((f.set 6 (.tuple #[.bool true,e.key,e.val])).set 7 (.bool true)) _ _=_
   rw[dc,IB (by show(some (AF.get _ 7)).bind Gs=_;rw[gs (by rw[AF.zG,hf.n];omega)];rfl)];rw[K9];show aP (EC s) s (n+r+7) (.block 1 kB1) _ _ _=_;rw[qX];rw[show n+r+6=n+r+1+5 by omega];rw[hT];show aP (EC s) s (n+(r+1)+8) (.loop Iy) f' g' K=_;rw[show n+(r+1)+8=n+r+9 by omega];exact ih n (ch++[e]) f' g' (by simpa[hk]using H') BP hp2 oO
@[reducible] def km (B:Nat):Value:=.func (.func 112) #[] #[Bf B]
theorem pC {E:Env} {base:Nat} {run:OG} {g:FuncId} {fn:Func} {code:Code} {args:List Value} {h:ah} {K:KV} (hf:E.func g=some fn) (ho:E.v9 base g args h=none) (hb:fn.body=some code) (hl:Nat.ble args.length fn.ntmps=true):
 eP E base run g args h K=run code (AF.enter args fn.ntmps) h (fun ex f h'=>match ex with
  | .exit _=>none
  |_=>match cY E h' f fn.results.toList with
   |some vs=>K (ct vs) h'
   |none=>none):=by
 unfold eP;rw[hf];simp only[ho,hb,hl,bL];rfl
noncomputable def kR0:Array Oper:=match Tryz.f112.body with|some (.seq (.region _ o _) _)=>o|_=> #[]
theorem SW {s m B n:Nat} {dg:Value} {es:List MapEntry} {clock:Nat} {X:Out} {g:ah} (hX:gZ X X=true) (bz:xT es clock) (nw:∀e∈es,SV e) (hlen:es.length≤1000000) {K:KV}
 (fq:g.size=s+2) (W:Wf g) (hb:g.get s=some (.cells [.slice none 0 0] s s 0)) (hl:g.get (s+1)=some (.loop .ready none (OZ s dg) [7] oG oH)) (hm:g.get m=some (.map es clock)) (bw:m<s) (hr:ai g B 0 1=some [.map (some m)])
 (hK:∀(ch:List MapEntry) g',St s m dg es clock (ch.map (·.key)) (ch.map (·.born)) g'→ch.Perm es→K (.tuple #[]) g'=some X):
 eP (EC s) s (aP (EC s) s (n+es.length+11)) 112 [.func (.yield (s+1)) #[] #[],Bf B] g K=some X:=by
 refine(pC (code:=.seq (.region 0 kR0 false) (.block 0 (.loop Iy))) (show(EC s).func 112=some Tryz.f112 by kernel_rfl) rfl rfl rfl).trans ?_;rw[dc,eB];refine bo rfl ?_;refine(Be (v:=.map (some m)) (q:=.cells false B 0 1) (fun it=>by simp) rfl rfl (by show(ai g B 0 1).bind _=_;rw[hr];rfl)).trans ?_;refine bo rfl ?_;refine(zp (v:=Bf g.size) (g':=g.push (.cV (some m) clock [] clock)) (fun it=>by simp) rfl rfl rfl ?_).trans ?_
 ·show(match g.get m with
   |some (.map _ clock)=>some (mj.val (.pointer (some ⟨g.size,0,none⟩)),g.push (.cV (some m) clock [] clock))
   |_=>none)=_
  rw[hm]
 rw[eT];show aP (EC s) s (n+es.length+10) (.block 0 (.loop Iy)) (((AF.enter [.func (.yield (s+1)) #[] #[],Bf B] 14).set 4 (.map (some m))).set 5 (Bf g.size)) (g.push (.cV (some m) clock [] clock)) _=_;rw[qX,fq];refine WA (dg:=dg) (ch:=[]) hX bz nw hlen (fun ch f g' H hp=>?_) es.length n _ _ ⟨?_,⟨.slice none 0 0,0,?_,Nat.zero_le _,.inl ⟨rfl,rfl⟩⟩,?_,?_,?_,bw,?_⟩ ⟨rfl,rfl,rfl⟩ ?_ ?_
 ·exact hK ch g' H hp
 ·rw[ah.size_push];omega
 ·rw[ah.al,if_neg om];exact hb
 ·rw[ah.al,if_neg om];exact hl
 ·rw[ah.al,if_pos fq.symm];rfl
 ·rw[ah.al,if_neg om];exact hm
 ·exact W.push (fun _ _ _ _ e=>by cases e)
 ·rw[show mT es []=es from List.filter_eq_self.2 (by simp)];exact List.Perm.refl _
 ·rw[show mT es []=es from List.filter_eq_self.2 (by simp)]
noncomputable def aR0:Array Oper:=match Tryz.f161.body with|some (.seq (.region _ o _) _)=>o|_=> #[]
noncomputable def aR1:Array Oper:=match Tryz.f161.body with|some (.seq _ (.seq (.seq (.region _ o _) _) _))=>o|_=> #[]
noncomputable def aR4:Array Oper:=match Tryz.f161.body with|some (.seq _ (.seq _ (.seq (.region _ o _) _)))=>o|_=> #[]
theorem ID {E:Env} {base n:Nat} {g:Operand} {ps:Array Tmp} {gS body:Code} {f:AF} {h:ah} {K:KC} {g0:FuncId} {first captured:Array Value} (hg:ev E f g=some (.func (.func g0) first captured)) (hb:base≤h.size):
 aP E base (n+1) (.rangeFunc g ps gS body) f h K=eP E base (aP E base n) g0 (first.toList++[.func (.yield h.size) #[] #[]]++captured.toList) (h.push (.loop .ready none f ps.toList gS body)) fun _ h1=>
    (match h1.get h.size with
    |some (.loop st p f0 Qg yI pO)=>bL (st != .busy) (match p with
     |none=>K .normal f (h1.put h.size (.loop .exhausted p f0 Qg yI pO))
     |some c=>aP E base n c f (h1.put h.size (.loop .exhausted p f0 Qg yI pO)) K)
    |_=>none):=by
 show(match ev E f g with
  |some (.func (.func g) first captured)=>_
  |_=>none)=_
 rw[hg];simp only[aL.2 hb,bL];rfl
theorem WB {s m B n:Nat} {es:List MapEntry} {clock:Nat} {X:Out} {h:ah} (hX:gZ X X=true) (bz:xT es clock) (nw:∀e∈es,SV e) (hlen:es.length≤1000000) {K:KV}
 (hs:h.size=s) (W:Wf h) (hm:h.get m=some (.map es clock)) (hr:ai h B 0 1=some [.map (some m)])
 (hK:∀(ch:List MapEntry) v g',Wf g'→s+3≤g'.size→SO s g' v (ch.map (·.key))→ch.Perm es→K v g'=some X):
 eP (EC s) s (aP (EC s) s (n+es.length+16)) 161 [.slice none 0 0,km B] h K=some X:=by
 have bw:=W.lt hm;rw[hs]at bw;refine(pC (code:=.seq (.region 0 aR0 false) (.seq (.seq (.region 1 aR1 false) (.block 0 (.rangeFunc (.tmp 6) #[7] oG oH))) (.seq (.region 4 aR4 false) .ret))) (show(EC s).func 161=some Tryz.f161 by kernel_rfl) rfl rfl rfl).trans ?_;rw[dc,eB];refine bo rfl ?_;refine(Dw (m:=.cells [.slice none 0 0]) (hd:=.ptr) (fun it=>by simp) rfl rfl rfl).trans ?_;refine bo rfl ?_;refine(cL (v:=.slice none 0 0) (fun it=>by simp) rfl).trans ?_;rw[eT,hs];obtain⟨g1,od⟩:∃g1,g1=h.push (.cells [.slice none 0 0] s s 0):=⟨_,rfl⟩;have Qu:g1.size=s+1:=by rw[od,ah.size_push,hs]
 have W1:Wf g1:=by rw[od];exact W.push (fun cs f dj aS e=>by cases e;omega)
 show aP (EC s) s (n+es.length+15) (.seq (.seq (.region 1 aR1 false) (.block 0 (.rangeFunc (.tmp 6) #[7] oG oH))) (.seq (.region 4 aR4 false) .ret)) (((AF.enter [.slice none 0 0,km B] 13).set 2 (Bf s)).set 4 (.slice none 0 0)) (h.push (.cells [.slice none 0 0] s s 0)) _=_;rw[←od,dc,dc,eB];refine bo rfl ?_;refine(cL (v:=km B) (fun it=>by simp) rfl).trans ?_;rw[eT];show aP (EC s) s (n+es.length+13) (.block 0 (.rangeFunc (.tmp 6) #[7] oG oH)) (OZ s (km B)) g1 _=_;rw[qX,ID (first:= #[]) (captured:= #[Bf B]) rfl om,Qu]
 show eP (EC s) s (aP (EC s) s (n+es.length+11)) 112 [.func (.yield (s+1)) #[] #[],Bf B] (g1.push (.loop .ready none (OZ s (km B)) [7] oG oH)) _=_;refine SW (dg:=km B) hX bz nw hlen ?_ ?_ ?_ ?_ ?_ bw ?_ (fun ch g' H hp=>?_)
 ·rw[ah.size_push,Qu]
 ·exact W1.push (fun _ _ _ _ e=>by cases e)
 ·rw[ah.al,if_neg om,od,ah.al,if_pos hs.symm]
 ·rw[ah.al,if_pos om]
 ·rw[ah.al,if_neg om,od,ah.al,if_neg om];exact hm
 ·have:∃cs,h.rd B=some cs:=by
   unfold ai at hr;cases hh:h.rd B with
   |none=>rw[hh]at hr;simp at hr
   |some cs=>exact⟨cs,rfl⟩
  obtain⟨cs,s9⟩:=this;obtain⟨_,_,_,hgB⟩:=Ao s9;have hBl:=W.lt hgB;unfold ai at hr ⊢;rw[eI W1.le _ om,od,eI W.le _ hBl];exact hr
 ·obtain⟨v,t,hb,ht,hv⟩:=H.box;simp only[H.lp];obtain⟨gE,hgE⟩:∃gE,gE=g'.put (s+1) (.loop .exhausted none (OZ s (km B)) [7] oG oH):=⟨_,rfl⟩;have hbE:gE.get s=some (.cells [v] s s t):=by rw[hgE,ah.br,if_neg om];exact hb
  show aP (EC s) s (n+es.length+14) (.seq (.region 4 aR4 false) .ret) (OZ s (km B)) (g'.put (s+1) (.loop .exhausted none (OZ s (km B)) [7] oG oH)) _=_;rw[←hgE,dc,eB];refine bo rfl ?_;refine(Be (v:=v) (q:=.cells false s 0 1) (fun it=>by simp) rfl rfl (by show(ai gE s 0 1).bind _=_;rw[vO hbE ht];rfl)).trans ?_;refine bo rfl ?_;refine(cL (v:=v) (fun it=>by simp) rfl).trans ?_;rw[eT];exact hK ch v gE (by rw[hgE];exact H.wf.Iw H.lp rfl) (by rw[hgE,ah.size_put];exact H.sz) (by rw[hgE];exact hv.put H.lp rfl rfl om) hp
noncomputable def cR0:Array Oper:=match Tryz.f110.body with|some (.seq (.region _ o _) _)=>o|_=> #[]
noncomputable def cR1:Array Oper:=match Tryz.f110.body with|some (.seq _ (.seq (.region _ o _) _))=>o|_=> #[]
theorem WC {s m B n:Nat} {es:List MapEntry} {clock:Nat} {X:Out} {h:ah} (hX:gZ X X=true) (bz:xT es clock) (nw:∀e∈es,SV e) (hlen:es.length≤1000000) {K:KV}
 (hs:h.size=s) (W:Wf h) (hm:h.get m=some (.map es clock)) (hr:ai h B 0 1=some [.map (some m)])
 (hK:∀(ch:List MapEntry) v g',Wf g'→s+3≤g'.size→SO s g' v (ch.map (·.key))→ch.Perm es→K v g'=some X):
 eP (EC s) s (aP (EC s) s (n+es.length+20)) 110 [km B] h K=some X:=by
 refine(pC (code:=.seq (.region 0 cR0 false) (.seq (.region 1 cR1 false) .ret)) (show(EC s).func 110=some Tryz.f110 by kernel_rfl) rfl rfl rfl).trans ?_;rw[dc,eB];refine bo rfl ?_;refine(cL (v:=.slice none 0 0) (fun it=>by simp) rfl).trans ?_;rw[eT];show aP (EC s) s (n+es.length+19) (.seq (.region 1 cR1 false) .ret) ((AF.enter [km B] 5).set 2 (.slice none 0 0)) h _=_;rw[dc,eB];refine bo rfl ?_;refine(cL (v:=km B) (fun it=>by simp) rfl).trans ?_;refine bo rfl ?_;refine(w6 (l:=161) (args:=[.slice none 0 0,km B]) (g':=h) (fun it=>by simp) rfl rfl rfl rfl).trans ?_
 show eP (EC s) s (aP (EC s) s (n+es.length+17)) 161 [.slice none 0 0,km B] h _=_;rw[show n+es.length+17=(n+1)+es.length+16 by omega];refine WB hX bz nw hlen hs W hm hr fun ch v g' w1 w2 w3 hp=>?_;refine bo rfl ?_;refine(cL (v:=v) (fun it=>by simp) rfl).trans ?_;rw[eT];exact hK ch v g' w1 w2 w3 hp
theorem Bh {E:Env} {base n m:Nat} {g:FuncId} {args:List Value} {h:ah} {r r':Value×ah} (h1:fW E base n g args h=some r) (h2:fW E base m g args h=some r'):r'=r:=by
 have a:=Az (E:=E) (base:=base) (Nat.le_max_left n m) _ _ _ _ h1;have b:=Az (E:=E) (base:=base) (Nat.le_max_right n m) _ _ _ _ h2;rw[a]at b;exact(Option.some.inj b).symm
theorem Y3 {F:Nat→Prop} {h:ah}:lR ES F h:=fun g cs hg=>by
 have:(none:Option (List Value))=some cs:=hg;cases this
theorem SX {s:Nat} {g:ah} {v:Value} {d:Array Int} (W:Wf g) (hv:SO s g v (d.toList.map (.int .u32))) (hs:s≤g.size) (hl:d.size<13) (BW:0<d.size):
 ∃h',Bd s [v] g=some (.tuple #[],h')∧ai h' (match v with| .slice (some ⟨b,_,_⟩) _ _=>b|_=>0) 0 d.size=some ((dy d.toList).map (.int .u32)):=by
 rcases hv with⟨h0,_⟩|⟨_,b,f,t0,fy,aS,rfl,hb,hf,JA,hsf,YW,OM⟩
 ·have:=congrArg List.length h0;simp only[List.length_map,Array.length_toList,List.length_nil]at this;omega
 ·obtain⟨c0,bZ⟩:=bS hf;simp only at bZ
  let ρ:Gh:=fun n=>if n=0 then some (.arr b 1 ((d.toList.map jS).length))else none
  let S:Nat→Ft:=fun _=>[(f,true)]
  let X:=uq s ρ (fun _=>False) [(0,sZ d)] 1 g S
  have lk:∀{m y},look [(0,sZ d)] m=some y→m=0∧y=sZ d:=by
   intro m y hm;unfold look at hm;split at hm
   ·rename_i e;have:=beq_iff.1 e;cases hm;exact⟨this.symm,rfl⟩
   ·cases hm
  have xU:OR 1 ρ (fun _=>False) g s 0 [(f,true)] (sZ d):=by
   refine .arr (b:=b) (f:=f) (t0:=t0) (fy:=fy) (aS:=aS) (cs:=d.toList.map (.int .u32)) (by simp[ρ]) hb hf JA om om (by simp) (by simp) (by simp[fz,Ae]) ?_ (by simp);intro i j e t v h1 h2 h3;rw[List.getElem?_map]at h1;obtain⟨x,hx,rfl⟩:=Option.map_eq_some_iff.1 h1;have hj:j=0:=by
    have:=(List.getElem?_eq_some_iff.1 h2).1;simp at this;exact this
   subst hj;simp at h2;subst h2;rw[Nat.mul_one,Nat.add_zero,List.getElem?_map,hx]at h3;cases h3;exact .s rfl
  have hmo:MO X ρ (fun _=>False) [(0,sZ d)] 1 g S:=by
   refine⟨fun m y hm=>?_,fun m y hm=>?_,fun m1 m2 y1 y2 x h1 h2 _ _=>?_,fun m y x hm hx=>?_,fun m y x b' hm hx hF=>hF.elim⟩
   ·obtain⟨rfl,rfl⟩:=lk hm;exact xU
   ·simp[S,cM]
   ·obtain⟨rfl,_⟩:=lk h1;obtain⟨rfl,_⟩:=lk h2;rfl
   ·have YO:x=f:=by simpa[S,cM]using hx
    subst YO;exact⟨by show s≤x;omega,W.lt bZ,.inl ⟨m,y,hm,hx⟩⟩
  have zZ:Mem X ρ (fun _=>False) [(0,sZ d)] 1 g:=by
   refine⟨⟨S,hmo⟩,fun m l hm=>?_,fun b hb=>hb.elim,fun b hb=>hb,W,.refl _ _ _,hs,fun b hb=>hb.elim,⟨Nat.le_refl _,fun _ _ _ hl=>hl,fun _ _ _ hl=>hl⟩⟩;by_cases e:m=0
   ·omega
   ·simp[ρ,e]at hm
  have hvr:ee 1 ρ (fun _=>False) g [.tk 0] [Dx b (d.toList.map (Value.int .u32)).length ((d.toList.map (Value.int .u32)).length+1)]:=by
   refine .cons (.tk om rfl (fun b' z len hx=>?_) (fun z hx=>?_)) .nil
   ·simp[ρ]at hx;obtain⟨rfl,rfl,rfl⟩:=hx;exact⟨d.size+1,om,by simp⟩
   ·simp[ρ]at hx
  obtain⟨n,v,h',ρ',F',r,o',c',hac,⟨e,⟨hp,ajq⟩,rfl,rfl,rfl⟩,hM,hr⟩:=SM d hl s ρ (fun _=>False) g S _ Y3 zZ hmo hvr;obtain⟨a,rfl,ha⟩:=hr.vm;have ea:a= #[]:=by
   have:=ha.bU;exact Array.toList_eq_nil_iff.1 this
  subst ea;refine⟨h',Iv hac (fun n r mn=>Bh hac mn),?_⟩;show ai h' b 0 d.size=_;obtain⟨S',ajr⟩:=hM.ex;have ajs:=ajr.cC 0 (sZ e) rfl;have nv:e.toList=dy d.toList:=(Sort.sorted_unique_holds Sort.swo_ltInt (fun x y h1 h2=>by simp[Sort.ltInt]at h1 h2;omega) d e hp ajq).trans (by unfold dy;congr 1;funext x y;simp[Sort.ltInt];by_cases h:x≤y<;>simp[h]<;>omega);have key:∀{SS:Ft} {y:TO},OR 1 ρ' F' h' X.base 0 SS y→y=sZ e→∃cs,h'.rd b=some cs∧cs.length=d.size∧cs=e.toList.map (.int .u32):=by
   intro SS y H hy;cases H with
   |nil cA hz=>
    exfalso;have:=hM.vo.2.1 0 _ Nat.zero_lt_one cA;simp[uq,ρ]at this
   |arr cA lu BP Wb H8 ku vw Gx Ca nW Ve=>
    rename_i z w es b' f' t1 zJ dA cs;cases hy;have eY:=hM.vo.2.1 0 _ Nat.zero_lt_one cA;simp[uq,ρ]at eY;obtain⟨rfl,hlen⟩:=eY;have cH:cs.length=e.toList.length:=by simpa using vw
    refine⟨cs,eu BP Wb (az lu),by rw[cH,Array.length_toList,hp.1],?_⟩;refine List.ext_getElem? fun i=>?_;rw[List.getElem?_map];cases hx:e.toList[i]? with
    |none=>
     have:e.toList.length≤i:=by simpa using hx
     rw[List.getElem?_eq_none om];rfl
    |some x=>
     have hi:=(List.getElem?_eq_some_iff.1 hx).1;have h1:=nW i 0 (jS x) (.s (.int .u32 x)) (cs[i]' om) (by rw[List.getElem?_map,hx];rfl) rfl (by simp);obtain⟨q1,_⟩:=h1.dV;rw[List.getElem?_eq_getElem om,q1];rfl
   |_=>cases hy
  obtain⟨cs,h1,h2,h3⟩:=key ajs rfl;unfold ai;rw[h1];simp only[Option.bind_some,List.drop_zero,bf];refine⟨om,?_⟩;rw[List.take_of_length_le om,h3,nv]
theorem SZ {s:Nat} {g:ah} (W:Wf g) (hs:s≤g.size):∃h',Bd s [.slice none 0 0] g=some (.tuple #[],h'):=by
 have hmo:MO (uq s wD (fun _=>False) [] 0 g fun _=>[]) wD (fun _=>False) [] 0 g fun _=>[]:=
  ⟨fun m y hl=>(by cases hl),fun m y hl=>(by cases hl),fun m1 m2 y1 y2 x h1=>(by cases h1),fun m y x hl=>(by cases hl),fun m y x b hl=>(by cases hl)⟩
 have zZ:Mem (uq s wD (fun _=>False) [] 0 g fun _=>[]) wD (fun _=>False) [] 0 g:=
  ⟨⟨_,hmo⟩,fun m l hm=>(by cases hm),fun b hb=>hb.elim,fun b hb=>hb,W,.refl _ _ _,hs,fun b hb=>hb.elim,⟨Nat.le_refl _,fun _ _ _ hl=>hl,fun _ _ _ hl=>hl⟩⟩
 obtain⟨n,v,h',ρ',F',r,o',c',hac,⟨rfl,rfl,rfl⟩,hM,hr⟩:=SN s wD (fun _=>False) g (fun _=>[]) [.slice none 0 0] Y3 zZ hmo (.cons (.nil rfl) .nil);obtain⟨a,rfl,ha⟩:=hr.vm;have ea:a= #[]:=Array.toList_eq_nil_iff.1 ha.bU;subst ea;exact⟨h',Iv hac (fun n r mn=>Bh hac mn)⟩
def Fx (ks:List Int):Out:=match ks with
 |[]=>[.bool true,.slice none 0 0]
 |_=>.bool false::goInt ks.length::goInt (1:Nat)::(dy ks).map (.int .u32)
theorem IE:∀l:List Int,gZ (l.map (.int .u32)) (l.map (.int .u32))=true
 |[]=>rfl
 |x::l=>by
  simp only[List.map_cons,gZ,ka,IE l,beq_self_eq_true,Bool.and_self]
theorem O7 (ks:List Int):gZ (Fx ks) (Fx ks)=true:=by
 unfold Fx;split
 ·rfl
 ·simp only[gZ,ka,goInt,IE,beq_self_eq_true,Bool.and_self]
def aaL:Value→Int
 | .int _ n=>n
 |_=>0
def O8 (e:MapEntry):Int:=aaL e.key
noncomputable def sR0:Array Oper:=match Tryz.f76.body with|some (.seq (.region _ o _) _)=>o|_=> #[]
noncomputable def sR1:Array Oper:=match Tryz.f76.body with|some (.seq _ (.seq (.region _ o _) _))=>o|_=> #[]
noncomputable def sR2:Array Oper:=match Tryz.f76.body with|some (.seq _ (.seq _ (.seq (.region _ o _) _)))=>o|_=> #[]
noncomputable def sR3:Array Oper:=match Tryz.f76.body with|some (.seq _ (.seq _ (.seq _ (.seq (.region _ o _) _))))=>o|_=> #[]
theorem La {s m B n:Nat} {es:List MapEntry} {clock:Nat} {ks:List Int} {h:ah} (bz:xT es clock) (CI:es.map (·.key)=ks.map (.int .u32)) (hlen:ks.length<13)
 (hs:h.size=s) (W:Wf h) (hm:h.get m=some (.map es clock)) (hr:ai h B 0 1=some [.map (some m)]):
 eP (EC s) s (aP (EC s) s (n+es.length+25)) 76 [km B] h (Im s)=some (Fx ks):=by
 have Mu:es.length=ks.length:=by have:=congrArg List.length CI;simpa using this
 have nw:∀e∈es,SV e:=by
  intro e he;have:e.key∈es.map (·.key):=List.mem_map.2 ⟨e,he,rfl⟩;rw[CI]at this;obtain⟨k,_,hk⟩:=List.mem_map.1 this;exact⟨k,hk.symm⟩
 refine(pC (code:=.seq (.region 0 sR0 false) (.seq (.region 1 sR1 false) (.seq (.region 2 sR2 false) (.seq (.region 3 sR3 false) .ret)))) (show(EC s).func 76=some Tryz.f76 by kernel_rfl) rfl rfl rfl).trans ?_;rw[dc,eB];refine bo rfl ?_;refine(cL (v:=.slice none 0 0) (fun it=>by simp) rfl).trans ?_;rw[eT];show aP (EC s) s (n+es.length+24) (.seq (.region 1 sR1 false) (.seq (.region 2 sR2 false) (.seq (.region 3 sR3 false) .ret))) ((AF.enter [km B] 9).set 2 (.slice none 0 0)) h _=_;rw[dc,eB];refine bo rfl ?_;refine(cL (v:=km B) (fun it=>by simp) rfl).trans ?_;refine bo rfl ?_
 refine(w6 (l:=110) (args:=[km B]) (g':=h) (fun it=>by simp) rfl rfl rfl rfl).trans ?_;show eP (EC s) s (aP (EC s) s (n+es.length+22)) 110 [km B] h _=_;rw[show n+es.length+22=(n+2)+es.length+20 by omega];refine WC (O7 ks) bz nw om hs W hm hr fun ch v g' w1 w2 w3 hp=>?_;refine bo rfl ?_;refine(cL (v:=v) (fun it=>by simp) rfl).trans ?_;rw[eT];show aP (EC s) s (n+es.length+23) (.seq (.region 2 sR2 false) (.seq (.region 3 sR3 false) .ret)) (((((AF.enter [km B] 9).set 2 (.slice none 0 0)).set 4 (km B)).set 5 v).set 3 v) g' _=_;rw[dc,eB];refine bo rfl ?_
 refine(cL (v:=v) (fun it=>by simp) rfl).trans ?_;refine bo rfl ?_;refine(w6 (l:=111) (args:=[v]) (g':=g') (fun it=>by simp) rfl rfl rfl rfl).trans ?_
 -- what came
 have C5:(ch.map (·.key)).Perm (ks.map (.int .u32)):=by rw[←CI];exact hp.map _
 obtain⟨d,hd,hdk⟩:∃d:Array Int,ch.map (·.key)=d.toList.map (.int .u32)∧d.toList.Perm ks:=by
  refine⟨(ch.map O8).toArray,?_,?_⟩
  ·show ch.map (·.key)=(ch.map O8).map (.int .u32);rw[List.map_map];refine List.map_congr_left fun e he=>?_;obtain⟨k,hk⟩:=nw e (hp.mem_iff.1 he);simp[O8,aaL,hk]
  ·show(ch.map O8).Perm ks;have:es.map O8=ks:=by
    have:es.map O8=(es.map (·.key)).map aaL:=by rw[List.map_map];rfl
    rw[this,CI,List.map_map];exact(List.map_congr_left fun x _=>rfl).trans (List.map_id ks)
   rw[←this];exact hp.map _
 have fq:d.size=ks.length:=by have:=hdk.length_eq;simpa using this
 have hss:dy d.toList=dy ks:=mergeSort_perm hdk;have hs3:s≤g'.size:=by omega
 have hv:=w3;rw[hd]at hv
 have fin:∀h',Bd s [v] g'=some (.tuple #[],h')→Im s v h'=some (Fx ks)→eP (EC s) s (aP (EC s) s (n+es.length+21)) 111 [v] g' (fun v1 h1=>p7 (EC s) s (eP (EC s) s (aP (EC s) s (n+es.length+21))) (j9 s (aP (EC s) s (n+es.length+21))) sR2.toList [] (((((((AF.enter [km B] 9).set 2 (.slice none 0 0)).set 4 (km B)).set 5 v).set 3 v).set 6 v).set 7 v1) h1 fun f' h2=>aP (EC s) s (n+es.length+22) (.seq (.region 3 sR3 false) .ret) f' h2 fun ex f h'=>match ex with
  | .exit _=>none
  |_=>match cY (EC s) h' f Tryz.f76.results.toList with
   |some vs=>Im s (ct vs) h'
   |none=>none)=some (Fx ks):=by
  intro h' q1 q2;unfold eP;rw[show(EC s).func 111=some Tryz.f111 by kernel_rfl];simp only[show(EC s).v9 s 111 [v] g'=some (.tuple #[],h')from q1];rw[eT,dc,eB];refine bo rfl ?_;refine(cL (v:=v) (fun it=>by simp) rfl).trans ?_;refine bo rfl ?_;refine(cL (v:=v) (fun it=>by simp) rfl).trans ?_;rw[eT];exact q2
 rcases Nat.eq_zero_or_pos d.size with h0|h0
 ·have Mf:ks=[]:=List.eq_nil_of_length_eq_zero om;have hv0:v= .slice none 0 0:=by
   rcases hv with⟨_,hv⟩|⟨BW,_⟩
   ·exact hv
   ·simp at BW;omega
  obtain⟨h',q1⟩:=SZ w1 hs3;rw[←hv0]at q1;refine fin h' q1 ?_;rw[hv0,Mf];rfl
 ·obtain⟨h',q1,q2⟩:=SX w1 hv hs3 om h0;refine fin h' q1 ?_;rcases hv with⟨hv,_⟩|⟨_,b,f,t0,fy,aS,rfl,hb,hf,JA,hsf,YW,OM⟩
  ·have:=congrArg List.length hv;simp only[List.length_map,Array.length_toList,List.length_nil]at this;omega
  ·have q2:ai h' b 0 d.size=some ((dy d.toList).map (.int .u32)):=q2;have bC:ks≠[]:=fun h=>by rw[h]at fq;simp only[List.length_nil]at fq;omega
   unfold Im;simp only[List.length_map,Array.length_toList,Nat.mul_one,q2,Option.bind_some];have hsc:((dy d.toList).map (Value.int .u32)).all scalar=true:=by
    rw[List.all_eq_true];intro x hx;obtain⟨y,_,rfl⟩:=List.mem_map.1 hx;rfl
   rw[aL.2 (show s≤b by omega),bc.2 h0,hsc,hss];unfold Fx;cases ks with
   |nil=>exact absurd rfl bC
   |cons x l=>rw[fq];rfl
def Bi:List MapEntry→Option (List Int)
 |[]=>some []
 |e::l=>match e.key,Bi l with
  | .int .u32 n,some ks=>some (n::ks)
  |_,_=>none
theorem Bj:∀{ev:List MapEntry} {ks:List Int},Bi ev=some ks→ev.map (·.key)=ks.map (.int .u32)
 |[],ks,h=>by simp[Bi]at h;subst h;rfl
 |e::l,ks,h=>by
  unfold Bi at h;split at h
  ·rename_i n YT hk hl;cases h;simp only[List.map_cons,hk,Bj hl]
  ·cases h
theorem IF:∀{ev:List MapEntry} {ks:List Int},ev.map (·.key)=ks.map (.int .u32)→Bi ev=some ks
 |[],ks,h=>by cases ks with
  |nil=>rfl
  |cons _ _=>simp at h
 |e::l,ks,h=>by
  cases ks with
  |nil=>simp at h
  |cons n ks=>
   simp only[List.map_cons,List.cons.injEq]at h;unfold Bi;rw[h.1,IF h.2]
def Bk (h:ah):Option Nat→Option (List Int)
 |none=>none
 |some r=>match h.get r with
  |some (.map ev clock)=>(Bi ev).bind fun ks=>bL (decide (xT ev clock)&&Nat.blt ks.length 13) (some ks)
  |_=>none
def S5 (h:ah) (ks:List Int):Value×ah:=match ks with
 |[]=>(.slice none 0 0,h)
 |_::_=>(.slice (some ⟨h.size,0,some 1⟩) ks.length (ks.length+1),h.push (.cells ((dy ks).map (.int .u32)) h.size (h.size+1) 0))
def sq (args:List Value) (h:ah):Option (Value×ah):=match args with
 |[.func (.func k) a c]=>(match a.toList,c.toList with
  |[],[.pointer (some ⟨b,0,none⟩)]=>bL (Nat.beq k 112) ((qP h b).bind fun mb=>(Bk h mb).bind fun ks=>some (S5 h ks))
  |_,_=>none)
 |_=>none
theorem Lb (h:ah) (ks:List Int):A3 h (Fx ks)=some (S5 h ks):=by
 cases ks with
 |nil=>rfl
 |cons x l=>rfl
theorem Lc {E:Env} {base B:Nat} (hm:Tryz.prog.follows .mixedOrders=true) (hg:∀g,(EC 0).dN g=true→E.dN g=true) {μ:bD} {h h':ah} {w:World} {args:List Value} {args':Array Value} {v:Value}
 (hc:sq args h=some (v,h')) (hr:ax μ args args'.toList) (H:bB E base B μ h w) {F:Fence} (hF:iH F) (n:Nat):CallsIn F n Tryz.prog 76 args' w (o5 E base B μ h w v h'):=by
 unfold sq at hc;split at hc
 ·rename_i k a c;split at hc
  ·rename_i b ha mL;simp only[aj,Option.bind_eq_some_iff,Option.some.injEq,beq_iff]at hc;obtain⟨rfl,mb,ajt,ks,qY,px⟩:=hc;obtain⟨aS,ql,Ek⟩:=Ip ajt;cases mb with
   |none=>simp[Bk]at qY
   |some r=>
    simp only[Bk]at qY;split at qY
    ·rename_i ev clock BQ;simp only[Option.bind_eq_some_iff,aj,Bool.and_eq_true,decide_eq_true_eq,bc,Option.some.injEq]at qY;obtain⟨YT,CI,⟨bz,bw⟩,rfl⟩:=qY;have ea:a= #[]:=Array.toList_eq_nil_iff.1 ha;have ec:c= #[Bf b]:=by rw[←Array.toList_inj,mL]
     subst ea;subst ec;have W:Wf h:=⟨H.high,H.wf⟩;have hK:=Bj CI;have ia:=La (n:=0) (B:=b) bz hK bw rfl W BQ (vO ql Ek);have H2:=H.Fo (E0:=EC h.size) (fun g ZQ=>hg g ZQ);refine(vH (uy Tryz.prog [] (Ww h.size)) (Wx hm h.size _) hm (0+ev.length+25) μ h w 76 _ args' _ (Fx YT) ia hr H2 F n hF).mono ?_;rintro e w' ⟨u,u',h1,gz,hKo,rfl,hv,S⟩;refine uv H rfl ?_ hKo hv S;rw[Lb,px]
    ·cases qY
  ·cases hc
 ·cases hc
def MU (ks:List Int):TO→Prop
 | .map _ es=>es.map (·.1)=ks.map (.int .u32)
 | .fp _ es op=>op=[]∧es.map (·.1)=ks.map (.int .u32)
 |_=>False
theorem OR.afu {c:Nat} {ρ:Gh} {F:Nat→Prop} {h:ah} {base n:Nat} {S:Ft} {y:TO} {ks:List Int} (H:OR c ρ F h base n S y) (hk:MU ks y):∃b ev clock,ρ n=some (.dJ b)∧h.get b=some (.map ev clock)∧xT ev clock∧ev.map (·.key)=ks.map (.int .u32):=by
 cases H with
 |map hb hg hl hc bz=>
  rename_i kd es b clock ev;refine⟨_,_,_,hb,hg,bz,?_⟩;rw[←show es.map (·.1)=ks.map (.int .u32)from hk];refine List.ext_getElem? fun i=>?_;rw[List.getElem?_map,List.getElem?_map];cases he:es[i]? with
  |none=>
   have:es.length≤i:=by simpa using he
   rw[List.getElem?_eq_none om];rfl
  |some e=>
   have hi:=(List.getElem?_eq_some_iff.1 he).1;obtain⟨q1,_⟩:=hc i e ev[i] he (List.getElem?_eq_getElem om);rw[List.getElem?_eq_getElem om];simp[q1]
 |fp hb hg cH hc bz=>
  obtain⟨rfl,hk⟩:=hk;refine⟨_,_,_,hb,hg,bz,?_⟩;rw[←hk];have key:∀{S:Ft} {kd:Nat} {l:List (Value×TV)} {m:List MapEntry},jk c ρ F h base kd S l m→m.map (·.key)=l.map (·.1):=by
   intro S kd l m hE
   induction hE with
   |nil=>rfl
   |cons h1 _ _ _ _ ih=>simp[h1,ih]
  exact key hc
 |_=>exact hk.elim
theorem Mem.afv {X:Cx} {ρ:Gh} {F:Nat→Prop} {o:Ob} {c:Nat} {h:ah} (H:Mem X ρ F o c h) (cs:List Value):
 Mem X (cP ρ c (some (.nil 1))) (fun b=>F b∨b=h.size) o (c+1) (h.push (.cells cs h.size (h.size+1) 0)):=by
 obtain⟨S,K⟩:=H.ex;have eW:(h.push (.cells cs h.size (h.size+1) 0)).get h.size=some (.cells cs h.size (h.size+1) 0):=by rw[ah.al,if_pos rfl]
 have hold:∀b,b<h.size→(h.push (.cells cs h.size (h.size+1) 0)).get b=h.get b:=fun b hb=>by rw[ah.al,if_neg om]
 have VQ:∀b,b<h.size→hd (h.push (.cells cs h.size (h.size+1) 0)) b=hd h b:=fun b hb=>by unfold hd;rw[hold b hb]
 refine(H.change K (fun _=>False) c (.arr 1 true []) [] (by rw[ah.size_push];omega) (H.wf.push fun _ _ _ _ e=>by cases e;exact Nat.le_refl _) (fun _ hf=>hf.elim) (fun b hb _=>hold b hb)
  (fun b l hb hr=>by rw[eI H.wf.le _ (H.CY hb)];exact hr) VQ (fun _ hb=>.inl hb) (fun b hb hn=>?_) om (fun n l hn hl=>by rwa [bA _ _ om]at hl) (fun n b hb=>?_) (fun n l hl=>?_) (fun m y' bC hl=>⟨hl,bA _ _ bC,fun _ _ hf=>hf.elim⟩)
  (fun y' hl=>absurd (H.lt hl) om) (.nil (aR _ _ _) om) (by simp[cM]) (fun x hx=>by simp[cM]at hx) (fun x b hx=>by simp at hx)).1
 ·rcases hb with hb|rfl
  ·exact absurd hb hn
  ·have e:hd (h.push (.cells cs h.size (h.size+1) 0)) h.size=h.size:=cy eW;refine⟨by rw[eu (bR eW eW) (Nat.zero_le _) (az eW)];rfl,fun m y x _ hl hs=>?_,fun x hx=>by simp at hx,.inr (by rw[e];exact H.jb.size)⟩;rw[e];have:=(K.eG m y x hl (List.mem_map.2 ⟨_,hs,rfl⟩)).2.1;omega
 ·have:=H.names _ _ hb
  rwa [bA _ _ om]
 ·by_cases e:n=c
  ·omega
  ·rw[bA _ _ e]at hl;have:=H.names _ _ hl;omega
theorem Mem.bump {X:Cx} {ρ:Gh} {F:Nat→Prop} {o:Ob} {c:Nat} {h:ah} (H:Mem X ρ F o c h):Mem X (cP ρ c (some (.nil 1))) F o (c+1) h:=by
 obtain⟨S,K⟩:=H.ex
 refine(H.change K (fun _=>False) c (.arr 1 true []) [] (Nat.le_refl _) H.wf (fun _ hf=>hf.elim) (fun b hb _=>rfl)
  (fun b l hb hr=>hr) (fun _ _=>rfl) (fun _ hb=>hb) (fun b hb hn=>absurd hb hn) om (fun n l hn hl=>by rwa [bA _ _ om]at hl) (fun n b hb=>?_) (fun n l hl=>?_) (fun m y' bC hl=>⟨hl,bA _ _ bC,fun _ _ hf=>hf.elim⟩)
  (fun y' hl=>absurd (H.lt hl) om) (.nil (aR _ _ _) om) (by simp[cM]) (fun x hx=>by simp[cM]at hx) (fun x b hx=>by simp at hx)).1
 ·have:=H.names _ _ hb
  rwa [bA _ _ om]
 ·by_cases e:n=c
  ·omega
  ·rw[bA _ _ e]at hl;have:=H.names _ _ hl;omega
theorem VC.sq {E:Env} (hf:(E.func 76).isSome=true) (ho:∀b a,E.v9 b 76 a=fun h=>sq a h) {y:TO} {ks:List Int} (hy:MU ks y) (k9:ks.length<13):
 VC E 76 2 [.dg 112 [] [.ptr 1 0]] [(0,y),(1,.cells [.mp 0])] (RR (.sl 1 ((dy ks).map jS) false) 3 [(0,y),(1,.cells [.mp 0])]):=by
 intro base ρ F h S dW hN hM hO hA;obtain⟨fn,hf⟩:=Option.isSome_iff_exists.1 hf;obtain⟨v1,m1,rfl,h1,h2⟩:=hA.aY;obtain rfl:=h2.bU;obtain⟨_,hm⟩:=hM.cC (m:=0) rfl;obtain⟨_,hb⟩:=hM.cC (m:=1) rfl;obtain⟨b0,ev,clock,zH,hg0,bz,qY⟩:=hm.afu hy;cases hb with
 |cells rW od ht1 kR=>
  rename_i b1 aS cs';have kR:=(kR.vrs (fun t v hv hf=>hv.eo hf) rfl).1;obtain⟨x1,l1,rfl,y1,y2⟩:=kR.aY;obtain rfl:=y2.bU;cases y1 with
  |mp hbm=>
   rw[zH]at hbm;cases hbm;cases h1 with
   |dg B4 ha1 Cf ha2=>
    rename_i a kk;have ea:a= #[]:=Array.eq_empty_of_size_eq_zero (by simpa using B4.symm);subst ea;obtain⟨p',ec⟩:∃p',kk= #[p']:=by
     obtain⟨l⟩:=kk
     match l,Cf with
     |[x],_=>exact⟨x,rfl⟩
     |[],Cf=>simp at Cf
     |_::_::_,Cf=>simp at Cf
    subst ec;have hp:=ha2 0 (.ptr 1 0) p' rfl rfl;cases hp with
    |ptr uO=>
     rw[rW]at uO;cases uO;have aaM:E.v9 base 76 [km b1] h=some (S5 h ks):=by
      rw[congrFun (ho _ _) _];show bL (Nat.beq 112 112) ((qP h b1).bind fun mb=>(Bk h mb).bind fun ks=>some (S5 h ks))=_;have hbx:qP h b1=some (some b0):=by
       unfold qP;rw[od];simp[bL,Nat.ble_eq_true_of_le ht1]
      rw[beq_iff.2 (rfl:112=112),hbx];simp only[bL,Option.bind_some,Bk,hg0,IF qY,bz,bc.2 k9,decide_true,Bool.and_self]
     have u7:∀r,E.v9 base 76 [km b1] h=some r→fW E base 0 76 [km b1] h=some r:=by
      intro r hr;unfold fW eE;rw[hf];simp only[Option.bind_some,hr]
     cases Mz:ks with
     |nil=>
      subst Mz;exact⟨0,_,_,_,F,_,_,3,u7 _ aaM,⟨rfl,rfl,rfl⟩,hM.bump,.nil (by simp[dy])⟩
     |cons e0 l0=>
      rw[←Mz];have px:S5 h ks=(.slice (some ⟨h.size,0,some 1⟩) ks.length (ks.length+1),h.push (.cells ((dy ks).map (.int .u32)) h.size (h.size+1) 0)):=by rw[Mz];rfl
      rw[px]at aaM;have eW:(h.push (.cells ((dy ks).map (.int .u32)) h.size (h.size+1) 0)).get h.size=some (.cells ((dy ks).map (.int .u32)) h.size (h.size+1) 0):=by rw[ah.al,if_pos rfl]
      refine⟨0,_,_,_,_,_,_,3,u7 _ aaM,⟨rfl,rfl,rfl⟩,hM.afv _,.sl (.inr rfl) (eu (bR eW eW) (Nat.zero_le _) (az eW)) om (by simp[Dq]) om (by simp) (by simp[Dq]) (by simp) (by simp[fz,Ae]) ?_⟩;intro i j e t v q1 q2 q3;rw[List.getElem?_map]at q1;obtain⟨x,hx,rfl⟩:=Option.map_eq_some_iff.1 q1;have hj:j=0:=by
       have:=(List.getElem?_eq_some_iff.1 q2).1;simp at this;exact this
      subst hj;simp at q2;subst q2;rw[Nat.zero_add,Nat.mul_one,Nat.add_zero,List.getElem?_map,hx]at q3;cases q3;exact .s rfl
end Go.M
