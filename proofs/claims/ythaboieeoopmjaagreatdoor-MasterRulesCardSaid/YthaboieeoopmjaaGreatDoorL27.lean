/-
  Part 27 of the library that the proof leans on.
-/
import Derived.Test.YthaboieeoopmjaaGreatDoorL12
import Derived.Test.YthaboieeoopmjaaGreatDoorL25
import Derived.Test.YthaboieeoopmjaaGreatDoorL26
namespace Go.M
open Go Go.Proofs
set_option maxRecDepth 100000
set_option maxHeartbeats 4000000
def qN (down:List Int) (s:MS) (L:List CF) (c:CF):Int:=
 if c.join≠0∨c.fresh=true∨s.eC≤(c.nodes.length:Int)then 0 else g7 (eU down L (bf s.p.1)) s.nodes.toNat 0
inductive pZ (down:List Int):MS→Nat→MS→Prop
 |nil (s:MS):pZ down s 0 s
 |snoc {s s1 s':MS} {k:Nat} {c:CF} (t:pZ down s k s1) (hc:(aN s1)[k]? =some c) (hn:qN down s1 (aN s1) c≠0) (h:qM s1 ⟨2,c.chain,c.aq,qN down s1 (aN s1) c⟩ s'):pZ down s (k+1) s'
 |skip {s s1:MS} {k:Nat} {c:CF} (t:pZ down s k s1) (hc:(aN s1)[k]? =some c) (hn:qN down s1 (aN s1) c=0):pZ down s (k+1) s1
theorem pZ.any {down:List Int} {s s':MS} {k:Nat} (h:pZ down s k s'):we s k s':=by
 induction h with
 |nil=>exact .nil _
 |snoc _ _ _ h ih=>exact .snoc ih h
 |skip _ _ _ ih=>exact .skip ih
def GN (down:List Int) (s s':MS):Prop:=∃c,(aN s)[(s.aK % ((aN s).length:Nat)).toNat]? =some c∧pZ down (re (ik s) c) (aN s).length s'
theorem GN.any {down:List Int} {s s':MS} (h:GN down s s'):QI s s':=by
 obtain⟨c,hc,h⟩:=h;exact⟨c,List.mem_of_getElem? hc,h.any⟩
theorem lI {down:List Int} {s:MS} {L:List CF} {c:CF} (h:c.join≠0∨c.fresh=true∨s.eC≤(c.nodes.length:Int)):qN down s L c=0:=if_pos h
theorem nw {down:List Int} {s:MS} {L:List CF} {c:CF} (h:¬(c.join≠0∨c.fresh=true∨s.eC≤(c.nodes.length:Int))):qN down s L c=g7 (eU down L (bf s.p.1)) s.nodes.toNat 0:=if_neg h
@[reducible] def dnI (down:List Int):TV:=.sl 1 (down.map aW) false
theorem abn (down:List Int) (hd:down.length≤1000) (s:MS) (H:dc s) (h0:1≤s.l.length) (vx:0≤s.nodes∧s.nodes≤24) (tY:0≤s.aK∧s.aK<1000000) (hl:s.out.length<5000):VC E0 23 1 [.ptr 0 0,dnI down] (bz s) (RS (GN down s)):=by
 have mH:=H.me;have gG:=H.ms;have bV:=H.bK;have hot:=lB s (iM s.p.1.b (aD s.K)) s.ah.toNat
 have ju:=nu H.lw;have Hb:=H.outs (s.out++mK s (iM s.p.1.b (aD s.K)) s.ah.toNat);have hon:=sk Hb (bf s.p.1);have Hr:=Hb.outs ((s.out++mK s (iM s.p.1.b (aD s.K)) s.ah.toNat)++g8 (bo s (iM s.p.1.b (aD s.K))) (bf s.p.1));have hoc:=qy s (iM s.p.1.b (aD s.K)) mH om om;have YU:=MI (bo s (iM s.p.1.b (aD s.K))) Hb (bf s.p.1) (by show(s.out++mK s (iM s.p.1.b (aD s.K)) s.ah.toNat).length<20000;rw[List.length_append];omega) om;have hlr:(ik s).out.length<9000:=by
  show((s.out++mK s (iM s.p.1.b (aD s.K)) s.ah.toNat)++g8 (bo s (iM s.p.1.b (aD s.K))) (bf s.p.1)).length<9000;have hon:(g8 (bo s (iM s.p.1.b (aD s.K))) (bf s.p.1)).length≤5*(bf s.p.1).length:=hon;rw[List.length_append,List.length_append];omega
 have ht:∀c∈aN s,VC E0 50 1 [.ptr 0 0,.agg (aJ c)] (bz (ik s)) (RR (.c4 []) 1 (bz (re (ik s) c))):=fun c hc=>
  Vk (ik s) c mH (by have:=(bV.2 c hc).1;omega) (fun n hn=>by have:=(bV.2 c hc).2 n hn;show n≠100+s.me;omega) om
 have Hc:∀c,dc (re (ik s) c):=fun c=>Hr.outs _;have Hcl:∀c∈aN s,(re (ik s) c).out.length<10000:=fun c hc=>by
  have h1:=fi c;have h2:=(bV.2 c hc).1;have h3:(gB (ik s) c (aG c)).length=(aG c).length:=by simp[gB]
  show((ik s).out++gB (ik s) c (aG c)).length<10000;rw[List.length_append];omega
 have hb:=y6 s.p H.px;have hn:=pS (oR s.kn s.K s.l);have ho:=Gx s.p H.px H.lw;have sm:=u7 (oR s.kn s.K s.l) (by have:=bV.1;have:=H.lE.len;show(aN s).length<10000;omega) (fun c hc=>by have:=(bV.2 c hc).1;omega);obtain⟨a,ha,SI,hvr⟩:∃a:Nat,a<(aN s).length∧a=(s.aK % ((aN s).length:Nat)).toNat∧Ld .rem .i64 .i64 s.aK (((aN s).map aJ).length:Nat)=some (.int .i64 (a:Int)):=by
  have h1:=Int.emod_nonneg s.aK (show(((aN s).length:Nat):Int)≠0 by omega);have h2:=Int.emod_lt_of_pos s.aK (show 0<(((aN s).length:Nat):Int) by omega);refine⟨(s.aK % (aN s).length).toNat,om,rfl,?_⟩;rw[List.length_map,ad6 tY.1 om,Int.toNat_of_nonneg h1]
 have hta:=ht _ (List.getElem_mem ha);have SP:(aN s)[(s.aK % ((aN s).length:Nat)).toNat]? =some (aN s)[a]:=by rw[←SI];exact List.getElem?_eq_getElem ha
 obtain⟨me,ms,nodes,eC,aK,quiet,waited,q,kn,K,l,⟨x,f⟩,out⟩:=s;cases f
 ·refine en L0 Tryz.f23 ?_;refine⟨[],[some 1],_,_,_,_,hb,t3,cw ?_⟩;refine⟨[],[some 3],_,_,_,_,hn,t3,cw ?_⟩;refine⟨[],[some 0],_,_,_,_,hoc,t3,cw ?_⟩;refine⟨[],[some 6],_,_,_,_,ho,t3,cw ?_⟩;refine⟨[],[some 0],_,_,_,_,YU,t3,cw ?_⟩;refine⟨[],[some 9],_,_,_,_,sm,t3,cw ?_⟩;rw[hvr];refine wh ?_;refine jg ha ?_;refine wh ?_;refine⟨[],[some 0],_,_,_,_,hta,t3,cw ?_⟩
  refine⟨fun k f o c=>∃(i:Nat) (s1:MS),i≤l.length∧k=l.length - i∧pZ down (re (ik ⟨me,ms,nodes,eC,aK,quiet,waited,q,kn,K,l,(x,false),out⟩) (aN ⟨me,ms,nodes,eC,aK,quiet,waited,q,kn,K,l,(x,false),out⟩)[a]) i s1∧c=1∧f=[(0,.ptr 0 0),(1,dnI down),(48,.s (.int .i64 l.length)),(49,.s (.int .i64 i))]∧o=bz s1,⟨l.length,?_⟩,?_⟩
  ·refine⟨[],[some 0],_,_,_,tx ?_,⟨0,_,Nat.zero_le _,rfl,.nil _,rfl,rfl,rfl⟩⟩;exact Lz.int (by rw[List.length_map];exact congrArg Nat.cast bV.1)
  ·rintro k f1 o1 c1 ⟨i,s1,hi,rfl,hA,rfl,rfl,rfl⟩;have hG:=DQ hA.any (Hc _);have H1:=hG.ok;have Sr:=hG.lt (Hc _);have aea:=Hcl _ (List.getElem_mem ha);have kD:=H1.bK;have uk:s1.l=l:=hG.l;have UG:s1.nodes=nodes:=hG.no;have hle:l.length≤6:=H.lE.len;have XS:=u7 (oR s1.kn s1.K s1.l) (by show(aN s1).length<10000;rw[kD.1,uk];exact Nat.lt_of_le_of_lt hle (by decide)) (fun c hc=>by have:=(kD.2 c hc).1;omega);refine wh ?_;refine sp ?_ ?_<;>intro aU
   ·have aU:i<l.length:=by
     have:(i:Int)<(l.length:Nat):=aU;omega
    have XT:i<(aN s1).length:=by rw[kD.1,uk];exact aU
    refine wh ?_;refine⟨[],[some 1],_,_,_,_,XS,t3,cw ?_⟩;refine jg XT ?_;refine wh ?_;have hc6:=(kD.2 _ (List.getElem_mem XT)).1;have uv:=QE s1 H1 (aN s1) down hd (by rw[kD.1,uk];exact hle) (fun c hc=>(kD.2 c hc).1) (by rw[UG];exact vx);generalize QW:g7 (eU down (aN s1) (bf s1.p.1)) s1.nodes.toNat 0=spr at uv;have MW:(aN s1)[i]? =some (aN s1)[i]:=List.getElem?_eq_getElem XT;generalize (aN s1)[i]=ci at hc6 MW;obtain⟨chain,aq,ns,fresh,join⟩:=ci;refine sp ?_ ?_<;>intro hj
    ·refine wh ?_;refine⟨l.length - (i+1),?_,om⟩;exact⟨[],[some 0],_,_,_,t3,⟨i+1,s1,aU,rfl,hA.skip MW (lI (.inl hj)),rfl,rfl,rfl⟩⟩
    refine wh ?_;cases fresh with
    |true=>
     refine wh ?_;refine⟨l.length - (i+1),?_,om⟩;exact⟨[],[some 0],_,_,_,t3,⟨i+1,s1,aU,rfl,hA.skip MW (lI (.inr (.inl rfl))),rfl,rfl,rfl⟩⟩
    |false=>
     refine wh ?_;refine sp ?_ ?_<;>intro hp
     ·refine wh ?_;refine⟨l.length - (i+1),?_,om⟩;exact⟨[],[some 0],_,_,_,t3,⟨i+1,s1,aU,rfl,hA.skip MW (lI (.inr (.inr (by have h:((ns.map aW).length:Int)≥s1.eC:=hp;rw[List.length_map]at h;exact h)))),rfl,rfl,rfl⟩⟩
     refine wh ?_;have tW:¬((⟨chain,aq,ns,false,join⟩:CF).join≠0∨(⟨chain,aq,ns,false,join⟩:CF).fresh=true∨s1.eC≤(((⟨chain,aq,ns,false,join⟩:CF).nodes.length:Nat):Int)):=by
      rintro(h|h|h)
      ·exact hj h
      ·cases h
      ·exact hp (by show((ns.map aW).length:Int)≥s1.eC;rw[List.length_map];exact h)
     refine⟨[],[some 0],_,_,_,_,uv,t3,cw ?_⟩;refine sp ?_ ?_<;>intro hz
     ·refine wh ?_;refine⟨[],[some 0],_,_,_,_,zq s1 H1 ⟨2,chain,aq,spr⟩ om,t3,?_⟩;rintro r o' c' ⟨s2,kE,rfl,rfl,rfl⟩;have QX:=(nw tW).trans QW;have hdz:qN down s1 (aN s1) ⟨chain,aq,ns,false,join⟩≠0:=fun e=>hz (QX.symm.trans e);have XU:qM s1 ⟨2,chain,aq,qN down s1 (aN s1) ⟨chain,aq,ns,false,join⟩⟩ s2:=by rw[QX];exact kE
      refine wh ?_;refine⟨l.length - (i+1),?_,om⟩;exact⟨[],[some 0],_,_,_,t3,⟨i+1,s2,aU,rfl,hA.snoc MW hdz XU,rfl,rfl,rfl⟩⟩
     ·refine wh ?_;refine⟨l.length - (i+1),?_,om⟩;exact⟨[],[some 0],_,_,_,t3,⟨i+1,s1,aU,rfl,hA.skip MW ((nw tW).trans (QW.trans (Decidable.not_not.1 hz))),rfl,rfl,rfl⟩⟩
   ·have aU:i=l.length:=by
     have:¬(i:Int)<(l.length:Nat):=aU;omega
    subst aU;refine wh ?_;exact⟨[],[some 0],_,_,_,t3,⟨s1,⟨_,SP,by rw[bV.1];exact hA⟩,rfl,rfl,rfl⟩⟩
 ·refine en L0 Tryz.f23 ?_;refine⟨[],[some 1],_,_,_,_,hb,t3,cw ?_⟩;refine⟨[],[some 3],_,_,_,_,hn,t3,cw ?_⟩;refine⟨[],[some 0],_,_,_,_,hoc,t3,cw ?_⟩;refine⟨[],[some 6],_,_,_,_,ho,t3,cw ?_⟩;refine⟨[],[some 0],_,_,_,_,YU,t3,cw ?_⟩;refine⟨[],[some 9],_,_,_,_,sm,t3,cw ?_⟩;rw[hvr];refine wh ?_;refine jg ha ?_;refine wh ?_;refine⟨[],[some 0],_,_,_,_,hta,t3,cw ?_⟩
  refine⟨fun k f o c=>∃(i:Nat) (s1:MS),i≤l.length∧k=l.length - i∧pZ down (re (ik ⟨me,ms,nodes,eC,aK,quiet,waited,q,kn,K,l,(x,true),out⟩) (aN ⟨me,ms,nodes,eC,aK,quiet,waited,q,kn,K,l,(x,true),out⟩)[a]) i s1∧c=1∧f=[(0,.ptr 0 0),(1,dnI down),(48,.s (.int .i64 l.length)),(49,.s (.int .i64 i))]∧o=bz s1,⟨l.length,?_⟩,?_⟩
  ·refine⟨[],[some 0],_,_,_,tx ?_,⟨0,_,Nat.zero_le _,rfl,.nil _,rfl,rfl,rfl⟩⟩;exact Lz.int (by rw[List.length_map];exact congrArg Nat.cast bV.1)
  ·rintro k f1 o1 c1 ⟨i,s1,hi,rfl,hA,rfl,rfl,rfl⟩;have hG:=DQ hA.any (Hc _);have H1:=hG.ok;have Sr:=hG.lt (Hc _);have aea:=Hcl _ (List.getElem_mem ha);have kD:=H1.bK;have uk:s1.l=l:=hG.l;have UG:s1.nodes=nodes:=hG.no;have hle:l.length≤6:=H.lE.len;have XS:=u7 (oR s1.kn s1.K s1.l) (by show(aN s1).length<10000;rw[kD.1,uk];exact Nat.lt_of_le_of_lt hle (by decide)) (fun c hc=>by have:=(kD.2 c hc).1;omega);refine wh ?_;refine sp ?_ ?_<;>intro aU
   ·have aU:i<l.length:=by
     have:(i:Int)<(l.length:Nat):=aU;omega
    have XT:i<(aN s1).length:=by rw[kD.1,uk];exact aU
    refine wh ?_;refine⟨[],[some 1],_,_,_,_,XS,t3,cw ?_⟩;refine jg XT ?_;refine wh ?_;have hc6:=(kD.2 _ (List.getElem_mem XT)).1;have uv:=QE s1 H1 (aN s1) down hd (by rw[kD.1,uk];exact hle) (fun c hc=>(kD.2 c hc).1) (by rw[UG];exact vx);generalize QW:g7 (eU down (aN s1) (bf s1.p.1)) s1.nodes.toNat 0=spr at uv;have MW:(aN s1)[i]? =some (aN s1)[i]:=List.getElem?_eq_getElem XT;generalize (aN s1)[i]=ci at hc6 MW;obtain⟨chain,aq,ns,fresh,join⟩:=ci;refine sp ?_ ?_<;>intro hj
    ·refine wh ?_;refine⟨l.length - (i+1),?_,om⟩;exact⟨[],[some 0],_,_,_,t3,⟨i+1,s1,aU,rfl,hA.skip MW (lI (.inl hj)),rfl,rfl,rfl⟩⟩
    refine wh ?_;cases fresh with
    |true=>
     refine wh ?_;refine⟨l.length - (i+1),?_,om⟩;exact⟨[],[some 0],_,_,_,t3,⟨i+1,s1,aU,rfl,hA.skip MW (lI (.inr (.inl rfl))),rfl,rfl,rfl⟩⟩
    |false=>
     refine wh ?_;refine sp ?_ ?_<;>intro hp
     ·refine wh ?_;refine⟨l.length - (i+1),?_,om⟩;exact⟨[],[some 0],_,_,_,t3,⟨i+1,s1,aU,rfl,hA.skip MW (lI (.inr (.inr (by have h:((ns.map aW).length:Int)≥s1.eC:=hp;rw[List.length_map]at h;exact h)))),rfl,rfl,rfl⟩⟩
     refine wh ?_;have tW:¬((⟨chain,aq,ns,false,join⟩:CF).join≠0∨(⟨chain,aq,ns,false,join⟩:CF).fresh=true∨s1.eC≤(((⟨chain,aq,ns,false,join⟩:CF).nodes.length:Nat):Int)):=by
      rintro(h|h|h)
      ·exact hj h
      ·cases h
      ·exact hp (by show((ns.map aW).length:Int)≥s1.eC;rw[List.length_map];exact h)
     refine⟨[],[some 0],_,_,_,_,uv,t3,cw ?_⟩;refine sp ?_ ?_<;>intro hz
     ·refine wh ?_;refine⟨[],[some 0],_,_,_,_,zq s1 H1 ⟨2,chain,aq,spr⟩ om,t3,?_⟩;rintro r o' c' ⟨s2,kE,rfl,rfl,rfl⟩;have QX:=(nw tW).trans QW;have hdz:qN down s1 (aN s1) ⟨chain,aq,ns,false,join⟩≠0:=fun e=>hz (QX.symm.trans e);have XU:qM s1 ⟨2,chain,aq,qN down s1 (aN s1) ⟨chain,aq,ns,false,join⟩⟩ s2:=by rw[QX];exact kE
      refine wh ?_;refine⟨l.length - (i+1),?_,om⟩;exact⟨[],[some 0],_,_,_,t3,⟨i+1,s2,aU,rfl,hA.snoc MW hdz XU,rfl,rfl,rfl⟩⟩
     ·refine wh ?_;refine⟨l.length - (i+1),?_,om⟩;exact⟨[],[some 0],_,_,_,t3,⟨i+1,s1,aU,rfl,hA.skip MW ((nw tW).trans (QW.trans (Decidable.not_not.1 hz))),rfl,rfl,rfl⟩⟩
   ·have aU:i=l.length:=by
     have:¬(i:Int)<(l.length:Nat):=aU;omega
    subst aU;refine wh ?_;exact⟨[],[some 0],_,_,_,t3,⟨s1,⟨_,SP,by rw[bV.1];exact hA⟩,rfl,rfl,rfl⟩⟩
def BT (down:List Int) (s s':MS):Prop:=
 (s.p.1.st=2∧GN down (lG s (s.aK+1) s.quiet s.waited) s')∨
 (s.p.1.st=1∧((s.waited+1) % 4=0∧s'=bo (lG s (s.aK+1) s.quiet (s.waited+1)) (fZ s.p.1.b s.p.1.ak)∨(s.waited+1) % 4≠0∧s'=lG s (s.aK+1) s.quiet (s.waited+1)))∨
 (s.p.1.st≠2∧s.p.1.st≠1∧(3+3*s.me<s.quiet+1∧lD (lG s (s.aK+1) (s.quiet+1) s.waited) s'∨¬3+3*s.me<s.quiet+1∧s'=lG s (s.aK+1) (s.quiet+1) s.waited))
theorem BT.any {down:List Int} {s s':MS} (h:BT down s s'):QL s s':=by
 rcases h with⟨h,k⟩|⟨h,⟨_,k⟩|⟨_,k⟩⟩|⟨_,_,⟨_,k⟩|⟨_,k⟩⟩
 ·exact⟨_,_,.inl ⟨h,k.any⟩⟩
 ·exact⟨_,_,.inr (.inl ⟨h,.inr k⟩)⟩
 ·exact⟨_,_,.inr (.inl ⟨h,.inl k⟩)⟩
 ·exact⟨_,_,.inr (.inr (.inr k))⟩
 ·exact⟨_,_,.inr (.inr (.inl k))⟩
theorem abp (down:List Int) (hd:down.length≤1000) (s:MS) (H:dc s) (h0:1≤s.l.length) (vx:0≤s.nodes∧s.nodes≤24) (tY:0≤s.aK∧s.aK<100000) (hqu:0≤s.quiet∧s.quiet<100000) (hwa:0≤s.waited∧s.waited<100000) (hl:s.out.length<1000):VC E0 9 1 [.ptr 0 0,dnI down] (bz s) (abm (BT down s)):=by
 have mH:=H.me;have gG:=H.ms;have hw:IntKind.i64.wrap (s.aK+1)=s.aK+1:=IntWalk.i64_in _ om;have RA:IntKind.i64.wrap (s.quiet+1)=s.quiet+1:=IntWalk.i64_in _ om;have Wk:IntKind.i64.wrap (s.waited+1)=s.waited+1:=IntWalk.i64_in _ om;have htm:(s.waited+1).tmod 4=(s.waited+1) % 4:=Int.tmod_eq_emod_of_nonneg om;have hm3:IntKind.i64.wrap (3+IntKind.i64.wrap (3*s.me))=3+3*s.me:=by
  rw[IntWalk.i64_in (3*s.me) om];exact IntWalk.i64_in _ om
 have bN:=u5 s.p H.px;have hb:=y6 s.p H.px;have Hl:=PT s.p H.px;have YO:=fun q w=>abn down hd (lG s (s.aK+1) q w) (H.cnt _ q w) h0 vx (by show 0≤s.aK+1∧s.aK+1<1000000;omega) (by show s.out.length<5000;omega);have hsr:=fun q w=>XM (lG s (s.aK+1) q w) (H.cnt _ q w) (by show s.out.length<19000;omega);have hot:=fun q w=>qy (lG s (s.aK+1) q w) (fZ s.p.1.b s.p.1.ak) mH (by show 1≤s.ah∧s.ah≤5;omega) (by show s.out.length<90000;omega);obtain⟨me,ms,nodes,eC,aK,quiet,waited,q,kn,K,l,⟨x,f⟩,out⟩:=s;cases f
 ·refine en L0 Tryz.f9 ?_
  repeat((first|(refine⟨fun h_=>?_,fun h_=>?_⟩)|(refine cg (fun h_=>?_) (fun h_=>?_))|(refine cd (fun h_=>?_) (fun h_=>?_)))<;>first|(exfalso;revert h_;decide;done)|(exact absurd rfl h_)|(have bj:=True.intro;clear bj;(conv=>whnf)))
  rw[hw];refine⟨[],[some 1],_,_,_,_,bN,t3,cw ?_⟩;refine sp ?_ ?_<;>intro h2
  ·have h2:x.st=2:=h2;refine wh ?_;refine⟨[],[some 0],_,_,_,_,YO quiet waited,t3,?_⟩;rintro r o' c' ⟨s',jL,rfl,rfl,rfl⟩;refine wh ?_;refine⟨[],[some 0],_,_,_,_,oE s',t3,cw ?_⟩;exact⟨[],[some 0,some 5],_,_,_,t3,⟨s',.inl ⟨h2,jL⟩,rfl,rfl,rfl⟩⟩
  have h2:¬x.st=2:=h2;refine wh ?_;refine sp ?_ ?_<;>intro h1
  ·have h1:x.st=1:=h1;refine wh ?_;rw[Wk];refine sp ?_ ?_<;>intro hz
   ·refine wh ?_;refine⟨[],[some 1],_,_,_,_,hb,t3,cw ?_⟩;refine⟨[],[some 1],_,_,_,_,Hl,t3,cw ?_⟩;refine⟨[],[some 0],_,_,_,_,hot quiet (waited+1),t3,cw ?_⟩;refine⟨[],[some 0],_,_,_,_,oE (bo (lG ⟨me,ms,nodes,eC,aK,quiet,waited,q,kn,K,l,(x,false),out⟩ (aK+1) quiet (waited+1)) (fZ _ _)),t3,cw ?_⟩;exact⟨[],[some 0,some 7],_,_,_,t3,⟨_,.inr (.inl ⟨h1,.inl ⟨htm.symm.trans hz,rfl⟩⟩),rfl,rfl,rfl⟩⟩
   ·refine wh ?_;refine⟨[],[some 0],_,_,_,_,oE (lG ⟨me,ms,nodes,eC,aK,quiet,waited,q,kn,K,l,(x,false),out⟩ (aK+1) quiet (waited+1)),t3,cw ?_⟩;exact⟨[],[some 0,some 4],_,_,_,t3,⟨_,.inr (.inl ⟨h1,.inr ⟨fun e=>hz (htm.trans e),rfl⟩⟩),rfl,rfl,rfl⟩⟩
  refine wh ?_;rw[RA];have h1:¬x.st=1:=h1;refine sp ?_ ?_<;>intro h3
  ·refine wh ?_;refine⟨[],[some 0],_,_,_,_,hsr (quiet+1) waited,t3,?_⟩;rintro r o' c' ⟨s',jL,rfl,rfl,rfl⟩;refine wh ?_;refine⟨[],[some 0],_,_,_,_,oE s',t3,cw ?_⟩;exact⟨[],[some 0,some 5],_,_,_,t3,⟨s',(.inr (.inr ⟨h2,h1,.inl ⟨by rw[hm3]at h3;exact h3,jL⟩⟩)),rfl,rfl,rfl⟩⟩
  refine wh ?_;refine⟨[],[some 0],_,_,_,_,oE (lG ⟨me,ms,nodes,eC,aK,quiet,waited,q,kn,K,l,(x,false),out⟩ (aK+1) (quiet+1) waited),t3,cw ?_⟩;exact⟨[],[some 0,some 4],_,_,_,t3,⟨_,(.inr (.inr ⟨h2,h1,.inr ⟨by rw[hm3]at h3;exact h3,rfl⟩⟩)),rfl,rfl,rfl⟩⟩
 ·refine en L0 Tryz.f9 ?_
  repeat((first|(refine⟨fun h_=>?_,fun h_=>?_⟩)|(refine cg (fun h_=>?_) (fun h_=>?_))|(refine cd (fun h_=>?_) (fun h_=>?_)))<;>first|(exfalso;revert h_;decide;done)|(exact absurd rfl h_)|(have bj:=True.intro;clear bj;(conv=>whnf)))
  rw[hw];refine⟨[],[some 1],_,_,_,_,bN,t3,cw ?_⟩;refine sp ?_ ?_<;>intro h2
  ·have h2:x.st=2:=h2;refine wh ?_;refine⟨[],[some 0],_,_,_,_,YO quiet waited,t3,?_⟩;rintro r o' c' ⟨s',jL,rfl,rfl,rfl⟩;refine wh ?_;refine⟨[],[some 0],_,_,_,_,oE s',t3,cw ?_⟩;exact⟨[],[some 0,some 5],_,_,_,t3,⟨s',.inl ⟨h2,jL⟩,rfl,rfl,rfl⟩⟩
  have h2:¬x.st=2:=h2;refine wh ?_;refine sp ?_ ?_<;>intro h1
  ·have h1:x.st=1:=h1;refine wh ?_;rw[Wk];refine sp ?_ ?_<;>intro hz
   ·refine wh ?_;refine⟨[],[some 1],_,_,_,_,hb,t3,cw ?_⟩;refine⟨[],[some 1],_,_,_,_,Hl,t3,cw ?_⟩;refine⟨[],[some 0],_,_,_,_,hot quiet (waited+1),t3,cw ?_⟩;refine⟨[],[some 0],_,_,_,_,oE (bo (lG ⟨me,ms,nodes,eC,aK,quiet,waited,q,kn,K,l,(x,true),out⟩ (aK+1) quiet (waited+1)) (fZ _ _)),t3,cw ?_⟩;exact⟨[],[some 0,some 7],_,_,_,t3,⟨_,.inr (.inl ⟨h1,.inl ⟨htm.symm.trans hz,rfl⟩⟩),rfl,rfl,rfl⟩⟩
   ·refine wh ?_;refine⟨[],[some 0],_,_,_,_,oE (lG ⟨me,ms,nodes,eC,aK,quiet,waited,q,kn,K,l,(x,true),out⟩ (aK+1) quiet (waited+1)),t3,cw ?_⟩;exact⟨[],[some 0,some 4],_,_,_,t3,⟨_,.inr (.inl ⟨h1,.inr ⟨fun e=>hz (htm.trans e),rfl⟩⟩),rfl,rfl,rfl⟩⟩
  refine wh ?_;rw[RA];have h1:¬x.st=1:=h1;refine sp ?_ ?_<;>intro h3
  ·refine wh ?_;refine⟨[],[some 0],_,_,_,_,hsr (quiet+1) waited,t3,?_⟩;rintro r o' c' ⟨s',jL,rfl,rfl,rfl⟩;refine wh ?_;refine⟨[],[some 0],_,_,_,_,oE s',t3,cw ?_⟩;exact⟨[],[some 0,some 5],_,_,_,t3,⟨s',(.inr (.inr ⟨h2,h1,.inl ⟨by rw[hm3]at h3;exact h3,jL⟩⟩)),rfl,rfl,rfl⟩⟩
  refine wh ?_;refine⟨[],[some 0],_,_,_,_,oE (lG ⟨me,ms,nodes,eC,aK,quiet,waited,q,kn,K,l,(x,true),out⟩ (aK+1) (quiet+1) waited),t3,cw ?_⟩;exact⟨[],[some 0,some 4],_,_,_,t3,⟨_,(.inr (.inr ⟨h2,h1,.inr ⟨by rw[hm3]at h3;exact h3,rfl⟩⟩)),rfl,rfl,rfl⟩⟩
theorem MX {down:List Int} {s:MS} {k:Nat} {c:CF} (hc:(aN s)[k]? =some c) (hn:qN down s (aN s) c=0):ov down (ab s) k=ab s:=by
 have rD:(aN (ab s))[k]? =some c:=hc;have E2:qN down (ab s) (aN (ab s)) c=0:=hn;unfold qN at E2;unfold ov;rw[nv,pY,rD];dsimp only
 by_cases h:c.join≠0∨c.fresh=true∨(ab s).eC≤(c.nodes.length:Int)
 ·rw[if_pos h]
 ·rw[if_neg h]at E2 ⊢;rw[E2];rfl
theorem Jj {down:List Int} {s s':MS} {k:Nat} {c:CF} (hc:(aN s)[k]? =some c) (hn:qN down s (aN s) c≠0) (h:qM s ⟨2,c.chain,c.aq,qN down s (aN s) c⟩ s'):ov down (ab s) k=ab s':=by
 have rD:(aN (ab s))[k]? =some c:=hc;have E2:qN down (ab s) (aN (ab s)) c≠0:=hn;have h2:ab s'=Ji (ab s) ⟨2,c.chain,c.aq,qN down (ab s) (aN (ab s)) c⟩:=KF h;unfold ov;rw[nv,pY,rD,h2];dsimp only
 by_cases h:c.join≠0∨c.fresh=true∨(ab s).eC≤(c.nodes.length:Int)
 ·exact absurd (lI h) E2
 ·rw[if_neg h];rw[nw h]at E2 ⊢;rw[if_pos E2]
theorem abq {down:List Int} {s s':MS} {k:Nat} (h:pZ down s k s'):ab s'=(List.range k).foldl (ov down) (ab s):=by
 induction h with
 |nil=>rfl
 |snoc _ hc hn h ih=>
  rw[List.range_succ,List.foldl_append,←ih];exact(Jj hc hn h).symm
 |skip _ hc hn ih=>
  rw[List.range_succ,List.foldl_append,←ih];exact(MX hc hn).symm
theorem QY {down:List Int} {s s':MS} (h:GN down s s'):ab s'=GM down (ab s):=by
 obtain⟨c,hc,h⟩:=h;have rD:(aN (ab s))[((ab s).aK % ((aN (ab s)).length:Nat)).toNat]? =some c:=hc;rw[abq h];unfold GM;rw[nv,pY,rD];rfl
theorem GO {down:List Int} {s s':MS} (h:BT down s s'):ab s'=rj down (ab s):=by
 unfold rj;rcases h with⟨h,k⟩|⟨h,h2⟩|⟨ha,hb,h2⟩
 ·have h:(ab s).p.1.st=2:=h;rw[if_pos h,QY k];rfl
 ·have h:(ab s).p.1.st=1:=h;rw[if_neg om,if_pos h];rcases h2 with⟨h3,rfl⟩|⟨h3,rfl⟩
  ·exact(if_pos h3).symm
  ·exact(if_neg h3).symm
 ·have ha:(ab s).p.1.st≠2:=ha;have hb:(ab s).p.1.st≠1:=hb;rw[if_neg ha,if_neg hb];rcases h2 with⟨h3,h4⟩|⟨h3,rfl⟩
  ·rw[MQ h4];exact(if_pos h3).symm
  ·exact(if_neg h3).symm
@[reducible] noncomputable def aee (s:MS) (k:Nat):TO:=.cells [.s (.int .i64 s.me),.s (.int .i64 s.ah),.s (.int .i64 s.nodes),.s (.int .i64 s.eC),.s (.int .i64 s.aK),.s (.int .i64 s.quiet),.s (.int .i64 s.waited),.own (FX s.q),.ptr k 0,.own (ie s.p),.own (.arr 25 true (s.out.map bu))]
theorem abr (s:MS):VC E0 11 1 [.ptr 0 0] (bz s) (RR (.ptr 1 0) 2 [(0,aee s 1),(1,TT (oR s.kn s.K s.l))]):=by
 refine en L0 Tryz.f11 ?_
 repeat((first|(refine⟨fun h_=>?_,fun h_=>?_⟩)|(refine cg (fun h_=>?_) (fun h_=>?_))|(refine cd (fun h_=>?_) (fun h_=>?_)))<;>first|(exfalso;revert h_;decide;done)|(exact absurd rfl h_)|(have bj:=True.intro;clear bj;(conv=>whnf)))
 exact⟨[],[some 0,some 1],_,_,_,t3,rfl,rfl,rfl⟩
@[reducible] def bTo (a:Int):Bool:=decide (101≤a∧a≤105)
theorem GP (a:Int):VC E0 7 0 [.s (.int .i64 a)] [] (RR (.s (.bool (bTo a))) 0 []):=by
 refine en L0 Tryz.f7 ?_;refine sp ?_ ?_<;>intro h1
 ·have h1:a≥101:=h1;refine wh ?_;refine sp ?_ ?_<;>intro h2
  ·have h2:a≤105:=h2;refine wh ?_;refine⟨[],[],_,_,_,tx ?_,rfl,rfl,rfl⟩;exact Lz.of (an (Eq.symm (decide_eq_true ⟨h1,h2⟩)))
  ·have h2:¬a≤105:=h2;refine wh ?_;refine⟨[],[],_,_,_,tx ?_,rfl,rfl,rfl⟩;exact Lz.of (an (Eq.symm (decide_eq_false fun q=>h2 q.2)))
 ·have h1:¬a≥101:=h1;refine wh ?_;refine⟨[],[],_,_,_,tx ?_,rfl,rfl,rfl⟩;exact Lz.of (an (Eq.symm (decide_eq_false fun q=>h1 q.1)))
@[reducible] noncomputable def dN (s:MS):List TV:=[.own (IY s)]
theorem KG {s s':MS} (H:dc s) {m:bS} (h:zz s m s'):Gr s s' 5120:=by
 obtain⟨_,h⟩:=h;rcases h with⟨k,hb,h⟩|⟨k,hv,h⟩|⟨k,hb,h⟩|⟨k,h⟩|⟨k,hc,h⟩|⟨k,ht,rfl⟩|⟨k,ht,rfl⟩|⟨k,rfl⟩|⟨k,h⟩
 ·exact BO H hb h
 ·exact QF H hv h
 ·exact(BL H hb h).le (by decide)
 ·exact(Qx H h).le (by decide)
 ·exact(Gm H hc h).le (by decide)
 ·exact(Ua H _ _ _).le (by decide)
 ·exact(Ub H _ _).le (by decide)
 ·exact⟨H.refuse _,rfl,rfl,rfl,rfl,rfl,.refl _,Nat.le_add_right _ _⟩
 ·exact(XN H h).le (by decide)
theorem Ug {s s':MS} (H:dc s) (h:QI s s'):Gr s s' 2700:=by
 obtain⟨c,hc,hp⟩:=h;have Hb:=H.outs (s.out++mK s (iM s.p.1.b (aD s.K)) s.ah.toNat);have hon:=sk Hb (bf s.p.1);have ju:=nu H.lw;have bV:=H.bK;have h6:=H.lE.len;have h1:=nr H (iM s.p.1.b (aD s.K));have h2:Gr (bo s (iM s.p.1.b (aD s.K))) (ik s) 2560:=by
  refine⟨Hb.outs _,rfl,rfl,rfl,rfl,rfl,.refl _,?_⟩;show((bo s (iM s.p.1.b (aD s.K))).out++g8 (bo s (iM s.p.1.b (aD s.K))) (bf s.p.1)).length+7*cN s≤(bo s (iM s.p.1.b (aD s.K))).out.length+7*cN s+2560;rw[List.length_append];have hon:(g8 (bo s (iM s.p.1.b (aD s.K))) (bf s.p.1)).length≤5*(bf s.p.1).length:=hon;omega
 have h3:Gr (ik s) (re (ik s) c) 7:=by
  refine⟨h2.ok.outs _,rfl,rfl,rfl,rfl,rfl,.refl _,?_⟩;have h1:=fi c;have h2:=(bV.2 c hc).1;have h3:(gB (ik s) c (aG c)).length=(aG c).length:=by simp[gB]
  show((ik s).out++gB (ik s) c (aG c)).length+7*cN s≤(ik s).out.length+7*cN s+7;rw[List.length_append];omega
 have h4:=DQ hp h3.ok;exact(h1.trans (h2.trans (h3.trans h4))).le (by rw[bV.1];omega)
theorem Uh {s s':MS} (H:dc s) (h:QL s s'):∃q w,Gr (lG s (s.aK+1) q w) s' 5130:=by
 obtain⟨q,w,h⟩:=h;have H1:=H.cnt (s.aK+1) q w;refine⟨q,w,?_⟩;rcases h with⟨h2,h⟩|⟨h1,h⟩|h
 ·exact(Ug H1 h).le (by decide)
 ·rcases h with rfl |rfl
  ·exact(Gr.refl H1).le (by decide)
  ·exact(nr H1 _).le (by decide)
 ·rcases h with rfl |h
  ·exact(Gr.refl H1).le (by decide)
  ·exact(QH H1 h).le (by decide)
theorem Jk:VC E0 4 0 [] [] (RR (.s (.bool true)) 0 []):=VC.mono (VC.W1 (by kernel_rfl) (fun _ _=>rfl)) fun _ _ _ h=>⟨h.1,h.2.2,h.2.1⟩
structure XV (s s1:MS):Prop where
 ok:dc s1
 l:s1.l=s.l
 no:s1.nodes=s.nodes
 tk:s.aK≤s1.aK∧s1.aK≤s.aK+1
 kr:nq (aN s) (aN s1)
 out:s1.out.length≤12000
theorem QZ {s s1:MS} (H:dc s) (ho:s.out=[]) {m:bS} (h:zz s m s1):XV s s1:=by
 have g:=KG H h;have h1:=g.lt H;have h2:=g.tk;rw[ho]at h1;exact⟨g.ok,g.l,g.no,om,g.kr,by simp at h1;omega⟩
theorem Q0 {s s1:MS} (H:dc s) (ho:s.out=[]) (h:QL s s1):XV s s1:=by
 obtain⟨q,w,g⟩:=Uh H h;have h1:=g.lt (H.cnt _ q w);have h2:=g.tk;have h3:(lG s (s.aK+1) q w).out.length=0:=by show s.out.length=0;rw[ho];rfl
 have h4:(lG s (s.aK+1) q w).aK=s.aK+1:=rfl;exact⟨g.ok,g.l,g.no,om,g.kr,om⟩
theorem KH {l:List CF} (h:kA l) (K:List ai):∀n,∀c∈(a8 K l n).1,∀x∈aG c,x≤24
 |0,c,hc=>by cases hc
 |n+1,c,hc=>by
  have ih:=KH h K n c;have ha:=u9 h K n;unfold a8 at hc;cases hv:K[n]? with
  |none=>rw[hv]at hc;exact ih hc
  |some v=>
   rw[hv]at hc;dsimp only at hc;split at hc
   ·rcases List.mem_append.1 hc with q|q
    ·exact ih q
    ·have hm:c∈(kH (a8 K l n).2 (aA v)).1:=by
      cases hq:(kH (a8 K l n).2 (aA v)).1[v.chain.toNat]? with
      |none=>rw[hq]at q;cases q
      |some y=>rw[hq]at q;simp at q;subst q;exact List.mem_of_getElem? hq
     exact fun x hx=>((kB (Ks ha _) hm).2.2.2.2.2 x hx).2
   ·exact ih hc
theorem GQ (x:oN) (n:Int) (hl:x.bK.length<10000) (hn:∀c∈x.bK,c.nodes.length<1000000):VC E0 12 1 [.ptr 0 0,.s (.int .i64 n)] (Qq x) (RR (.c4 [.agg (aJ ((iJ x.bK n).getD aS)),.s (.bool (iJ x.bK n).isSome)]) 1 (Qq x)):=by
 have gg:=P6 x n hl hn;refine VC.told (R:=RR (.c4 [.agg (aJ ((iJ x.bK n).getD aS)),.s (.bool (iJ x.bK n).isSome)]) 4 (D5 x)) (VC.ld (m0:=0) rfl ?_) ?_
 ·show iU false (VC E0) _ _ [(1,j5 x),(0,y9 x 1)] 2 _;refine⟨[],[some 0,some 1],_,_,_,_,gg,t3,?_⟩;rintro r o' c' ⟨rfl,rfl,rfl⟩;exact⟨rfl,rfl,rfl⟩
 ·rintro r o' c' ⟨rfl,rfl,rfl⟩;exact⟨[],[some 0],_,_,_,t3,rfl,rfl,rfl⟩
structure QK (s s':MS):Prop where
 q:s'.quiet=s.quiet∨s'.quiet=0
 w:s'.waited=s.waited∨s'.waited=0
theorem QK.refl (s:MS):QK s s:=⟨.inl rfl,.inl rfl⟩
theorem QK.trans {a b c:MS} (h:QK a b) (k:QK b c):QK a c:=by
 obtain⟨h1,h2⟩:=h;obtain⟨k1,k2⟩:=k;refine⟨?_,?_⟩
 ·rcases k1 with e|e
  ·rw[e];exact h1
  ·exact .inr e
 ·rcases k2 with e|e
  ·rw[e];exact h2
  ·exact .inr e
theorem QK.of {s s':MS} (h:s'.quiet=s.quiet) (k:s'.waited=s.waited):QK s s':=⟨.inl h,.inl k⟩
theorem Q1 (s:MS) (b slot aO:Int):QK s (MN s b slot aO):=by
 unfold MN;dsimp only;split<;>exact .of rfl rfl
theorem Ui (s:MS) (b slot to:Int) (m:bS):QK s (GD s b slot to m):=by
 unfold GD;split
 ·exact Q1 ..
 ·exact .of rfl rfl
theorem Jl (s:MS) (to:Int):QK s (qL s to):=by unfold qL;split<;>exact .of rfl rfl
theorem Uj (s:MS) (b slot to e:Int):QK s (GF s b slot to e):=by
 unfold GF;split
 ·exact QK.trans (b:={s with quiet:=0}) ⟨.inr rfl,.inl rfl⟩ (Ui ..)
 split
 ·exact Jl ..
 ·exact .refl _
theorem BU (s:MS) (b slot:Int) (c:b8) (ak:Int):QK s (qA s b slot c ak):=by
 unfold qA;exact QK.trans (b:=XL (eD s b) b slot c) (.of rfl rfl) (Uj ..)
theorem DU:∀(vs:List ai) (s:MS),QK s (BS s vs)
 |[],s=>.refl _
 |v::vs,s=>by
  unfold BS;exact QK.trans (b:=qA (bo s (jC v)) v.ao v.slot (aA v) (bF s)) (QK.trans (b:=bo s (jC v)) (.of rfl rfl) (BU ..)) (DU vs _)
theorem Q2 (s:MS) (b aO:Int) (vs:List ai):QK s (MP s b aO vs):=by
 unfold MP;dsimp only;split
 ·exact QK.trans (b:={s with p:=((Kz s.p.1 b aO vs).1,s.p.2)}) (.of rfl rfl) (DU ..)
 ·exact .of rfl rfl
theorem Q3 (s:MS) (c:b8):QK s (Ji s c):=by
 unfold Ji;dsimp only;split
 ·exact QK.trans (b:={s with p:=((tR s.p.1 c).1,s.p.2)}) (.of rfl rfl) (DU ..)
 ·exact .of rfl rfl
theorem Uk (s:MS) (b slot:Int) (vs:List ai) (to:Int):QK s (GH s b slot vs to):=by
 unfold GH;split
 ·exact Q2 ..
 ·exact .of rfl rfl
theorem Ul (s:MS) (b slot:Int) (vs:List ai) (to e:Int):QK s (GI s b slot vs to e):=by
 unfold GI;split
 ·exact QK.trans (b:={s with quiet:=0}) ⟨.inr rfl,.inl rfl⟩ (Uk ..)
 split
 ·exact Jl ..
 ·exact .refl _
theorem BV (s:MS) (b slot ak:Int):QK s (qB s b slot ak):=by
 unfold qB;dsimp only
 exact QK.trans (b:={eD s b with q:=((Ky s.q.1 b s.q.2 slot).1,s.q.2)}) (.of rfl rfl) (Ul ..)
theorem Q4 (s:MS):QK s (zD s):=by
 unfold zD;dsimp only;split
 ·exact QK.trans (b:=bo (lC s) (fZ (aY s.p.1 s.q.1 (aD s.K)).1 (aD s.K))) ⟨.inr rfl,.inr rfl⟩ (BV ..)
 ·exact⟨.inr rfl,.inr rfl⟩
theorem Um (s:MS) (b slot ak:Int):QK s (GJ s b slot ak):=by
 unfold GJ;split
 ·exact Jl ..
 split<;>exact⟨.inr rfl,.inl rfl⟩
theorem XW (s:MS) (c:b8):QK s (QV s c):=by
 unfold QV;split
 ·exact Q3 ..
 ·exact .refl _
theorem Uo (s:MS) (m:bS):QK s (GK s m):=by
 unfold GK;split
 ·exact BV ..
 split
 ·exact Q2 ..
 split
 ·exact BU ..
 split
 ·exact Q1 ..
 split
 ·exact .of rfl rfl
 split
 ·exact Um ..
 split
 ·exact .of rfl rfl
 split
 ·exact .of rfl rfl
 ·exact XW ..
theorem Q5 (down:List Int) (s:MS) (i:Nat):QK s (ov down s i):=by
 unfold ov;split
 ·exact .refl _
 split
 ·exact .refl _
 dsimp only
 split
 ·exact Q3 ..
 ·exact .refl _
theorem KI (down:List Int):∀(l:List Nat) (s:MS),QK s (l.foldl (ov down) s)
 |[],_=>.refl _
 |i::l,s=>(Q5 down s i).trans (KI down l _)
theorem Up (down:List Int) (s:MS):QK s (GM down s):=by
 unfold GM;dsimp only
 refine QK.trans ?_ (KI down _ _);split<;>exact .of rfl rfl
theorem Uq (down:List Int) (s:MS):∃q w,(q=s.quiet∨q=s.quiet+1)∧(w=s.waited∨w=s.waited+1)∧((rj down s).quiet=q∨(rj down s).quiet=0)∧((rj down s).waited=w∨(rj down s).waited=0):=by
 unfold rj;dsimp only
 split
 ·obtain⟨h1,h2⟩:=Up down {s with aK:=s.aK+1};exact⟨_,_,.inl rfl,.inl rfl,h1,h2⟩
 split
 ·split<;>exact⟨_,_,.inl rfl,.inr rfl,.inl rfl,.inl rfl⟩
 ·split
  ·obtain⟨h1,h2⟩:=Q4 {s with aK:=s.aK+1,quiet:=s.quiet+1};exact⟨_,_,.inr rfl,.inl rfl,h1,h2⟩
  ·exact⟨_,_,.inr rfl,.inl rfl,.inl rfl,.inl rfl⟩
structure XX (s s1:MS) (d:Int):Prop where
 ok:XV s s1
 tk:s1.aK≤s.aK+d
 q:0≤s.quiet→0≤s1.quiet∧s1.quiet≤s.quiet+d
 w:0≤s.waited→0≤s1.waited∧s1.waited≤s.waited+d
theorem BW {s s1:MS} (H:dc s) (ho:s.out=[]) {m:bS} (h:zz s m s1):XX s s1 0:=by
 have g:=(KG H h).tk;have e:=GL h;obtain⟨q,w⟩:=Uo (ab s) m;rw[←e]at q w;have q:s1.quiet=s.quiet∨s1.quiet=0:=q;have w:s1.waited=s.waited∨s1.waited=0:=w;exact⟨QZ H ho h,om,fun _=>by omega,fun _=>by omega⟩
theorem MY {down:List Int} {s s1:MS} (H:dc s) (ho:s.out=[]) (h:BT down s s1):XX s s1 1:=by
 have e:=GO h;obtain⟨q,w,a,b,c,d⟩:=Uq down (ab s);rw[←e]at c d;have a:q=s.quiet∨q=s.quiet+1:=a;have b:w=s.waited∨w=s.waited+1:=b;have c:s1.quiet=q∨s1.quiet=0:=c;have d:s1.waited=w∨s1.waited=0:=d;have o:=Q0 H ho h.any;exact⟨o,o.tk.2,fun _=>by omega,fun _=>by omega⟩
@[reducible] def G7:List CF:=[⟨0,1,[1,2,3],false,0⟩]
structure RI (n:Nat) (t:Int) (ms:List MS):Prop where
 Q6:ms.length=n
 YV:∀s∈ms,dc s∧s.out=[]∧s.l=G7∧s.nodes=3∧(0≤s.aK∧s.aK≤t)∧(0≤s.quiet∧s.quiet≤t)∧(0≤s.waited∧s.waited≤t)
theorem RI.more {n:Nat} {t t':Int} {ms:List MS} (h:RI n t ms) (ht:t≤t'):RI n t' ms:=
 ⟨h.Q6,fun s hs=>by obtain⟨a,b,c,d,e,f,g⟩:=h.YV s hs;exact⟨a,b,c,d,om,by omega,om⟩⟩
theorem RI.step {n:Nat} {t d:Int} {ms:List MS} (h:RI n t ms) (hd:0≤d) {j:Nat} {s s1:MS} (hs:ms[j]? =some s) (ho:XX s s1 d):RI n (t+d) (ms.set j {s1 with out:=[]}):=by
 refine⟨by rw[List.length_set];exact h.Q6,fun x hx=>?_⟩;rcases List.mem_or_eq_of_mem_set hx with q|rfl
 ·obtain⟨z,a,b,c,d,e,f⟩:=h.YV x q;exact⟨z,a,b,c,om,by omega,om⟩
 ·obtain⟨z,a,b,c,d,e,f⟩:=h.YV s (List.mem_of_getElem? hs);have h1:=ho.ok.tk;have h2:=ho.tk;have h3:=ho.q e.1;have h4:=ho.w f.1;exact⟨ho.ok.ok.outs [],rfl,ho.ok.l.trans b,ho.ok.no.trans c,⟨by show 0≤s1.aK;omega,by show s1.aK≤t+_;omega⟩,⟨h3.1,by show s1.quiet≤t+_;omega⟩,⟨h4.1,by show s1.waited≤t+_;omega⟩⟩
def mi (n:Nat) (k:Nat):List MS:=(List.range k).map fun(i:Nat)=>kC ((i:Int)+1) n G7
theorem Jm (n:Nat) (k:Nat):mi n (k+1)=mi n k++[kC (k+1) n G7]:=by simp[mi,List.range_succ]
theorem BX (n:Nat) (k:Nat):(mi n k).length=k:=by simp[mi]
def oG (ms:List MS) (more:List bS) (w:List MS×List bS):Prop:=ms.map ab=w.1∧more=w.2
theorem zF {w:List MS×List bS} {m:bS} {k:Nat} {x:MS} (hk:w.1[k]? =some x) (BI:m.to=101+k) (h5:k<5):c5 w m=(w.1.set k (MR (zE x m)),w.2++(zE x m).out):=by
 unfold c5;rw[if_pos om,show(m.to - 101).toNat=k by omega,hk]
theorem Jn {w:List MS×List bS} {m:bS} (BI:m.to≤24):c5 w m=w:=by
 unfold c5;rw[if_neg om]
theorem BY {ms:List MS} {more:List bS} {w:List MS×List bS} (h:oG ms more w) {m:bS} {k:Nat} {s s1:MS} (hk:ms[k]? =some s) (BI:m.to=101+k) (h5:k<5) (ha:pX s m) (ht:zz s m s1):
 oG (ms.set k {s1 with out:=[]}) (more++s1.out) (c5 w m):=by
 obtain⟨h1,h2⟩:=h;have O2:w.1[k]? =some (ab s):=by rw[←h1,List.getElem?_map,hk];rfl
 have e:=GL ht;have e2:zE (ab s) m=ab s1:=by unfold zE;exact(if_pos ha).trans e.symm
 rw[zF O2 BI h5,e2,←h1,←h2];exact⟨List.map_set,rfl⟩
theorem BZ {ms:List MS} {more:List bS} {w:List MS×List bS} (h:oG ms more w) {m:bS} {k:Nat} {s:MS} (hk:ms[k]? =some s) (BI:m.to=101+k) (h5:k<5) (ha:¬pX s m) (ho:s.out=[]):
 oG ms more (c5 w m):=by
 obtain⟨h1,h2⟩:=h;have O2:w.1[k]? =some (ab s):=by rw[←h1,List.getElem?_map,hk];rfl
 have e2:zE (ab s) m=ab s:=by unfold zE;exact if_neg ha
 have e3:MR (ab s)=ab s:=by unfold MR ab;rw[ho]
 have e4:(ab s).out=[]:=ho;rw[zF O2 BI h5,e2,e3,e4,List.append_nil];refine⟨?_,h2⟩;rw[h1];obtain⟨hl,he⟩:=List.getElem?_eq_some_iff.1 O2;show w.1=w.1.set k (ab s);rw[←he,List.set_getElem_self]
def mj (n:Int) (w:List MS×List bS) (i:Nat):List MS×List bS:=
 match w.1[i]? with
 |none=>w
 |some s=>(w.1.set i (MR (rj [n] s)),w.2++(rj [n] s).out)
@[reducible] def Q7 (n:Int) (i:Nat):bS:=⟨9,n % 3+1,101+(i:Nat),0,0,⟨1,0,1,n⟩,aS,[]⟩
theorem zG {n:Int} {w:List MS×List bS} {i:Nat} (hi:i<w.1.length):jE n 30 w i=c5 (mj n w i) (Q7 n i):=by
 unfold jE mj;rw[List.getElem?_eq_getElem hi];rfl
theorem zH {n:Int} {r:Nat} (hr:r≠30) {w:List MS×List bS} {i:Nat}:jE n r w i=mj n w i:=by
 unfold jE mj;cases w.1[i]? with
 |none=>rfl
 |some s=>exact if_neg hr
theorem MZ {ms:List MS} {more:List bS} {w:List MS×List bS} (h:oG ms more w) {n:Int} {k:Nat} {s s1:MS} (hk:ms[k]? =some s) (ht:BT [n] s s1):
 oG (ms.set k {s1 with out:=[]}) (more++s1.out) (mj n w k):=by
 obtain⟨h1,h2⟩:=h;have O2:w.1[k]? =some (ab s):=by rw[←h1,List.getElem?_map,hk];rfl
 have e:=GO ht;unfold mj;rw[O2];dsimp only
 rw[←e,←h1,←h2];exact⟨List.map_set,rfl⟩
end Go.M
