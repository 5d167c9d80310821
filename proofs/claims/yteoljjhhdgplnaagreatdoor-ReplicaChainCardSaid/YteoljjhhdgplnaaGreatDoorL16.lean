/-
  Part 16 of the library that the proof leans on.
-/
import Derived.Test.YteoljjhhdgplnaaGreatDoorL14
import Derived.Test.YteoljjhhdgplnaaGreatDoorL15
import Derived.Test.YteoljjhhdgplnaaGreatDoorL6
namespace Go.M
open Go Go.Proofs
set_option maxRecDepth 100000
open Classical in
noncomputable def xK (s:Nat) (args:List Value) (h:ab):Option (Value×ab):=
 if hx:∃r n,fJ ES s n 111 args h=some r then some hx.choose else none
noncomputable def Qf (s:Nat):FuncId→List Value→ab→Option (Value×ab):=fun g args h=>match Nat.beq g 111 with
 |true=>xK s args h
 |false=>none
noncomputable def EC (s:Nat):=kJ Tryz.prog [] (Qf s)
theorem Qg (hm:Tryz.prog.follows .mixedOrders=true) (s B:Nat):jy Tryz.prog (EC s) s B:=by
 intro μ h w g args args' v h' hc hr H F n hF;have l4:Qf s g args h=some (v,h'):=hc;unfold Qf at l4;split at l4
 ·rename_i hg;obtain rfl:=beq_iff.1 hg;unfold xK at l4;split at l4
  ·rename_i hx;have VT:=hx.choose_spec;rw[Option.some.injEq]at l4;rw[l4]at VT;obtain⟨k,hk⟩:=VT;have H2:bf ES s B μ h w:=⟨H.gg,H.high,H.obj,H.own,H.alias,H.dA,H.dv,H.low,H.l8,H.wf,H.root⟩;refine(wv (qX Tryz.prog [] lh) pQ hm k μ h w 111 args args' v h' hk hr H2 F n hF).mono fun e w' ⟨v',aS,h1,h2,h3⟩=>?_;exact⟨v',aS,h1,h2,⟨⟨h3.rel.gg,h3.rel.high,h3.rel.obj,h3.rel.own,h3.rel.alias,h3.rel.dA,h3.rel.dv,h3.rel.low,h3.rel.l8,h3.rel.wf,h3.rel.root⟩,h3.grow,h3.le,h3.new,h3.GZ,h3.fG⟩⟩
  ·cases l4
 ·cases l4
theorem DN {s n:Nat} {args:List Value} {h h':ab} {v:Value} (hn:fJ ES s n 111 args h=some (v,h')) (hu:∀n r,fJ ES s n 111 args h=some r→r=(v,h')):xK s args h=some (v,h'):=by
 unfold xK;have hx:∃r n,fJ ES s n 111 args h=some r:=⟨_,n,hn⟩;rw[dif_pos hx];obtain⟨k,hk⟩:=hx.choose_spec;rw[hu k _ hk]
end Go.M
namespace Go.M
open Go Go.Proofs
set_option maxRecDepth 100000
set_option maxHeartbeats 4000000
section
variable {E:Env} {base:Nat} {cK:qm} {rK:nC} {ops rest:List Oper} {o:Oper} {f:AF} {g g':ab} {K:AF→ab→Option Out}
theorem aZ {X:Option Out} (hw:wanted ops o f=true) (h:zT E base cK rK o f g (fun v h'=>og E base cK rK ops rest (f.put o.dst v) h' K)=X):og E base cK rK ops (o::rest) f g K=X:=by
 unfold og;rw[hw];exact h
theorem cm {K:KV} {v:Value} (hx:∀it,o.op≠ .next it false) (h:aI E f o=some v):zT E base cK rK o f g K=K v g:=by
 unfold zT;split
 ·rename_i it e;exact absurd e (hx it)
 ·rw[h]
theorem xL {K:KV} {v:Value} {q:RQ} (hx:∀it,o.op≠ .next it false) (hp:aI E f o=none) (h:bG E f o=some q) (hv:q.run g=some v):zT E base cK rK o f g K=K v g:=by
 unfold zT;split
 ·rename_i it e;exact absurd e (hx it)
 ·simp only[hp,h,hv]
theorem z9 {K:KV} {m:Made} {hd:qq} (hx:∀it,o.op≠ .next it false) (hp:aI E f o=none) (hr:bG E f o=none) (h:bc E f o=some (m,hd)):zT E base cK rK o f g K=K (hd.val g.size) (g.push (m.obj g.size)):=by
 unfold zT;split
 ·rename_i it e;exact absurd e (hx it)
 ·simp only[hp,h,hr]
theorem vG {K:KV} {v:Value} (hx:∀it,o.op≠ .next it false) (hp:aI E f o=none) (hr:bG E f o=none) (ha:bc E f o=none) (h:c7 E base f o g=some (.val v,g')):zT E base cK rK o f g K=K v g':=by
 unfold zT;split
 ·rename_i it e;exact absurd e (hx it)
 ·simp only[hp,h,hr,ha]
theorem JL {K:KV} {l:Nat} {args:List Value} (hx:∀it,o.op≠ .next it false) (hp:aI E f o=none) (hr:bG E f o=none) (ha:bc E f o=none) (h:c7 E base f o g=some (.round l args,g')):zT E base cK rK o f g K=rK l args g' K:=by
 unfold zT;split
 ·rename_i it e;exact absurd e (hx it)
 ·simp only[hp,h,hr,ha]
theorem tV {K:KV} {l:Nat} {args:List Value} (hx:∀it,o.op≠ .next it false) (hp:aI E f o=none) (hr:bG E f o=none) (ha:bc E f o=none) (h:c7 E base f o g=some (.enter l args,g')):zT E base cK rK o f g K=cK l args g' K:=by
 unfold zT;split
 ·rename_i it e;exact absurd e (hx it)
 ·simp only[hp,h,hr,ha]
end
theorem eF {E:Env} {base:Nat} {cK:qm} {rK:nC} {ops:List Oper} {f:AF} {g:ab} {K:AF→ab→Option Out}:og E base cK rK ops [] f g K=K f g:=rfl
theorem cJ {E:Env} {base n:Nat} {a b:Code} {f:AF} {h:ab} {K:KC}:aH E base (n+1) (.seq a b) f h K=aH E base n a f h (fun ex f' h'=>match ex with| .normal=>aH E base n b f' h' K|ex=>K ex f' h'):=rfl
theorem dR {E:Env} {base n id:Nat} {ops:Array Oper} {f:AF} {h:ab} {K:KC}:aH E base (n+1) (.region id ops false) f h K=og E base (eg E base (aH E base n)) (jq base (aH E base n)) ops.toList ops.toList f h fun f' h'=>K .normal f' h':=rfl
noncomputable def mF:Code:=match Tryz.f161.body with|some (.seq _ (.seq (.seq _ (.block _ (.rangeFunc _ _ a _))) _))=>a|_=>.skip
noncomputable def mG:Code:=match Tryz.f161.body with|some (.seq _ (.seq (.seq _ (.block _ (.rangeFunc _ _ _ b))) _))=>b|_=>.skip
@[reducible] def xM (s:Nat):Value:=.pointer (some ⟨s,0,none⟩)
@[reducible] def Aa (b n c:Nat):Value:=.slice (some ⟨b,0,some 1⟩) n c
noncomputable def JM (s:Nat) (dc:Value):AF:=((((AF.enter [.slice none 0 0,dc] 13).set 2 (xM s)).set 4 (.slice none 0 0)).set 6 dc)
def MV (s:Nat) (g:ab) (v:Value) (acc:List Value):Prop:=
 (acc=[]∧v= .slice none 0 0)∨(0<acc.length∧∃b f t0 eX aO,v=Aa b acc.length (acc.length+1)∧g.get b=some (.cells acc f t0 eX)∧g.dA b=some (f,b,aO)∧aO≤b∧s+3≤f∧f≤b∧b<g.size)
theorem sF {g:ab} {b t:Nat} {v:Value} (h:g.get b=some (.cells [v] b b t)) (ht:t≤b):ae g b 0 1=some [v]:=by
 unfold ae;rw[dO (bH h h) ht (az h)];rfl
theorem append_nil {s:Nat} {g:ab} {k:Int}:bD (EC s) s (g.push (.cells [.int .u32 k] g.size g.size 0)) 83 83 (.slice none 0 0) (Aa g.size 1 1)=
 some (Aa (g.size+1) 1 2,(g.push (.cells [.int .u32 k] g.size g.size 0)).push (.cells [.int .u32 k] (g.size+1) (g.size+1) 0)):=by
 have hr:ae (g.push (.cells [.int .u32 k] g.size g.size 0)) g.size 0 1=some [.int .u32 k]:=sF (t:=0) (by rw[ab.ao,if_pos rfl]) (Nat.zero_le _)
 have:bD (EC s) s (g.push (.cells [.int .u32 k] g.size g.size 0)) 83 83 (.slice none 0 0) (Aa g.size 1 1)=
  (ae (g.push (.cells [.int .u32 k] g.size g.size 0)) g.size 0 1).bind fun new=>bC (Nat.beq new.length 1) (some (fresh (g.push (.cells [.int .u32 k] g.size g.size 0)) new 1 1)):=by
  rfl
 rw[this,hr];simp only[Option.bind_some,fresh,ab.size_push];rfl
theorem Ge {s b n f t0 eX aO x:Nat} {g:ab} {k:Int} {acc:List Value} (hx:ae g x 0 1=some [.int .u32 k]) (hb:g.get b=some (.cells acc f t0 eX)) (hf:g.dA b=some (f,b,aO)) (ht:aO≤b) (hs:s≤f) (hn:acc.length=n) (hlen:n≤1000000):
 bD (EC s) s g 83 83 (Aa b n (n+1)) (Aa x 1 1)=some (Aa g.size (n+1) (n+1+1),dW g f aO (acc++[.int .u32 k])):=by
 have hr:ae g b 0 (n*1)=some acc:=by
  unfold ae;rw[dO hf ht (az hb)];simp only[Option.bind_some,List.drop_zero,aU];exact⟨om,by rw[List.take_of_length_le om]⟩
 have e:bD (EC s) s g 83 83 (Aa b n (n+1)) (Aa x 1 1)=bC (Nat.ble ((n+1+1)*5) 1099511627776) ((ae g b 0 (n*1)).bind fun old=>(ae g x 0 1).bind fun new=>bC (Nat.beq new.length 1)
  (bif Nat.beq (n+1) n then some (fresh g (old++new) 1 (n+1))else(g.cellsOf b).bind fun cs=>(g.dA b).bind fun r=>bC (Nat.ble s r.1&&Nat.beq r.2.1 b&&new.all fq)
   (some (Aa g.size (n+1) (n+1+1),(g.bx r.1 g.size (bif Nat.beq (0+n*1) cs.length then r.2.2 else g.size)).push (.cells (old++new) r.1 0 0))))):=rfl
 rw[e,hr,hx];simp only[Option.bind_some,az hb,hf];have h1:Nat.ble ((n+1+1)*5) 1099511627776=true:=aG.2 om
 have h2:Nat.beq (n+1) n=false:=by cases hh:Nat.beq (n+1) n with
  |false=>rfl
  |true=>have:=beq_iff.1 hh;omega
 have h3:Nat.ble s f=true:=aG.2 hs;have h4:Nat.beq b b=true:=beq_iff.2 rfl;have h5:Nat.beq (0+n*1) acc.length=true:=beq_iff.2 om;rw[h1,h2,h3,h4,h5];rfl
theorem JN {s:Nat} {g:ab} {v v':Value} {t:Nat} (h:g.get s=some (.cells [v] s s t)) (ht:t≤s) (hv:v'.cells= #[v']) (_:fq v'=true):
 ((g.rd s).bind fun cs=>(cZ cs 0 v'.cells.toList).bind fun cs'=>(g.wr s s cs').bind fun h'=>some (lI.val undef,h'))=some (.val undef,(g.setCells s [v']).bx s s s):=by
 rw[dO (bH h h) ht (az h),hv];have:g.wr s s [v']=some ((g.setCells s [v']).bx s s s):=by
  unfold ab.wr;rw[aG.2 (Nat.le_refl s),bH h h];simp only[bC,Option.bind_some,beq_iff.2 (rfl:s=s),aG.2 (Nat.le_refl s)]
 show((g.wr s s [v']).bind fun h'=>some (lI.val undef,h'))=_;rw[this];rfl
theorem g7 {s:Nat} {g:ab} {v v':Value} {t:Nat} (h:g.get s=some (.cells [v] s s t)) (c:Nat):((g.setCells s [v']).bx s s s).get c=if c=s then some (.cells [v'] s s s)else g.get c:=by
 rw[bp];by_cases e:c=s
 ·subst e;rw[if_pos rfl,if_pos rfl,bz,if_pos rfl,h]
 ·rw[if_neg e,if_neg e,bz,if_neg e]
theorem Ab {s:Nat} {g:ab} {v v':Value} {t:Nat} (h:g.get s=some (.cells [v] s s t)) {b:Nat} {r:Nat×Nat×Nat} (hr:g.dA b=some r) (bj:r.1≠s):((g.setCells s [v']).bx s s s).dA b=some r:=by
 have hc:(g.setCells s [v']).get s=some (.cells [v'] s s t):=by rw[bz,if_pos rfl,h]
 rw[qw hc,rJ,hr];simp[bj]
structure Nxt (s:Nat) (g g':ab) (acc:List Value) (k:Int):Prop where
 wf:Wf g'
 size:g'.size=g.size+2
 box:∃v,g'.get s=some (.cells [v] s s s)∧MV s g' v (acc++[.int .u32 k])
 bk:∀c,c<s+3→c≠s→g'.get c=g.get c
theorem Wf.Qh {h:ab} (W:Wf h) {c:Nat} {o1 o:e8} (hc:h.get c=some o1) (n2:dh o=true):Wf (h.put c o):=by
 have bF:=W.lt hc;refine⟨fun b hb=>?_,fun b cs f cO aO hg=>?_⟩
 ·rw[ab.size_put]at hb;rw[ab.bE,if_neg om];exact W.high b hb
 ·rw[ab.bE]at hg;by_cases e:b=c
  ·rw[if_pos e]at hg;cases hg;simp[dh]at n2
  ·rw[if_neg e]at hg;exact W.le _ _ _ _ _ hg
theorem DO {s:Nat} {g:ab} {v v':Value} {t:Nat} (W:Wf g) (h:g.get s=some (.cells [v] s s t)):Wf ((g.setCells s [v']).bx s s s):=by
 have bF:=W.lt h;refine⟨fun b hb=>?_,fun b cs f cO aO hg=>?_⟩
 ·rw[bu,cC]at hb;rw[g7 h,if_neg om];exact W.high b hb
 ·rw[g7 h]at hg;by_cases e:b=s
  ·rw[if_pos e]at hg;cases hg;omega
  ·rw[if_neg e]at hg;exact W.le _ _ _ _ _ hg
theorem JO {s:Nat} {g:ab} {v:Value} {t:Nat} {acc:List Value} {k:Int} (W:Wf g) (fG:s+3≤g.size) (h:g.get s=some (.cells [v] s s t)) (_:t≤s) (hv:MV s g v acc) (hlen:acc.length≤1000000):
 ∃v' g3,bD (EC s) s (g.push (.cells [.int .u32 k] g.size g.size 0)) 83 83 v (Aa g.size 1 1)=some (v',g3)∧g3.get s=some (.cells [v] s s t)∧v'.cells= #[v']∧fq v'=true∧Nxt s g ((g3.setCells s [v']).bx s s s) acc k:=by
 obtain⟨g1,ma⟩:∃g1,g1=g.push (.cells [.int .u32 k] g.size g.size 0):=⟨_,rfl⟩;have Gf:∀c,c<g.size→g1.get c=g.get c:=fun c hc=>by rw[ma,ab.ao,if_neg om]
 have KX:g1.size=g.size+1:=by rw[ma,ab.size_push]
 have abq:g1.get g.size=some (.cells [.int .u32 k] g.size g.size 0):=by rw[ma,ab.ao,if_pos rfl]
 have hx:ae g1 g.size 0 1=some [.int .u32 k]:=sF abq (Nat.zero_le _);have W1:Wf g1:=by rw[ma];exact W.push (fun cs f cO aO e=>by cases e;exact Nat.le_refl _)
 rw[←ma];rcases hv with⟨rfl,rfl⟩|⟨yJ,b,f,t0,eX,aO,rfl,hb,hf,EI,Xj,Sg,Ur⟩
 ·have ha:bD (EC s) s g1 83 83 (.slice none 0 0) (Aa g.size 1 1)=some (Aa (g.size+1) 1 2,g1.push (.cells [.int .u32 k] (g.size+1) (g.size+1) 0)):=by rw[ma];exact append_nil
  obtain⟨g3,JP⟩:∃g3,g3=g1.push (.cells [.int .u32 k] (g.size+1) (g.size+1) 0):=⟨_,rfl⟩;rw[←JP]at ha;have MW:∀c,c<g.size→g3.get c=g.get c:=fun c hc=>by rw[JP,ab.ao,KX,if_neg om];exact Gf c hc
  have JQ:g3.get (g.size+1)=some (.cells [.int .u32 k] (g.size+1) (g.size+1) 0):=by rw[JP,ab.ao,KX,if_pos rfl]
  have h3:g3.get s=some (.cells [.slice none 0 0] s s t):=(MW s om).trans h;have W3:Wf g3:=by rw[JP];exact W1.push (fun cs f cO aO e=>by cases e;omega)
  refine⟨_,g3,ha,h3,rfl,rfl,⟨DO W3 h3,?_,⟨Aa (g.size+1) 1 2,?_,.inr ⟨by simp,g.size+1,g.size+1,g.size+1,0,0,rfl,?_,?_,om,by omega,Nat.le_refl _,?_⟩⟩,fun c hc bj=>?_⟩⟩
  ·rw[bu,cC,JP,ab.size_push,KX]
  ·rw[g7 h3,if_pos rfl]
  ·rw[g7 h3,if_neg om];exact JQ
  ·exact Ab h3 (bH JQ JQ) (by simp;omega)
  ·rw[bu,cC,JP,ab.size_push,KX];omega
  ·rw[g7 h3,if_neg bj];exact MW c om
 ·have oC:g1.get b=some (.cells acc f t0 eX):=(Gf b Ur).trans hb;obtain⟨c0,bP⟩:=bI hf;simp only at bP;have qy:g1.get f=some (.cells c0 f b aO):=(Gf f om).trans bP;have Xm:g1.dA b=some (f,b,aO):=bH oC qy;have ha:=Ge (s:=s) (x:=g.size) (g:=g1) (k:=k) hx oC Xm EI om rfl hlen;obtain⟨g3,JP⟩:∃g3,g3=dW g1 f aO (acc++[.int .u32 k]):=⟨_,rfl⟩;rw[←JP,KX]at ha;have MW:∀c,c<g.size→c≠f→g3.get c=g.get c:=fun c hc bj=>by
   rw[JP];unfold dW;rw[ab.ao,bu,KX,if_neg om,bp,if_neg bj];exact Gf c hc
  have JQ:g3.get (g.size+1)=some (.cells (acc++[.int .u32 k]) f 0 0):=by
   rw[JP];unfold dW;rw[ab.ao,bu,KX,if_pos rfl]
  have Yc:g3.get f=some (.cells c0 f (g.size+1) aO):=by
   rw[JP];unfold dW;rw[ab.ao,bu,KX,if_neg om,bp,if_pos rfl,qy]
  have h3:g3.get s=some (.cells [Aa b acc.length (acc.length+1)] s s t):=(MW s om om).trans h;have Yd:g3.size=g.size+2:=by rw[JP];unfold dW;rw[ab.size_push,bu,KX]
  have W3:Wf g3:=by rw[JP];exact LV W1 qy
  refine⟨_,g3,ha,h3,rfl,rfl,⟨DO W3 h3,?_,⟨Aa (g.size+1) (acc.length+1) (acc.length+1+1),?_,.inr ⟨by simp,g.size+1,f,0,0,aO,by simp,?_,?_,om,by omega,om,?_⟩⟩,fun c hc bj=>?_⟩⟩
  ·rw[bu,cC,Yd]
  ·rw[g7 h3,if_pos rfl]
  ·rw[g7 h3,if_neg om];exact JQ
  ·exact Ab h3 (bH JQ Yc) (by simp;omega)
  ·rw[bu,cC,Yd];omega
  ·rw[g7 h3,if_neg bj];exact MW c om om
theorem Qi {s n:Nat} {g:ab} {v:Value} {t:Nat} {acc:List Value} {k:Int} {dc:Value} (W:Wf g) (fG:s+3≤g.size) (h:g.get s=some (.cells [v] s s t)) (ht:t≤s) (hv:MV s g v acc) (hlen:acc.length≤1000000):
 ∃f' g',Nxt s g g' acc k∧∀K:KC,aH (EC s) s (n+2) mG ((AF.jM ([7].zip [.int .u32 k]) (JM s dc)).set 5 (.int .u32 k)) g K=K .normal f' g':=by
 obtain⟨v',g3,ha,h3,hc,ho,hN⟩:=JO (k:=k) W fG h ht hv hlen;refine⟨((((((AF.jM ([7].zip [.int .u32 k]) (JM s dc)).set 5 (.int .u32 k)).set 8 v).set 9 (.int .u32 k)).set 10 (Aa g.size 1 1)).set 11 v'),_,hN,fun K=>?_⟩;show og (EC s) s (eg (EC s) s (aH (EC s) s n)) (jq s (aH (EC s) s n)) _ _ _ g _=_;refine aZ rfl ?_;refine(xL (v:=v) (q:=.cells false s 0 1) (fun it=>by simp) rfl rfl (by show(ae g s 0 1).bind _=_;rw[sF h ht];rfl)).trans ?_;refine aZ rfl ?_;refine(cm (v:=.int .u32 k) (fun it=>by simp) rfl).trans ?_;refine aZ rfl ?_
 refine(z9 (m:=.cells [.int .u32 k]) (hd:=.slice 1 1 1) (fun it=>by simp) rfl rfl rfl).trans ?_;refine aZ rfl ?_;refine(vG (v:=v') (g':=g3) (fun it=>by simp) rfl rfl rfl ?_).trans ?_
 ·show((match bD (EC s) s (g.push (.cells [.int .u32 k] g.size g.size 0)) 83 83 v (Aa g.size 1 1)with|some r=>some r|none=>im (EC s) (g.push (.cells [.int .u32 k] g.size g.size 0)) 83 83 v (Aa g.size 1 1)).bind fun r=>some (lI.val r.1,r.2))=_;rw[ha];rfl
 refine aZ rfl ?_;refine(vG (v:=undef) (g':=(g3.setCells s [v']).bx s s s) (fun it=>by simp) rfl rfl rfl ?_).trans ?_
 ·show((EC s).size 83).bind (fun n=>(some (s,0)).bind fun p=>bC (Nat.beq v'.cells.size n&&v'.cells.toList.all fq) ((g3.rd p.1).bind fun cs=>(cZ cs p.2 v'.cells.toList).bind fun cs'=>(g3.wr s p.1 cs').bind fun h'=>some (lI.val undef,h')))=_;have hg:(Nat.beq v'.cells.size 1&&v'.cells.toList.all fq)=true:=by rw[hc];simp[ho]
  show bC (Nat.beq v'.cells.size 1&&v'.cells.toList.all fq) ((g3.rd s).bind fun cs=>(cZ cs 0 v'.cells.toList).bind fun cs'=>(g3.wr s s cs').bind fun h'=>some (lI.val undef,h'))=_;rw[hg];exact JN h3 ht hc ho
 rfl
theorem JR {s n:Nat} {f:AF} {g:ab} {K:KC}:aH (EC s) s (n+1) mF f g K=K .normal (f.set 5 (f.get 7)) g:=rfl
structure St (s m:Nat) (dc:Value) (es:List MapEntry) (clock:Nat) (acc:List Value) (seen:List Nat) (g:ab):Prop where
 sz:s+3≤g.size
 box:∃v t,g.get s=some (.cells [v] s s t)∧t≤s∧MV s g v acc
 lp:g.get (s+1)=some (.loop .ready none (JM s dc) [7] mF mG)
 it:g.get (s+2)=some (.cy (some m) clock seen clock)
 mp:g.get m=some (.map es clock)
 lt:m<s
 wf:Wf g
theorem MV.put {s c:Nat} {g:ab} {v:Value} {acc:List Value} {o1 o:e8} (h:MV s g v acc) (hc:g.get c=some o1) (n1:dh o1=true) (n2:dh o=true) (bF:c<s+3):MV s (g.put c o) v acc:=by
 rcases h with h|⟨hp,b,f,t0,eX,aO,q1,q2,q3,q4,q5,q6,q7⟩
 ·exact .inl h
 ·exact .inr ⟨hp,b,f,t0,eX,aO,q1,by rw[ab.bE,if_neg om];exact q2,by rw[rL hc n1 n2];exact q3,q4,q5,q6,q7⟩
theorem MX {s m n:Nat} {dc:Value} {es:List MapEntry} {clock:Nat} {acc:List Value} {seen:List Nat} {g:ab} {k:Int} (H:St s m dc es clock acc seen g) (hlen:acc.length≤1000000):
 ∃g',St s m dc es clock (acc++[.int .u32 k]) seen g'∧∀K:KV,jq s (aH (EC s) s (n+2)) (s+1) [.int .u32 k] g K=K (.bool true) g':=by
 obtain⟨v,t,hb,ht,hv⟩:=H.box;have fG:=H.sz;obtain⟨g1,ma⟩:∃g1,g1=g.put (s+1) (.loop .busy none (JM s dc) [7] mF mG):=⟨_,rfl⟩;have Gf:∀c,c≠s+1→g1.get c=g.get c:=fun c hc=>by rw[ma,ab.bE,if_neg hc]
 have sZ:MV s g1 v acc:=by rw[ma];exact hv.put H.lp rfl rfl om
 obtain⟨f',g2,hN,hK⟩:=Qi (n:=n) (k:=k) (dc:=dc) (by rw[ma];exact H.wf.Qh H.lp rfl) (by rw[ma];exact fG) ((Gf s om).trans hb) ht sZ hlen;obtain⟨v2,rA,Hc⟩:=hN.box;have sY:g2.get (s+1)=some (.loop .busy none (JM s dc) [7] mF mG):=by rw[hN.bk _ om om,ma,ab.bE,if_pos rfl]
 have Ye:∀c,c<s+3→c≠s→c≠s+1→g2.get c=g.get c:=fun c h1 h2 h3=>(hN.bk c h1 h2).trans (Gf c h3);refine⟨g2.put (s+1) (.loop .ready none (JM s dc) [7] mF mG),⟨?_,⟨v2,s,?_,Nat.le_refl _,Hc.put sY rfl rfl om⟩,?_,?_,?_,H.lt,hN.wf.Qh sY rfl⟩,fun K=>?_⟩
 ·rw[ab.size_put,hN.size,ma,ab.size_put];omega
 ·rw[ab.bE,if_neg om];exact rA
 ·rw[ab.bE,if_pos rfl]
 ·rw[ab.bE,if_neg om,Ye _ om om om];exact H.it
 ·have:=H.lt;rw[ab.bE,if_neg om,Ye _ om om om];exact H.mp
 ·unfold jq;rw[H.lp,aG.2 (show s≤s+1 by omega)];have hc:(Nat.beq ([7]:List Nat).length [Value.int .u32 k].length&&aW mF&&aW mG)=true:=rfl;simp only[bC,hc];rw[JR,show(AF.jM ([7].zip [Value.int .u32 k]) (JM s dc)).get 7= .int .u32 k from rfl];simp only[H.lp];rw[←ma,hK];simp only[sY]
noncomputable def DP:Code:=match Tryz.f112.body with|some (.seq _ (.block _ (.loop b)))=>b|_=>.skip
noncomputable def ZC:Code:=match DP with| .seq _ (.seq _ (.block _ b))=>b|_=>.skip
theorem gs {f:AF} {t:Nat} {v:Value} (h:t<f.n):(f.set t v).get t=v:=by rw[AF.gQ,if_pos ⟨rfl,h⟩]
theorem gn {f:AF} {t u:Nat} {v:Value} (h:u≠t):(f.set t v).get u=f.get u:=by rw[AF.gQ,if_neg (fun e=>h e.1)]
structure HZ (s:Nat) (f:AF):Prop where
 n:f.n=14
 g0:f.get 0= .func (.yield (s+1)) #[] #[]
 g5:f.get 5=xM (s+2)
theorem HZ.set {s t:Nat} {f:AF} {v:Value} (H:HZ s f) (h0:0≠t) (h5:5≠t):HZ s (f.set t v):=⟨(AF.zg _ _ _).trans H.n,(gn h0).trans H.g0,(gn h5).trans H.g5⟩
theorem Gg {E:Env} {f:AF} {t:Nat} {cs:List Value} {o:Oper} {i:Nat} {v:Value} (ho:o.op= .extract (.tmp t) i) (h:f.get t= .tuple cs.toArray) (hv:cs[i]? =some v):aI E f o=some v:=by
 unfold aI;rw[ho];show((ev E f (.tmp t)).bind fun v=>(match v with| .tuple vs=>vs.toList[i]? |_=>none))=_;rw[show ev E f (.tmp t)=some (f.get t)from rfl,h];simpa using hv
theorem find_born {es:List MapEntry} (hn:(es.map (·.born)).Nodup) {e:MapEntry} (he:e∈es):es.find? (fun x=>x.born==e.born)=some e:=by
 induction es with
 |nil=>cases he
 |cons a l ih=>
  rw[List.find?_cons];rcases List.mem_cons.1 he with rfl |he
  ·simp
  ·have bj:a.born≠e.born:=fun h=>by
    simp only[List.map_cons,List.nodup_cons]at hn;exact hn.1 (List.mem_map.2 ⟨e,he,h.symm⟩)
   have:(a.born==e.born)=false:=by simpa using bj
   rw[this];exact ih (List.nodup_cons.1 (by simpa using hn)).2 he
theorem Qj {s m n:Nat} {dc:Value} {es:List MapEntry} {clock:Nat} {acc:List Value} {seen:List Nat} {g:ab} {f:AF} {e:MapEntry} {k:Int} (H:St s m dc es clock acc (seen++[e.born]) g) (hf:HZ s f) (hlen:acc.length≤1000000) (ct:uH es clock) (he:e∈es) (hk:e.key= .int .u32 k):
 ∃f' g',St s m dc es clock (acc++[.int .u32 k]) (seen++[e.born]) g'∧HZ s f'∧∀K:KC,aH (EC s) s (n+5) ZC f g K=K .normal f' g':=by
 obtain⟨g',H',hy⟩:=MX (n:=n) (k:=k) H hlen;have abr:oy g (s+2)=some (.tuple #[e.key,e.val]):=by
  unfold oy;rw[H.it];simp only[H.mp,List.getLast?_append,List.getLast?_singleton,Option.some_or,Option.bind_some,bC,beq_iff.2 (rfl:clock=clock),find_born ct.2 he]
 obtain⟨f8,h8⟩:∃x,x=f.set 8 (.tuple #[e.key,e.val]):=⟨_,rfl⟩;have F8:HZ s f8:=by rw[h8];exact hf.set om om
 obtain⟨f9,h9⟩:∃x,x=f8.set 9 (.int .u32 k):=⟨_,rfl⟩;have F9:HZ s f9:=by rw[h9];exact F8.set om om
 obtain⟨f3,h3⟩:∃x,x=f9.set 3 (.int .u32 k):=⟨_,rfl⟩;have F3:HZ s f3:=by rw[h3];exact F9.set om om
 obtain⟨fa,ha⟩:∃x,x=f3.set 10 (.func (.yield (s+1)) #[] #[]):=⟨_,rfl⟩;have Fa:HZ s fa:=by rw[ha];exact F3.set om om
 obtain⟨fb,hb⟩:∃x,x=fa.set 11 (.int .u32 k):=⟨_,rfl⟩;have Fb:HZ s fb:=by rw[hb];exact Fa.set om om
 obtain⟨fc,hc⟩:∃x,x=fb.set 12 (.bool true):=⟨_,rfl⟩;have Fc:HZ s fc:=by rw[hc];exact Fb.set om om
 obtain⟨fd,hd⟩:∃x,x=fc.set 13 (.bool false):=⟨_,rfl⟩;have Fd:HZ s fd:=by rw[hd];exact Fc.set om om
 refine⟨fd,g',H',Fd,fun K=>?_⟩;show og (EC s) s _ _ _ _ f g _=_;refine aZ rfl ?_;refine(vG (v:=.tuple #[e.key,e.val]) (g':=g) (fun it=>by simp) rfl rfl rfl ?_).trans ?_
 ·show((some (f.get 5)).bind fun v=>(mW v).bind fun r=>(oy g r).bind fun v=>some (lI.val v,g))=_;rw[hf.g5];show((oy g (s+2)).bind fun v=>some (lI.val v,g))=_;rw[abr];rfl
 show og (EC s) s _ _ _ _ (f.set 8 (.tuple #[e.key,e.val])) g _=_;rw[←h8];refine aZ rfl ?_;refine(cm (v:=.int .u32 k) (fun it=>by simp) (Gg (cs:=[e.key,e.val]) rfl (by rw[h8,gs (by rw[hf.n];omega)]) (by rw[hk];rfl))).trans ?_;show og (EC s) s _ _ _ _ (f8.set 9 (.int .u32 k)) g _=_;rw[←h9];refine aZ rfl ?_;refine(cm (v:=.int .u32 k) (fun it=>by simp) (by show some (f9.get 9)=_;rw[h9,gs (by rw[F8.n];omega)])).trans ?_;rw[eF];show aH (EC s) s (n+4) _ (f9.set 3 (.int .u32 k)) g K=_;rw[cJ,dR];rw[←h3];refine aZ rfl ?_
 refine(cm (v:=.func (.yield (s+1)) #[] #[]) (fun it=>by simp) (by show some (f3.get 0)=_;rw[F3.g0])).trans ?_;show og (EC s) s _ _ _ _ (f3.set 10 (.func (.yield (s+1)) #[] #[])) g _=_;rw[←ha];refine aZ rfl ?_;refine(cm (v:=.int .u32 k) (fun it=>by simp) (by show some (fa.get 3)=_;rw[ha,gn om,h3,gs (by rw[F9.n];omega)])).trans ?_;show og (EC s) s _ _ _ _ (fa.set 11 (.int .u32 k)) g _=_;rw[←hb];refine aZ rfl ?_;refine(JL (l:=s+1) (args:=[.int .u32 k]) (g':=g) (fun it=>by simp) rfl rfl rfl ?_).trans ?_
 ·show((some (fb.get 11)).bind fun v=>(some []).bind fun vs=>some (v::vs)).bind (fun args=>(some (fb.get 10)).bind fun g0=>(match g0 with
   | .func (.func g1) first captured=>some (lI.enter g1 (first.toList++args++captured.toList),g)
   | .func (.yield l) first _=>some (.round l (first.toList++args),g)
   |_=>none))=_
  rw[hb,gs (by rw[Fa.n];omega),gn om,ha,gs (by rw[F3.n];omega)];rfl
 rw[hy];show og (EC s) s _ _ _ _ (fb.set 12 (.bool true)) g' _=_;rw[←hc];refine aZ rfl ?_;refine(cm (v:=.bool false) (fun it=>by simp) (by show((some (fc.get 12)).bind fun a=>bC (scalar a) (eA (Op.unary .not a)))=_;rw[hc,gs (by rw[Fb.n];omega)];rfl)).trans ?_;rw[eF]
 show(match(some ((fc.set 13 (.bool false)).get 13)).bind Cg with
  |some true=>_
  |some false=>_
  |none=>none)=_
 rw[gs (by rw[Fc.n];omega)];subst hd;rfl
theorem MY {X:Out} (hX:fZ X X=true):∀{l:List (Option Out)},l≠[]→(∀x∈l,x=some X)→meet l=some X
 |[],h,_=>absurd rfl h
 |x::xs,_,h=>by
  obtain rfl:=h x List.mem_cons_self;unfold meet;have gen:∀b,b=true→bC b (some X)=some X:=by rintro _ rfl;rfl
  refine gen _ ?_;rw[List.all_eq_true];intro y hy;rw[h y (List.mem_cons_of_mem _ hy)];exact hX
theorem MZ {s m:Nat} {dc:Value} {es:List MapEntry} {clock:Nat} {acc:List Value} {seen:List Nat} {g:ab} {b:Nat} (H:St s m dc es clock acc seen g):St s m dc es clock acc (seen++[b]) (g.put (s+2) (.cy (some m) clock (seen++[b]) clock)):=by
 obtain⟨v,t,hb,ht,hv⟩:=H.box;have:=H.lt;exact⟨by rw[ab.size_put];exact H.sz,⟨v,t,by rw[ab.bE,if_neg om];exact hb,ht,hv.put H.it rfl rfl om⟩,by rw[ab.bE,if_neg om];exact H.lp,by rw[ab.bE,if_pos rfl],by rw[ab.bE,if_neg om];exact H.mp,H.lt,H.wf.Qh H.it rfl⟩
def M4 (e:MapEntry):Prop:=∃k:Int,e.key= .int .u32 k
theorem xN {E:Env} {base n:Nat} {b:Code} {f:AF} {h:ab} {K:KC}:aH E base (n+1) (.loop b) f h K=aH E base n b f h (fun ex f' h'=>match ex with| .normal=>aH E base n (.loop b) f' h' K|ex=>K ex f' h'):=rfl
theorem pc {E:Env} {base n id:Nat} {b:Code} {f:AF} {h:ab} {K:KC}:aH E base (n+1) (.block id b) f h K=aH E base n b f h (fun ex f' h'=>match ex with| .exit mS=>bif Nat.beq mS id then K .normal f' h' else K (.exit mS) f' h'|ex=>K ex f' h'):=rfl
theorem DQ {E:Env} {base:Nat} {cK:qm} {rK:nC} {o:Oper} {f:AF} {g:ab} {K:KV} {it:Operand} {r:Nat} (ho:o.op= .next it false) (h:(ev E f it).bind mW=some r):zT E base cK rK o f g K=xq g r base K:=by
 unfold zT;split
 ·rename_i it' e;rw[ho]at e;cases e;rw[h]
 ·rename_i hx;exact absurd ho (hx it)
def lA (es ch:List MapEntry):List MapEntry:=es.filter fun e=> !(ch.map (·.born)).contains e.born
theorem JS {l:List MapEntry} (hn:(l.map (·.born)).Nodup) {e:MapEntry} (he:e∈l):l.Perm (e::l.filter fun x=> !(x.born==e.born)):=by
 induction l with
 |nil=>cases he
 |cons a l ih=>
  have Ph:=List.nodup_cons.1 (show(a.born::l.map (·.born)).Nodup from hn);rcases List.mem_cons.1 he with rfl |he
  ·rw[List.filter_cons_of_neg (by simp)];have:l.filter (fun x=> !(x.born==e.born))=l:=by
    rw[List.filter_eq_self];intro x hx;have:x.born≠e.born:=fun h=>Ph.1 (List.mem_map.2 ⟨x,hx,h⟩);simpa using this
   rw[this]
  ·have bj:a.born≠e.born:=fun h=>Ph.1 (List.mem_map.2 ⟨e,he,h.symm⟩);rw[List.filter_cons_of_pos (by simpa using bj)];exact((ih Ph.2 he).cons a).trans (.swap _ _ _)
theorem JT (es ch:List MapEntry) (e:MapEntry):lA es (ch++[e])=(lA es ch).filter fun x=> !(x.born==e.born):=by
 unfold lA;rw[List.filter_filter];refine List.filter_congr fun x _=>?_;simp only[List.map_append,List.map_cons,List.map_nil,List.contains_eq_mem,List.mem_append,List.mem_singleton];by_cases h1:x.born∈ch.map (·.born)<;>by_cases h2:x.born=e.born<;>simp_all
theorem DR {E:Env} {base n:Nat} {c:Operand} {a b:Code} {f:AF} {h:ab} {K:KC} (hc:(ev E f c).bind Cg=some false):aH E base (n+1) (.cond c a b) f h K=aH E base n b f h K:=by
 show(match(ev E f c).bind Cg with|some true=>aH E base n a f h K|some false=>aH E base n b f h K|none=>none)=_;rw[hc]
theorem DS {E:Env} {base n:Nat} {c:Operand} {a b:Code} {f:AF} {h:ab} {K:KC} (hc:(ev E f c).bind Cg=some true):aH E base (n+1) (.cond c a b) f h K=aH E base n a f h K:=by
 show(match(ev E f c).bind Cg with|some true=>aH E base n a f h K|some false=>aH E base n b f h K|none=>none)=_;rw[hc]
theorem Gj {E:Env} {base n:Nat} {f:AF} {h:ab} {K:KC}:aH E base (n+1) .skip f h K=K .normal f h:=rfl
theorem DT {es:List MapEntry} {clock:Nat} {seen:List Nat} (ct:uH es clock):(!(!seen.isEmpty&& !es.isEmpty&&es.all (fun e=>Nat.ble clock e.born)))=true:=by
 cases es with
 |nil=>simp
 |cons e l=>
  have:=ct.1 e List.mem_cons_self
  have hb:Nat.ble clock e.born=false:=by cases hh:Nat.ble clock e.born with
   |false=>rfl
   |true=>have:=aG.1 hh;omega
  simp[hb]
theorem Qk {s m:Nat} {dc:Value} {es:List MapEntry} {clock:Nat} {X:Out} (hX:fZ X X=true) (ct:uH es clock) (lT:∀e∈es,M4 e) (hlen:es.length≤1000000) {K:KC}
 (hK:∀(ch:List MapEntry) f g,St s m dc es clock (ch.map (·.key)) (ch.map (·.born)) g→ch.Perm es→K (.exit 0) f g=some X):
 ∀(r n:Nat) (ch:List MapEntry) (f:AF) (g:ab),St s m dc es clock (ch.map (·.key)) (ch.map (·.born)) g→HZ s f→(ch++lA es ch).Perm es→(lA es ch).length=r→aH (EC s) s (n+r+9) (.loop DP) f g K=some X:=by
 intro r
 induction r with
 |zero=>
  intro n ch f g H hf hp hr;have hl:lA es ch=[]:=List.eq_nil_of_length_eq_zero hr;rw[hl,List.append_nil]at hp;rw[xN];show aH (EC s) s (n+8) (.seq _ (.seq (.cond _ .skip (.exit 0)) _)) f g _=_;rw[cJ,dR];refine aZ rfl ?_;refine(DQ (it:=.tmp 5) (r:=s+2) rfl (by show(some (f.get 5)).bind mW=_;rw[hf.g5];rfl)).trans ?_;unfold xq;rw[aG.2 (show s≤s+2 by omega),H.it];simp only[H.mp,bC,DT ct,show es.filter (fun e=> !(ch.map (·.born)).contains e.born)=[]from hl];refine aZ rfl ?_
  refine(cm (v:=.bool false) (fun it=>by simp) (Gg (cs:=[.bool false]) rfl (by show(f.set 6 _).get 6=_;rw[gs (by rw[hf.n];omega)]) rfl)).trans ?_;rw[eF];show aH (EC s) s (n+7) (.seq (.cond (.tmp 7) .skip (.exit 0)) _) ((f.set 6 (.tuple #[.bool false])).set 7 (.bool false)) g _=_;rw[cJ,DR (by show(some (AF.get _ 7)).bind Cg=_;rw[gs (by rw[AF.zg,hf.n];omega)];rfl)];exact hK ch _ g H hp
 |succ r ih=>
  intro n ch f g H hf hp hr;have bj:lA es ch≠[]:=fun h=>by rw[h]at hr;simp at hr
  rw[xN];show aH (EC s) s (n+(r+1)+8) (.seq _ (.seq (.cond _ .skip (.exit 0)) (.block 1 ZC))) f g _=_;rw[cJ,dR];refine aZ rfl ?_;refine(DQ (it:=.tmp 5) (r:=s+2) rfl (by show(some (f.get 5)).bind mW=_;rw[hf.g5];rfl)).trans ?_;unfold xq;rw[aG.2 (show s≤s+2 by omega),H.it];simp only[H.mp,bC,DT ct];generalize hl:es.filter (fun e=> !(ch.map (·.born)).contains e.born)=l;have sf:lA es ch=l:=hl;rw[sf]at bj hr hp;cases l with
  |nil=>exact absurd rfl bj
  |cons e0 l0=>
   show meet (List.map _ (e0::l0))=_;refine MY hX (by simp) fun x hx=>?_;obtain⟨e,he,rfl⟩:=List.mem_map.1 hx;have HE:e∈lA es ch:=by rw[sf];exact he
   have lS:e∈es:=(List.mem_filter.1 HE).1;obtain⟨k,hk⟩:=lT e lS;have nq:(e0::l0).Perm (e::lA es (ch++[e])):=by
    rw[JT,sf];exact JS (by rw[←sf];exact List.Nodup.sublist ((List.filter_sublist (l:=es)).map _) ct.2) he
   have hp2:((ch++[e])++lA es (ch++[e])).Perm es:=by
    refine List.Perm.trans ?_ hp;rw[List.append_assoc];exact(nq.symm.append_left ch)
   have pA:(lA es (ch++[e])).length=r:=by
    have:=nq.length_eq;rw[hr]at this;simpa using this.symm
   have bU:ch.length≤es.length:=by
    have:=hp.length_eq;simp at this;omega
   have abt:Nat.blt e.born clock=true:=aR.2 (ct.1 e lS);simp only[abt];refine aZ rfl ?_;refine(cm (v:=.bool true) (fun it=>by simp) (Gg (cs:=[.bool true,e.key,e.val]) rfl (by show(f.set 6 _).get 6=_;rw[gs (by rw[hf.n];omega)]) rfl)).trans ?_;rw[eF];have F7:HZ s ((f.set 6 (.tuple #[.bool true,e.key,e.val])).set 7 (.bool true)):=(hf.set om om).set om om;obtain⟨f',g',H',yz,hT⟩:=Qj (n:=n+r+1) (MZ H) F7 (by simpa using Nat.le_trans bU hlen) ct lS hk;show aH (EC s) s (n+r+8) (.seq (.cond (.tmp 7) .skip (.exit 0)) (.block 1 ZC)) ((f.set 6 (.tuple #[.bool true,e.key,e.val])).set 7 (.bool true)) _ _=_
   rw[cJ,DS (by show(some (AF.get _ 7)).bind Cg=_;rw[gs (by rw[AF.zg,hf.n];omega)];rfl)];rw[Gj];show aH (EC s) s (n+r+7) (.block 1 ZC) _ _ _=_;rw[pc];rw[show n+r+6=n+r+1+5 by omega];rw[hT];show aH (EC s) s (n+(r+1)+8) (.loop DP) f' g' K=_;rw[show n+(r+1)+8=n+r+9 by omega];exact ih n (ch++[e]) f' g' (by simpa[hk]using H') yz hp2 pA
@[reducible] def jF (B:Nat):Value:=.func (.func 112) #[] #[xM B]
theorem nH {E:Env} {base:Nat} {run:Jw} {g:FuncId} {fn:Func} {code:Code} {args:List Value} {h:ab} {K:KV} (hf:E.func g=some fn) (ho:E.uZ base g args h=none) (hb:fn.body=some code) (hl:Nat.ble args.length fn.ntmps=true):
 eg E base run g args h K=run code (AF.enter args fn.ntmps) h (fun ex f h'=>match ex with
  | .exit _=>none
  |_=>match dg E h' f fn.results.toList with
   |some vs=>K (cQ vs) h'
   |none=>none):=by
 unfold eg;rw[hf];simp only[ho,hb,hl,bC];rfl
noncomputable def kR0:Array Oper:=match Tryz.f112.body with|some (.seq (.region _ o _) _)=>o|_=> #[]
theorem M5 {s m B n:Nat} {dc:Value} {es:List MapEntry} {clock:Nat} {X:Out} {g:ab} (hX:fZ X X=true) (ct:uH es clock) (lT:∀e∈es,M4 e) (hlen:es.length≤1000000) {K:KV}
 (fG:g.size=s+2) (W:Wf g) (hb:g.get s=some (.cells [.slice none 0 0] s s 0)) (hl:g.get (s+1)=some (.loop .ready none (JM s dc) [7] mF mG)) (hm:g.get m=some (.map es clock)) (bF:m<s) (hr:ae g B 0 1=some [.map (some m)])
 (hK:∀(ch:List MapEntry) g',St s m dc es clock (ch.map (·.key)) (ch.map (·.born)) g'→ch.Perm es→K (.tuple #[]) g'=some X):
 eg (EC s) s (aH (EC s) s (n+es.length+11)) 112 [.func (.yield (s+1)) #[] #[],xM B] g K=some X:=by
 refine(nH (code:=.seq (.region 0 kR0 false) (.block 0 (.loop DP))) (show(EC s).func 112=some Tryz.f112 by kernel_rfl) rfl rfl rfl).trans ?_;rw[cJ,dR];refine aZ rfl ?_;refine(xL (v:=.map (some m)) (q:=.cells false B 0 1) (fun it=>by simp) rfl rfl (by show(ae g B 0 1).bind _=_;rw[hr];rfl)).trans ?_;refine aZ rfl ?_;refine(vG (v:=xM g.size) (g':=g.push (.cy (some m) clock [] clock)) (fun it=>by simp) rfl rfl rfl ?_).trans ?_
 ·show(match g.get m with
   |some (.map _ clock)=>some (lI.val (.pointer (some ⟨g.size,0,none⟩)),g.push (.cy (some m) clock [] clock))
   |_=>none)=_
  rw[hm]
 rw[eF];show aH (EC s) s (n+es.length+10) (.block 0 (.loop DP)) (((AF.enter [.func (.yield (s+1)) #[] #[],xM B] 14).set 4 (.map (some m))).set 5 (xM g.size)) (g.push (.cy (some m) clock [] clock)) _=_;rw[pc,fG];refine Qk (dc:=dc) (ch:=[]) hX ct lT hlen (fun ch f g' H hp=>?_) es.length n _ _ ⟨?_,⟨.slice none 0 0,0,?_,Nat.zero_le _,.inl ⟨rfl,rfl⟩⟩,?_,?_,?_,bF,?_⟩ ⟨rfl,rfl,rfl⟩ ?_ ?_
 ·exact hK ch g' H hp
 ·rw[ab.size_push];omega
 ·rw[ab.ao,if_neg om];exact hb
 ·rw[ab.ao,if_neg om];exact hl
 ·rw[ab.ao,if_pos fG.symm];rfl
 ·rw[ab.ao,if_neg om];exact hm
 ·exact W.push (fun _ _ _ _ e=>by cases e)
 ·rw[show lA es []=es from List.filter_eq_self.2 (by simp)];exact List.Perm.refl _
 ·rw[show lA es []=es from List.filter_eq_self.2 (by simp)]
noncomputable def aR0:Array Oper:=match Tryz.f161.body with|some (.seq (.region _ o _) _)=>o|_=> #[]
noncomputable def aR1:Array Oper:=match Tryz.f161.body with|some (.seq _ (.seq (.seq (.region _ o _) _) _))=>o|_=> #[]
noncomputable def aR4:Array Oper:=match Tryz.f161.body with|some (.seq _ (.seq _ (.seq (.region _ o _) _)))=>o|_=> #[]
theorem DU {E:Env} {base n:Nat} {g:Operand} {ps:Array Tmp} {iL body:Code} {f:AF} {h:ab} {K:KC} {g0:FuncId} {first captured:Array Value} (hg:ev E f g=some (.func (.func g0) first captured)) (hb:base≤h.size):
 aH E base (n+1) (.rangeFunc g ps iL body) f h K=eg E base (aH E base n) g0 (first.toList++[.func (.yield h.size) #[] #[]]++captured.toList) (h.push (.loop .ready none f ps.toList iL body)) fun _ h1=>
    (match h1.get h.size with
    |some (.loop st p f0 KJ u5 nR)=>bC (st != .busy) (match p with
     |none=>K .normal f (h1.put h.size (.loop .exhausted p f0 KJ u5 nR))
     |some c=>aH E base n c f (h1.put h.size (.loop .exhausted p f0 KJ u5 nR)) K)
    |_=>none):=by
 show(match ev E f g with
  |some (.func (.func g) first captured)=>_
  |_=>none)=_
 rw[hg];simp only[aG.2 hb,bC];rfl
theorem Ql {s m B n:Nat} {es:List MapEntry} {clock:Nat} {X:Out} {h:ab} (hX:fZ X X=true) (ct:uH es clock) (lT:∀e∈es,M4 e) (hlen:es.length≤1000000) {K:KV}
 (hs:h.size=s) (W:Wf h) (hm:h.get m=some (.map es clock)) (hr:ae h B 0 1=some [.map (some m)])
 (hK:∀(ch:List MapEntry) v g',Wf g'→s+3≤g'.size→MV s g' v (ch.map (·.key))→ch.Perm es→K v g'=some X):
 eg (EC s) s (aH (EC s) s (n+es.length+16)) 161 [.slice none 0 0,jF B] h K=some X:=by
 have bF:=W.lt hm;rw[hs]at bF;refine(nH (code:=.seq (.region 0 aR0 false) (.seq (.seq (.region 1 aR1 false) (.block 0 (.rangeFunc (.tmp 6) #[7] mF mG))) (.seq (.region 4 aR4 false) .ret))) (show(EC s).func 161=some Tryz.f161 by kernel_rfl) rfl rfl rfl).trans ?_;rw[cJ,dR];refine aZ rfl ?_;refine(z9 (m:=.cells [.slice none 0 0]) (hd:=.ptr) (fun it=>by simp) rfl rfl rfl).trans ?_;refine aZ rfl ?_;refine(cm (v:=.slice none 0 0) (fun it=>by simp) rfl).trans ?_;rw[eF,hs];obtain⟨g1,ma⟩:∃g1,g1=h.push (.cells [.slice none 0 0] s s 0):=⟨_,rfl⟩;have KX:g1.size=s+1:=by rw[ma,ab.size_push,hs]
 have W1:Wf g1:=by rw[ma];exact W.push (fun cs f cO aO e=>by cases e;omega)
 show aH (EC s) s (n+es.length+15) (.seq (.seq (.region 1 aR1 false) (.block 0 (.rangeFunc (.tmp 6) #[7] mF mG))) (.seq (.region 4 aR4 false) .ret)) (((AF.enter [.slice none 0 0,jF B] 13).set 2 (xM s)).set 4 (.slice none 0 0)) (h.push (.cells [.slice none 0 0] s s 0)) _=_;rw[←ma,cJ,cJ,dR];refine aZ rfl ?_;refine(cm (v:=jF B) (fun it=>by simp) rfl).trans ?_;rw[eF];show aH (EC s) s (n+es.length+13) (.block 0 (.rangeFunc (.tmp 6) #[7] mF mG)) (JM s (jF B)) g1 _=_;rw[pc,DU (first:= #[]) (captured:= #[xM B]) rfl om,KX]
 show eg (EC s) s (aH (EC s) s (n+es.length+11)) 112 [.func (.yield (s+1)) #[] #[],xM B] (g1.push (.loop .ready none (JM s (jF B)) [7] mF mG)) _=_;refine M5 (dc:=jF B) hX ct lT hlen ?_ ?_ ?_ ?_ ?_ bF ?_ (fun ch g' H hp=>?_)
 ·rw[ab.size_push,KX]
 ·exact W1.push (fun _ _ _ _ e=>by cases e)
 ·rw[ab.ao,if_neg om,ma,ab.ao,if_pos hs.symm]
 ·rw[ab.ao,if_pos om]
 ·rw[ab.ao,if_neg om,ma,ab.ao,if_neg om];exact hm
 ·have:∃cs,h.rd B=some cs:=by
   unfold ae at hr;cases hh:h.rd B with
   |none=>rw[hh]at hr;simp at hr
   |some cs=>exact⟨cs,rfl⟩
  obtain⟨cs,qa⟩:=this;obtain⟨_,_,_,hgB⟩:=wI qa;have hBl:=W.lt hgB;unfold ae at hr ⊢;rw[eB W1.le _ om,ma,eB W.le _ hBl];exact hr
 ·obtain⟨v,t,hb,ht,hv⟩:=H.box;simp only[H.lp];obtain⟨gE,Yf⟩:∃gE,gE=g'.put (s+1) (.loop .exhausted none (JM s (jF B)) [7] mF mG):=⟨_,rfl⟩;have hbE:gE.get s=some (.cells [v] s s t):=by rw[Yf,ab.bE,if_neg om];exact hb
  show aH (EC s) s (n+es.length+14) (.seq (.region 4 aR4 false) .ret) (JM s (jF B)) (g'.put (s+1) (.loop .exhausted none (JM s (jF B)) [7] mF mG)) _=_;rw[←Yf,cJ,dR];refine aZ rfl ?_;refine(xL (v:=v) (q:=.cells false s 0 1) (fun it=>by simp) rfl rfl (by show(ae gE s 0 1).bind _=_;rw[sF hbE ht];rfl)).trans ?_;refine aZ rfl ?_;refine(cm (v:=v) (fun it=>by simp) rfl).trans ?_;rw[eF];exact hK ch v gE (by rw[Yf];exact H.wf.Qh H.lp rfl) (by rw[Yf,ab.size_put];exact H.sz) (by rw[Yf];exact hv.put H.lp rfl rfl om) hp
noncomputable def cR0:Array Oper:=match Tryz.f110.body with|some (.seq (.region _ o _) _)=>o|_=> #[]
noncomputable def cR1:Array Oper:=match Tryz.f110.body with|some (.seq _ (.seq (.region _ o _) _))=>o|_=> #[]
theorem Qm {s m B n:Nat} {es:List MapEntry} {clock:Nat} {X:Out} {h:ab} (hX:fZ X X=true) (ct:uH es clock) (lT:∀e∈es,M4 e) (hlen:es.length≤1000000) {K:KV}
 (hs:h.size=s) (W:Wf h) (hm:h.get m=some (.map es clock)) (hr:ae h B 0 1=some [.map (some m)])
 (hK:∀(ch:List MapEntry) v g',Wf g'→s+3≤g'.size→MV s g' v (ch.map (·.key))→ch.Perm es→K v g'=some X):
 eg (EC s) s (aH (EC s) s (n+es.length+20)) 110 [jF B] h K=some X:=by
 refine(nH (code:=.seq (.region 0 cR0 false) (.seq (.region 1 cR1 false) .ret)) (show(EC s).func 110=some Tryz.f110 by kernel_rfl) rfl rfl rfl).trans ?_;rw[cJ,dR];refine aZ rfl ?_;refine(cm (v:=.slice none 0 0) (fun it=>by simp) rfl).trans ?_;rw[eF];show aH (EC s) s (n+es.length+19) (.seq (.region 1 cR1 false) .ret) ((AF.enter [jF B] 5).set 2 (.slice none 0 0)) h _=_;rw[cJ,dR];refine aZ rfl ?_;refine(cm (v:=jF B) (fun it=>by simp) rfl).trans ?_;refine aZ rfl ?_;refine(tV (l:=161) (args:=[.slice none 0 0,jF B]) (g':=h) (fun it=>by simp) rfl rfl rfl rfl).trans ?_
 show eg (EC s) s (aH (EC s) s (n+es.length+17)) 161 [.slice none 0 0,jF B] h _=_;rw[show n+es.length+17=(n+1)+es.length+16 by omega];refine Ql hX ct lT hlen hs W hm hr fun ch v g' w1 w2 w3 hp=>?_;refine aZ rfl ?_;refine(cm (v:=v) (fun it=>by simp) rfl).trans ?_;rw[eF];exact hK ch v g' w1 w2 w3 hp
theorem xO {E:Env} {base n m:Nat} {g:FuncId} {args:List Value} {h:ab} {r r':Value×ab} (h1:fJ E base n g args h=some r) (h2:fJ E base m g args h=some r'):r'=r:=by
 have a:=wT (E:=E) (base:=base) (Nat.le_max_left n m) _ _ _ _ h1;have b:=wT (E:=E) (base:=base) (Nat.le_max_right n m) _ _ _ _ h2;rw[a]at b;exact(Option.some.inj b).symm
theorem Su {F:Nat→Prop} {h:ab}:kE ES F h:=fun g cs hg=>by
 have:(none:Option (List Value))=some cs:=hg;cases this
theorem M6 {s:Nat} {g:ab} {v:Value} {d:Array Int} (W:Wf g) (hv:MV s g v (d.toList.map (.int .u32))) (hs:s≤g.size) (hl:d.size<13) (yJ:0<d.size):
 ∃h',xK s [v] g=some (.tuple #[],h')∧ae h' (match v with| .slice (some ⟨b,_,_⟩) _ _=>b|_=>0) 0 d.size=some ((cz d.toList).map (.int .u32)):=by
 rcases hv with⟨h0,_⟩|⟨_,b,f,t0,eX,aO,rfl,hb,hf,EI,Xj,Sg,Ur⟩
 ·have:=congrArg List.length h0;simp only[List.length_map,Array.length_toList,List.length_nil]at this;omega
 ·obtain⟨c0,bP⟩:=bI hf;simp only at bP
  let ρ:Gh:=fun n=>if n=0 then some (.arr b 1 ((d.toList.map je).length))else none
  let S:Nat→Ft:=fun _=>[(f,true)]
  let X:=yF s ρ (fun _=>False) [(0,p7 d)] 1 g S
  have lk:∀{m y},look [(0,p7 d)] m=some y→m=0∧y=p7 d:=by
   intro m y hm;unfold look at hm;split at hm
   ·rename_i e;have:=beq_iff.1 e;cases hm;exact⟨this.symm,rfl⟩
   ·cases hm
  have uI:OR 1 ρ (fun _=>False) g s 0 [(f,true)] (p7 d):=by
   refine .arr (b:=b) (f:=f) (t0:=t0) (eX:=eX) (aO:=aO) (cs:=d.toList.map (.int .u32)) (by simp[ρ]) hb hf EI om om (by simp) (by simp) (by simp[fz,wy]) ?_ (by simp);intro i j e t v h1 h2 h3;rw[List.getElem?_map]at h1;obtain⟨x,hx,rfl⟩:=Option.map_eq_some_iff.1 h1;have hj:j=0:=by
    have:=(List.getElem?_eq_some_iff.1 h2).1;simp at this;exact this
   subst hj;simp at h2;subst h2;rw[Nat.mul_one,Nat.add_zero,List.getElem?_map,hx]at h3;cases h3;exact .s rfl
  have Yg:MO X ρ (fun _=>False) [(0,p7 d)] 1 g S:=by
   refine⟨fun m y hm=>?_,fun m y hm=>?_,fun m1 m2 y1 y2 x h1 h2 _ _=>?_,fun m y x hm hx=>?_,fun m y x b' hm hx hF=>hF.elim⟩
   ·obtain⟨rfl,rfl⟩:=lk hm;exact uI
   ·simp[S,dk]
   ·obtain⟨rfl,_⟩:=lk h1;obtain⟨rfl,_⟩:=lk h2;rfl
   ·have RY:x=f:=by simpa[S,dk]using hx
    subst RY;exact⟨by show s≤x;omega,W.lt bP,.inl ⟨m,y,hm,hx⟩⟩
  have qG:Mem X ρ (fun _=>False) [(0,p7 d)] 1 g:=by
   refine⟨⟨S,Yg⟩,fun m l hm=>?_,fun b hb=>hb.elim,fun b hb=>hb,W,.refl _ _ _,hs,fun b hb=>hb.elim,⟨Nat.le_refl _,fun _ _ _ hl=>hl,fun _ _ _ hl=>hl⟩⟩;by_cases e:m=0
   ·omega
   ·simp[ρ,e]at hm
  have hvr:dH 1 ρ (fun _=>False) g [.tk 0] [Aa b (d.toList.map (Value.int .u32)).length ((d.toList.map (Value.int .u32)).length+1)]:=by
   refine .cons (.tk om rfl (fun b' z len hx=>?_) (fun z hx=>?_)) .nil
   ·simp[ρ]at hx;obtain⟨rfl,rfl,rfl⟩:=hx;exact⟨d.size+1,om,by simp⟩
   ·simp[ρ]at hx
  obtain⟨n,v,h',ρ',F',r,o',c',Yh,⟨e,⟨hp,abv⟩,rfl,rfl,rfl⟩,hM,hr⟩:=MS d hl s ρ (fun _=>False) g S _ Su qG Yg hvr;obtain⟨a,rfl,ha⟩:=hr.r9;have ea:a= #[]:=by
   have:=ha.bK;exact Array.toList_eq_nil_iff.1 this
  subst ea;refine⟨h',DN Yh (fun n r ku=>xO Yh ku),?_⟩;show ae h' b 0 d.size=_;obtain⟨S',abw⟩:=hM.ex;have abx:=abw.b8 0 (p7 e) rfl;have lS:e.toList=cz d.toList:=(Sort.sorted_unique_holds Sort.swo_ltInt (fun x y h1 h2=>by simp[Sort.ltInt]at h1 h2;omega) d e hp abv).trans (by unfold cz;congr 1;funext x y;simp[Sort.ltInt];by_cases h:x≤y<;>simp[h]<;>omega);have key:∀{SS:Ft} {y:TO},OR 1 ρ' F' h' X.base 0 SS y→y=p7 e→∃cs,h'.rd b=some cs∧cs.length=d.size∧cs=e.toList.map (.int .u32):=by
   intro SS y H hy;cases H with
   |nil bL hz=>
    exfalso;have:=hM.yS.2.1 0 _ Nat.zero_lt_one bL;simp[yF,ρ]at this
   |arr bL km yz PV Dv jL sf Co yU l4 O5=>
    rename_i z w es b' f' t1 vS c6 cs;cases hy;have eJ:=hM.yS.2.1 0 _ Nat.zero_lt_one bL;simp[yF,ρ]at eJ;obtain⟨rfl,hlen⟩:=eJ;have bU:cs.length=e.toList.length:=by simpa using sf
    refine⟨cs,dO yz PV (az km),by rw[bU,Array.length_toList,hp.1],?_⟩;refine List.ext_getElem? fun i=>?_;rw[List.getElem?_map];cases hx:e.toList[i]? with
    |none=>
     have:e.toList.length≤i:=by simpa using hx
     rw[List.getElem?_eq_none om];rfl
    |some x=>
     have hi:=(List.getElem?_eq_some_iff.1 hx).1;have h1:=l4 i 0 (je x) (.s (.int .u32 x)) (cs[i]' om) (by rw[List.getElem?_map,hx];rfl) rfl (by simp);obtain⟨q1,_⟩:=h1.dF;rw[List.getElem?_eq_getElem om,q1];rfl
   |_=>cases hy
  obtain⟨cs,h1,h2,h3⟩:=key abx rfl;unfold ae;rw[h1];simp only[Option.bind_some,List.drop_zero,aU];refine⟨om,?_⟩;rw[List.take_of_length_le om,h3,lS]
theorem M7 {s:Nat} {g:ab} (W:Wf g) (hs:s≤g.size):∃h',xK s [.slice none 0 0] g=some (.tuple #[],h'):=by
 have Yg:MO (yF s tB (fun _=>False) [] 0 g fun _=>[]) tB (fun _=>False) [] 0 g fun _=>[]:=
  ⟨fun m y hl=>(by cases hl),fun m y hl=>(by cases hl),fun m1 m2 y1 y2 x h1=>(by cases h1),fun m y x hl=>(by cases hl),fun m y x b hl=>(by cases hl)⟩
 have qG:Mem (yF s tB (fun _=>False) [] 0 g fun _=>[]) tB (fun _=>False) [] 0 g:=
  ⟨⟨_,Yg⟩,fun m l hm=>(by cases hm),fun b hb=>hb.elim,fun b hb=>hb,W,.refl _ _ _,hs,fun b hb=>hb.elim,⟨Nat.le_refl _,fun _ _ _ hl=>hl,fun _ _ _ hl=>hl⟩⟩
 obtain⟨n,v,h',ρ',F',r,o',c',Yh,⟨rfl,rfl,rfl⟩,hM,hr⟩:=MU s tB (fun _=>False) g (fun _=>[]) [.slice none 0 0] Su qG Yg (.cons (.nil rfl) .nil);obtain⟨a,rfl,ha⟩:=hr.r9;have ea:a= #[]:=Array.toList_eq_nil_iff.1 ha.bK;subst ea;exact⟨h',DN Yh (fun n r ku=>xO Yh ku)⟩
def BS (ks:List Int):Out:=match ks with
 |[]=>[.bool true,.slice none 0 0]
 |_=>.bool false::goInt ks.length::goInt (1:Nat)::(cz ks).map (.int .u32)
theorem DV:∀l:List Int,fZ (l.map (.int .u32)) (l.map (.int .u32))=true
 |[]=>rfl
 |x::l=>by
  simp only[List.map_cons,fZ,js,DV l,beq_self_eq_true,Bool.and_self]
theorem JU (ks:List Int):fZ (BS ks) (BS ks)=true:=by
 unfold BS;split
 ·rfl
 ·simp only[fZ,js,goInt,DV,beq_self_eq_true,Bool.and_self]
def UB:Value→Int
 | .int _ n=>n
 |_=>0
def JV (e:MapEntry):Int:=UB e.key
noncomputable def sR0:Array Oper:=match Tryz.f76.body with|some (.seq (.region _ o _) _)=>o|_=> #[]
noncomputable def sR1:Array Oper:=match Tryz.f76.body with|some (.seq _ (.seq (.region _ o _) _))=>o|_=> #[]
noncomputable def ZD:Array Oper:=match Tryz.f76.body with|some (.seq _ (.seq _ (.seq (.region _ o _) _)))=>o|_=> #[]
noncomputable def ZE:Array Oper:=match Tryz.f76.body with|some (.seq _ (.seq _ (.seq _ (.seq (.region _ o _) _))))=>o|_=> #[]
theorem Gk {s m B n:Nat} {es:List MapEntry} {clock:Nat} {ks:List Int} {h:ab} (ct:uH es clock) (zk:es.map (·.key)=ks.map (.int .u32)) (hlen:ks.length<13)
 (hs:h.size=s) (W:Wf h) (hm:h.get m=some (.map es clock)) (hr:ae h B 0 1=some [.map (some m)]):
 eg (EC s) s (aH (EC s) s (n+es.length+25)) 76 [jF B] h (DG s)=some (BS ks):=by
 have HE:es.length=ks.length:=by have:=congrArg List.length zk;simpa using this
 have lT:∀e∈es,M4 e:=by
  intro e he;have:e.key∈es.map (·.key):=List.mem_map.2 ⟨e,he,rfl⟩;rw[zk]at this;obtain⟨k,_,hk⟩:=List.mem_map.1 this;exact⟨k,hk.symm⟩
 refine(nH (code:=.seq (.region 0 sR0 false) (.seq (.region 1 sR1 false) (.seq (.region 2 ZD false) (.seq (.region 3 ZE false) .ret)))) (show(EC s).func 76=some Tryz.f76 by kernel_rfl) rfl rfl rfl).trans ?_;rw[cJ,dR];refine aZ rfl ?_;refine(cm (v:=.slice none 0 0) (fun it=>by simp) rfl).trans ?_;rw[eF];show aH (EC s) s (n+es.length+24) (.seq (.region 1 sR1 false) (.seq (.region 2 ZD false) (.seq (.region 3 ZE false) .ret))) ((AF.enter [jF B] 9).set 2 (.slice none 0 0)) h _=_;rw[cJ,dR];refine aZ rfl ?_;refine(cm (v:=jF B) (fun it=>by simp) rfl).trans ?_;refine aZ rfl ?_
 refine(tV (l:=110) (args:=[jF B]) (g':=h) (fun it=>by simp) rfl rfl rfl rfl).trans ?_;show eg (EC s) s (aH (EC s) s (n+es.length+22)) 110 [jF B] h _=_;rw[show n+es.length+22=(n+2)+es.length+20 by omega];refine Qm (JU ks) ct lT om hs W hm hr fun ch v g' w1 w2 w3 hp=>?_;refine aZ rfl ?_;refine(cm (v:=v) (fun it=>by simp) rfl).trans ?_;rw[eF];show aH (EC s) s (n+es.length+23) (.seq (.region 2 ZD false) (.seq (.region 3 ZE false) .ret)) (((((AF.enter [jF B] 9).set 2 (.slice none 0 0)).set 4 (jF B)).set 5 v).set 3 v) g' _=_;rw[cJ,dR];refine aZ rfl ?_
 refine(cm (v:=v) (fun it=>by simp) rfl).trans ?_;refine aZ rfl ?_;refine(tV (l:=111) (args:=[v]) (g':=g') (fun it=>by simp) rfl rfl rfl rfl).trans ?_
 -- what came
 have zG:(ch.map (·.key)).Perm (ks.map (.int .u32)):=by rw[←zk];exact hp.map _
 obtain⟨d,hd,hdk⟩:∃d:Array Int,ch.map (·.key)=d.toList.map (.int .u32)∧d.toList.Perm ks:=by
  refine⟨(ch.map JV).toArray,?_,?_⟩
  ·show ch.map (·.key)=(ch.map JV).map (.int .u32);rw[List.map_map];refine List.map_congr_left fun e he=>?_;obtain⟨k,hk⟩:=lT e (hp.mem_iff.1 he);simp[JV,UB,hk]
  ·show(ch.map JV).Perm ks;have:es.map JV=ks:=by
    have:es.map JV=(es.map (·.key)).map UB:=by rw[List.map_map];rfl
    rw[this,zk,List.map_map];exact(List.map_congr_left fun x _=>rfl).trans (List.map_id ks)
   rw[←this];exact hp.map _
 have fG:d.size=ks.length:=by have:=hdk.length_eq;simpa using this
 have hss:cz d.toList=cz ks:=mergeSort_perm hdk;have Yd:s≤g'.size:=by omega
 have hv:=w3;rw[hd]at hv
 have fin:∀h',xK s [v] g'=some (.tuple #[],h')→DG s v h'=some (BS ks)→eg (EC s) s (aH (EC s) s (n+es.length+21)) 111 [v] g' (fun v1 h1=>og (EC s) s (eg (EC s) s (aH (EC s) s (n+es.length+21))) (jq s (aH (EC s) s (n+es.length+21))) ZD.toList [] (((((((AF.enter [jF B] 9).set 2 (.slice none 0 0)).set 4 (jF B)).set 5 v).set 3 v).set 6 v).set 7 v1) h1 fun f' h2=>aH (EC s) s (n+es.length+22) (.seq (.region 3 ZE false) .ret) f' h2 fun ex f h'=>match ex with
  | .exit _=>none
  |_=>match dg (EC s) h' f Tryz.f76.results.toList with
   |some vs=>DG s (cQ vs) h'
   |none=>none)=some (BS ks):=by
  intro h' q1 q2;unfold eg;rw[show(EC s).func 111=some Tryz.f111 by kernel_rfl];simp only[show(EC s).uZ s 111 [v] g'=some (.tuple #[],h')from q1];rw[eF,cJ,dR];refine aZ rfl ?_;refine(cm (v:=v) (fun it=>by simp) rfl).trans ?_;refine aZ rfl ?_;refine(cm (v:=v) (fun it=>by simp) rfl).trans ?_;rw[eF];exact q2
 rcases Nat.eq_zero_or_pos d.size with h0|h0
 ·have IW:ks=[]:=List.eq_nil_of_length_eq_zero om;have V5:v= .slice none 0 0:=by
   rcases hv with⟨_,hv⟩|⟨yJ,_⟩
   ·exact hv
   ·simp at yJ;omega
  obtain⟨h',q1⟩:=M7 w1 Yd;rw[←V5]at q1;refine fin h' q1 ?_;rw[V5,IW];rfl
 ·obtain⟨h',q1,q2⟩:=M6 w1 hv Yd om h0;refine fin h' q1 ?_;rcases hv with⟨hv,_⟩|⟨_,b,f,t0,eX,aO,rfl,hb,hf,EI,Xj,Sg,Ur⟩
  ·have:=congrArg List.length hv;simp only[List.length_map,Array.length_toList,List.length_nil]at this;omega
  ·have q2:ae h' b 0 d.size=some ((cz d.toList).map (.int .u32)):=q2;have bj:ks≠[]:=fun h=>by rw[h]at fG;simp only[List.length_nil]at fG;omega
   unfold DG;simp only[List.length_map,Array.length_toList,Nat.mul_one,q2,Option.bind_some];have hsc:((cz d.toList).map (Value.int .u32)).all scalar=true:=by
    rw[List.all_eq_true];intro x hx;obtain⟨y,_,rfl⟩:=List.mem_map.1 hx;rfl
   rw[aG.2 (show s≤b by omega),aR.2 h0,hsc,hss];unfold BS;cases ks with
   |nil=>exact absurd rfl bj
   |cons x l=>rw[fG];rfl
def xP:List MapEntry→Option (List Int)
 |[]=>some []
 |e::l=>match e.key,xP l with
  | .int .u32 n,some ks=>some (n::ks)
  |_,_=>none
theorem xQ:∀{ev:List MapEntry} {ks:List Int},xP ev=some ks→ev.map (·.key)=ks.map (.int .u32)
 |[],ks,h=>by simp[xP]at h;subst h;rfl
 |e::l,ks,h=>by
  unfold xP at h;split at h
  ·rename_i n Sc hk hl;cases h;simp only[List.map_cons,hk,xQ hl]
  ·cases h
theorem DW:∀{ev:List MapEntry} {ks:List Int},ev.map (·.key)=ks.map (.int .u32)→xP ev=some ks
 |[],ks,h=>by cases ks with
  |nil=>rfl
  |cons _ _=>simp at h
 |e::l,ks,h=>by
  cases ks with
  |nil=>simp at h
  |cons n ks=>
   simp only[List.map_cons,List.cons.injEq]at h;unfold xP;rw[h.1,DW h.2]
def xR (h:ab):Option Nat→Option (List Int)
 |none=>none
 |some r=>match h.get r with
  |some (.map ev clock)=>(xP ev).bind fun ks=>bC (decide (uH ev clock)&&Nat.blt ks.length 13) (some ks)
  |_=>none
def M8 (h:ab) (ks:List Int):Value×ab:=match ks with
 |[]=>(.slice none 0 0,h)
 |_::_=>(.slice (some ⟨h.size,0,some 1⟩) ks.length (ks.length+1),h.push (.cells ((cz ks).map (.int .u32)) h.size (h.size+1) 0))
def pR (args:List Value) (h:ab):Option (Value×ab):=match args with
 |[.func (.func k) a c]=>(match a.toList,c.toList with
  |[],[.pointer (some ⟨b,0,none⟩)]=>bC (Nat.beq k 112) ((oZ h b).bind fun mb=>(xR h mb).bind fun ks=>some (M8 h ks))
  |_,_=>none)
 |_=>none
theorem Gl (h:ab) (ks:List Int):xy h (BS ks)=some (M8 h ks):=by
 cases ks with
 |nil=>rfl
 |cons x l=>rfl
theorem Gm {E:Env} {base B:Nat} (hm:Tryz.prog.follows .mixedOrders=true) (hg:∀g,(EC 0).dv g=true→E.dv g=true) {μ:bn} {h h':ab} {w:World} {args:List Value} {args':Array Value} {v:Value}
 (hc:pR args h=some (v,h')) (hr:ax μ args args'.toList) (H:bf E base B μ h w) {F:Fence} (hF:gV F) (n:Nat):CallsIn F n Tryz.prog 76 args' w (m7 E base B μ h w v h'):=by
 unfold pR at hc;split at hc
 ·rename_i k a c;split at hc
  ·rename_i b ha nS;simp only[aj,Option.bind_eq_some_iff,Option.some.injEq,beq_iff]at hc;obtain⟨rfl,mb,aby,ks,mH,nD⟩:=hc;obtain⟨aO,oE,AL⟩:=DI aby
   cases mb with
   |none=>simp[xR]at mH
   |some r=>
    simp only[xR]at mH;split at mH
    ·rename_i ev clock yA;simp only[Option.bind_eq_some_iff,aj,Bool.and_eq_true,decide_eq_true_eq,aR,Option.some.injEq]at mH;obtain⟨Sc,zk,⟨ct,bF⟩,rfl⟩:=mH;have ea:a= #[]:=Array.toList_eq_nil_iff.1 ha;have ec:c= #[xM b]:=by rw[←Array.toList_inj,nS]
     subst ea;subst ec;have W:Wf h:=⟨H.high,H.wf⟩;have hK:=xQ zk;have gl:=Gk (n:=0) (B:=b) ct hK bF rfl W yA (sF oE AL);have H2:=H.BJ (E0:=EC h.size) (fun g Tp=>hg g Tp);refine(sw (qX Tryz.prog [] (Qf h.size)) (Qg hm h.size _) hm (0+ev.length+25) μ h w 76 _ args' _ (BS Sc) gl hr H2 F n hF).mono ?_;rintro e w' ⟨u,u',h1,fK,hKo,rfl,hv,S⟩;refine qV H rfl ?_ hKo hv S;rw[Gl,nD]
    ·cases mH
  ·cases hc
 ·cases hc
def H4 (ks:List Int):TO→Prop
 | .map _ es=>es.map (·.1)=ks.map (.int .u32)
 | .eT _ es op=>op=[]∧es.map (·.1)=ks.map (.int .u32)
 |_=>False
theorem OR.Yi {c:Nat} {ρ:Gh} {F:Nat→Prop} {h:ab} {base n:Nat} {S:Ft} {y:TO} {ks:List Int} (H:OR c ρ F h base n S y) (hk:H4 ks y):∃b ev clock,ρ n=some (.dw b)∧h.get b=some (.map ev clock)∧uH ev clock∧ev.map (·.key)=ks.map (.int .u32):=by
 cases H with
 |map hb hg hl hc ct=>
  rename_i kd es b clock ev;refine⟨_,_,_,hb,hg,ct,?_⟩;rw[←show es.map (·.1)=ks.map (.int .u32)from hk];refine List.ext_getElem? fun i=>?_;rw[List.getElem?_map,List.getElem?_map];cases he:es[i]? with
  |none=>
   have:es.length≤i:=by simpa using he
   rw[List.getElem?_eq_none om];rfl
  |some e=>
   have hi:=(List.getElem?_eq_some_iff.1 he).1;obtain⟨q1,_⟩:=hc i e ev[i] he (List.getElem?_eq_getElem om);rw[List.getElem?_eq_getElem om];simp[q1]
 |eT hb hg bU hc ct=>
  obtain⟨rfl,hk⟩:=hk;refine⟨_,_,_,hb,hg,ct,?_⟩;rw[←hk];have key:∀{S:Ft} {kd:Nat} {l:List (Value×TV)} {m:List MapEntry},iy c ρ F h base kd S l m→m.map (·.key)=l.map (·.1):=by
   intro S kd l m hE
   induction hE with
   |nil=>rfl
   |cons h1 _ _ _ _ ih=>simp[h1,ih]
  exact key hc
 |_=>exact hk.elim
theorem Mem.Yj {X:Cx} {ρ:Gh} {F:Nat→Prop} {o:Ob} {c:Nat} {h:ab} (H:Mem X ρ F o c h) (cs:List Value):
 Mem X (cu ρ c (some (.nil 1))) (fun b=>F b∨b=h.size) o (c+1) (h.push (.cells cs h.size (h.size+1) 0)):=by
 obtain⟨S,K⟩:=H.ex;have eH:(h.push (.cells cs h.size (h.size+1) 0)).get h.size=some (.cells cs h.size (h.size+1) 0):=by rw[ab.ao,if_pos rfl]
 have hold:∀b,b<h.size→(h.push (.cells cs h.size (h.size+1) 0)).get b=h.get b:=fun b hb=>by rw[ab.ao,if_neg om]
 have TF:∀b,b<h.size→hd (h.push (.cells cs h.size (h.size+1) 0)) b=hd h b:=fun b hb=>by unfold hd;rw[hold b hb]
 refine(H.change K (fun _=>False) c (.arr 1 true []) [] (by rw[ab.size_push];omega) (H.wf.push fun _ _ _ _ e=>by cases e;exact Nat.le_refl _) (fun _ hf=>hf.elim) (fun b hb _=>hold b hb)
  (fun b l hb hr=>by rw[eB H.wf.le _ (H.Hy hb)];exact hr) TF (fun _ hb=>.inl hb) (fun b hb hn=>?_) om (fun n l hn hl=>by rwa [bd _ _ om]at hl) (fun n b hb=>?_) (fun n l hl=>?_) (fun m y' bj hl=>⟨hl,bd _ _ bj,fun _ _ hf=>hf.elim⟩)
  (fun y' hl=>absurd (H.lt hl) om) (.nil (aK _ _ _) om) (by simp[dk]) (fun x hx=>by simp[dk]at hx) (fun x b hx=>by simp at hx)).1
 ·rcases hb with hb|rfl
  ·exact absurd hb hn
  ·have e:hd (h.push (.cells cs h.size (h.size+1) 0)) h.size=h.size:=b5 eH;refine⟨by rw[dO (bH eH eH) (Nat.zero_le _) (az eH)];rfl,fun m y x _ hl hs=>?_,fun x hx=>by simp at hx,.inr (by rw[e];exact H.od.size)⟩;rw[e];have:=(K.eQ m y x hl (List.mem_map.2 ⟨_,hs,rfl⟩)).2.1;omega
 ·have:=H.names _ _ hb
  rwa [bd _ _ om]
 ·by_cases e:n=c
  ·omega
  ·rw[bd _ _ e]at hl;have:=H.names _ _ hl;omega
theorem Mem.bump {X:Cx} {ρ:Gh} {F:Nat→Prop} {o:Ob} {c:Nat} {h:ab} (H:Mem X ρ F o c h):Mem X (cu ρ c (some (.nil 1))) F o (c+1) h:=by
 obtain⟨S,K⟩:=H.ex
 refine(H.change K (fun _=>False) c (.arr 1 true []) [] (Nat.le_refl _) H.wf (fun _ hf=>hf.elim) (fun b hb _=>rfl)
  (fun b l hb hr=>hr) (fun _ _=>rfl) (fun _ hb=>hb) (fun b hb hn=>absurd hb hn) om (fun n l hn hl=>by rwa [bd _ _ om]at hl) (fun n b hb=>?_) (fun n l hl=>?_) (fun m y' bj hl=>⟨hl,bd _ _ bj,fun _ _ hf=>hf.elim⟩)
  (fun y' hl=>absurd (H.lt hl) om) (.nil (aK _ _ _) om) (by simp[dk]) (fun x hx=>by simp[dk]at hx) (fun x b hx=>by simp at hx)).1
 ·have:=H.names _ _ hb
  rwa [bd _ _ om]
 ·by_cases e:n=c
  ·omega
  ·rw[bd _ _ e]at hl;have:=H.names _ _ hl;omega
theorem VC.pR {E:Env} (hf:(E.func 76).isSome=true) (ho:∀b a,E.uZ b 76 a=fun h=>pR a h) {y:TO} {ks:List Int} (hy:H4 ks y) (LH:ks.length<13):
 VC E 76 2 [.dc 112 [] [.ptr 1 0]] [(0,y),(1,.cells [.mp 0])] (RR (.sl 1 ((cz ks).map je) false) 3 [(0,y),(1,.cells [.mp 0])]):=by
 intro base ρ F h S eE hN hM hO hA;obtain⟨fn,hf⟩:=Option.isSome_iff_exists.1 hf;obtain⟨v1,m1,rfl,h1,h2⟩:=hA.aQ;obtain rfl:=h2.bK;obtain⟨_,hm⟩:=hM.b8 (m:=0) rfl;obtain⟨_,hb⟩:=hM.b8 (m:=1) rfl;obtain⟨b0,ev,clock,zh,Zd,ct,mH⟩:=hm.Yi hy;cases hb with
 |cells oC ma ht1 j5=>
  rename_i b1 aO cs';have j5:=(j5.VX (fun t v hv hf=>hv.dL hf) rfl).1;obtain⟨x1,l1,rfl,y1,y2⟩:=j5.aQ;obtain rfl:=y2.bK;cases y1 with
  |mp hbm=>
   rw[zh]at hbm;cases hbm;cases h1 with
   |dc uE ha1 Jq ha2=>
    rename_i a kk;have ea:a= #[]:=Array.eq_empty_of_size_eq_zero (by simpa using uE.symm);subst ea;obtain⟨p',ec⟩:∃p',kk= #[p']:=by
     obtain⟨l⟩:=kk
     match l,Jq with
     |[x],_=>exact⟨x,rfl⟩
     |[],Jq=>simp at Jq
     |_::_::_,Jq=>simp at Jq
    subst ec;have hp:=ha2 0 (.ptr 1 0) p' rfl rfl;cases hp with
    |ptr rA=>
     rw[oC]at rA;cases rA;have UC:E.uZ base 76 [jF b1] h=some (M8 h ks):=by
      rw[congrFun (ho _ _) _];show bC (Nat.beq 112 112) ((oZ h b1).bind fun mb=>(xR h mb).bind fun ks=>some (M8 h ks))=_;have hbx:oZ h b1=some (some b0):=by
       unfold oZ;rw[ma];simp[bC,Nat.ble_eq_true_of_le ht1]
      rw[beq_iff.2 (rfl:112=112),hbx];simp only[bC,Option.bind_some,xR,Zd,DW mH,ct,aR.2 LH,decide_true,Bool.and_self]
     have rR:∀r,E.uZ base 76 [jF b1] h=some r→fJ E base 0 76 [jF b1] h=some r:=by
      intro r hr;unfold fJ gT;rw[hf];simp only[Option.bind_some,hr]
     cases EL:ks with
     |nil=>
      subst EL;exact⟨0,_,_,_,F,_,_,3,rR _ UC,⟨rfl,rfl,rfl⟩,hM.bump,.nil (by simp[cz])⟩
     |cons e0 l0=>
      rw[←EL];have nD:M8 h ks=(.slice (some ⟨h.size,0,some 1⟩) ks.length (ks.length+1),h.push (.cells ((cz ks).map (.int .u32)) h.size (h.size+1) 0)):=by rw[EL];rfl
      rw[nD]at UC;have eH:(h.push (.cells ((cz ks).map (.int .u32)) h.size (h.size+1) 0)).get h.size=some (.cells ((cz ks).map (.int .u32)) h.size (h.size+1) 0):=by rw[ab.ao,if_pos rfl]
      refine⟨0,_,_,_,_,_,_,3,rR _ UC,⟨rfl,rfl,rfl⟩,hM.Yj _,.sl (.inr rfl) (dO (bH eH eH) (Nat.zero_le _) (az eH)) om (by simp[zZ]) om (by simp) (by simp[zZ]) (by simp) (by simp[fz,wy]) ?_⟩;intro i j e t v q1 q2 q3;rw[List.getElem?_map]at q1;obtain⟨x,hx,rfl⟩:=Option.map_eq_some_iff.1 q1;have hj:j=0:=by
       have:=(List.getElem?_eq_some_iff.1 q2).1;simp at this;exact this
      subst hj;simp at q2;subst q2;rw[Nat.zero_add,Nat.mul_one,Nat.add_zero,List.getElem?_map,hx]at q3;cases q3;exact .s rfl
end Go.M
