/-
  Part 15 of the library that the proof leans on.
-/
import Derived.Test.YtmocpiopjkmnhaaGreatDoorL13
import Derived.Test.YtmocpiopjkmnhaaGreatDoorL14
import Derived.Test.YtmocpiopjkmnhaaGreatDoorL6
namespace Go.M
open Go Go.Proofs
set_option maxRecDepth 100000
open Classical in
noncomputable def sortO (s:Nat) (args:List Value) (h:AHeap):Option (Value×AHeap):=
 if hx:∃r n,acall ES s n 99 args h=some r then some hx.choose else none
noncomputable def orcS (s:Nat):FuncId→List Value→AHeap→Option (Value×AHeap):=fun g args h=>match Nat.beq g 99 with
 |true=>sortO s args h
 |false=>none
noncomputable def EC (s:Nat):=envT Tryz.prog [] (orcS s)
theorem orcS_ok (hm:Tryz.prog.follows .mixedOrders=true) (s B:Nat):OrcOk Tryz.prog (EC s) s B:=by
 intro μ h w g args args' v h' hc hr H F n hF
 have hc':orcS s g args h=some (v,h'):=hc
 unfold orcS at hc'
 split at hc'
 ·rename_i hg
  obtain rfl:=beq_iff.1 hg
  unfold sortO at hc'
  split at hc'
  ·rename_i hx
   have hsp:=hx.choose_spec
   rw[Option.some.injEq]at hc'
   rw[hc']at hsp
   obtain⟨k,hk⟩:=hsp
   have H2:HRel ES s B μ h w:=⟨H.dom,H.high,H.obj,H.own,H.alias,H.fam,H.glob,H.low,H.bsz,H.wf,H.root⟩
   refine(acall_ok (envOkT Tryz.prog [] noOrc) noOrc_okT hm k μ h w 99 args args' v h' hk hr H2 F n hF).mono fun e w' ⟨v',μ',h1,h2,h3⟩=>?_
   exact⟨v',μ',h1,h2,⟨⟨h3.rel.dom,h3.rel.high,h3.rel.obj,h3.rel.own,h3.rel.alias,h3.rel.fam,h3.rel.glob,h3.rel.low,h3.rel.bsz,h3.rel.wf,h3.rel.root⟩,h3.grow,h3.le,h3.new,h3.unt,h3.hsz⟩⟩
  ·cases hc'
 ·cases hc'
theorem sortO_of {s n:Nat} {args:List Value} {h h':AHeap} {v:Value} (hn:acall ES s n 99 args h=some (v,h')) (hu:∀n r,acall ES s n 99 args h=some r→r=(v,h')):sortO s args h=some (v,h'):=by
 unfold sortO
 have hx:∃r n,acall ES s n 99 args h=some r:=⟨_,n,hn⟩
 rw[dif_pos hx]
 obtain⟨k,hk⟩:=hx.choose_spec
 rw[hu k _ hk]
end Go.M
namespace Go.M
open Go Go.Proofs
set_option maxRecDepth 100000
set_option maxHeartbeats 4000000
section
variable {E:Env} {base:Nat} {cK:CallK} {rK:RoundK} {ops rest:List Oper} {o:Oper} {f:AF} {g g':AHeap} {K:AF→AHeap→Option Out}
theorem opsK_one {X:Option Out} (hw:wanted ops o f=true) (h:opK E base cK rK o f g (fun v h'=>opsK E base cK rK ops rest (f.put o.dst v) h' K)=X):opsK E base cK rK ops (o::rest) f g K=X:=by
 unfold opsK;rw[hw];exact h
theorem opK_pure {K:KV} {v:Value} (hx:∀it,o.op≠ .next it false) (h:apure E f o=some v):opK E base cK rK o f g K=K v g:=by
 unfold opK
 split
 ·rename_i it e;exact absurd e (hx it)
 ·rw[h]
theorem opK_read {K:KV} {v:Value} {q:RQ} (hx:∀it,o.op≠ .next it false) (hp:apure E f o=none) (h:aread E f o=some q) (hv:q.run g=some v):opK E base cK rK o f g K=K v g:=by
 unfold opK
 split
 ·rename_i it e;exact absurd e (hx it)
 ·simp only[hp,h,hv]
theorem opK_alloc {K:KV} {m:Made} {hd:Hold} (hx:∀it,o.op≠ .next it false) (hp:apure E f o=none) (hr:aread E f o=none) (h:aalloc E f o=some (m,hd)):opK E base cK rK o f g K=K (hd.val g.size) (g.push (m.obj g.size)):=by
 unfold opK
 split
 ·rename_i it e;exact absurd e (hx it)
 ·simp only[hp,h,hr]
theorem opK_eff {K:KV} {v:Value} (hx:∀it,o.op≠ .next it false) (hp:apure E f o=none) (hr:aread E f o=none) (ha:aalloc E f o=none) (h:aeff E base f o g=some (.val v,g')):opK E base cK rK o f g K=K v g':=by
 unfold opK
 split
 ·rename_i it e;exact absurd e (hx it)
 ·simp only[hp,h,hr,ha]
theorem opK_round {K:KV} {l:Nat} {args:List Value} (hx:∀it,o.op≠ .next it false) (hp:apure E f o=none) (hr:aread E f o=none) (ha:aalloc E f o=none) (h:aeff E base f o g=some (.round l args,g')):opK E base cK rK o f g K=rK l args g' K:=by
 unfold opK
 split
 ·rename_i it e;exact absurd e (hx it)
 ·simp only[hp,h,hr,ha]
theorem opK_enter {K:KV} {l:Nat} {args:List Value} (hx:∀it,o.op≠ .next it false) (hp:apure E f o=none) (hr:aread E f o=none) (ha:aalloc E f o=none) (h:aeff E base f o g=some (.enter l args,g')):opK E base cK rK o f g K=cK l args g' K:=by
 unfold opK
 split
 ·rename_i it e;exact absurd e (hx it)
 ·simp only[hp,h,hr,ha]
end
theorem opsK_nil {E:Env} {base:Nat} {cK:CallK} {rK:RoundK} {ops:List Oper} {f:AF} {g:AHeap} {K:AF→AHeap→Option Out}:opsK E base cK rK ops [] f g K=K f g:=rfl
theorem evalK_seq {E:Env} {base n:Nat} {a b:Code} {f:AF} {h:AHeap} {K:KC}:evalK E base (n+1) (.seq a b) f h K=evalK E base n a f h (fun ex f' h'=>match ex with| .normal=>evalK E base n b f' h' K|ex=>K ex f' h'):=rfl
theorem evalK_reg {E:Env} {base n id:Nat} {ops:Array Oper} {f:AF} {h:AHeap} {K:KC}:evalK E base (n+1) (.region id ops false) f h K=opsK E base (callKB E base (evalK E base n)) (roundKB base (evalK E base n)) ops.toList ops.toList f h fun f' h'=>K .normal f' h':=rfl
noncomputable def apAsg:Code:=match Tryz.f157.body with|some (.seq _ (.seq (.seq _ (.block _ (.rangeFunc _ _ a _))) _))=>a|_=>.skip
noncomputable def apBdy:Code:=match Tryz.f157.body with|some (.seq _ (.seq (.seq _ (.block _ (.rangeFunc _ _ _ b))) _))=>b|_=>.skip
@[reducible] def ptr0 (s:Nat):Value:=.pointer (some ⟨s,0,none⟩)
@[reducible] def sl1 (b n c:Nat):Value:=.slice (some ⟨b,0,some 1⟩) n c
noncomputable def apF (s:Nat) (clo:Value):AF:=((((AF.enter [.slice none 0 0,clo] 13).set 2 (ptr0 s)).set 4 (.slice none 0 0)).set 6 clo)
def VAt (s:Nat) (g:AHeap) (v:Value) (acc:List Value):Prop:=
 (acc=[]∧v= .slice none 0 0)∨(0<acc.length∧∃b f t0 th0 thr,v=sl1 b acc.length (acc.length+1)∧g.get b=some (.cells acc f t0 th0)∧g.fam b=some (f,b,thr)∧thr≤b∧s+3≤f∧f≤b∧b<g.size)
theorem readOne {g:AHeap} {b t:Nat} {v:Value} (h:g.get b=some (.cells [v] b b t)) (ht:t≤b):readCells g b 0 1=some [v]:=by
 unfold readCells
 rw[rd_of (fam_of h h) ht (cellsOf_get h)]
 rfl
theorem append_nil {s:Nat} {g:AHeap} {k:Int}:aappend (EC s) s (g.push (.cells [.int .u32 k] g.size g.size 0)) 78 78 (.slice none 0 0) (sl1 g.size 1 1)=
 some (sl1 (g.size+1) 1 2,(g.push (.cells [.int .u32 k] g.size g.size 0)).push (.cells [.int .u32 k] (g.size+1) (g.size+1) 0)):=by
 have hr:readCells (g.push (.cells [.int .u32 k] g.size g.size 0)) g.size 0 1=some [.int .u32 k]:=readOne (t:=0) (by rw[AHeap.get_push,if_pos rfl]) (Nat.zero_le _)
 have:aappend (EC s) s (g.push (.cells [.int .u32 k] g.size g.size 0)) 78 78 (.slice none 0 0) (sl1 g.size 1 1)=
  (readCells (g.push (.cells [.int .u32 k] g.size g.size 0)) g.size 0 1).bind fun new=>grd (Nat.beq new.length 1) (some (fresh (g.push (.cells [.int .u32 k] g.size g.size 0)) new 1 1)):=by
  rfl
 rw[this,hr]
 simp only[Option.bind_some,fresh,AHeap.size_push]
 rfl
theorem append_ext {s b n f t0 th0 thr x:Nat} {g:AHeap} {k:Int} {acc:List Value} (hx:readCells g x 0 1=some [.int .u32 k]) (hb:g.get b=some (.cells acc f t0 th0)) (hf:g.fam b=some (f,b,thr)) (ht:thr≤b) (hs:s≤f) (hn:acc.length=n) (hlen:n≤1000000):
 aappend (EC s) s g 78 78 (sl1 b n (n+1)) (sl1 x 1 1)=some (sl1 g.size (n+1) (n+1+1),extH g f thr (acc++[.int .u32 k])):=by
 have hr:readCells g b 0 (n*1)=some acc:=by
  unfold readCells
  rw[rd_of hf ht (cellsOf_get hb)]
  simp only[Option.bind_some,List.drop_zero,takeN_some]
  exact⟨by omega,by rw[List.take_of_length_le (by omega)]⟩
 have e:aappend (EC s) s g 78 78 (sl1 b n (n+1)) (sl1 x 1 1)=grd (Nat.ble ((n+1+1)*5) 1099511627776) ((readCells g b 0 (n*1)).bind fun old=>(readCells g x 0 1).bind fun new=>grd (Nat.beq new.length 1)
  (bif Nat.beq (n+1) n then some (fresh g (old++new) 1 (n+1))else(g.cellsOf b).bind fun cs=>(g.fam b).bind fun r=>grd (Nat.ble s r.1&&Nat.beq r.2.1 b&&new.all oneC)
   (some (sl1 g.size (n+1) (n+1+1),(g.setFam r.1 g.size (bif Nat.beq (0+n*1) cs.length then r.2.2 else g.size)).push (.cells (old++new) r.1 0 0))))):=rfl
 rw[e,hr,hx]
 simp only[Option.bind_some,cellsOf_get hb,hf]
 have h1:Nat.ble ((n+1+1)*5) 1099511627776=true:=ble_iff.2 (by omega)
 have h2:Nat.beq (n+1) n=false:=by cases hh:Nat.beq (n+1) n with
  |false=>rfl
  |true=>have:=beq_iff.1 hh;omega
 have h3:Nat.ble s f=true:=ble_iff.2 hs
 have h4:Nat.beq b b=true:=beq_iff.2 rfl
 have h5:Nat.beq (0+n*1) acc.length=true:=beq_iff.2 (by omega)
 rw[h1,h2,h3,h4,h5]
 rfl
theorem store_box {s:Nat} {g:AHeap} {v v':Value} {t:Nat} (h:g.get s=some (.cells [v] s s t)) (ht:t≤s) (hv:v'.cells= #[v']) (_:oneC v'=true):
 ((g.rd s).bind fun cs=>(setN cs 0 v'.cells.toList).bind fun cs'=>(g.wr s s cs').bind fun h'=>some (ARes.val undef,h'))=some (.val undef,(g.setCells s [v']).setFam s s s):=by
 rw[rd_of (fam_of h h) ht (cellsOf_get h),hv]
 have:g.wr s s [v']=some ((g.setCells s [v']).setFam s s s):=by
  unfold AHeap.wr
  rw[ble_iff.2 (Nat.le_refl s),fam_of h h]
  simp only[grd,Option.bind_some,beq_iff.2 (rfl:s=s),ble_iff.2 (Nat.le_refl s)]
 show((g.wr s s [v']).bind fun h'=>some (ARes.val undef,h'))=_
 rw[this]
 rfl
theorem get_store {s:Nat} {g:AHeap} {v v':Value} {t:Nat} (h:g.get s=some (.cells [v] s s t)) (c:Nat):((g.setCells s [v']).setFam s s s).get c=if c=s then some (.cells [v'] s s s)else g.get c:=by
 rw[get_setFam]
 by_cases e:c=s
 ·subst e
  rw[if_pos rfl,if_pos rfl,get_setCells,if_pos rfl,h]
 ·rw[if_neg e,if_neg e,get_setCells,if_neg e]
theorem fam_store {s:Nat} {g:AHeap} {v v':Value} {t:Nat} (h:g.get s=some (.cells [v] s s t)) {b:Nat} {r:Nat×Nat×Nat} (hr:g.fam b=some r) (hne:r.1≠s):((g.setCells s [v']).setFam s s s).fam b=some r:=by
 have hc:(g.setCells s [v']).get s=some (.cells [v'] s s t):=by rw[get_setCells,if_pos rfl,h]
 rw[fam_setFam hc,fam_setCells,hr]
 simp[hne]
structure Nxt (s:Nat) (g g':AHeap) (acc:List Value) (k:Int):Prop where
 wf:Wf g'
 size:g'.size=g.size+2
 box:∃v,g'.get s=some (.cells [v] s s s)∧VAt s g' v (acc++[.int .u32 k])
 keep:∀c,c<s+3→c≠s→g'.get c=g.get c
theorem Wf.putN {h:AHeap} (W:Wf h) {c:Nat} {o1 o:AObj} (hc:h.get c=some o1) (n2:notCells o=true):Wf (h.put c o):=by
 have hlt:=W.lt hc
 refine⟨fun b hb=>?_,fun b cs f tip thr hg=>?_⟩
 ·rw[AHeap.size_put]at hb;rw[AHeap.get_put,if_neg (by omega)];exact W.high b hb
 ·rw[AHeap.get_put]at hg
  by_cases e:b=c
  ·rw[if_pos e]at hg;cases hg;simp[notCells]at n2
  ·rw[if_neg e]at hg;exact W.le _ _ _ _ _ hg
theorem wf_store {s:Nat} {g:AHeap} {v v':Value} {t:Nat} (W:Wf g) (h:g.get s=some (.cells [v] s s t)):Wf ((g.setCells s [v']).setFam s s s):=by
 have hlt:=W.lt h
 refine⟨fun b hb=>?_,fun b cs f tip thr hg=>?_⟩
 ·rw[size_setFam,size_setCells]at hb;rw[get_store h,if_neg (by omega)];exact W.high b hb
 ·rw[get_store h]at hg
  by_cases e:b=s
  ·rw[if_pos e]at hg;cases hg;omega
  ·rw[if_neg e]at hg;exact W.le _ _ _ _ _ hg
theorem round_nxt {s:Nat} {g:AHeap} {v:Value} {t:Nat} {acc:List Value} {k:Int} (W:Wf g) (hsz:s+3≤g.size) (h:g.get s=some (.cells [v] s s t)) (_:t≤s) (hv:VAt s g v acc) (hlen:acc.length≤1000000):
 ∃v' g3,aappend (EC s) s (g.push (.cells [.int .u32 k] g.size g.size 0)) 78 78 v (sl1 g.size 1 1)=some (v',g3)∧g3.get s=some (.cells [v] s s t)∧v'.cells= #[v']∧oneC v'=true∧Nxt s g ((g3.setCells s [v']).setFam s s s) acc k:=by
 obtain⟨g1,hg1⟩:∃g1,g1=g.push (.cells [.int .u32 k] g.size g.size 0):=⟨_,rfl⟩
 have get1:∀c,c<g.size→g1.get c=g.get c:=fun c hc=>by rw[hg1,AHeap.get_push,if_neg (by omega)]
 have sz1:g1.size=g.size+1:=by rw[hg1,AHeap.size_push]
 have new1:g1.get g.size=some (.cells [.int .u32 k] g.size g.size 0):=by rw[hg1,AHeap.get_push,if_pos rfl]
 have hx:readCells g1 g.size 0 1=some [.int .u32 k]:=readOne new1 (Nat.zero_le _)
 have W1:Wf g1:=by rw[hg1];exact W.push (fun cs f tip thr e=>by cases e;exact Nat.le_refl _)
 rw[←hg1]
 rcases hv with⟨rfl,rfl⟩|⟨hpos,b,f,t0,th0,thr,rfl,hb,hf,hth,hsf,hfb,hbs⟩
 ·have ha:aappend (EC s) s g1 78 78 (.slice none 0 0) (sl1 g.size 1 1)=some (sl1 (g.size+1) 1 2,g1.push (.cells [.int .u32 k] (g.size+1) (g.size+1) 0)):=by rw[hg1];exact append_nil
  obtain⟨g3,hg3⟩:∃g3,g3=g1.push (.cells [.int .u32 k] (g.size+1) (g.size+1) 0):=⟨_,rfl⟩
  rw[←hg3]at ha
  have get3:∀c,c<g.size→g3.get c=g.get c:=fun c hc=>by rw[hg3,AHeap.get_push,sz1,if_neg (by omega)];exact get1 c hc
  have new3:g3.get (g.size+1)=some (.cells [.int .u32 k] (g.size+1) (g.size+1) 0):=by rw[hg3,AHeap.get_push,sz1,if_pos rfl]
  have h3:g3.get s=some (.cells [.slice none 0 0] s s t):=(get3 s (by omega)).trans h
  have W3:Wf g3:=by rw[hg3];exact W1.push (fun cs f tip thr e=>by cases e;omega)
  refine⟨_,g3,ha,h3,rfl,rfl,⟨wf_store W3 h3,?_,⟨sl1 (g.size+1) 1 2,?_,.inr ⟨by simp,g.size+1,g.size+1,g.size+1,0,0,rfl,?_,?_,by omega,by omega,Nat.le_refl _,?_⟩⟩,fun c hc hne=>?_⟩⟩
  ·rw[size_setFam,size_setCells,hg3,AHeap.size_push,sz1]
  ·rw[get_store h3,if_pos rfl]
  ·rw[get_store h3,if_neg (by omega)];exact new3
  ·exact fam_store h3 (fam_of new3 new3) (by simp;omega)
  ·rw[size_setFam,size_setCells,hg3,AHeap.size_push,sz1];omega
  ·rw[get_store h3,if_neg hne];exact get3 c (by omega)
 ·have hb1:g1.get b=some (.cells acc f t0 th0):=(get1 b hbs).trans hb
  obtain⟨c0,hroot⟩:=fam_root hf
  simp only at hroot
  have hroot1:g1.get f=some (.cells c0 f b thr):=(get1 f (by omega)).trans hroot
  have hf1:g1.fam b=some (f,b,thr):=fam_of hb1 hroot1
  have ha:=append_ext (s:=s) (x:=g.size) (g:=g1) (k:=k) hx hb1 hf1 hth (by omega) rfl hlen
  obtain⟨g3,hg3⟩:∃g3,g3=extH g1 f thr (acc++[.int .u32 k]):=⟨_,rfl⟩
  rw[←hg3,sz1]at ha
  have get3:∀c,c<g.size→c≠f→g3.get c=g.get c:=fun c hc hne=>by
   rw[hg3];unfold extH
   rw[AHeap.get_push,size_setFam,sz1,if_neg (by omega),get_setFam,if_neg hne];exact get1 c hc
  have new3:g3.get (g.size+1)=some (.cells (acc++[.int .u32 k]) f 0 0):=by
   rw[hg3];unfold extH
   rw[AHeap.get_push,size_setFam,sz1,if_pos rfl]
  have root3:g3.get f=some (.cells c0 f (g.size+1) thr):=by
   rw[hg3];unfold extH
   rw[AHeap.get_push,size_setFam,sz1,if_neg (by omega),get_setFam,if_pos rfl,hroot1]
  have h3:g3.get s=some (.cells [sl1 b acc.length (acc.length+1)] s s t):=(get3 s (by omega) (by omega)).trans h
  have hs3:g3.size=g.size+2:=by rw[hg3];unfold extH;rw[AHeap.size_push,size_setFam,sz1]
  have W3:Wf g3:=by rw[hg3];exact ext_wf W1 hroot1
  refine⟨_,g3,ha,h3,rfl,rfl,⟨wf_store W3 h3,?_,⟨sl1 (g.size+1) (acc.length+1) (acc.length+1+1),?_,.inr ⟨by simp,g.size+1,f,0,0,thr,by simp,?_,?_,by omega,by omega,by omega,?_⟩⟩,fun c hc hne=>?_⟩⟩
  ·rw[size_setFam,size_setCells,hs3]
  ·rw[get_store h3,if_pos rfl]
  ·rw[get_store h3,if_neg (by omega)];exact new3
  ·exact fam_store h3 (fam_of new3 root3) (by simp;omega)
  ·rw[size_setFam,size_setCells,hs3];omega
  ·rw[get_store h3,if_neg hne];exact get3 c (by omega) (by omega)
theorem body_ok {s n:Nat} {g:AHeap} {v:Value} {t:Nat} {acc:List Value} {k:Int} {clo:Value} (W:Wf g) (hsz:s+3≤g.size) (h:g.get s=some (.cells [v] s s t)) (ht:t≤s) (hv:VAt s g v acc) (hlen:acc.length≤1000000):
 ∃f' g',Nxt s g g' acc k∧∀K:KC,evalK (EC s) s (n+2) apBdy ((AF.setAll ([7].zip [.int .u32 k]) (apF s clo)).set 5 (.int .u32 k)) g K=K .normal f' g':=by
 obtain⟨v',g3,ha,h3,hc,ho,hN⟩:=round_nxt (k:=k) W hsz h ht hv hlen
 refine⟨((((((AF.setAll ([7].zip [.int .u32 k]) (apF s clo)).set 5 (.int .u32 k)).set 8 v).set 9 (.int .u32 k)).set 10 (sl1 g.size 1 1)).set 11 v'),_,hN,fun K=>?_⟩
 show opsK (EC s) s (callKB (EC s) s (evalK (EC s) s n)) (roundKB s (evalK (EC s) s n)) _ _ _ g _=_
 refine opsK_one rfl ?_
 refine(opK_read (v:=v) (q:=.cells false s 0 1) (fun it=>by simp) rfl rfl (by show(readCells g s 0 1).bind _=_;rw[readOne h ht];rfl)).trans ?_
 refine opsK_one rfl ?_
 refine(opK_pure (v:=.int .u32 k) (fun it=>by simp) rfl).trans ?_
 refine opsK_one rfl ?_
 refine(opK_alloc (m:=.cells [.int .u32 k]) (hd:=.slice 1 1 1) (fun it=>by simp) rfl rfl rfl).trans ?_
 refine opsK_one rfl ?_
 refine(opK_eff (v:=v') (g':=g3) (fun it=>by simp) rfl rfl rfl ?_).trans ?_
 ·show((match aappend (EC s) s (g.push (.cells [.int .u32 k] g.size g.size 0)) 78 78 v (sl1 g.size 1 1)with|some r=>some r|none=>aappendZ (EC s) (g.push (.cells [.int .u32 k] g.size g.size 0)) 78 78 v (sl1 g.size 1 1)).bind fun r=>some (ARes.val r.1,r.2))=_
  rw[ha];rfl
 refine opsK_one rfl ?_
 refine(opK_eff (v:=undef) (g':=(g3.setCells s [v']).setFam s s s) (fun it=>by simp) rfl rfl rfl ?_).trans ?_
 ·show((EC s).size 78).bind (fun n=>(some (s,0)).bind fun p=>grd (Nat.beq v'.cells.size n&&v'.cells.toList.all oneC) ((g3.rd p.1).bind fun cs=>(setN cs p.2 v'.cells.toList).bind fun cs'=>(g3.wr s p.1 cs').bind fun h'=>some (ARes.val undef,h')))=_
  have hg:(Nat.beq v'.cells.size 1&&v'.cells.toList.all oneC)=true:=by rw[hc];simp[ho]
  show grd (Nat.beq v'.cells.size 1&&v'.cells.toList.all oneC) ((g3.rd s).bind fun cs=>(setN cs 0 v'.cells.toList).bind fun cs'=>(g3.wr s s cs').bind fun h'=>some (ARes.val undef,h'))=_
  rw[hg]
  exact store_box h3 ht hc ho
 rfl
theorem yield_asg {s n:Nat} {f:AF} {g:AHeap} {K:KC}:evalK (EC s) s (n+1) apAsg f g K=K .normal (f.set 5 (f.get 7)) g:=rfl
structure St (s m:Nat) (clo:Value) (es:List MapEntry) (clock:Nat) (acc:List Value) (seen:List Nat) (g:AHeap):Prop where
 sz:s+3≤g.size
 box:∃v t,g.get s=some (.cells [v] s s t)∧t≤s∧VAt s g v acc
 lp:g.get (s+1)=some (.loop .ready none (apF s clo) [7] apAsg apBdy)
 it:g.get (s+2)=some (.miter (some m) clock seen clock)
 mp:g.get m=some (.map es clock)
 lt:m<s
 wf:Wf g
theorem VAt.put {s c:Nat} {g:AHeap} {v:Value} {acc:List Value} {o1 o:AObj} (h:VAt s g v acc) (hc:g.get c=some o1) (n1:notCells o1=true) (n2:notCells o=true) (hlt:c<s+3):VAt s (g.put c o) v acc:=by
 rcases h with h|⟨hp,b,f,t0,th0,thr,q1,q2,q3,q4,q5,q6,q7⟩
 ·exact .inl h
 ·exact .inr ⟨hp,b,f,t0,th0,thr,q1,by rw[AHeap.get_put,if_neg (by omega)];exact q2,by rw[fam_put hc n1 n2];exact q3,q4,q5,q6,q7⟩
theorem yield_ok {s m n:Nat} {clo:Value} {es:List MapEntry} {clock:Nat} {acc:List Value} {seen:List Nat} {g:AHeap} {k:Int} (H:St s m clo es clock acc seen g) (hlen:acc.length≤1000000):
 ∃g',St s m clo es clock (acc++[.int .u32 k]) seen g'∧∀K:KV,roundKB s (evalK (EC s) s (n+2)) (s+1) [.int .u32 k] g K=K (.bool true) g':=by
 obtain⟨v,t,hb,ht,hv⟩:=H.box
 have hsz:=H.sz
 obtain⟨g1,hg1⟩:∃g1,g1=g.put (s+1) (.loop .busy none (apF s clo) [7] apAsg apBdy):=⟨_,rfl⟩
 have get1:∀c,c≠s+1→g1.get c=g.get c:=fun c hc=>by rw[hg1,AHeap.get_put,if_neg hc]
 have hv1:VAt s g1 v acc:=by rw[hg1];exact hv.put H.lp rfl rfl (by omega)
 obtain⟨f',g2,hN,hK⟩:=body_ok (n:=n) (k:=k) (clo:=clo) (by rw[hg1];exact H.wf.putN H.lp rfl) (by rw[hg1];exact hsz) ((get1 s (by omega)).trans hb) ht hv1 hlen
 obtain⟨v2,hb2,hv2⟩:=hN.box
 have hl2:g2.get (s+1)=some (.loop .busy none (apF s clo) [7] apAsg apBdy):=by rw[hN.keep _ (by omega) (by omega),hg1,AHeap.get_put,if_pos rfl]
 have old2:∀c,c<s+3→c≠s→c≠s+1→g2.get c=g.get c:=fun c h1 h2 h3=>(hN.keep c h1 h2).trans (get1 c h3)
 refine⟨g2.put (s+1) (.loop .ready none (apF s clo) [7] apAsg apBdy),⟨?_,⟨v2,s,?_,Nat.le_refl _,hv2.put hl2 rfl rfl (by omega)⟩,?_,?_,?_,H.lt,hN.wf.putN hl2 rfl⟩,fun K=>?_⟩
 ·rw[AHeap.size_put,hN.size,hg1,AHeap.size_put];omega
 ·rw[AHeap.get_put,if_neg (by omega)];exact hb2
 ·rw[AHeap.get_put,if_pos rfl]
 ·rw[AHeap.get_put,if_neg (by omega),old2 _ (by omega) (by omega) (by omega)];exact H.it
 ·have:=H.lt
  rw[AHeap.get_put,if_neg (by omega),old2 _ (by omega) (by omega) (by omega)];exact H.mp
 ·unfold roundKB
  rw[H.lp,ble_iff.2 (show s≤s+1 by omega)]
  have hc:(Nat.beq ([7]:List Nat).length [Value.int .u32 k].length&&noRange apAsg&&noRange apBdy)=true:=rfl
  simp only[grd,hc]
  rw[yield_asg,show(AF.setAll ([7].zip [Value.int .u32 k]) (apF s clo)).get 7= .int .u32 k from rfl]
  simp only[H.lp]
  rw[←hg1,hK]
  simp only[hl2]
noncomputable def kBody:Code:=match Tryz.f100.body with|some (.seq _ (.block _ (.loop b)))=>b|_=>.skip
noncomputable def kB1:Code:=match kBody with| .seq _ (.seq _ (.block _ b))=>b|_=>.skip
theorem gs {f:AF} {t:Nat} {v:Value} (h:t<f.n):(f.set t v).get t=v:=by rw[AF.get_set,if_pos ⟨rfl,h⟩]
theorem gn {f:AF} {t u:Nat} {v:Value} (h:u≠t):(f.set t v).get u=f.get u:=by rw[AF.get_set,if_neg (fun e=>h e.1)]
structure Fr5 (s:Nat) (f:AF):Prop where
 n:f.n=14
 g0:f.get 0= .func (.yield (s+1)) #[] #[]
 g5:f.get 5=ptr0 (s+2)
theorem Fr5.set {s t:Nat} {f:AF} {v:Value} (H:Fr5 s f) (h0:0≠t) (h5:5≠t):Fr5 s (f.set t v):=⟨(AF.n_set _ _ _).trans H.n,(gn h0).trans H.g0,(gn h5).trans H.g5⟩
theorem ext_ok {E:Env} {f:AF} {t:Nat} {cs:List Value} {o:Oper} {i:Nat} {v:Value} (ho:o.op= .extract (.tmp t) i) (h:f.get t= .tuple cs.toArray) (hv:cs[i]? =some v):apure E f o=some v:=by
 unfold apure
 rw[ho]
 show((ev E f (.tmp t)).bind fun v=>(match v with| .tuple vs=>vs.toList[i]? |_=>none))=_
 rw[show ev E f (.tmp t)=some (f.get t)from rfl,h]
 simpa using hv
theorem find_born {es:List MapEntry} (hn:(es.map (·.born)).Nodup) {e:MapEntry} (he:e∈es):es.find? (fun x=>x.born==e.born)=some e:=by
 induction es with
 |nil=>cases he
 |cons a l ih=>
  rw[List.find?_cons]
  rcases List.mem_cons.1 he with rfl |he
  ·simp
  ·have hne:a.born≠e.born:=fun h=>by
    simp only[List.map_cons,List.nodup_cons]at hn
    exact hn.1 (List.mem_map.2 ⟨e,he,h.symm⟩)
   have:(a.born==e.born)=false:=by simpa using hne
   rw[this]
   exact ih (List.nodup_cons.1 (by simpa using hn)).2 he
theorem tail_ok {s m n:Nat} {clo:Value} {es:List MapEntry} {clock:Nat} {acc:List Value} {seen:List Nat} {g:AHeap} {f:AF} {e:MapEntry} {k:Int} (H:St s m clo es clock acc (seen++[e.born]) g) (hf:Fr5 s f) (hlen:acc.length≤1000000) (hst:StL es clock) (he:e∈es) (hk:e.key= .int .u32 k):
 ∃f' g',St s m clo es clock (acc++[.int .u32 k]) (seen++[e.born]) g'∧Fr5 s f'∧∀K:KC,evalK (EC s) s (n+5) kB1 f g K=K .normal f' g':=by
 obtain⟨g',H',hy⟩:=yield_ok (n:=n) (k:=k) H hlen
 have hent:aentry g (s+2)=some (.tuple #[e.key,e.val]):=by
  unfold aentry
  rw[H.it]
  simp only[H.mp,List.getLast?_append,List.getLast?_singleton,Option.some_or,Option.bind_some,grd,beq_iff.2 (rfl:clock=clock),find_born hst.2 he]
 obtain⟨f8,h8⟩:∃x,x=f.set 8 (.tuple #[e.key,e.val]):=⟨_,rfl⟩
 have F8:Fr5 s f8:=by rw[h8];exact hf.set (by omega) (by omega)
 obtain⟨f9,h9⟩:∃x,x=f8.set 9 (.int .u32 k):=⟨_,rfl⟩
 have F9:Fr5 s f9:=by rw[h9];exact F8.set (by omega) (by omega)
 obtain⟨f3,h3⟩:∃x,x=f9.set 3 (.int .u32 k):=⟨_,rfl⟩
 have F3:Fr5 s f3:=by rw[h3];exact F9.set (by omega) (by omega)
 obtain⟨fa,ha⟩:∃x,x=f3.set 10 (.func (.yield (s+1)) #[] #[]):=⟨_,rfl⟩
 have Fa:Fr5 s fa:=by rw[ha];exact F3.set (by omega) (by omega)
 obtain⟨fb,hb⟩:∃x,x=fa.set 11 (.int .u32 k):=⟨_,rfl⟩
 have Fb:Fr5 s fb:=by rw[hb];exact Fa.set (by omega) (by omega)
 obtain⟨fc,hc⟩:∃x,x=fb.set 12 (.bool true):=⟨_,rfl⟩
 have Fc:Fr5 s fc:=by rw[hc];exact Fb.set (by omega) (by omega)
 obtain⟨fd,hd⟩:∃x,x=fc.set 13 (.bool false):=⟨_,rfl⟩
 have Fd:Fr5 s fd:=by rw[hd];exact Fc.set (by omega) (by omega)
 refine⟨fd,g',H',Fd,fun K=>?_⟩
 show opsK (EC s) s _ _ _ _ f g _=_
 refine opsK_one rfl ?_
 refine(opK_eff (v:=.tuple #[e.key,e.val]) (g':=g) (fun it=>by simp) rfl rfl rfl ?_).trans ?_
 ·show((some (f.get 5)).bind fun v=>(asIter v).bind fun r=>(aentry g r).bind fun v=>some (ARes.val v,g))=_
  rw[hf.g5]
  show((aentry g (s+2)).bind fun v=>some (ARes.val v,g))=_
  rw[hent];rfl
 show opsK (EC s) s _ _ _ _ (f.set 8 (.tuple #[e.key,e.val])) g _=_
 rw[←h8]
 refine opsK_one rfl ?_
 refine(opK_pure (v:=.int .u32 k) (fun it=>by simp) (ext_ok (cs:=[e.key,e.val]) rfl (by rw[h8,gs (by rw[hf.n];omega)]) (by rw[hk];rfl))).trans ?_
 show opsK (EC s) s _ _ _ _ (f8.set 9 (.int .u32 k)) g _=_
 rw[←h9]
 refine opsK_one rfl ?_
 refine(opK_pure (v:=.int .u32 k) (fun it=>by simp) (by show some (f9.get 9)=_;rw[h9,gs (by rw[F8.n];omega)])).trans ?_
 rw[opsK_nil]
 show evalK (EC s) s (n+4) _ (f9.set 3 (.int .u32 k)) g K=_
 rw[evalK_seq,evalK_reg]
 rw[←h3]
 refine opsK_one rfl ?_
 refine(opK_pure (v:=.func (.yield (s+1)) #[] #[]) (fun it=>by simp) (by show some (f3.get 0)=_;rw[F3.g0])).trans ?_
 show opsK (EC s) s _ _ _ _ (f3.set 10 (.func (.yield (s+1)) #[] #[])) g _=_
 rw[←ha]
 refine opsK_one rfl ?_
 refine(opK_pure (v:=.int .u32 k) (fun it=>by simp) (by show some (fa.get 3)=_;rw[ha,gn (by omega),h3,gs (by rw[F9.n];omega)])).trans ?_
 show opsK (EC s) s _ _ _ _ (fa.set 11 (.int .u32 k)) g _=_
 rw[←hb]
 refine opsK_one rfl ?_
 refine(opK_round (l:=s+1) (args:=[.int .u32 k]) (g':=g) (fun it=>by simp) rfl rfl rfl ?_).trans ?_
 ·show((some (fb.get 11)).bind fun v=>(some []).bind fun vs=>some (v::vs)).bind (fun args=>(some (fb.get 10)).bind fun g0=>(match g0 with
   | .func (.func g1) first captured=>some (ARes.enter g1 (first.toList++args++captured.toList),g)
   | .func (.yield l) first _=>some (.round l (first.toList++args),g)
   |_=>none))=_
  rw[hb,gs (by rw[Fa.n];omega),gn (by omega),ha,gs (by rw[F3.n];omega)]
  rfl
 rw[hy]
 show opsK (EC s) s _ _ _ _ (fb.set 12 (.bool true)) g' _=_
 rw[←hc]
 refine opsK_one rfl ?_
 refine(opK_pure (v:=.bool false) (fun it=>by simp) (by show((some (fc.get 12)).bind fun a=>grd (scalar a) (pureV (Op.unary .not a)))=_;rw[hc,gs (by rw[Fb.n];omega)];rfl)).trans ?_
 rw[opsK_nil]
 show(match(some ((fc.set 13 (.bool false)).get 13)).bind asB with
  |some true=>_
  |some false=>_
  |none=>none)=_
 rw[gs (by rw[Fc.n];omega)]
 subst hd
 rfl
theorem meet_all {X:Out} (hX:eqLs X X=true):∀{l:List (Option Out)},l≠[]→(∀x∈l,x=some X)→meet l=some X
 |[],h,_=>absurd rfl h
 |x::xs,_,h=>by
  obtain rfl:=h x List.mem_cons_self
  unfold meet
  have gen:∀b,b=true→grd b (some X)=some X:=by rintro _ rfl;rfl
  refine gen _ ?_
  rw[List.all_eq_true]
  intro y hy
  rw[h y (List.mem_cons_of_mem _ hy)]
  exact hX
theorem next_put {s m:Nat} {clo:Value} {es:List MapEntry} {clock:Nat} {acc:List Value} {seen:List Nat} {g:AHeap} {b:Nat} (H:St s m clo es clock acc seen g):St s m clo es clock acc (seen++[b]) (g.put (s+2) (.miter (some m) clock (seen++[b]) clock)):=by
 obtain⟨v,t,hb,ht,hv⟩:=H.box
 have:=H.lt
 exact⟨by rw[AHeap.size_put];exact H.sz,⟨v,t,by rw[AHeap.get_put,if_neg (by omega)];exact hb,ht,hv.put H.it rfl rfl (by omega)⟩,by rw[AHeap.get_put,if_neg (by omega)];exact H.lp,by rw[AHeap.get_put,if_pos rfl],by rw[AHeap.get_put,if_neg (by omega)];exact H.mp,H.lt,H.wf.putN H.it rfl⟩
def u32K (e:MapEntry):Prop:=∃k:Int,e.key= .int .u32 k
theorem evalK_loop {E:Env} {base n:Nat} {b:Code} {f:AF} {h:AHeap} {K:KC}:evalK E base (n+1) (.loop b) f h K=evalK E base n b f h (fun ex f' h'=>match ex with| .normal=>evalK E base n (.loop b) f' h' K|ex=>K ex f' h'):=rfl
theorem evalK_block {E:Env} {base n id:Nat} {b:Code} {f:AF} {h:AHeap} {K:KC}:evalK E base (n+1) (.block id b) f h K=evalK E base n b f h (fun ex f' h'=>match ex with| .exit id'=>bif Nat.beq id' id then K .normal f' h' else K (.exit id') f' h'|ex=>K ex f' h'):=rfl
theorem opK_next {E:Env} {base:Nat} {cK:CallK} {rK:RoundK} {o:Oper} {f:AF} {g:AHeap} {K:KV} {it:Operand} {r:Nat} (ho:o.op= .next it false) (h:(ev E f it).bind asIter=some r):opK E base cK rK o f g K=nextK g r base K:=by
 unfold opK
 split
 ·rename_i it' e;rw[ho]at e;cases e;rw[h]
 ·rename_i hx;exact absurd ho (hx it)
def leftE (es ch:List MapEntry):List MapEntry:=es.filter fun e=> !(ch.map (·.born)).contains e.born
theorem perm_pick {l:List MapEntry} (hn:(l.map (·.born)).Nodup) {e:MapEntry} (he:e∈l):l.Perm (e::l.filter fun x=> !(x.born==e.born)):=by
 induction l with
 |nil=>cases he
 |cons a l ih=>
  have hn':=List.nodup_cons.1 (show(a.born::l.map (·.born)).Nodup from hn)
  rcases List.mem_cons.1 he with rfl |he
  ·rw[List.filter_cons_of_neg (by simp)]
   have:l.filter (fun x=> !(x.born==e.born))=l:=by
    rw[List.filter_eq_self]
    intro x hx
    have:x.born≠e.born:=fun h=>hn'.1 (List.mem_map.2 ⟨x,hx,h⟩)
    simpa using this
   rw[this]
  ·have hne:a.born≠e.born:=fun h=>hn'.1 (List.mem_map.2 ⟨e,he,h.symm⟩)
   rw[List.filter_cons_of_pos (by simpa using hne)]
   exact((ih hn'.2 he).cons a).trans (.swap _ _ _)
theorem left_snoc (es ch:List MapEntry) (e:MapEntry):leftE es (ch++[e])=(leftE es ch).filter fun x=> !(x.born==e.born):=by
 unfold leftE
 rw[List.filter_filter]
 refine List.filter_congr fun x _=>?_
 simp only[List.map_append,List.map_cons,List.map_nil,List.contains_eq_mem,List.mem_append,List.mem_singleton]
 by_cases h1:x.born∈ch.map (·.born)<;>by_cases h2:x.born=e.born<;>simp_all
theorem evalK_condF {E:Env} {base n:Nat} {c:Operand} {a b:Code} {f:AF} {h:AHeap} {K:KC} (hc:(ev E f c).bind asB=some false):evalK E base (n+1) (.cond c a b) f h K=evalK E base n b f h K:=by
 show(match(ev E f c).bind asB with|some true=>evalK E base n a f h K|some false=>evalK E base n b f h K|none=>none)=_
 rw[hc]
theorem evalK_condT {E:Env} {base n:Nat} {c:Operand} {a b:Code} {f:AF} {h:AHeap} {K:KC} (hc:(ev E f c).bind asB=some true):evalK E base (n+1) (.cond c a b) f h K=evalK E base n a f h K:=by
 show(match(ev E f c).bind asB with|some true=>evalK E base n a f h K|some false=>evalK E base n b f h K|none=>none)=_
 rw[hc]
theorem evalK_skip {E:Env} {base n:Nat} {f:AF} {h:AHeap} {K:KC}:evalK E base (n+1) .skip f h K=K .normal f h:=rfl
theorem miter_ok {es:List MapEntry} {clock:Nat} {seen:List Nat} (hst:StL es clock):(!(!seen.isEmpty&& !es.isEmpty&&es.all (fun e=>Nat.ble clock e.born)))=true:=by
 cases es with
 |nil=>simp
 |cons e l=>
  have:=hst.1 e List.mem_cons_self
  have hb:Nat.ble clock e.born=false:=by cases hh:Nat.ble clock e.born with
   |false=>rfl
   |true=>have:=ble_iff.1 hh;omega
  simp[hb]
theorem loop_ok {s m:Nat} {clo:Value} {es:List MapEntry} {clock:Nat} {X:Out} (hX:eqLs X X=true) (hst:StL es clock) (hkey:∀e∈es,u32K e) (hlen:es.length≤1000000) {K:KC}
 (hK:∀(ch:List MapEntry) f g,St s m clo es clock (ch.map (·.key)) (ch.map (·.born)) g→ch.Perm es→K (.exit 0) f g=some X):
 ∀(r n:Nat) (ch:List MapEntry) (f:AF) (g:AHeap),St s m clo es clock (ch.map (·.key)) (ch.map (·.born)) g→Fr5 s f→(ch++leftE es ch).Perm es→(leftE es ch).length=r→evalK (EC s) s (n+r+9) (.loop kBody) f g K=some X:=by
 intro r
 induction r with
 |zero=>
  intro n ch f g H hf hp hr
  have hl:leftE es ch=[]:=List.eq_nil_of_length_eq_zero hr
  rw[hl,List.append_nil]at hp
  rw[evalK_loop]
  show evalK (EC s) s (n+8) (.seq _ (.seq (.cond _ .skip (.exit 0)) _)) f g _=_
  rw[evalK_seq,evalK_reg]
  refine opsK_one rfl ?_
  refine(opK_next (it:=.tmp 5) (r:=s+2) rfl (by show(some (f.get 5)).bind asIter=_;rw[hf.g5];rfl)).trans ?_
  unfold nextK
  rw[ble_iff.2 (show s≤s+2 by omega),H.it]
  simp only[H.mp,grd,miter_ok hst,show es.filter (fun e=> !(ch.map (·.born)).contains e.born)=[]from hl]
  refine opsK_one rfl ?_
  refine(opK_pure (v:=.bool false) (fun it=>by simp) (ext_ok (cs:=[.bool false]) rfl (by show(f.set 6 _).get 6=_;rw[gs (by rw[hf.n];omega)]) rfl)).trans ?_
  rw[opsK_nil]
  show evalK (EC s) s (n+7) (.seq (.cond (.tmp 7) .skip (.exit 0)) _) ((f.set 6 (.tuple #[.bool false])).set 7 (.bool false)) g _=_
  rw[evalK_seq,evalK_condF (by show(some (AF.get _ 7)).bind asB=_;rw[gs (by rw[AF.n_set,hf.n];omega)];rfl)]
  exact hK ch _ g H hp
 |succ r ih=>
  intro n ch f g H hf hp hr
  have hne:leftE es ch≠[]:=fun h=>by rw[h]at hr;simp at hr
  rw[evalK_loop]
  show evalK (EC s) s (n+(r+1)+8) (.seq _ (.seq (.cond _ .skip (.exit 0)) (.block 1 kB1))) f g _=_
  rw[evalK_seq,evalK_reg]
  refine opsK_one rfl ?_
  refine(opK_next (it:=.tmp 5) (r:=s+2) rfl (by show(some (f.get 5)).bind asIter=_;rw[hf.g5];rfl)).trans ?_
  unfold nextK
  rw[ble_iff.2 (show s≤s+2 by omega),H.it]
  simp only[H.mp,grd,miter_ok hst]
  generalize hl:es.filter (fun e=> !(ch.map (·.born)).contains e.born)=l
  have hl':leftE es ch=l:=hl
  rw[hl']at hne hr hp
  cases l with
  |nil=>exact absurd rfl hne
  |cons e0 l0=>
   show meet (List.map _ (e0::l0))=_
   refine meet_all hX (by simp) fun x hx=>?_
   obtain⟨e,he,rfl⟩:=List.mem_map.1 hx
   have hel:e∈leftE es ch:=by rw[hl'];exact he
   have hee:e∈es:=(List.mem_filter.1 hel).1
   obtain⟨k,hk⟩:=hkey e hee
   have hpl:(e0::l0).Perm (e::leftE es (ch++[e])):=by
    rw[left_snoc,hl']
    exact perm_pick (by rw[←hl'];exact List.Nodup.sublist ((List.filter_sublist (l:=es)).map _) hst.2) he
   have hp2:((ch++[e])++leftE es (ch++[e])).Perm es:=by
    refine List.Perm.trans ?_ hp
    rw[List.append_assoc]
    exact(hpl.symm.append_left ch)
   have hr2:(leftE es (ch++[e])).length=r:=by
    have:=hpl.length_eq
    rw[hr]at this
    simpa using this.symm
   have hcl:ch.length≤es.length:=by
    have:=hp.length_eq
    simp at this;omega
   have hblt:Nat.blt e.born clock=true:=blt_iff.2 (hst.1 e hee)
   simp only[hblt]
   refine opsK_one rfl ?_
   refine(opK_pure (v:=.bool true) (fun it=>by simp) (ext_ok (cs:=[.bool true,e.key,e.val]) rfl (by show(f.set 6 _).get 6=_;rw[gs (by rw[hf.n];omega)]) rfl)).trans ?_
   rw[opsK_nil]
   have F7:Fr5 s ((f.set 6 (.tuple #[.bool true,e.key,e.val])).set 7 (.bool true)):=(hf.set (by omega) (by omega)).set (by omega) (by omega)
   obtain⟨f',g',H',hf',hT⟩:=tail_ok (n:=n+r+1) (next_put H) F7 (by simpa using Nat.le_trans hcl hlen) hst hee hk
   show evalK (EC s) s (n+r+8) (.seq (.cond (.tmp 7) .skip (.exit 0)) (.block 1 kB1)) ((f.set 6 (.tuple #[.bool true,e.key,e.val])).set 7 (.bool true)) _ _=_
   rw[evalK_seq,evalK_condT (by show(some (AF.get _ 7)).bind asB=_;rw[gs (by rw[AF.n_set,hf.n];omega)];rfl)]
   rw[evalK_skip]
   show evalK (EC s) s (n+r+7) (.block 1 kB1) _ _ _=_
   rw[evalK_block]
   rw[show n+r+6=n+r+1+5 by omega]
   rw[hT]
   show evalK (EC s) s (n+(r+1)+8) (.loop kBody) f' g' K=_
   rw[show n+(r+1)+8=n+r+9 by omega]
   exact ih n (ch++[e]) f' g' (by simpa[hk]using H') hf' hp2 hr2
@[reducible] def seqK (B:Nat):Value:=.func (.func 100) #[] #[ptr0 B]
theorem callK_body {E:Env} {base:Nat} {run:RunK} {g:FuncId} {fn:Func} {code:Code} {args:List Value} {h:AHeap} {K:KV} (hf:E.func g=some fn) (ho:E.orc base g args h=none) (hb:fn.body=some code) (hl:Nat.ble args.length fn.ntmps=true):
 callKB E base run g args h K=run code (AF.enter args fn.ntmps) h (fun ex f h'=>match ex with
  | .exit _=>none
  |_=>match aresults E h' f fn.results.toList with
   |some vs=>K (oneOrTuple vs) h'
   |none=>none):=by
 unfold callKB
 rw[hf]
 simp only[ho,hb,hl,grd]
 rfl
noncomputable def kR0:Array Oper:=match Tryz.f100.body with|some (.seq (.region _ o _) _)=>o|_=> #[]
theorem keys_run {s m B n:Nat} {clo:Value} {es:List MapEntry} {clock:Nat} {X:Out} {g:AHeap} (hX:eqLs X X=true) (hst:StL es clock) (hkey:∀e∈es,u32K e) (hlen:es.length≤1000000) {K:KV}
 (hsz:g.size=s+2) (W:Wf g) (hb:g.get s=some (.cells [.slice none 0 0] s s 0)) (hl:g.get (s+1)=some (.loop .ready none (apF s clo) [7] apAsg apBdy)) (hm:g.get m=some (.map es clock)) (hlt:m<s) (hr:readCells g B 0 1=some [.map (some m)])
 (hK:∀(ch:List MapEntry) g',St s m clo es clock (ch.map (·.key)) (ch.map (·.born)) g'→ch.Perm es→K (.tuple #[]) g'=some X):
 callKB (EC s) s (evalK (EC s) s (n+es.length+11)) 100 [.func (.yield (s+1)) #[] #[],ptr0 B] g K=some X:=by
 refine(callK_body (code:=.seq (.region 0 kR0 false) (.block 0 (.loop kBody))) (show(EC s).func 100=some Tryz.f100 by kernel_rfl) rfl rfl rfl).trans ?_
 rw[evalK_seq,evalK_reg]
 refine opsK_one rfl ?_
 refine(opK_read (v:=.map (some m)) (q:=.cells false B 0 1) (fun it=>by simp) rfl rfl (by show(readCells g B 0 1).bind _=_;rw[hr];rfl)).trans ?_
 refine opsK_one rfl ?_
 refine(opK_eff (v:=ptr0 g.size) (g':=g.push (.miter (some m) clock [] clock)) (fun it=>by simp) rfl rfl rfl ?_).trans ?_
 ·show(match g.get m with
   |some (.map _ clock)=>some (ARes.val (.pointer (some ⟨g.size,0,none⟩)),g.push (.miter (some m) clock [] clock))
   |_=>none)=_
  rw[hm]
 rw[opsK_nil]
 show evalK (EC s) s (n+es.length+10) (.block 0 (.loop kBody)) (((AF.enter [.func (.yield (s+1)) #[] #[],ptr0 B] 14).set 4 (.map (some m))).set 5 (ptr0 g.size)) (g.push (.miter (some m) clock [] clock)) _=_
 rw[evalK_block,hsz]
 refine loop_ok (clo:=clo) (ch:=[]) hX hst hkey hlen (fun ch f g' H hp=>?_) es.length n _ _ ⟨?_,⟨.slice none 0 0,0,?_,Nat.zero_le _,.inl ⟨rfl,rfl⟩⟩,?_,?_,?_,hlt,?_⟩ ⟨rfl,rfl,rfl⟩ ?_ ?_
 ·exact hK ch g' H hp
 ·rw[AHeap.size_push];omega
 ·rw[AHeap.get_push,if_neg (by omega)];exact hb
 ·rw[AHeap.get_push,if_neg (by omega)];exact hl
 ·rw[AHeap.get_push,if_pos hsz.symm];rfl
 ·rw[AHeap.get_push,if_neg (by omega)];exact hm
 ·exact W.push (fun _ _ _ _ e=>by cases e)
 ·rw[show leftE es []=es from List.filter_eq_self.2 (by simp)];exact List.Perm.refl _
 ·rw[show leftE es []=es from List.filter_eq_self.2 (by simp)]
noncomputable def aR0:Array Oper:=match Tryz.f157.body with|some (.seq (.region _ o _) _)=>o|_=> #[]
noncomputable def aR1:Array Oper:=match Tryz.f157.body with|some (.seq _ (.seq (.seq (.region _ o _) _) _))=>o|_=> #[]
noncomputable def aR4:Array Oper:=match Tryz.f157.body with|some (.seq _ (.seq _ (.seq (.region _ o _) _)))=>o|_=> #[]
theorem evalK_range {E:Env} {base n:Nat} {g:Operand} {ps:Array Tmp} {asg body:Code} {f:AF} {h:AHeap} {K:KC} {g0:FuncId} {first captured:Array Value} (hg:ev E f g=some (.func (.func g0) first captured)) (hb:base≤h.size):
 evalK E base (n+1) (.rangeFunc g ps asg body) f h K=callKB E base (evalK E base n) g0 (first.toList++[.func (.yield h.size) #[] #[]]++captured.toList) (h.push (.loop .ready none f ps.toList asg body)) fun _ h1=>
       (match h1.get h.size with
       |some (.loop st p f0 ps0 asg0 body0)=>grd (st != .busy) (match p with
        |none=>K .normal f (h1.put h.size (.loop .exhausted p f0 ps0 asg0 body0))
        |some c=>evalK E base n c f (h1.put h.size (.loop .exhausted p f0 ps0 asg0 body0)) K)
       |_=>none):=by
 show(match ev E f g with
  |some (.func (.func g) first captured)=>_
  |_=>none)=_
 rw[hg]
 simp only[ble_iff.2 hb,grd]
 rfl
theorem app_run {s m B n:Nat} {es:List MapEntry} {clock:Nat} {X:Out} {h:AHeap} (hX:eqLs X X=true) (hst:StL es clock) (hkey:∀e∈es,u32K e) (hlen:es.length≤1000000) {K:KV}
 (hs:h.size=s) (W:Wf h) (hm:h.get m=some (.map es clock)) (hr:readCells h B 0 1=some [.map (some m)])
 (hK:∀(ch:List MapEntry) v g',Wf g'→s+3≤g'.size→VAt s g' v (ch.map (·.key))→ch.Perm es→K v g'=some X):
 callKB (EC s) s (evalK (EC s) s (n+es.length+16)) 157 [.slice none 0 0,seqK B] h K=some X:=by
 have hlt:=W.lt hm
 rw[hs]at hlt
 refine(callK_body (code:=.seq (.region 0 aR0 false) (.seq (.seq (.region 1 aR1 false) (.block 0 (.rangeFunc (.tmp 6) #[7] apAsg apBdy))) (.seq (.region 4 aR4 false) .ret))) (show(EC s).func 157=some Tryz.f157 by kernel_rfl) rfl rfl rfl).trans ?_
 rw[evalK_seq,evalK_reg]
 refine opsK_one rfl ?_
 refine(opK_alloc (m:=.cells [.slice none 0 0]) (hd:=.ptr) (fun it=>by simp) rfl rfl rfl).trans ?_
 refine opsK_one rfl ?_
 refine(opK_pure (v:=.slice none 0 0) (fun it=>by simp) rfl).trans ?_
 rw[opsK_nil,hs]
 obtain⟨g1,hg1⟩:∃g1,g1=h.push (.cells [.slice none 0 0] s s 0):=⟨_,rfl⟩
 have sz1:g1.size=s+1:=by rw[hg1,AHeap.size_push,hs]
 have W1:Wf g1:=by rw[hg1];exact W.push (fun cs f tip thr e=>by cases e;omega)
 show evalK (EC s) s (n+es.length+15) (.seq (.seq (.region 1 aR1 false) (.block 0 (.rangeFunc (.tmp 6) #[7] apAsg apBdy))) (.seq (.region 4 aR4 false) .ret)) (((AF.enter [.slice none 0 0,seqK B] 13).set 2 (ptr0 s)).set 4 (.slice none 0 0)) (h.push (.cells [.slice none 0 0] s s 0)) _=_
 rw[←hg1,evalK_seq,evalK_seq,evalK_reg]
 refine opsK_one rfl ?_
 refine(opK_pure (v:=seqK B) (fun it=>by simp) rfl).trans ?_
 rw[opsK_nil]
 show evalK (EC s) s (n+es.length+13) (.block 0 (.rangeFunc (.tmp 6) #[7] apAsg apBdy)) (apF s (seqK B)) g1 _=_
 rw[evalK_block,evalK_range (first:= #[]) (captured:= #[ptr0 B]) rfl (by omega),sz1]
 show callKB (EC s) s (evalK (EC s) s (n+es.length+11)) 100 [.func (.yield (s+1)) #[] #[],ptr0 B] (g1.push (.loop .ready none (apF s (seqK B)) [7] apAsg apBdy)) _=_
 refine keys_run (clo:=seqK B) hX hst hkey hlen ?_ ?_ ?_ ?_ ?_ hlt ?_ (fun ch g' H hp=>?_)
 ·rw[AHeap.size_push,sz1]
 ·exact W1.push (fun _ _ _ _ e=>by cases e)
 ·rw[AHeap.get_push,if_neg (by omega),hg1,AHeap.get_push,if_pos hs.symm]
 ·rw[AHeap.get_push,if_pos (by omega)]
 ·rw[AHeap.get_push,if_neg (by omega),hg1,AHeap.get_push,if_neg (by omega)];exact hm
 ·have:∃cs,h.rd B=some cs:=by
   unfold readCells at hr
   cases hh:h.rd B with
   |none=>rw[hh]at hr;simp at hr
   |some cs=>exact⟨cs,rfl⟩
  obtain⟨cs,hcs⟩:=this
  obtain⟨_,_,_,hgB⟩:=rd_get hcs
  have hBl:=W.lt hgB
  unfold readCells at hr ⊢
  rw[rd_push W1.le _ (by omega),hg1,rd_push W.le _ hBl]
  exact hr
 ·obtain⟨v,t,hb,ht,hv⟩:=H.box
  simp only[H.lp]
  obtain⟨gE,hgE⟩:∃gE,gE=g'.put (s+1) (.loop .exhausted none (apF s (seqK B)) [7] apAsg apBdy):=⟨_,rfl⟩
  have hbE:gE.get s=some (.cells [v] s s t):=by rw[hgE,AHeap.get_put,if_neg (by omega)];exact hb
  show evalK (EC s) s (n+es.length+14) (.seq (.region 4 aR4 false) .ret) (apF s (seqK B)) (g'.put (s+1) (.loop .exhausted none (apF s (seqK B)) [7] apAsg apBdy)) _=_
  rw[←hgE,evalK_seq,evalK_reg]
  refine opsK_one rfl ?_
  refine(opK_read (v:=v) (q:=.cells false s 0 1) (fun it=>by simp) rfl rfl (by show(readCells gE s 0 1).bind _=_;rw[readOne hbE ht];rfl)).trans ?_
  refine opsK_one rfl ?_
  refine(opK_pure (v:=v) (fun it=>by simp) rfl).trans ?_
  rw[opsK_nil]
  exact hK ch v gE (by rw[hgE];exact H.wf.putN H.lp rfl) (by rw[hgE,AHeap.size_put];exact H.sz) (by rw[hgE];exact hv.put H.lp rfl rfl (by omega)) hp
noncomputable def cR0:Array Oper:=match Tryz.f98.body with|some (.seq (.region _ o _) _)=>o|_=> #[]
noncomputable def cR1:Array Oper:=match Tryz.f98.body with|some (.seq _ (.seq (.region _ o _) _))=>o|_=> #[]
theorem col_run {s m B n:Nat} {es:List MapEntry} {clock:Nat} {X:Out} {h:AHeap} (hX:eqLs X X=true) (hst:StL es clock) (hkey:∀e∈es,u32K e) (hlen:es.length≤1000000) {K:KV}
 (hs:h.size=s) (W:Wf h) (hm:h.get m=some (.map es clock)) (hr:readCells h B 0 1=some [.map (some m)])
 (hK:∀(ch:List MapEntry) v g',Wf g'→s+3≤g'.size→VAt s g' v (ch.map (·.key))→ch.Perm es→K v g'=some X):
 callKB (EC s) s (evalK (EC s) s (n+es.length+20)) 98 [seqK B] h K=some X:=by
 refine(callK_body (code:=.seq (.region 0 cR0 false) (.seq (.region 1 cR1 false) .ret)) (show(EC s).func 98=some Tryz.f98 by kernel_rfl) rfl rfl rfl).trans ?_
 rw[evalK_seq,evalK_reg]
 refine opsK_one rfl ?_
 refine(opK_pure (v:=.slice none 0 0) (fun it=>by simp) rfl).trans ?_
 rw[opsK_nil]
 show evalK (EC s) s (n+es.length+19) (.seq (.region 1 cR1 false) .ret) ((AF.enter [seqK B] 5).set 2 (.slice none 0 0)) h _=_
 rw[evalK_seq,evalK_reg]
 refine opsK_one rfl ?_
 refine(opK_pure (v:=seqK B) (fun it=>by simp) rfl).trans ?_
 refine opsK_one rfl ?_
 refine(opK_enter (l:=157) (args:=[.slice none 0 0,seqK B]) (g':=h) (fun it=>by simp) rfl rfl rfl rfl).trans ?_
 show callKB (EC s) s (evalK (EC s) s (n+es.length+17)) 157 [.slice none 0 0,seqK B] h _=_
 rw[show n+es.length+17=(n+1)+es.length+16 by omega]
 refine app_run hX hst hkey hlen hs W hm hr fun ch v g' w1 w2 w3 hp=>?_
 refine opsK_one rfl ?_
 refine(opK_pure (v:=v) (fun it=>by simp) rfl).trans ?_
 rw[opsK_nil]
 exact hK ch v g' w1 w2 w3 hp
end Go.M
namespace Go.M
open Go Go.Proofs
set_option maxRecDepth 100000
set_option maxHeartbeats 4000000
theorem acall_same {E:Env} {base n m:Nat} {g:FuncId} {args:List Value} {h:AHeap} {r r':Value×AHeap} (h1:acall E base n g args h=some r) (h2:acall E base m g args h=some r'):r'=r:=by
 have a:=acall_le (E:=E) (base:=base) (Nat.le_max_left n m) _ _ _ _ h1
 have b:=acall_le (E:=E) (base:=base) (Nat.le_max_right n m) _ _ _ _ h2
 rw[a]at b
 exact(Option.some.inj b).symm
theorem tabES {F:Nat→Prop} {h:AHeap}:TabOk ES F h:=fun g cs hg=>by
 have:(none:Option (List Value))=some cs:=hg
 cases this
theorem sort_nil {s:Nat} {g:AHeap} (W:Wf g) (hs:s≤g.size):∃h',sortO s [.slice none 0 0] g=some (.tuple #[],h'):=by
 have hmo:MO (cx0 s noG (fun _=>False) [] 0 g fun _=>[]) noG (fun _=>False) [] 0 g fun _=>[]:=
  ⟨fun m y hl=>(by cases hl),fun m y hl=>(by cases hl),fun m1 m2 y1 y2 x h1=>(by cases h1),fun m y x hl=>(by cases hl),fun m y x b hl=>(by cases hl)⟩
 have hmem:Mem (cx0 s noG (fun _=>False) [] 0 g fun _=>[]) noG (fun _=>False) [] 0 g:=
  ⟨⟨_,hmo⟩,fun m l hm=>(by cases hm),fun b hb=>hb.elim,fun b hb=>hb,W,.refl _ _ _,hs,fun b hb=>hb.elim,⟨Nat.le_refl _,fun _ _ _ hl=>hl,fun _ _ _ hl=>hl⟩⟩
 obtain⟨n,v,h',ρ',F',r,o',c',hac,⟨rfl,rfl,rfl⟩,hM,hr⟩:=sortN_ok s noG (fun _=>False) g (fun _=>[]) [.slice none 0 0] tabES hmem hmo (.cons (.nil rfl) .nil)
 obtain⟨a,rfl,ha⟩:=hr.inv_tup
 have ea:a= #[]:=Array.toList_eq_nil_iff.1 ha.inv_nil
 subst ea
 exact⟨h',sortO_of hac (fun n r hr'=>acall_same hac hr')⟩
def outX (ks:List Int):Out:=match ks with
 |[]=>[.bool true,.slice none 0 0]
 |_=>.bool false::goInt ks.length::goInt (1:Nat)::(sortZ ks).map (.int .u32)
theorem eqLs_u32:∀l:List Int,eqLs (l.map (.int .u32)) (l.map (.int .u32))=true
 |[]=>rfl
 |x::l=>by
  simp only[List.map_cons,eqLs,eqL1,eqLs_u32 l,beq_self_eq_true,Bool.and_self]
theorem outX_self (ks:List Int):eqLs (outX ks) (outX ks)=true:=by
 unfold outX
 split
 ·rfl
 ·simp only[eqLs,eqL1,goInt,eqLs_u32,beq_self_eq_true,Bool.and_self]
def keyV:Value→Int
 | .int _ n=>n
 |_=>0
def keyI (e:MapEntry):Int:=keyV e.key
noncomputable def sR0:Array Oper:=match Tryz.f56.body with|some (.seq (.region _ o _) _)=>o|_=> #[]
noncomputable def sR1:Array Oper:=match Tryz.f56.body with|some (.seq _ (.seq (.region _ o _) _))=>o|_=> #[]
noncomputable def sR2:Array Oper:=match Tryz.f56.body with|some (.seq _ (.seq _ (.seq (.region _ o _) _)))=>o|_=> #[]
noncomputable def sR3:Array Oper:=match Tryz.f56.body with|some (.seq _ (.seq _ (.seq _ (.seq (.region _ o _) _))))=>o|_=> #[]
theorem sorted_run {s m B n:Nat} {es:List MapEntry} {clock:Nat} {ks:List Int} {h:AHeap} (hst:StL es clock) (hks:es.map (·.key)=ks.map (.int .u32)) (hz:ks=[])
 (hs:h.size=s) (W:Wf h) (hm:h.get m=some (.map es clock)) (hr:readCells h B 0 1=some [.map (some m)]):
 callKB (EC s) s (evalK (EC s) s (n+es.length+25)) 56 [seqK B] h (outK s)=some (outX ks):=by
 have hel:es.length=ks.length:=by have:=congrArg List.length hks;simpa using this
 have hlen:ks.length<4096:=by rw[hz];exact Nat.zero_lt_succ _
 have hkey:∀e∈es,u32K e:=by
  intro e he
  have:e.key∈es.map (·.key):=List.mem_map.2 ⟨e,he,rfl⟩
  rw[hks]at this
  obtain⟨k,_,hk⟩:=List.mem_map.1 this
  exact⟨k,hk.symm⟩
 refine(callK_body (code:=.seq (.region 0 sR0 false) (.seq (.region 1 sR1 false) (.seq (.region 2 sR2 false) (.seq (.region 3 sR3 false) .ret)))) (show(EC s).func 56=some Tryz.f56 by kernel_rfl) rfl rfl rfl).trans ?_
 rw[evalK_seq,evalK_reg]
 refine opsK_one rfl ?_
 refine(opK_pure (v:=.slice none 0 0) (fun it=>by simp) rfl).trans ?_
 rw[opsK_nil]
 show evalK (EC s) s (n+es.length+24) (.seq (.region 1 sR1 false) (.seq (.region 2 sR2 false) (.seq (.region 3 sR3 false) .ret))) ((AF.enter [seqK B] 9).set 2 (.slice none 0 0)) h _=_
 rw[evalK_seq,evalK_reg]
 refine opsK_one rfl ?_
 refine(opK_pure (v:=seqK B) (fun it=>by simp) rfl).trans ?_
 refine opsK_one rfl ?_
 refine(opK_enter (l:=98) (args:=[seqK B]) (g':=h) (fun it=>by simp) rfl rfl rfl rfl).trans ?_
 show callKB (EC s) s (evalK (EC s) s (n+es.length+22)) 98 [seqK B] h _=_
 rw[show n+es.length+22=(n+2)+es.length+20 by omega]
 refine col_run (outX_self ks) hst hkey (by omega) hs W hm hr fun ch v g' w1 w2 w3 hp=>?_
 refine opsK_one rfl ?_
 refine(opK_pure (v:=v) (fun it=>by simp) rfl).trans ?_
 rw[opsK_nil]
 show evalK (EC s) s (n+es.length+23) (.seq (.region 2 sR2 false) (.seq (.region 3 sR3 false) .ret)) (((((AF.enter [seqK B] 9).set 2 (.slice none 0 0)).set 4 (seqK B)).set 5 v).set 3 v) g' _=_
 rw[evalK_seq,evalK_reg]
 refine opsK_one rfl ?_
 refine(opK_pure (v:=v) (fun it=>by simp) rfl).trans ?_
 refine opsK_one rfl ?_
 refine(opK_enter (l:=99) (args:=[v]) (g':=g') (fun it=>by simp) rfl rfl rfl rfl).trans ?_
 -- what came
 have hperm:(ch.map (·.key)).Perm (ks.map (.int .u32)):=by rw[←hks];exact hp.map _
 obtain⟨d,hd,hdk⟩:∃d:Array Int,ch.map (·.key)=d.toList.map (.int .u32)∧d.toList.Perm ks:=by
  refine⟨(ch.map keyI).toArray,?_,?_⟩
  ·show ch.map (·.key)=(ch.map keyI).map (.int .u32)
   rw[List.map_map]
   refine List.map_congr_left fun e he=>?_
   obtain⟨k,hk⟩:=hkey e (hp.mem_iff.1 he)
   simp[keyI,keyV,hk]
  ·show(ch.map keyI).Perm ks
   have:es.map keyI=ks:=by
    have:es.map keyI=(es.map (·.key)).map keyV:=by rw[List.map_map];rfl
    rw[this,hks,List.map_map]
    exact(List.map_congr_left fun x _=>rfl).trans (List.map_id ks)
   rw[←this]
   exact hp.map _
 have hsz:d.size=ks.length:=by have:=hdk.length_eq;simpa using this
 have hss:sortZ d.toList=sortZ ks:=mergeSort_perm hdk
 have hs3:s≤g'.size:=by omega
 have hv:=w3
 rw[hd]at hv
 have fin:∀h',sortO s [v] g'=some (.tuple #[],h')→outK s v h'=some (outX ks)→callKB (EC s) s (evalK (EC s) s (n+es.length+21)) 99 [v] g' (fun v1 h1=>opsK (EC s) s (callKB (EC s) s (evalK (EC s) s (n+es.length+21))) (roundKB s (evalK (EC s) s (n+es.length+21))) sR2.toList [] (((((((AF.enter [seqK B] 9).set 2 (.slice none 0 0)).set 4 (seqK B)).set 5 v).set 3 v).set 6 v).set 7 v1) h1 fun f' h2=>evalK (EC s) s (n+es.length+22) (.seq (.region 3 sR3 false) .ret) f' h2 fun ex f h'=>match ex with
  | .exit _=>none
  |_=>match aresults (EC s) h' f Tryz.f56.results.toList with
   |some vs=>outK s (oneOrTuple vs) h'
   |none=>none)=some (outX ks):=by
  intro h' q1 q2
  unfold callKB
  rw[show(EC s).func 99=some Tryz.f99 by kernel_rfl]
  simp only[show(EC s).orc s 99 [v] g'=some (.tuple #[],h')from q1]
  rw[opsK_nil,evalK_seq,evalK_reg]
  refine opsK_one rfl ?_
  refine(opK_pure (v:=v) (fun it=>by simp) rfl).trans ?_
  refine opsK_one rfl ?_
  refine(opK_pure (v:=v) (fun it=>by simp) rfl).trans ?_
  rw[opsK_nil]
  exact q2
 rcases Nat.eq_zero_or_pos d.size with h0|h0
 ·have hk0:ks=[]:=List.eq_nil_of_length_eq_zero (by omega)
  have hv0:v= .slice none 0 0:=by
   rcases hv with⟨_,hv⟩|⟨hpos,_⟩
   ·exact hv
   ·simp at hpos;omega
  obtain⟨h',q1⟩:=sort_nil w1 hs3
  rw[←hv0]at q1
  refine fin h' q1 ?_
  rw[hv0,hk0]
  rfl
 ·rw[hz,List.length_nil]at hsz;omega
end Go.M
namespace Go.M
open Go Go.Proofs
set_option maxRecDepth 100000
set_option maxHeartbeats 4000000
def u32Ks:List MapEntry→Option (List Int)
 |[]=>some []
 |e::l=>match e.key,u32Ks l with
  | .int .u32 n,some ks=>some (n::ks)
  |_,_=>none
theorem u32Ks_some:∀{ev:List MapEntry} {ks:List Int},u32Ks ev=some ks→ev.map (·.key)=ks.map (.int .u32)
 |[],ks,h=>by simp[u32Ks]at h;subst h;rfl
 |e::l,ks,h=>by
  unfold u32Ks at h
  split at h
  ·rename_i n ks' hk hl
   cases h
   simp only[List.map_cons,hk,u32Ks_some hl]
  ·cases h
theorem u32Ks_of:∀{ev:List MapEntry} {ks:List Int},ev.map (·.key)=ks.map (.int .u32)→u32Ks ev=some ks
 |[],ks,h=>by cases ks with
  |nil=>rfl
  |cons _ _=>simp at h
 |e::l,ks,h=>by
  cases ks with
  |nil=>simp at h
  |cons n ks=>
   simp only[List.map_cons,List.cons.injEq]at h
   unfold u32Ks
   rw[h.1,u32Ks_of h.2]
def keysU (h:AHeap):Option Nat→Option (List Int)
 |none=>none
 |some r=>match h.get r with
  |some (.map ev clock)=>(u32Ks ev).bind fun ks=>grd (decide (StL ev clock)&&Nat.blt ks.length 1) (some ks)
  |_=>none
def ansU (h:AHeap) (ks:List Int):Value×AHeap:=match ks with
 |[]=>(.slice none 0 0,h)
 |_::_=>(.slice (some ⟨h.size,0,some 1⟩) ks.length (ks.length+1),h.push (.cells ((sortZ ks).map (.int .u32)) h.size (h.size+1) 0))
def sortedU (args:List Value) (h:AHeap):Option (Value×AHeap):=match args with
 |[.func (.func k) a c]=>(match a.toList,c.toList with
  |[],[.pointer (some ⟨b,0,none⟩)]=>grd (Nat.beq k 100) ((boxMap h b).bind fun mb=>(keysU h mb).bind fun ks=>some (ansU h ks))
  |_,_=>none)
 |_=>none
theorem ansOf_outX (h:AHeap) (ks:List Int):ansOf h (outX ks)=some (ansU h ks):=by
 cases ks with
 |nil=>rfl
 |cons x l=>rfl
theorem sortedU_ok {E:Env} {base B:Nat} (hm:Tryz.prog.follows .mixedOrders=true) (hg:∀g,(EC 0).glob g=true→E.glob g=true) {μ:Emb} {h h':AHeap} {w:World} {args:List Value} {args':Array Value} {v:Value}
 (hc:sortedU args h=some (v,h')) (hr:VRels μ args args'.toList) (H:HRel E base B μ h w) {F:Fence} (hF:Wide F) (n:Nat):CallsIn F n Tryz.prog 56 args' w (RetPost E base B μ h w v h'):=by
 unfold sortedU at hc
 split at hc
 ·rename_i k a c
  split at hc
  ·rename_i b ha hcc
   simp only[grd_some,Option.bind_eq_some_iff,Option.some.injEq,beq_iff]at hc
   obtain⟨rfl,mb,hbox,ks,hkeys,hans⟩:=hc
   obtain⟨thr,hgb,hthr⟩:=boxMap_some hbox
   cases mb with
   |none=>simp[keysU]at hkeys
   |some r=>
    simp only[keysU]at hkeys
    split at hkeys
    ·rename_i ev clock hgr
     simp only[Option.bind_eq_some_iff,grd_some,Bool.and_eq_true,decide_eq_true_eq,blt_iff,Option.some.injEq]at hkeys
     obtain⟨ks',hks,⟨hst,hlt⟩,rfl⟩:=hkeys
     have ea:a= #[]:=Array.toList_eq_nil_iff.1 ha
     have ec:c= #[ptr0 b]:=by rw[←Array.toList_inj,hcc]
     subst ea;subst ec
     have W:Wf h:=⟨H.high,H.wf⟩
     have hK:=u32Ks_some hks
     have hrun:=sorted_run (n:=0) (B:=b) hst hK (List.eq_nil_of_length_eq_zero (by omega)) rfl W hgr (readOne hgb hthr)
     have H2:=H.rebase (E0:=EC h.size) (fun g hgl=>hg g hgl)
     refine(callK_ok (envOkT Tryz.prog [] (orcS h.size)) (orcS_ok hm h.size _) hm (0+ev.length+25) μ h w 56 _ args' _ (outX ks') hrun hr H2 F n hF).mono ?_
     rintro e w' ⟨u,u',h1,μ1,hKo,rfl,hv,S⟩
     refine confl_post H rfl ?_ hKo hv S
     rw[ansOf_outX,hans]
    ·cases hkeys
  ·cases hc
 ·cases hc
def KeysP (ks:List Int):TO→Prop
 | .map _ es=>es.map (·.1)=ks.map (.int .u32)
 | .maq _ es op=>op=[]∧es.map (·.1)=ks.map (.int .u32)
 |_=>False
theorem OR.keysP {c:Nat} {ρ:Gh} {F:Nat→Prop} {h:AHeap} {base n:Nat} {S:Ft} {y:TO} {ks:List Int} (H:OR c ρ F h base n S y) (hk:KeysP ks y):∃b ev clock,ρ n=some (.blk b)∧h.get b=some (.map ev clock)∧StL ev clock∧ev.map (·.key)=ks.map (.int .u32):=by
 cases H with
 |map hb hg hl hc hst=>
  rename_i kd es b clock ev
  refine⟨_,_,_,hb,hg,hst,?_⟩
  rw[←show es.map (·.1)=ks.map (.int .u32)from hk]
  refine List.ext_getElem? fun i=>?_
  rw[List.getElem?_map,List.getElem?_map]
  cases he:es[i]? with
  |none=>
   have:es.length≤i:=by simpa using he
   rw[List.getElem?_eq_none (by omega)];rfl
  |some e=>
   have hi:=(List.getElem?_eq_some_iff.1 he).1
   obtain⟨q1,_⟩:=hc i e ev[i] he (List.getElem?_eq_getElem (by omega))
   rw[List.getElem?_eq_getElem (by omega)]
   simp[q1]
 |maq hb hg hcl hc hst=>
  obtain⟨rfl,hk⟩:=hk
  refine⟨_,_,_,hb,hg,hst,?_⟩
  rw[←hk]
  have key:∀{S:Ft} {kd:Nat} {l:List (Value×TV)} {m:List MapEntry},ENs c ρ F h base kd S l m→m.map (·.key)=l.map (·.1):=by
   intro S kd l m hE
   induction hE with
   |nil=>rfl
   |cons h1 _ _ _ _ ih=>simp[h1,ih]
  exact key hc
 |_=>exact hk.elim
theorem Mem.pushF {X:Cx} {ρ:Gh} {F:Nat→Prop} {o:Ob} {c:Nat} {h:AHeap} (H:Mem X ρ F o c h) (cs:List Value):
 Mem X (updG ρ c (some (.nil 1))) (fun b=>F b∨b=h.size) o (c+1) (h.push (.cells cs h.size (h.size+1) 0)):=by
 obtain⟨S,K⟩:=H.ex
 have hget:(h.push (.cells cs h.size (h.size+1) 0)).get h.size=some (.cells cs h.size (h.size+1) 0):=by rw[AHeap.get_push,if_pos rfl]
 have hold:∀b,b<h.size→(h.push (.cells cs h.size (h.size+1) 0)).get b=h.get b:=fun b hb=>by rw[AHeap.get_push,if_neg (by omega)]
 have hhd:∀b,b<h.size→hd (h.push (.cells cs h.size (h.size+1) 0)) b=hd h b:=fun b hb=>by unfold hd;rw[hold b hb]
 refine(H.change K (fun _=>False) c (.arr 1 true []) [] (by rw[AHeap.size_push];omega) (H.wf.push fun _ _ _ _ e=>by cases e;exact Nat.le_refl _) (fun _ hf=>hf.elim) (fun b hb _=>hold b hb)
  (fun b l hb hr=>by rw[rd_push H.wf.le _ (H.Flt hb)];exact hr) hhd (fun _ hb=>.inl hb) (fun b hb hn=>?_) (by omega) (fun n l hn hl=>by rwa [updG_ne _ _ (by omega)]at hl) (fun n b hb=>?_) (fun n l hl=>?_) (fun m y' hne hl=>⟨hl,updG_ne _ _ hne,fun _ _ hf=>hf.elim⟩)
  (fun y' hl=>absurd (H.lt hl) (by omega)) (.nil (updG_self _ _ _) (by omega)) (by simp[hds]) (fun x hx=>by simp[hds]at hx) (fun x b hx=>by simp at hx)).1
 ·rcases hb with hb|rfl
  ·exact absurd hb hn
  ·have e:hd (h.push (.cells cs h.size (h.size+1) 0)) h.size=h.size:=hd_get hget
   refine⟨by rw[rd_of (fam_of hget hget) (Nat.zero_le _) (cellsOf_get hget)];rfl,fun m y x _ hl hs=>?_,fun x hx=>by simp at hx,.inr (by rw[e];exact H.evo.size)⟩
   rw[e]
   have:=(K.mine m y x hl (List.mem_map.2 ⟨_,hs,rfl⟩)).2.1
   omega
 ·have:=H.names _ _ hb
  rwa [updG_ne _ _ (by omega)]
 ·by_cases e:n=c
  ·omega
  ·rw[updG_ne _ _ e]at hl;have:=H.names _ _ hl;omega
theorem Mem.bump {X:Cx} {ρ:Gh} {F:Nat→Prop} {o:Ob} {c:Nat} {h:AHeap} (H:Mem X ρ F o c h):Mem X (updG ρ c (some (.nil 1))) F o (c+1) h:=by
 obtain⟨S,K⟩:=H.ex
 refine(H.change K (fun _=>False) c (.arr 1 true []) [] (Nat.le_refl _) H.wf (fun _ hf=>hf.elim) (fun b hb _=>rfl)
  (fun b l hb hr=>hr) (fun _ _=>rfl) (fun _ hb=>hb) (fun b hb hn=>absurd hb hn) (by omega) (fun n l hn hl=>by rwa [updG_ne _ _ (by omega)]at hl) (fun n b hb=>?_) (fun n l hl=>?_) (fun m y' hne hl=>⟨hl,updG_ne _ _ hne,fun _ _ hf=>hf.elim⟩)
  (fun y' hl=>absurd (H.lt hl) (by omega)) (.nil (updG_self _ _ _) (by omega)) (by simp[hds]) (fun x hx=>by simp[hds]at hx) (fun x b hx=>by simp at hx)).1
 ·have:=H.names _ _ hb
  rwa [updG_ne _ _ (by omega)]
 ·by_cases e:n=c
  ·omega
  ·rw[updG_ne _ _ e]at hl;have:=H.names _ _ hl;omega
theorem VC.sortedU {E:Env} (hf:(E.func 56).isSome=true) (ho:∀b a,E.orc b 56 a=fun h=>sortedU a h) {y:TO} {ks:List Int} (hy:KeysP ks y) (hok:ks.length<1):
 VC E 56 2 [.clo 100 [] [.ptr 1 0]] [(0,y),(1,.cells [.mp 0])] (RR (.sl 1 ((sortZ ks).map encK) false) 3 [(0,y),(1,.cells [.mp 0])]):=by
 intro base ρ F h S vargs hN hM hO hA
 obtain⟨fn,hf⟩:=Option.isSome_iff_exists.1 hf
 obtain⟨v1,m1,rfl,h1,h2⟩:=hA.inv_cons
 obtain rfl:=h2.inv_nil
 obtain⟨_,hm⟩:=hM.objs (m:=0) rfl
 obtain⟨_,hb⟩:=hM.objs (m:=1) rfl
 obtain⟨b0,ev,clock,hb0,hg0,hst,hkeys⟩:=hm.keysP hy
 cases hb with
 |cells hb1 hg1 ht1 hc1=>
  rename_i b1 thr cs'
  have hc1:=(hc1.vrs (fun t v hv hf=>hv.fzmono hf) rfl).1
  obtain⟨x1,l1,rfl,y1,y2⟩:=hc1.inv_cons
  obtain rfl:=y2.inv_nil
  cases y1 with
  |mp hbm=>
   rw[hb0]at hbm;cases hbm
   cases h1 with
   |clo hs1 ha1 hs2 ha2=>
    rename_i a kk
    have ea:a= #[]:=Array.eq_empty_of_size_eq_zero (by simpa using hs1.symm)
    subst ea
    obtain⟨p',ec⟩:∃p',kk= #[p']:=by
     obtain⟨l⟩:=kk
     match l,hs2 with
     |[x],_=>exact⟨x,rfl⟩
     |[],hs2=>simp at hs2
     |_::_::_,hs2=>simp at hs2
    subst ec
    have hp:=ha2 0 (.ptr 1 0) p' rfl rfl
    cases hp with
    |ptr hb2=>
     rw[hb1]at hb2;cases hb2
     have horc:E.orc base 56 [seqK b1] h=some (ansU h ks):=by
      rw[congrFun (ho _ _) _]
      show grd (Nat.beq 100 100) ((boxMap h b1).bind fun mb=>(keysU h mb).bind fun ks=>some (ansU h ks))=_
      have hbx:boxMap h b1=some (some b0):=by
       unfold boxMap;rw[hg1];simp[grd,Nat.ble_eq_true_of_le ht1]
      rw[beq_iff.2 (rfl:100=100),hbx]
      simp only[grd,Option.bind_some,keysU,hg0,u32Ks_of hkeys,hst,blt_iff.2 hok,decide_true,Bool.and_self]
     have hcall:∀r,E.orc base 56 [seqK b1] h=some r→acall E base 0 56 [seqK b1] h=some r:=by
      intro r hr
      unfold acall acallB
      rw[hf]
      simp only[Option.bind_some,hr]
     cases hes:ks with
     |nil=>
      subst hes
      exact⟨0,_,_,_,F,_,_,3,hcall _ horc,⟨rfl,rfl,rfl⟩,hM.bump,.nil (by simp[sortZ])⟩
     |cons e0 l0=>
      rw[←hes]
      have hans:ansU h ks=(.slice (some ⟨h.size,0,some 1⟩) ks.length (ks.length+1),h.push (.cells ((sortZ ks).map (.int .u32)) h.size (h.size+1) 0)):=by rw[hes];rfl
      rw[hans]at horc
      have hget:(h.push (.cells ((sortZ ks).map (.int .u32)) h.size (h.size+1) 0)).get h.size=some (.cells ((sortZ ks).map (.int .u32)) h.size (h.size+1) 0):=by rw[AHeap.get_push,if_pos rfl]
      refine⟨0,_,_,_,_,_,_,3,hcall _ horc,⟨rfl,rfl,rfl⟩,hM.pushF _,.sl (.inr rfl) (rd_of (fam_of hget hget) (Nat.zero_le _) (cellsOf_get hget)) (by omega) (by simp[sortZ_len]) (by omega) (by simp) (by simp[sortZ_len]) (by simp) (by simp[fz,plainE]) ?_⟩
      intro i j e t v q1 q2 q3
      rw[List.getElem?_map]at q1
      obtain⟨x,hx,rfl⟩:=Option.map_eq_some_iff.1 q1
      have hj:j=0:=by
       have:=(List.getElem?_eq_some_iff.1 q2).1
       simp at this;exact this
      subst hj
      simp at q2;subst q2
      rw[Nat.zero_add,Nat.mul_one,Nat.add_zero,List.getElem?_map,hx]at q3
      cases q3
      exact .s rfl
end Go.M
