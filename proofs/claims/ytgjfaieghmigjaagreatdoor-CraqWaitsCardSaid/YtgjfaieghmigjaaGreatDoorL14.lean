/-
  Part 14 of the library that the proof leans on.
-/
import Derived.Test.YtgjfaieghmigjaaGreatDoorL12
import Derived.Test.YtgjfaieghmigjaaGreatDoorL9
namespace Go.M
open Go Go.RowKit
def DeletesIn (P:Program) (g:FuncId) (z:Nat) (zero:List Value):Prop:=∀(b off len cap i j:Nat) (cs:List Value) (w:World),cs.length=len*z→len≤cap→i<len→j=i+1→
 (∀t v,cs[t]? =some v→w.cell? ⟨b,off+t,none⟩=some v)→(∀t,t<cs.length→w.frozen? ⟨b,off+t,none⟩=false)→(∀v∈cs,v.oneCell'=true)→
 Calls P g #[.slice (some ⟨b,off,none⟩) len cap,.int .i64 i,.int .i64 j] w fun e w'=>e= .returned (.slice (some ⟨b,off,none⟩) (len - 1) cap)∧
  w'=(w.drew.setCells b (off+i*z) (cs.drop (j*z))).setCells b (off+(len - 1)*z) zero
def delK (z base:Nat) (args:List Value) (h:AHeap):Option (Value×AHeap):=match args with
 |[.slice (some ⟨b,0,some z'⟩) len _,.int .i64 i,.int .i64 j]=>(h.cellsOf b).bind fun cs=>(h.fam b).bind fun r=>
  grd (Nat.beq z' z&&Nat.ble base r.1&&Nat.beq r.2.1 b&&Nat.ble r.2.2 b&&decide (0≤i)&&decide (j=i+1)&&Nat.blt i.toNat len&&Nat.beq cs.length (len*z)&&cs.all oneC)
   (some (.slice (some ⟨h.size,0,some z⟩) (len - 1) len,extH h r.1 h.size (cs.take (i.toNat*z)++cs.drop ((i.toNat+1)*z))))
 |_=>none
section
variable {P:Program} {E:Env} {base B:Nat} {μ:Emb} {h h':AHeap} {w:World}
theorem frozen_no {b k:Nat} {c:Array Value} {e:TypeId} {fr:Nat×Nat} (hw:w.heap[b]? =some (.cells c e fr)) (hn:NoFr fr c.size) (hk:k<c.size):w.frozen? ⟨b,k,none⟩=false:=by
 have:=hn.at k hk
 unfold World.frozen?
 simp only[hw]
 simp
 omega
theorem setCells_at (P:Program) {b off:Nat} {c:Array Value} {e:TypeId} {fr:Nat×Nat} (hw:w.heap[b]? =some (.cells c e fr)) (hn:NoFr fr c.size) (vs:List Value) (hone:vs.all oneC=true) (hb:off+vs.length≤c.size):
 ∃c',Upd w b (.cells c' e fr) (w.setCells b off vs)∧c'.size=c.size∧∀k,c'[k]? =if off≤k∧k<off+vs.length then vs[k - off]? else c[k]? :=by
 have hcell:∀k,k<c.size→(w.cell? ⟨b,k,none⟩).isSome=true:=fun k hk=>by
  unfold World.cell?
  simp[hw,hk]
 obtain⟨w',c',q1,q2,q3,q4⟩:=run_storeCells (P:=P) (off:=off) vs 0 w c hn hw hone (by omega)
 have r:=run_storeCells_cells (P:=P) b off vs 0 w (fun j hj=>hcell _ (by omega)) (fun j hj=>frozen_no hw hn (by omega)) (fun v hv=>oneC_oneCell (List.all_eq_true.1 hone v hv))
 rw[q1]at r
 simp only[Nat.add_zero]at r q4
 cases r
 exact⟨c',q2,q3,q4⟩
theorem delK_ok {g:FuncId} {z:Nat} {zero:List Value} (hz:0<z) (hzl:zero.length=z) (hzo:zero.all oneC=true) (hD:DeletesIn P g z zero) {args:List Value} {args':Array Value} {v:Value}
 (hc:delK z base args h=some (v,h')) (hr:VRels μ args args'.toList) (H:HRel E base B μ h w):Calls P g args' w (RetPost E base B μ h w v h'):=by
 unfold delK at hc
 split at hc
 ·rename_i b z' len cap i j
  simp only[Option.bind_eq_some_iff,grd_some,Bool.and_eq_true,blt_iff,ble_iff,beq_iff,decide_eq_true_eq,Option.some.injEq,Prod.mk.injEq]at hc
  obtain⟨cs,hcs,⟨f,tip,thr⟩,hfam,⟨⟨⟨⟨⟨⟨⟨⟨hzz,hbf⟩,htip⟩,hthr⟩,hi0⟩,hj⟩,hil⟩,hlen⟩,hone⟩,rfl,rfl⟩:=hc
  simp only at hbf htip hthr
  subst htip
  subst hzz
  obtain⟨v1,v2,v3,hv1,hv2,hv3,e1⟩:∃v1 v2 v3,VRel μ (.slice (some ⟨tip,0,some z'⟩) len cap) v1∧VRel μ (.int .i64 i) v2∧VRel μ (.int .i64 j) v3∧args'= #[v1,v2,v3]:=by
   obtain⟨l⟩:=args'
   cases hr with
   |cons q1 q2=>cases q2 with
    |cons q2 q3=>cases q3 with
     |cons q3 q4=>cases q4;exact⟨_,_,_,q1,q2,q3,rfl⟩
  subst e1
  have e2:=hv2.inv_scalar rfl
  subst e2
  have e3:=hv3.inv_scalar rfl
  subst e3
  obtain⟨i,rfl⟩:∃k:Nat,i=k:=⟨i.toNat,by omega⟩
  obtain⟨j,rfl⟩:∃k:Nat,j=k:=⟨j.toNat,by omega⟩
  rw[Int.toNat_natCast]at hil
  obtain rfl:j=i+1:=by omega
  have hrd:h.rd tip=some cs:=rd_of hfam hthr hcs
  cases hv1 with
  |lit hh=>simp[plain1]at hh
  |slice0 hh=>simp at hil
  |slice hm k1 k2 k3 k4=>
   rename_i cap' m
   obtain⟨c,e,fr,hw,hcn,hcl,hfr,hval⟩:=H.read hm hrd
   have hft:=H.fam tip m _ hm hfam
   simp only at hft
   have hbt:base≤tip:=by omega
   have hnf:NoFr fr c.size:=by rw[hcn];exact hfr hbt
   -- the real cells
   obtain⟨cs',hcs'⟩:∃cs',cs'=(c.toList.drop m.s).take cs.length:=⟨_,rfl⟩
   have hl':cs'.length=cs.length:=by rw[hcs'];simp;omega
   have hget:∀t,t<cs.length→cs'[t]? =c[m.s+t]? :=fun t ht=>by
    rw[hcs',List.getElem?_take,if_pos ht,List.getElem?_drop,Array.getElem?_toList]
   have hrel:∀t v,cs[t]? =some v→∃v',cs'[t]? =some v'∧VRel μ v v':=fun t v hv=>by
    obtain⟨v',p1,p2⟩:=hval t v hv
    exact⟨v',by rw[hget t (List.getElem?_eq_some_iff.1 hv).1];exact p1,p2⟩
   have hone':∀v∈cs',oneC v=true:=fun v hv=>by
    obtain⟨t,ht,rfl⟩:=List.mem_iff_getElem.1 hv
    obtain⟨v',p1,p2⟩:=hrel t (cs[t]'(by omega)) (by simp)
    rw[List.getElem?_eq_getElem ht]at p1
    cases p1
    exact p2.oneC (List.all_eq_true.1 hone _ (List.getElem_mem _))
   have hmul:(i+1)*z'≤len*z':=Nat.mul_le_mul_right _ (by omega)
   have hmul2:(len - 1)*z'+z'=len*z':=by
    obtain⟨n,rfl⟩:∃n,len=n+1:=⟨len - 1,by omega⟩
    rw[Nat.add_sub_cancel,Nat.succ_mul]
   have hmul3:(i+1)*z'=i*z'+z':=Nat.succ_mul _ _
   have hmul4:i*z'≤(len - 1)*z':=Nat.mul_le_mul_right _ (by omega)
   refine(hD m.r (m.s+0) len cap' i (i+1) cs' w (by omega) k2 hil rfl (fun t v hv=>?_) (fun t ht=>frozen_no hw hnf (by omega)) (fun v hv=>oneC_oneCell (hone' v hv))).mono ?_
   ·have ht:=(List.getElem?_eq_some_iff.1 hv).1
    rw[hget t (by omega)]at hv
    rw[Nat.add_zero]
    unfold World.cell?
    simp only[hw]
    simpa using hv
   ·rintro ex W' ⟨rfl,rfl⟩
    have hwd:w.drew.heap[m.r]? =some (.cells c e fr):=hw
    have hdl:(cs'.drop ((i+1)*z')).length=len*z' - (i+1)*z':=by rw[List.length_drop,hl',hlen]
    obtain⟨c1,U1,s1,g1⟩:=setCells_at P (off:=m.s+0+i*z') hwd hnf (cs'.drop ((i+1)*z')) (List.all_eq_true.2 fun v hv=>hone' v (List.mem_of_mem_drop hv)) (by omega)
    have hw1:(w.drew.setCells m.r (m.s+0+i*z') (cs'.drop ((i+1)*z'))).heap[m.r]? =some (.cells c1 e fr):=by rw[U1.get,if_pos rfl]
    obtain⟨c2,U2,s2,g2⟩:=setCells_at P (off:=m.s+0+(len - 1)*z') hw1 (by rw[s1];exact hnf) zero hzo (by omega)
    have hnew:∀(t:Nat) v,(cs.take (i*z')++cs.drop ((i+1)*z'))[t]? =some v→∃v',c2[m.s+t]? =some v'∧VRel μ v v':=fun t v hv=>by
     have ht:=(List.getElem?_eq_some_iff.1 hv).1
     rw[List.length_append,List.length_take,List.length_drop]at ht
     rw[g2,if_neg (by omega),g1]
     by_cases hti:t<i*z'
     ·rw[List.getElem?_append_left (by rw[List.length_take];omega),List.getElem?_take,if_pos hti]at hv
      rw[if_neg (by omega)]
      exact hval t v hv
     ·rw[List.getElem?_append_right (by rw[List.length_take];omega),List.getElem?_drop,List.length_take]at hv
      rw[if_pos (by omega),List.getElem?_drop]
      obtain⟨v',p1,p2⟩:=hrel _ v hv
      exact⟨v',by rw[←p1];congr 1;omega,p2⟩
    have hnl:(cs.take (i*z')++cs.drop ((i+1)*z')).length=(len - 1)*z':=by
     rw[List.length_append,List.length_take,List.length_drop];omega
    rw[Int.toNat_natCast]
    have st:=Step.ext (w':=(w.drew.setCells m.r (m.s+0+i*z') (cs'.drop ((i+1)*z'))).setCells m.r (m.s+0+(len - 1)*z') zero) H h.size (fun x hx h7=>by omega) hm hfam hbf (cs:=cs)
     (new:=cs.take (i*z')++cs.drop ((i+1)*z')) ⟨m.r,m.s,m.n⟩ (by rw[U2.size,U1.size];exact Nat.le_refl _) (U2.tape.trans U1.tape) (U2.os.trans U1.os) (U2.output.trans U1.output)
     ⟨c2,e,fr,by rw[U2.get,if_pos rfl],hfr hbt,by rw[s2,s1,hcn],by simp only;omega,hnew⟩ hcs
     (fun r hr hne=>by simp only at hne;rw[U2.get,if_neg hne,U1.get,if_neg hne];rfl) (H.own tip m hm hbt)
     (.inr ⟨rfl,rfl,fun h7=>by omega,fun c0 e0 fr0 hh=>by
      rw[hw]at hh;cases hh
      exact⟨c2,by rw[U2.get,if_pos rfl],by rw[s2,s1],fun h7=>by omega⟩⟩)
    refine⟨_,_,rfl,?_,st⟩
    have:=VRel.slice (o:=0) (z:=z') (len:=len - 1) (cap:=len) (cap':=cap') (upd_self μ h.size ⟨m.r,m.s,m.n⟩) (by omega) (by omega) (fun hh=>by omega) (by simpa using k4)
    simpa using this
 ·cases hc
def envD (P:Program) (l:Tabs) (gd z:Nat) (rest:FuncId→List Value→AHeap→Option (Value×AHeap)):Env:={envT P l rest with orc:=fun b g args h=>match Nat.beq g gd,delK z b args h with
 |true,some r=>some r
 |_,_=>rest g args h}
theorem envOkD (l:Tabs) (gd z:Nat) (rest:FuncId→List Value→AHeap→Option (Value×AHeap)):EnvOk P (envD P l gd z rest):=
 let h:=envOkT P l rest
 ⟨h.desc,h.size,h.bytes,h.zero,h.eqOk,h.func⟩
theorem orcD_ok {l:Tabs} {gd z:Nat} {zero:List Value} {rest:FuncId→List Value→AHeap→Option (Value×AHeap)} (hz:0<z) (hzl:zero.length=z) (hzo:zero.all oneC=true) (hD:DeletesIn P gd z zero)
 (hr:∀base B,OrcOk P (envT P l rest) base B) (base B:Nat):OrcOk P (envD P l gd z rest) base B:=by
 intro μ h w g args args' v h' hc hv H F k hF
 have hc':(match Nat.beq g gd,delK z base args h with|true,some r=>some r|_,_=>rest g args h)=some (v,h'):=hc
 split at hc'
 ·rename_i r h1 h2
  cases hc'
  rw[beq_iff]at h1
  subst h1
  exact calls_any hF (delK_ok hz hzl hzo hD h2 hv H)
 ·have H2:HRel (envT P l rest) base B μ h w:=⟨H.dom,H.high,H.obj,H.own,H.alias,H.fam,H.glob,H.low,H.bsz,H.wf,H.root⟩
  exact(hr base B μ h w g _ args' v h' hc' hv H2 F k hF).mono fun e w' ⟨v',μ',h1,h2,h3⟩=>
   ⟨v',μ',h1,h2,⟨⟨h3.rel.dom,h3.rel.high,h3.rel.obj,h3.rel.own,h3.rel.alias,h3.rel.fam,h3.rel.glob,h3.rel.low,h3.rel.bsz,h3.rel.wf,h3.rel.root⟩,h3.grow,h3.le,h3.new,h3.unt,h3.hsz⟩⟩
end
theorem fz_okC {t:TV} (h:fz t=true):okC t=true:=by cases t<;>first|rfl |cases h
theorem VC.deleteO {E:Env} {g:FuncId} {z:Nat} (hf:(E.func g).isSome=true) (ho:∀b a h r,delK z b a h=some r→E.orc b g a h=some r) {es:List (List TV)} {i:Nat} (hi:i<es.length):
 VC E g 1 [.tk 0,.s (.int .i64 i),.s (.int .i64 ((i+1:Nat):Int))] [(0,.arr z true es)] fun r o c=>r= .tk 1∧c=2∧o=[(1,.arr z true (es.eraseIdx i))]:=by
 intro base ρ F h S vargs hN hM hO hA
 obtain⟨fn,hf⟩:=Option.isSome_iff_exists.1 hf
 obtain⟨v1,m1,rfl,h1,h2⟩:=hA.inv_cons
 obtain⟨v2,m2,rfl,h3,h4⟩:=h2.inv_cons
 obtain⟨v3,m3,rfl,h5,h6⟩:=h4.inv_cons
 obtain rfl:=h6.inv_nil
 obtain rfl:=h3.inv_s.1
 obtain rfl:=h5.inv_s.1
 have hobj:=hO.objs 0 _ rfl
 generalize hS:S 0=S0 at hobj
 cases hobj with
 |nil=>simp at hi
 |arr hb hg hfam ht hbf hz hl he hfz hc hF=>
  rename_i b f t0 th0 thr cs
  cases h1 with
  |tk hn hsl ha h0=>
   obtain⟨cap,hcap,rfl⟩:=ha _ _ _ hb
   have hone:cs.all oneC=true:=by
    rw[List.all_eq_true]
    intro v hv
    obtain⟨t,ht2,rfl⟩:=List.mem_iff_getElem.1 hv
    have h1:t / z<es.length:=by
     rw[Nat.div_lt_iff_lt_mul hz];omega
    have h2:t % z<(es[t / z]).length:=by rw[he _ (List.getElem_mem h1)];exact Nat.mod_lt _ hz
    have hx:=hc (t / z) (t % z) es[t / z] ((es[t / z])[t % z]) cs[t] (by simp[h1]) (by simp[h2]) (by rw[Nat.mul_comm,Nat.div_add_mod];simp[ht2])
    exact okC_one (fz_okC (hfz _ (List.getElem_mem h1) _ (List.getElem_mem h2))) hx
   have horc:E.orc base g [.slice (some ⟨b,0,some z⟩) es.length cap,.int .i64 (i:Int),.int .i64 ((i+1:Nat):Int)] h=some (.slice (some ⟨h.size,0,some z⟩) (es.length - 1) es.length,extH h f h.size (cs.take (i*z)++cs.drop ((i+1)*z))):=by
    refine ho _ _ _ _ ?_
    unfold delK
    simp only[cellsOf_get hg,hfam,Option.bind_some,Int.toNat_natCast]
    have hbt:=hM.wf.le _ _ _ _ _ hg
    have hbf:base≤f:=hbf
    simp[grd,ble_iff.2 hbf,ble_iff.2 ht,blt_iff.2 hi,hl,hone]
   have hle2:es.length - 1=(es.eraseIdx i).length:=by rw[List.length_eraseIdx,if_pos hi]
   obtain⟨M2,k2⟩:=hM.growG hO h.size (len':=es.length - 1) (cs':=cs.take (i*z)++cs.drop ((i+1)*z)) (y':=.arr z true (es.eraseIdx i)) rfl hS hb hg hfam ht (Nat.le_refl _) (.inr rfl) fun hm same frz hgc hfc=>by
    rw[hle2]at hm ⊢
    refine .arr (updG_self _ _ _) hgc hfc (Nat.le_refl _) hbf hz ?_ (fun e m=>he e (List.mem_of_mem_eraseIdx m)) (fun e m=>hfz e (List.mem_of_mem_eraseIdx m)) (fun k j e t v q1 q2 q3=>?_) (fun q=>by cases q)
    ·rw[←hle2,List.length_append,List.length_take,List.length_drop,hl]
     have hmul:(i+1)*z≤es.length*z:=Nat.mul_le_mul_right _ (by omega)
     have hmul2:(es.length - 1)*z+z=es.length*z:=by
      obtain⟨n,hn⟩:∃n,es.length=n+1:=⟨es.length - 1,by omega⟩
      rw[hn,Nat.add_sub_cancel,Nat.succ_mul]
     have hmul3:(i+1)*z=i*z+z:=Nat.succ_mul _ _
     omega
    ·refine hm _ _ ?_
     have hjz:j<z:=by
      have:=(List.getElem?_eq_some_iff.1 q2).1
      rwa [he e (List.mem_of_mem_eraseIdx (List.mem_of_getElem? q1))]at this
     rw[List.getElem?_eraseIdx]at q1
     have hmul3:(i+1)*z=i*z+z:=Nat.succ_mul _ _
     have hmul:(i+1)*z≤es.length*z:=Nat.mul_le_mul_right _ (by omega)
     split at q1
     ·rename_i hki
      have hki2:(k+1)*z≤i*z:=Nat.mul_le_mul_right _ hki
      have hmul4:(k+1)*z=k*z+z:=Nat.succ_mul _ _
      rw[List.getElem?_append_left (by rw[List.length_take];omega),List.getElem?_take,if_pos (by omega)]at q3
      exact hc k j e t v q1 q2 q3
     ·rename_i hki
      have hki2:i*z≤k*z:=Nat.mul_le_mul_right _ (by omega)
      have hmul4:(k+1)*z=k*z+z:=Nat.succ_mul _ _
      rw[List.getElem?_append_right (by rw[List.length_take];omega),List.getElem?_drop,List.length_take]at q3
      exact hc (k+1) j e t v q1 q2 (by rw[←q3];congr 1;omega)
   refine⟨0,.slice (some ⟨h.size,0,some z⟩) (es.length - 1) es.length,_,_,_,.tk 1,_,2,by unfold acall acallB;rw[hf];simp only[Option.bind_some,horc],⟨rfl,rfl,rfl⟩,M2,?_⟩
   refine .tk (by omega) rfl (fun b' z' len hx=>?_) (fun z hx=>?_)
   ·rw[updG_self]at hx;cases hx
    exact⟨_,by omega,rfl⟩
   ·rw[updG_self]at hx;cases hx
theorem VC.awakeD {P:Program} {l:Tabs} {n gd z:Nat} {aw:List Nat} {rest:FuncId→List Value→AHeap→Option (Value×AHeap)} {g:FuncId} {c0:Nat} {o0:Ob} (hB:tabsB l n=true) (hf:((envD P l gd z (orcX l aw rest)).func g).isSome=true) (hg:memN g aw=true) (hne:Nat.beq g gd=false):
 VC (envD P l gd z (orcX l aw rest)) g c0 [] o0 (fun r o c=>r= .s (.bool true)∧o=o0∧c=c0):=by
 intro base ρ F h S vargs hN hM hO hA
 obtain⟨fn,hf⟩:=Option.isSome_iff_exists.1 hf
 obtain rfl:=hA.inv_nil
 have ho:(envD P l gd z (orcX l aw rest)).orc base g [] h=some (.bool true,h):=by
  show(match Nat.beq g gd,delK z base [] h with|true,some r=>some r|_,_=>orcX l aw rest g [] h)=_
  rw[hne]
  show orcX l aw rest g [] h=_
  unfold orcX
  rw[hg,tabsIn_of (E:=envD P l gd z (orcX l aw rest)) rfl hB hN]
 refine⟨0,.bool true,h,ρ,F,.s (.bool true),o0,c0,?_,⟨rfl,rfl,rfl⟩,hM,.s rfl⟩
 unfold acall acallB
 rw[hf]
 simp only[Option.bind_some,ho]
end Go.M
namespace Go.M
open Go
end Go.M
