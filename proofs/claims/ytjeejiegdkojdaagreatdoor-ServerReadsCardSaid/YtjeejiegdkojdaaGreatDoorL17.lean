/-
  Part 17 of the library that the proof leans on.
-/
import Derived.Test.YtjeejiegdkojdaaGreatDoorL9
import Derived.Test.YtjeejiegdkojdaaGreatDoorL12
namespace Go.M
open Go
theorem VC.tc {E:Env} {g:FuncId} {c m0:Nat} {args:List TV} {o:Ob} {cs:List TV} {R:TV→Ob→Nat→Prop} (hl:look o m0=some (.cells cs))
 (hw:ow false (VC E) g args ((dV cs c).2++eY o m0 (.cells (dV cs c).1)) (c+(dV cs c).2.length) (fun r o' c' _=>R r o' c')):VC E g c args o R:=by
 intro base ρ F h S dX hT hM hO hA;have vp:=hO.b7 m0 _ hl;generalize hSm:S m0=Sm at vp;cases vp with
 |cells hb hg ht hc=>
  rename_i S1 b aQ cs';obtain⟨Ss,ls,b1,b2,b3⟩:=hc.opened c;have zF:ls.length=(dV cs c).2.length:=b2.l2;have Aw:(S m0).Perm ([(b,true)]++Ss.flatten):=by rw[hSm,←b1];exact List.Perm.refl _
  obtain⟨M1,hk⟩:=hM.opens hO (y1:=.cells (dV cs c).1) hl b2 Aw (fun hm=>.cells (by rw[fA _ _ (hM.lt hl)];exact hb) hg ht (cI.kU (b3 _ _ hm om (fun i q hq=>by rw[sN];exact hq))));obtain⟨sh,ids,U,I4,o0,R0,hvc,⟨ke,hO0,hi⟩,hK⟩:=hw;simp only[Bool.and_eq_true]at hi;obtain⟨hi,hU⟩:=hi;obtain⟨F1,Sh⟩:=jO M1 sh;have H1:=Sh.mem;obtain⟨S2,K1⟩:=H1.ex;obtain⟨S3,Ns,D⟩:=hO0.told H1 K1 hi hU;obtain⟨hand,OB⟩:=H1.hand K1 D;have UJ:=Eg (zf:=G8 o0) H1 _ _ _ ke ((hA.qJ hk).qJ Sh.bl);obtain⟨n0,v,h',ρ',F',r,o',c',gD,hR,MC,hr⟩:=hvc base _ F1 h S3 dX (fun i cs hi=>let⟨b,q⟩:=hT i cs hi;⟨Sh.FF _ b,q⟩) hand OB UJ
  obtain⟨MM,k1,k2,k3⟩:=H1.merge K1 hi D MC;exact⟨n0,v,h',_,F',_,_,_,gD,hK r o' c' hR,MM,k2 _ _ hr⟩
theorem VC.told {E:Env} {g:FuncId} {c:Nat} {args:List TV} {o:Ob} {R R2:TV→Ob→Nat→Prop} (H:VC E g c args o R)
 (hR:∀r o' c',R r o' c'→∃(sh:List Nat) (ids:List (Option Nat)) (U:List Nat) (r2:TV) (o2:Ob),(ZJ ids (ck sh o') r r2∧I2 ids (ck sh o') U o2∧(iL c' ids&&ph c 0 ids&&mh ids U)=true)∧R2 r2 o2 ids.length):VC E g c args o R2:=by
 intro base ρ F h S dX hT hM hO hA;obtain⟨n,v,h',ρ',F',r,o',c',gD,hr,M',hv⟩:=H base ρ F h S dX hT hM hO hA;obtain⟨sh,ids,U,r2,o2,⟨hle,hO2,hi⟩,hR2⟩:=hR r o' c' hr;simp only[Bool.and_eq_true]at hi;obtain⟨F1,S1⟩:=jO M' sh;have M2:=S1.mem.le hi.1.1 hi.1.2 hi.2 hO2;exact⟨n,v,h',_,F1,r2,o2,ids.length,gD,hR2,M2,p6 S1.mem _ _ _ hle (S1.bl _ _ hv)⟩
end Go.M
namespace Go.M
open Go Go.RowKit
def A0 (P:Program) (g:FuncId) (z:Nat) (zero:List Value):Prop:=∀(b off len cap i j:Nat) (cs:List Value) (w:World),cs.length=len*z→len≤cap→i<len→j=i+1→
 (∀t v,cs[t]? =some v→w.cell? ⟨b,off+t,none⟩=some v)→(∀t,t<cs.length→w.frozen? ⟨b,off+t,none⟩=false)→(∀v∈cs,v.oneCell'=true)→
 Calls P g #[.slice (some ⟨b,off,none⟩) len cap,.int .i64 i,.int .i64 j] w fun e w'=>e= .returned (.slice (some ⟨b,off,none⟩) (len - 1) cap)∧
  w'=(w.drew.setCells b (off+i*z) (cs.drop (j*z))).setCells b (off+(len - 1)*z) zero
def Fe (z base:Nat) (args:List Value) (h:ab):Option (Value×ab):=match args with
 |[.slice (some ⟨b,0,some z'⟩) len _,.int .i64 i,.int .i64 j]=>(h.cellsOf b).bind fun cs=>(h.dr b).bind fun r=>
  bF (Nat.beq z' z&&Nat.ble base r.1&&Nat.beq r.2.1 b&&Nat.ble r.2.2 b&&decide (0≤i)&&decide (j=i+1)&&Nat.blt i.toNat len&&Nat.beq cs.length (len*z)&&cs.all dY)
   (some (.slice (some ⟨h.size,0,some z⟩) (len - 1) len,dQ h r.1 h.size (cs.take (i.toNat*z)++cs.drop ((i.toNat+1)*z))))
 |_=>none
section
variable {P:Program} {E:Env} {base B:Nat} {μ:bn} {h h':ab} {w:World}
theorem A5 {b k:Nat} {c:Array Value} {e:TypeId} {fr:Nat×Nat} (hw:w.heap[b]? =some (.cells c e fr)) (hn:mH fr c.size) (hk:k<c.size):w.frozen? ⟨b,k,none⟩=false:=by
 have:=hn.at k hk;unfold World.frozen?;simp only[hw];simp;omega
theorem vI (P:Program) {b off:Nat} {c:Array Value} {e:TypeId} {fr:Nat×Nat} (hw:w.heap[b]? =some (.cells c e fr)) (hn:mH fr c.size) (vs:List Value) (iu:vs.all dY=true) (hb:off+vs.length≤c.size):
 ∃c',z8 w b (.cells c' e fr) (w.setCells b off vs)∧c'.size=c.size∧∀k,c'[k]? =if off≤k∧k<off+vs.length then vs[k - off]? else c[k]? :=by
 have DI:∀k,k<c.size→(w.cell? ⟨b,k,none⟩).isSome=true:=fun k hk=>by
  unfold World.cell?;simp[hw,hk]
 obtain⟨w',c',q1,q2,q3,q4⟩:=iI (P:=P) (off:=off) vs 0 w c hn hw iu om;have r:=run_storeCells_cells (P:=P) b off vs 0 w (fun j hj=>DI _ om) (fun j hj=>A5 hw hn om) (fun v hv=>nD (List.all_eq_true.1 iu v hv));rw[q1]at r;simp only[Nat.add_zero]at r q4;cases r;exact⟨c',q2,q3,q4⟩
theorem Sy {g:FuncId} {z:Nat} {zero:List Value} (hz:0<z) (Gn:zero.length=z) (hzo:zero.all dY=true) (hD:A0 P g z zero) {args:List Value} {args':Array Value} {v:Value}
 (hc:Fe z base args h=some (v,h')) (hr:ay μ args args'.toList) (H:bh E base B μ h w):Calls P g args' w (lI E base B μ h w v h'):=by
 unfold Fe at hc;split at hc
 ·rename_i b z' len cap i j;simp only[Option.bind_eq_some_iff,ai,Bool.and_eq_true,aS,aG,beq_iff,decide_eq_true_eq,Option.some.injEq,Prod.mk.injEq]at hc;obtain⟨cs,o7,⟨f,cA,aQ⟩,jf,⟨⟨⟨⟨⟨⟨⟨⟨hzz,dx⟩,Nt⟩,vR⟩,Jb⟩,hj⟩,hil⟩,hlen⟩,iu⟩,rfl,rfl⟩:=hc;simp only at dx Nt vR;subst Nt;subst hzz;obtain⟨v1,v2,v3,vt,IS,hv3,e1⟩:∃v1 v2 v3,au μ (.slice (some ⟨cA,0,some z'⟩) len cap) v1∧au μ (.int .i64 i) v2∧au μ (.int .i64 j) v3∧args'= #[v1,v2,v3]:=by
   obtain⟨l⟩:=args';cases hr with
   |cons q1 q2=>cases q2 with
    |cons q2 q3=>cases q3 with
     |cons q3 q4=>cases q4;exact⟨_,_,_,q1,q2,q3,rfl⟩
  subst e1;have e2:=IS.ax rfl;subst e2;have e3:=hv3.ax rfl;subst e3;obtain⟨i,rfl⟩:∃k:Nat,i=k:=⟨i.toNat,om⟩;obtain⟨j,rfl⟩:∃k:Nat,j=k:=⟨j.toNat,om⟩;rw[Int.toNat_natCast]at hil;obtain rfl:j=i+1:=by omega
  have fP:h.rd cA=some cs:=dD jf vR o7;cases vt with
  |lit hh=>simp[aC]at hh
  |cP hh=>simp at hil
  |slice hm k1 k2 k3 k4=>
   rename_i cap' m;obtain⟨c,e,fr,hw,Re,bT,Aa,Pj⟩:=H.read hm fP;have Zi:=H.dr cA m _ hm jf;simp only at Zi;have Ul:base≤cA:=by omega
   have QN:mH fr c.size:=by rw[Re];exact Aa Ul
   -- the real cells
   obtain⟨cs',aaU⟩:∃cs',cs'=(c.toList.drop m.s).take cs.length:=⟨_,rfl⟩;have rN:cs'.length=cs.length:=by rw[aaU];simp;omega
   have dK:∀t,t<cs.length→cs'[t]? =c[m.s+t]? :=fun t ht=>by
    rw[aaU,List.getElem?_take,if_pos ht,List.getElem?_drop,Array.getElem?_toList]
   have oZ:∀t v,cs[t]? =some v→∃v',cs'[t]? =some v'∧au μ v v':=fun t v hv=>by
    obtain⟨v',p1,p2⟩:=Pj t v hv;exact⟨v',by rw[dK t (List.getElem?_eq_some_iff.1 hv).1];exact p1,p2⟩
   have u7:∀v∈cs',dY v=true:=fun v hv=>by
    obtain⟨t,ht,rfl⟩:=List.mem_iff_getElem.1 hv;obtain⟨v',p1,p2⟩:=oZ t (cs[t]' om) (by simp);rw[List.getElem?_eq_getElem ht]at p1;cases p1;exact p2.dY (List.all_eq_true.1 iu _ (List.getElem_mem _))
   have hmul:(i+1)*z'≤len*z':=Nat.mul_le_mul_right _ om;have aaV:(len - 1)*z'+z'=len*z':=by
    obtain⟨n,rfl⟩:∃n,len=n+1:=⟨len - 1,om⟩;rw[Nat.add_sub_cancel,Nat.succ_mul]
   have U3:(i+1)*z'=i*z'+z':=Nat.succ_mul _ _;have U4:i*z'≤(len - 1)*z':=Nat.mul_le_mul_right _ om;refine(hD m.r (m.s+0) len cap' i (i+1) cs' w om k2 hil rfl (fun t v hv=>?_) (fun t ht=>A5 hw QN om) (fun v hv=>nD (u7 v hv))).mono ?_
   ·have ht:=(List.getElem?_eq_some_iff.1 hv).1;rw[dK t om]at hv;rw[Nat.add_zero];unfold World.cell?;simp only[hw];simpa using hv
   ·rintro ex W' ⟨rfl,rfl⟩;have M4:w.drew.heap[m.r]? =some (.cells c e fr):=hw;have hdl:(cs'.drop ((i+1)*z')).length=len*z' - (i+1)*z':=by rw[List.length_drop,rN,hlen]
    obtain⟨c1,U1,s1,g1⟩:=vI P (off:=m.s+0+i*z') M4 QN (cs'.drop ((i+1)*z')) (List.all_eq_true.2 fun v hv=>u7 v (List.mem_of_mem_drop hv)) om;have Dv:(w.drew.setCells m.r (m.s+0+i*z') (cs'.drop ((i+1)*z'))).heap[m.r]? =some (.cells c1 e fr):=by rw[U1.get,if_pos rfl]
    obtain⟨c2,U2,s2,g2⟩:=vI P (off:=m.s+0+(len - 1)*z') Dv (by rw[s1];exact QN) zero hzo om;have ko:∀(t:Nat) v,(cs.take (i*z')++cs.drop ((i+1)*z'))[t]? =some v→∃v',c2[m.s+t]? =some v'∧au μ v v':=fun t v hv=>by
     have ht:=(List.getElem?_eq_some_iff.1 hv).1;rw[List.length_append,List.length_take,List.length_drop]at ht;rw[g2,if_neg om,g1];by_cases Uh:t<i*z'
     ·rw[List.getElem?_append_left (by rw[List.length_take];omega),List.getElem?_take,if_pos Uh]at hv;rw[if_neg om];exact Pj t v hv
     ·rw[List.getElem?_append_right (by rw[List.length_take];omega),List.getElem?_drop,List.length_take]at hv;rw[if_pos om,List.getElem?_drop];obtain⟨v',p1,p2⟩:=oZ _ v hv;exact⟨v',by rw[←p1];congr 1;omega,p2⟩
    have w7:(cs.take (i*z')++cs.drop ((i+1)*z')).length=(len - 1)*z':=by
     rw[List.length_append,List.length_take,List.length_drop];omega
    rw[Int.toNat_natCast]
    have st:=Step.ext (w':=(w.drew.setCells m.r (m.s+0+i*z') (cs'.drop ((i+1)*z'))).setCells m.r (m.s+0+(len - 1)*z') zero) H h.size (fun x hx h7=>by omega) hm jf dx (cs:=cs)
     (new:=cs.take (i*z')++cs.drop ((i+1)*z')) ⟨m.r,m.s,m.n⟩ (by rw[U2.size,U1.size];exact Nat.le_refl _) (U2.tape.trans U1.tape) (U2.os.trans U1.os) (U2.output.trans U1.output)
     ⟨c2,e,fr,by rw[U2.get,if_pos rfl],Aa Ul,by rw[s2,s1,Re],by simp only;omega,ko⟩ o7
     (fun r hr bc=>by simp only at bc;rw[U2.get,if_neg bc,U1.get,if_neg bc];rfl) (H.own cA m hm Ul)
     (.inr ⟨rfl,rfl,fun h7=>by omega,fun c0 e0 UP hh=>by
      rw[hw]at hh;cases hh;exact⟨c2,by rw[U2.get,if_pos rfl],by rw[s2,s1],fun h7=>by omega⟩⟩)
    refine⟨_,_,rfl,?_,st⟩;have:=au.slice (o:=0) (z:=z') (len:=len - 1) (cap:=len) (cap':=cap') (bN μ h.size ⟨m.r,m.s,m.n⟩) om om (fun hh=>by omega) (by simpa using k4);simpa using this
 ·cases hc
def Ff (P:Program) (l:mu) (gd z:Nat) (rest:FuncId→List Value→ab→Option (Value×ab)):Env:={mw P l rest with tS:=fun b g args h=>match Nat.beq g gd,Fe z b args h with
 |true,some r=>some r
 |_,_=>rest g args h}
theorem Xe (l:mu) (gd z:Nat) (rest:FuncId→List Value→ab→Option (Value×ab)):bu P (Ff P l gd z rest):=
 let h:=rU P l rest
 ⟨h.desc,h.size,h.bytes,h.zero,h.qR,h.func⟩
theorem Sz {l:mu} {gd z:Nat} {zero:List Value} {rest:FuncId→List Value→ab→Option (Value×ab)} (hz:0<z) (Gn:zero.length=z) (hzo:zero.all dY=true) (hD:A0 P gd z zero)
 (hr:∀base B,iJ P (mw P l rest) base B) (base B:Nat):iJ P (Ff P l gd z rest) base B:=by
 intro μ h w g args args' v h' hc hv H F k hF;have lx:(match Nat.beq g gd,Fe z base args h with|true,some r=>some r|_,_=>rest g args h)=some (v,h'):=hc;split at lx
 ·rename_i r h1 h2;cases lx;rw[beq_iff]at h1;subst h1;exact Ld hF (Sy hz Gn hzo hD h2 hv H)
 ·have H2:bh (mw P l rest) base B μ h w:=⟨H.gh,H.high,H.obj,H.own,H.alias,H.dr,H.dc,H.low,H.l5,H.wf,H.root⟩
  exact(hr base B μ h w g _ args' v h' lx hv H2 F k hF).mono fun e w' ⟨v',aU,h1,h2,h3⟩=>
   ⟨v',aU,h1,h2,⟨⟨h3.rel.gh,h3.rel.high,h3.rel.obj,h3.rel.own,h3.rel.alias,h3.rel.dr,h3.rel.dc,h3.rel.low,h3.rel.l5,h3.rel.wf,h3.rel.root⟩,h3.grow,h3.le,h3.new,h3.Gy,h3.fL⟩⟩
end
theorem Xf {t:TV} (h:fz t=true):xw t=true:=by cases t<;>first|rfl |cases h
theorem VC.SA {E:Env} {g:FuncId} {z:Nat} (hf:(E.func g).isSome=true) (ho:∀b a h r,Fe z b a h=some r→E.tS b g a h=some r) {es:List (List TV)} {i:Nat} (hi:i<es.length):
 VC E g 1 [.tk 0,.s (.int .i64 i),.s (.int .i64 ((i+1:Nat):Int))] [(0,.arr z true es)] fun r o c=>r= .tk 1∧c=2∧o=[(1,.arr z true (es.eraseIdx i))]:=by
 intro base ρ F h S dX hN hM hO hA;obtain⟨fn,hf⟩:=Option.isSome_iff_exists.1 hf;obtain⟨v1,m1,rfl,h1,h2⟩:=hA.aP;obtain⟨v2,m2,rfl,h3,h4⟩:=h2.aP;obtain⟨v3,m3,rfl,h5,h6⟩:=h4.aP;obtain rfl:=h6.bK;obtain rfl:=h3.dj.1;obtain rfl:=h5.dj.1;have B7:=hO.b7 0 _ rfl;generalize hS:S 0=S0 at B7;cases B7 with
 |nil=>simp at hi
 |arr hb hg jf ht dx hz hl he gK hc hF=>
  rename_i b f t0 eX aQ cs;cases h1 with
  |tk hn DK ha h0=>
   obtain⟨cap,gC,rfl⟩:=ha _ _ _ hb;have iu:cs.all dY=true:=by
    rw[List.all_eq_true];intro v hv;obtain⟨t,ht2,rfl⟩:=List.mem_iff_getElem.1 hv;have h1:t / z<es.length:=by
     rw[Nat.div_lt_iff_lt_mul hz];omega
    have h2:t % z<(es[t / z]).length:=by rw[he _ (List.getElem_mem h1)];exact Nat.mod_lt _ hz
    have hx:=hc (t / z) (t % z) es[t / z] ((es[t / z])[t % z]) cs[t] (by simp[h1]) (by simp[h2]) (by rw[Nat.mul_comm,Nat.div_add_mod];simp[ht2]);exact CE (Xf (gK _ (List.getElem_mem h1) _ (List.getElem_mem h2))) hx
   have Ph:E.tS base g [.slice (some ⟨b,0,some z⟩) es.length cap,.int .i64 (i:Int),.int .i64 ((i+1:Nat):Int)] h=some (.slice (some ⟨h.size,0,some z⟩) (es.length - 1) es.length,dQ h f h.size (cs.take (i*z)++cs.drop ((i+1)*z))):=by
    refine ho _ _ _ _ ?_;unfold Fe;simp only[aB hg,jf,Option.bind_some,Int.toNat_natCast];have Ul:=hM.wf.le _ _ _ _ _ hg;have dx:base≤f:=dx;simp[bF,aG.2 dx,aG.2 ht,aS.2 hi,hl,iu]
   have aaW:es.length - 1=(es.eraseIdx i).length:=by rw[List.length_eraseIdx,if_pos hi]
   obtain⟨M2,k2⟩:=hM.Ux hO h.size (len':=es.length - 1) (cs':=cs.take (i*z)++cs.drop ((i+1)*z)) (y':=.arr z true (es.eraseIdx i)) rfl hS hb hg jf ht (Nat.le_refl _) (.inr rfl) fun hm same cZ sy hfc=>by
    rw[aaW]at hm ⊢;refine .arr (aI _ _ _) sy hfc (Nat.le_refl _) dx hz ?_ (fun e m=>he e (List.mem_of_mem_eraseIdx m)) (fun e m=>gK e (List.mem_of_mem_eraseIdx m)) (fun k j e t v q1 q2 q3=>?_) (fun q=>by cases q)
    ·rw[←aaW,List.length_append,List.length_take,List.length_drop,hl];have hmul:(i+1)*z≤es.length*z:=Nat.mul_le_mul_right _ om;have aaV:(es.length - 1)*z+z=es.length*z:=by
      obtain⟨n,hn⟩:∃n,es.length=n+1:=⟨es.length - 1,om⟩;rw[hn,Nat.add_sub_cancel,Nat.succ_mul]
     have U3:(i+1)*z=i*z+z:=Nat.succ_mul _ _;omega
    ·refine hm _ _ ?_;have hjz:j<z:=by
      have:=(List.getElem?_eq_some_iff.1 q2).1
      rwa [he e (List.mem_of_mem_eraseIdx (List.mem_of_getElem? q1))]at this
     rw[List.getElem?_eraseIdx]at q1;have U3:(i+1)*z=i*z+z:=Nat.succ_mul _ _;have hmul:(i+1)*z≤es.length*z:=Nat.mul_le_mul_right _ om;split at q1
     ·rename_i hki;have aek:(k+1)*z≤i*z:=Nat.mul_le_mul_right _ hki;have U4:(k+1)*z=k*z+z:=Nat.succ_mul _ _;rw[List.getElem?_append_left (by rw[List.length_take];omega),List.getElem?_take,if_pos om]at q3;exact hc k j e t v q1 q2 q3
     ·rename_i hki;have aek:i*z≤k*z:=Nat.mul_le_mul_right _ om;have U4:(k+1)*z=k*z+z:=Nat.succ_mul _ _;rw[List.getElem?_append_right (by rw[List.length_take];omega),List.getElem?_drop,List.length_take]at q3;exact hc (k+1) j e t v q1 q2 (by rw[←q3];congr 1;omega)
   refine⟨0,.slice (some ⟨h.size,0,some z⟩) (es.length - 1) es.length,_,_,_,.tk 1,_,2,by unfold fK gy;rw[hf];simp only[Option.bind_some,Ph],⟨rfl,rfl,rfl⟩,M2,?_⟩;refine .tk om rfl (fun b' z' len hx=>?_) (fun z hx=>?_)
   ·rw[aI]at hx;cases hx;exact⟨_,om,rfl⟩
   ·rw[aI]at hx;cases hx
theorem VC.Xg {P:Program} {l:mu} {n gd z:Nat} {aw:List Nat} {rest:FuncId→List Value→ab→Option (Value×ab)} {g:FuncId} {c0:Nat} {o0:Ob} (hB:qN l n=true) (hf:((Ff P l gd z (vZ l aw rest)).func g).isSome=true) (hg:mQ g aw=true) (bc:Nat.beq g gd=false):
 VC (Ff P l gd z (vZ l aw rest)) g c0 [] o0 (fun r o c=>r= .s (.bool true)∧o=o0∧c=c0):=by
 intro base ρ F h S dX hN hM hO hA;obtain⟨fn,hf⟩:=Option.isSome_iff_exists.1 hf;obtain rfl:=hA.bK;have ho:(Ff P l gd z (vZ l aw rest)).tS base g [] h=some (.bool true,h):=by
  show(match Nat.beq g gd,Fe z base [] h with|true,some r=>some r|_,_=>vZ l aw rest g [] h)=_;rw[bc];show vZ l aw rest g [] h=_;unfold vZ;rw[hg,Lj (E:=Ff P l gd z (vZ l aw rest)) rfl hB hN]
 refine⟨0,.bool true,h,ρ,F,.s (.bool true),o0,c0,?_,⟨rfl,rfl,rfl⟩,hM,.s rfl⟩;unfold fK gy;rw[hf];simp only[Option.bind_some,ho]
end Go.M
