/-
  Part 26 of the library that the proof leans on.
-/
import Derived.Test.YtpkdpgcpmeibpaaGreatDoorL25
import Derived.Test.YtpkdpgcpmeibpaaGreatDoorL12
import Derived.Test.YtpkdpgcpmeibpaaGreatDoorL13
import Derived.Test.YtpkdpgcpmeibpaaGreatDoorL15
import Derived.KernelRfl
namespace Go.M
open Go Go.Proofs
set_option maxRecDepth 100000
set_option maxHeartbeats 1000000
section
variable {n i:Nat} {all:List MS} {S:List uM} {s s':MS} {p:Int→Int}
theorem CC {a b:Int} (h:(a==b)=false) {P:Prop} (e:a=b):P:=by simp at h;exact absurd e h
def Ar (n:Nat) (s:MS) (to:Int):Prop:=to≠bJ s∧101≤to∧to≤100+(n:Int)
theorem ne' {to:Int} (h:Ar n s to):bJ s≠to:=fun e=>h.1 e.symm
theorem aaS {b slot to:Int} (h:uN S b slot) (hb:fB b) (ht:Ar n s to):gy n p S (gK s (js b slot) to):=
 ⟨fun _=>h,CC rfl,CC rfl,CC rfl,CC rfl,.MR _ _ _ _ hb (ne' ht),.inr ht.2⟩
theorem adN {b slot to:Int} {vs:List ak} (h:uN S b slot) (hp:jt p S s.me b slot vs) (hv:tc vs) (ht:Ar n s to):gy n p S (gK s (Ak b slot vs) to):=
 ⟨CC rfl,fun _=>⟨h,by rw[show(gK s (Ak b slot vs) to).al - 100=s.me by show 100+s.me - 100=s.me;omega];exact hp⟩,CC rfl,CC rfl,CC rfl,.prom _ _ _ _ _ hv (ne' ht),.inr ht.2⟩
theorem aaT {v:ak} {to:Int} (h:eX S v.ai v.slot (ao v)) (hb:fB v.ai) (ht:Ar n s to):gy n p S (gK s (lu v) to):=
 ⟨CC rfl,CC rfl,fun _=>h,CC rfl,CC rfl,.acc _ _ _ _ _ hb (ne' ht),.inr ht.2⟩
theorem adO {b slot to:Int} (h:x3 S s.me b slot) (ht:Ar n s to):gy n p S (gK s (lA b slot) to):=
 ⟨CC rfl,CC rfl,CC rfl,fun _=>by rw[show(gK s (lA b slot) to).al - 100=s.me by show 100+s.me - 100=s.me;omega];exact h,CC rfl,.aaO _ _ _ _ (ne' ht),.inr ht.2⟩
theorem aaU {c:cA} {slot to:Int} (h:Nq n S slot c) (ht:Ar n s to):gy n p S (gK s (pb slot c) to):=
 ⟨CC rfl,CC rfl,CC rfl,CC rfl,fun _=>h,.aaP _ _ _ _ (ne' ht),.inr ht.2⟩
theorem adP {b slot to:Int} (ht:Ar n s to):gy n p S (gK s (gM b slot) to):=TX (by show(6:Int)≤6;decide) (.TS _ _ _ _ (ne' ht)) (.inr ht.2)
theorem adQ {slot to:Int} (ht:Ar n s to):gy n p S (gK s (Qz slot) to):=TX (by show(6:Int)≤7;decide) (.want _ _ _ (ne' ht)) (.inr ht.2)
theorem adR {b to:Int} (ht:Ar n s to):gy n p S (gK s (uH b) to):=TX (by show(6:Int)≤8;decide) (.aaQ _ _ _ (ne' ht)) (.inr ht.2)
theorem Hi {m m':dr} (hn:s.ae=n) (h:m'∈mL s m s.ae.toNat):∃to,Ar n s to∧m'=gK s m to:=by
 obtain⟨j,hj,rfl⟩:=List.mem_map.1 h;have h1:=of_decide_eq_true (List.mem_filter.1 hj).2;have h2:=List.mem_range.1 (List.mem_filter.1 hj).1;exact⟨_,⟨fun e=>h1 (by have e:100+(j:Int)+1=100+s.me:=e;omega),om,om⟩,rfl⟩
theorem bq.others (H:bq n all S) (hs:all[i]? =some s) (m:dr) (hm:∀to,Ar n s to→gy n (eY all) S (gK s m to)):cp n i all S (bz s m):=
 H.outs hs _ fun m' h=>by obtain⟨to,ht,rfl⟩:=Hi (H.wf i s hs).2.1.2 h;exact hm to ht
theorem bq.xB (H:bq n all S) (hs:all[i]? =some s) (m:dr) (to:Int) (hm:gy n (eY all) S (gK s m to)):cp n i all S (xB s m to):=
 H.outs hs _ fun m' h=>by rw[List.mem_singleton.1 h];exact hm
theorem bq.count (H:bq n all S) (hs:all[i]? =some s) (hw:c9 s') (hm:s'.me=s.me∧s'.ae=s.ae) (hp:s'.p=s.p) (hq:s'.q=s.q) (hK:s'.K=s.K) (ho:s'.out=s.out):cp n i all S s':=
 H.M0 hs ⟨hw,hm,by rw[hp],by rw[hp]⟩ hq hK (by rw[hp];exact H.ld i s hs) (by rw[ho];exact H.out i s hs)
theorem bq.me (H:bq n all S) (hs:all[i]? =some s):s.me=i+1:=(H.wf i s hs).2.1.1
theorem bq.addr (H:bq n all S) (hs:all[i]? =some s):101≤bJ s∧bJ s≤100+(n:Int):=by
 have h1:=H.me hs;have h2:=(List.getElem?_eq_some_iff.1 hs).1;have h3:=H.len;show 101≤100+s.me∧100+s.me≤100+(n:Int);omega
theorem bq.acd (H:bq n all S) (hs:all[i]? =some s) {b slot aM:Int} (hv:x3 S aM b slot) (h:Ae s b slot aM s'):cp n i all S s':=by
 have hA:=H.accepted hs hv;have oz:=((H.wf i s hs).1.lw.accepted b slot aM).2;unfold Ae at h;split at h
 ·rename_i hb;refine cp.trans hs hA.1 fun S1 H1 E1 g1=>?_;have hc:=(hA.2 hb).ext E1;refine cp.trans g1 (H1.others g1 _ fun to ht=>aaU hc ht) fun S2 H2 E2 g2=>?_;exact H2.UZ g2 (m7 (oz hb)) (hc.ext E2) h
 ·subst h;exact hA.1
theorem bq.adS (H:bq n all S) (hs:all[i]? =some s) {b slot to:Int} (hf:101≤to∧to≤100+(n:Int)) (hv:x3 S s.me b slot) (h:Af s b slot to (lA b slot) s'):cp n i all S s':=by
 unfold Af at h;split at h
 ·exact H.acd hs hv h
 ·rename_i ht;subst h;exact H.xB hs _ _ (adO hv ⟨ht,hf⟩)
theorem bq.ref (H:bq n all S) (hs:all[i]? =some s) {to:Int} (hf:101≤to∧to≤100+(n:Int)):cp n i all S (Bi s to):=by
 unfold Bi;split
 ·exact H.refuse hs _
 ·rename_i ht;exact H.xB hs _ _ (adR ⟨ht,hf⟩)
theorem bq.nB (H:bq n all S) (hs:all[i]? =some s):cp n i all S {s with quiet:=0}:=H.count hs (H.wf i s hs).1.nB ⟨rfl,rfl⟩ rfl rfl rfl rfl
theorem bq.adT (H:bq n all S) (hs:all[i]? =some s) {b slot to e:Int} (hf:101≤to∧to≤100+(n:Int)) (hv:e=0→x3 S s.me b slot) (h:Ag s b slot to e s'):cp n i all S s':=by
 unfold Ag at h;split at h
 ·rename_i he;refine cp.trans hs (H.nB hs) fun S1 H1 E1 g1=>?_;exact H1.adS g1 hf ((hv he).ext E1) h
 split at h
 ·subst h;exact H.ref hs hf
 ·subst h;exact .refl H hs
theorem bq.QH (H:bq n all S) (hs:all[i]? =some s) {b slot al:Int} {c:cA} (hf:101≤al∧al≤100+(n:Int)) (hb:fB b) (hp:eX S b slot c) (h:kf s b slot c al s'):cp n i all S s':=by
 unfold kf at h;refine cp.trans hs (H.refuse hs b) fun S1 H1 E1 g1=>?_;refine cp.go g1 (H1.accept g1 hb (hp.ext E1)) fun S2 H2 E2 g2 hv=>?_;refine H2.adT g2 hf (fun e=>?_) h;have:=hv e;have jF:=H.me hs;have jF:(G5 (gq s b) b slot c).me=i+1:=jF;rw[jF];exact this
theorem bq.aaV (_:∀v:ak,v.ai=v.ai):∀{vs:List ak} {s s':MS} {all:List MS} {S:List uM},bq n all S→all[i]? =some s→(∀v∈vs,fB v.ai∧eX S v.ai v.slot (ao v))→m9 s vs s'→cp n i all S s':=by
 intro vs
 induction vs with
 |nil=>intro s s' all S H hs _ h;cases h;exact .refl H hs
 |cons v vs ih=>
  intro s s' all S H hs hv h;cases h with
  |cons h k=>
   obtain⟨nh,Dx⟩:=hv v List.mem_cons_self;refine cp.trans hs (H.others hs (lu v) fun to ht=>aaT Dx nh ht) fun S1 H1 E1 g1=>?_;refine cp.trans g1 (H1.QH g1 (H.addr hs) nh (Dx.ext E1) h) fun S2 H2 E2 g2=>?_;exact ih H2 g2 (fun w hw=>⟨(hv w (List.mem_cons_of_mem _ hw)).1,((hv w (List.mem_cons_of_mem _ hw)).2.ext E1).ext E2⟩) k
theorem bq.prm (H:bq n all S) (hs:all[i]? =some s) {b aM slot:Int} {vs:List ak} (rJ:tc vs) (Dx:uN S b slot) (Nt:jt (eY all) S aM b slot vs) (h:xC s b aM vs s'):cp n i all S s':=by
 have lC:=(H.wf i s hs).1;have hw:=lC.promise b aM vs rJ.len rJ.l6 rJ.chk;have sm:=(ta lC.lw b aM vs hw.lw).1;refine cp.go hs (H.promise hs rJ Dx Nt) fun S1 H1 E1 g1 hq=>?_;unfold xC at h;split at h
 ·exact bq.aaV (fun _=>rfl) H1 g1 (fun v hv=>⟨sm v hv,hq v hv⟩) h
 ·subst h;exact .refl H1 g1
theorem JE {x:aE} {c:cA} (h:(aD x c).2.2≠0):(aD x c).1=x:=by
 unfold aD at h ⊢;split
 ·rfl
 split
 ·rfl
 split
 ·rfl
 split
 ·rfl
 ·rename_i h1 h2 h3 h4;rw[if_neg h1,if_neg h2,if_neg h3,if_neg h4]at h;exact absurd rfl h
theorem bq.pps (H:bq n all S) (hs:all[i]? =some s) {c:cA} (h:xD s c s'):cp n i all S s':=by
 have lC:=(H.wf i s hs).1;unfold xD at h;split at h
 ·rename_i he;refine cp.go hs (H.pc hs c he) fun S1 H1 E1 g1 hq=>?_;exact bq.aaV (fun _=>rfl) H1 g1 (fun v hv=>by rw[List.mem_singleton.1 hv];exact⟨En lC.lw c he,hq⟩) h
 ·rename_i he;subst h;have:sa s c=s:=by unfold sa;rw[JE he]
  rw[this];exact .refl H hs
theorem bq.adU (H:bq n all S) (hs:all[i]? =some s) {b slot to:Int} {vs:List ak} (hf:101≤to∧to≤100+(n:Int)) (rJ:tc vs) (Dx:uN S b slot) (Nt:jt (eY all) S s.me b slot vs) (h:Am s b slot vs to s'):cp n i all S s':=by
 unfold Am at h;split at h
 ·exact H.prm hs rJ Dx Nt h
 ·rename_i ht;subst h;exact H.xB hs _ _ (adN Dx Nt rJ ⟨ht,hf⟩)
theorem bq.adV (H:bq n all S) (hs:all[i]? =some s) {b slot to e:Int} {vs:List ak} (hf:101≤to∧to≤100+(n:Int)) (rJ:tc vs) (Dx:uN S b slot) (Nt:e=0→jt (eY all) S s.me b slot vs) (h:An s b slot vs to e s'):cp n i all S s':=by
 unfold An at h;split at h
 ·rename_i he;refine cp.trans hs (H.nB hs) fun S1 H1 E1 g1=>?_;exact H1.adU g1 hf rJ (Dx.ext E1) ((Nt he).ext E1) h
 split at h
 ·subst h;exact H.ref hs hf
 ·subst h;exact .refl H hs
theorem bq.QI (H:bq n all S) (hs:all[i]? =some s) {b slot al:Int} (hf:101≤al∧al≤100+(n:Int)) (hb:fB b) (Dx:uN S b slot) (h:kg s b slot al s'):cp n i all S s':=by
 unfold kg at h;have rJ:=Ep (H.wf i s hs).1 b slot;refine cp.trans hs (H.refuse hs b) fun S1 H1 E1 g1=>?_;refine cp.go g1 (H1.TU g1 (slot:=slot) hb) fun S2 H2 E2 g2 hq=>?_;obtain⟨rfl,hq⟩:=hq;refine H2.adV g2 hf rJ (Dx.ext E1) (fun e=>?_) h;have jF:=H.me hs;have jF:(sb (gq s b) b slot).me=i+1:=jF;rw[jF];exact hq e
theorem QJ {x:aE} (h:v8 x) {above al:Int} (ha:fB above) (he:(aU x above al).2=0):x.b<(aU x above al).1∧(aU x above al).1 % 8=x.me:=by
 have hm:=h.me;have hx:=h.b;have JL:0≤AM above x.b∧x.b≤AM above x.b:=by unfold AM;unfold fB at ha;split<;>omega
 unfold aU at he ⊢;split at he
 ·cases he
 split at he
 ·rename_i h1 h2;exact absurd he h2
 rename_i h1 h2;rw[if_neg h1,if_neg h2];obtain⟨u1,u2⟩:=Qp JL.1 hm (Classical.not_not.1 h2);exact⟨om,u2⟩
theorem bq.Xr (H:bq n all S) (hs:all[i]? =some s) (h:nC s s'):cp n i all S s':=by
 have lC:=(H.wf i s hs).1;have bR:=lC.start;unfold nC at h;split at h
 ·rename_i he;obtain⟨u1,u2⟩:=QJ lC.lw lC.qp he;have sm:=uK lC.lw lC.qp he;rw[td he]at h bR;refine cp.go hs (H.start hs (s':=Er s) (b:=(aU s.p.1 s.q.1 (aK s.K)).1) (al:=aK s.K) bR ⟨rfl,rfl⟩ rfl rfl rfl rfl u1 u2) fun S1 H1 E1 g1 hq=>?_;refine cp.trans g1 (H1.others g1 _ fun to ht=>aaS hq sm.1 ht) fun S2 H2 E2 g2=>?_;exact H2.QI g2 (H.addr hs) sm.1 (hq.ext E2) h
 ·rename_i he;subst h;rw[Cz he]at bR ⊢;exact H.count hs bR ⟨rfl,rfl⟩ rfl rfl rfl rfl
theorem bq.TS (H:bq n all S) (hs:all[i]? =some s) (b slot:Int) {al:Int} (hf:101≤al∧al≤100+(n:Int)) (ht:al≠bJ s):cp n i all S (xf s b slot al):=by
 have h1:cp n i all S {gq s b with quiet:=0}:=cp.trans hs (H.refuse hs b) fun S1 H1 E1 g1=>H1.nB g1;unfold xf;split
 ·exact H.ref hs hf
 split
 ·exact cp.trans hs h1 fun S1 H1 E1 g1=>H1.xB g1 _ _ (adQ ⟨ht,hf⟩)
 ·exact h1
theorem bq.want (H:bq n all S) (hs:all[i]? =some s) (slot:Int) {al:Int} (hf:101≤al∧al≤100+(n:Int)) (ht:al≠bJ s):cp n i all S (Ha s slot al):=by
 refine H.outs hs _ fun m hm=>?_;unfold pB at hm;obtain⟨j,_,hj⟩:=List.mem_filterMap.1 hm;cases hv:pz s.K (slot+(j:Int))with
 |none=>rw[hv]at hj;cases hj
 |some v=>
  rw[hv]at hj;simp only[Option.map_some,Option.some.injEq]at hj;subst hj;obtain⟨h1,h2⟩:=(fi (H.wf i s hs).1.kK.ss).1 hv;have:=H.kn i s hs v h1;rw[h2]at this;exact aaU this ⟨ht,hf⟩
theorem bq.rep (H:bq n all S) (hs:all[i]? =some s) {c:cA} (h:Bk s c s'):cp n i all S s':=by
 unfold Bk at h;split at h
 ·exact H.pps hs h
 ·subst h;exact .refl H hs
end
set_option maxHeartbeats 4000000
def Hj (s:MS) (m:dr) (s':MS):Prop:=(m.kind≤8→100<m.al∧m.al≤100+s.ae)∧
 ((m.kind=1∧fB m.ai∧kg s m.ai m.slot m.al s')∨(m.kind=2∧tc m.fk∧xC s m.ai (m.al - 100) m.fk s')∨(m.kind=3∧fB m.ai∧kf s m.ai m.slot m.cmd m.al s')∨(m.kind=4∧Ae s m.ai m.slot (m.al - 100) s')∨
 (m.kind=5∧0≤m.cmd.aq∧qJ s m.slot m.cmd s')∨(m.kind=6∧m.al≠bJ s∧s'=xf s m.ai m.slot m.al)∨(m.kind=7∧m.al≠bJ s∧s'=Ha s m.slot m.al)∨(m.kind=8∧s'=gq s m.ai)∨(m.kind=9∧Bk s m.cmd s'))
@[reducible] noncomputable def QK (s:MS) (P:MS→Prop):TV→Ob→Nat→Prop:=fun r o c=>(r= .sl 0 [] true∧c=1∧o=bD s)∨∃s1,P s1∧r= .tk 1∧c=2∧o=[(0,Jp {s1 with out:=[]}),(1,.arr 25 true (s1.out.map az))]
theorem Hl {m:dr} (h:cW m=0):bT m=true:=by
 unfold cW at h;split at h
 ·rename_i q;simp at q;exact q.2.2
 ·cases h
theorem pe (s:MS) (H:c9 s) (m:dr) (P:MS→Prop) (hk:1≤m.kind∧m.kind≤9) (hc:VC E0 21 0 [.agg (az m)] [] (RR (.s (.int .i64 (cW m))) 0 []))
 (ht:xg s m→VC E0 23 1 [.ptr 0 0,.agg (az m)] (bD s) (RS P)):VC E0 10 1 [.ptr 0 0,.agg (az m)] (bD s) (QK s P):=
 VC.mono (aaK s H m P hk hc ht) fun _ _ _ h=>h.imp (fun q=>q.2) (fun q=>q.2)
theorem uP (s:MS) (H:c9 s) (m:dr) (RG:MZ m) (AO:m.to>24) (hl:s.out.length<10000):VC E0 10 1 [.ptr 0 0,.agg (az m)] (bD s) (QK s (Hj s m)):=by
 have gR:=H.ms;have Ul:∀{m:dr},m.al≠m.to→xg s m→m.al≠bJ s:=fun h ha e=>h (by rw[e,ha.2.1]);have h5:∀{m:dr},m.kind≤8→xg s m→100<m.al∧m.al≤105:=fun h ha=>by have:=ha.2.2 h;omega
 cases RG with
 |MR f t b sl hb h=>
  exact pe s H _ _ ⟨show(1:Int)≤1 by decide,show(1:Int)≤9 by decide⟩ (W8 f t b sl) fun ha=>VC.mono (uJ s H ⟨1,f,t,b,sl,aH,aY,[]⟩ hb om) fun _ _ _ ⟨s',q,e⟩=>⟨s',⟨ha.2.2,.inl ⟨rfl,hb,q⟩⟩,e⟩
 |prom f t b sl vs hv h=>
  exact pe s H _ _ ⟨show(1:Int)≤2 by decide,show(2:Int)≤9 by decide⟩ (Xb f t b sl vs (by have:=hv.len;omega)) fun ha=>VC.mono (uI s H ⟨2,f,t,b,sl,aH,aY,vs⟩ (h5 (show(2:Int)≤8 by decide) ha) hv om) fun _ _ _ ⟨s',q,e⟩=>⟨s',⟨ha.2.2,.inr (.inl ⟨rfl,hv,q⟩)⟩,e⟩
 |acc f t b sl c hb h=>
  exact pe s H _ _ ⟨show(1:Int)≤3 by decide,show(3:Int)≤9 by decide⟩ (Xc f t b sl c) fun ha=>VC.mono (xc s H ⟨3,f,t,b,sl,c,aY,[]⟩ hb om) fun _ _ _ ⟨s',q,e⟩=>⟨s',⟨ha.2.2,.inr (.inr (.inl ⟨rfl,hb,q⟩))⟩,e⟩
 |aaO f t b sl h=>
  exact pe s H _ _ ⟨show(1:Int)≤4 by decide,show(4:Int)≤9 by decide⟩ (W9 f t b sl) fun ha=>VC.mono (r9 s H ⟨4,f,t,b,sl,aH,aY,[]⟩ (h5 (show(4:Int)≤8 by decide) ha) om) fun _ _ _ ⟨s',q,e⟩=>⟨s',⟨ha.2.2,.inr (.inr (.inr (.inl ⟨rfl,q⟩)))⟩,e⟩
 |aaP f t sl c h=>
  exact pe s H _ _ ⟨show(1:Int)≤5 by decide,show(5:Int)≤9 by decide⟩ (Xd f t sl c) fun ha=>by
   have hc:0≤c.aq:=by
    have:=Hl ha.1;simp[bT,Bh]at this;exact m7 this.2
   exact VC.mono (w8 s H ⟨5,f,t,0,sl,c,aY,[]⟩ hc om) fun _ _ _ ⟨s',q,e⟩=>⟨s',⟨ha.2.2,.inr (.inr (.inr (.inr (.inl ⟨rfl,hc,q⟩))))⟩,e⟩
 |TS f t b sl h=>
  exact pe s H _ _ ⟨show(1:Int)≤6 by decide,show(6:Int)≤9 by decide⟩ (Xa f t b sl) fun ha=>VC.mono (MW s H ⟨6,f,t,b,sl,aH,aY,[]⟩ (Ul h ha) om) fun _ _ _ e=>⟨_,⟨ha.2.2,.inr (.inr (.inr (.inr (.inr (.inl ⟨rfl,Ul h ha,rfl⟩)))))⟩,e⟩
 |want f t sl h=>
  exact pe s H _ _ ⟨show(1:Int)≤7 by decide,show(7:Int)≤9 by decide⟩ (Xe f t sl) fun ha=>by
   have hs:0≤sl∧sl≤512:=by
    have:=Hl ha.1;simp[bT,mq]at this;exact this
   exact VC.mono (MX s H ⟨7,f,t,0,sl,aH,aY,[]⟩ (Ul h ha) hs om) fun _ _ _ e=>⟨_,⟨ha.2.2,.inr (.inr (.inr (.inr (.inr (.inr (.inl ⟨rfl,Ul h ha,rfl⟩))))))⟩,e⟩
 |aaQ f t b h=>
  exact pe s H _ _ ⟨show(1:Int)≤8 by decide,show(8:Int)≤9 by decide⟩ (Xf f t b) fun ha=>VC.mono (w9 s H ⟨8,f,t,b,0,aH,aY,[]⟩) fun _ _ _ e=>⟨_,⟨ha.2.2,.inr (.inr (.inr (.inr (.inr (.inr (.inr (.inl ⟨rfl,rfl⟩)))))))⟩,e⟩
 |GS f t c h=>exact absurd AO (by show¬t>24;omega)
theorem Ev (s:MS) (H:c9 s) (f t:Int) (c:cA) (hl:s.out.length<10000):VC E0 10 1 [.ptr 0 0,.agg (az ⟨9,f,t,0,0,c,aY,[]⟩)] (bD s) (QK s (Hj s ⟨9,f,t,0,0,c,aY,[]⟩)):=
 pe s H _ _ ⟨show(1:Int)≤9 by decide,show(9:Int)≤9 by decide⟩ (Xg f t c) fun ha=>VC.mono (He s H ⟨9,f,t,0,0,c,aY,[]⟩ om) fun _ _ _ ⟨s',q,e⟩=>⟨s',⟨ha.2.2,.inr (.inr (.inr (.inr (.inr (.inr (.inr (.inr ⟨rfl,q⟩)))))))⟩,e⟩
@[reducible] def pf (s:MS) (t q w:Int):MS:={s with a8:=t,quiet:=q,waited:=w}
def KN (s s':MS):Prop:=∃q w,(s.p.1.st=2∧KL (pf s (s.a8+1) q w) s')∨(s.p.1.st=1∧(s'=pf s (s.a8+1) q w∨s'=bz (pf s (s.a8+1) q w) (js s.p.1.b s.p.1.al)))∨(s'=pf s (s.a8+1) q w∨nC (pf s (s.a8+1) q w) s')
theorem c9.cnt {s:MS} (H:c9 s) (t q w:Int):c9 (pf s t q w):=⟨H.me,H.ms,H.px,H.lw,H.qk,H.qc,H.qp,H.kn,H.kK,H.lE,H.nd,H.nc⟩
@[reducible] noncomputable def aaX (P:MS→Prop):TV→Ob→Nat→Prop:=fun r o c=>∃s1,P s1∧r= .tk 1∧c=2∧o=[(0,Jp {s1 with out:=[]}),(1,.arr 25 true (s1.out.map az))]
theorem QL (s:MS) (H:c9 s) (h0:1≤s.l.length) (xn:0≤s.nodes∧s.nodes≤24) (uU:0≤s.a8∧s.a8<100000) (hl:s.out.length<1000):VC E0 11 1 [.ptr 0 0,TQ] (bD s) (aaX (KN s)):=by
 have jF:=H.me;have gR:=H.ms;have hw:IntKind.i64.wrap (s.a8+1)=s.a8+1:=IntWalk.i64_in _ om;have bR:=Cm s.p H.px;have hb:=zT s.p H.px;have HQ:=PU s.p H.px;have hrl:=fun q w=>aaL (pf s (s.a8+1) q w) (H.cnt _ q w) h0 xn (by show 0≤s.a8+1∧s.a8+1<1000000;omega) (by show s.out.length<5000;omega);have hsr:=fun q w=>Xm (pf s (s.a8+1) q w) (H.cnt _ q w) (by show s.out.length<19000;omega);have hot:=fun q w=>rC (pf s (s.a8+1) q w) (js s.p.1.b s.p.1.al) jF (by show 1≤s.ae∧s.ae≤5;omega) (by show s.out.length<90000;omega);obtain⟨me,ms,nodes,fA,a8,quiet,waited,q,kn,K,l,⟨x,f⟩,out⟩:=s;cases f
 ·refine en L0 Tryz.f11 ?_
  repeat((first|(refine⟨fun h_=>?_,fun h_=>?_⟩)|(refine cU (fun h_=>?_) (fun h_=>?_))|(refine cS (fun h_=>?_) (fun h_=>?_)))<;>first|(exfalso;revert h_;decide;done)|(exact absurd rfl h_)|(have bm:=True.intro;clear bm;(conv=>whnf)))
  rw[hw];refine⟨[],[some 1],_,_,_,_,bR,t3,cw ?_⟩;refine sp ?_ ?_<;>intro h2
  ·have h2:x.st=2:=h2;refine wh ?_;refine⟨[],[some 0],_,_,_,_,hrl quiet waited,t3,?_⟩;rintro r o' c' ⟨s',kp,rfl,rfl,rfl⟩;refine wh ?_;refine⟨[],[some 0],_,_,_,_,pA s',t3,cw ?_⟩;exact⟨[],[some 0,some 5],_,_,_,t3,⟨s',⟨quiet,waited,.inl ⟨h2,kp⟩⟩,rfl,rfl,rfl⟩⟩
  refine wh ?_;refine sp ?_ ?_<;>intro h1
  ·have h1:x.st=1:=h1;refine wh ?_;refine sp ?_ ?_<;>intro hz
   ·refine wh ?_;refine⟨[],[some 1],_,_,_,_,hb,t3,cw ?_⟩;refine⟨[],[some 1],_,_,_,_,HQ,t3,cw ?_⟩;refine⟨[],[some 0],_,_,_,_,hot quiet (IntKind.i64.wrap (waited+1)),t3,cw ?_⟩;refine⟨[],[some 0],_,_,_,_,pA (bz (pf ⟨me,ms,nodes,fA,a8,quiet,waited,q,kn,K,l,(x,false),out⟩ (a8+1) quiet (IntKind.i64.wrap (waited+1))) (js _ _)),t3,cw ?_⟩;exact⟨[],[some 0,some 7],_,_,_,t3,⟨_,⟨quiet,_,.inr (.inl ⟨h1,.inr rfl⟩)⟩,rfl,rfl,rfl⟩⟩
   ·refine wh ?_;refine⟨[],[some 0],_,_,_,_,pA (pf ⟨me,ms,nodes,fA,a8,quiet,waited,q,kn,K,l,(x,false),out⟩ (a8+1) quiet (IntKind.i64.wrap (waited+1))),t3,cw ?_⟩;exact⟨[],[some 0,some 4],_,_,_,t3,⟨_,⟨quiet,_,.inr (.inl ⟨h1,.inl rfl⟩)⟩,rfl,rfl,rfl⟩⟩
  refine wh ?_;refine sp ?_ ?_<;>intro h3
  ·refine wh ?_;refine⟨[],[some 0],_,_,_,_,hsr (IntKind.i64.wrap (quiet+1)) waited,t3,?_⟩;rintro r o' c' ⟨s',kp,rfl,rfl,rfl⟩;refine wh ?_;refine⟨[],[some 0],_,_,_,_,pA s',t3,cw ?_⟩;exact⟨[],[some 0,some 5],_,_,_,t3,⟨s',⟨_,waited,.inr (.inr (.inr kp))⟩,rfl,rfl,rfl⟩⟩
  refine wh ?_;refine⟨[],[some 0],_,_,_,_,pA (pf ⟨me,ms,nodes,fA,a8,quiet,waited,q,kn,K,l,(x,false),out⟩ (a8+1) (IntKind.i64.wrap (quiet+1)) waited),t3,cw ?_⟩;exact⟨[],[some 0,some 4],_,_,_,t3,⟨_,⟨_,waited,.inr (.inr (.inl rfl))⟩,rfl,rfl,rfl⟩⟩
 ·refine en L0 Tryz.f11 ?_
  repeat((first|(refine⟨fun h_=>?_,fun h_=>?_⟩)|(refine cU (fun h_=>?_) (fun h_=>?_))|(refine cS (fun h_=>?_) (fun h_=>?_)))<;>first|(exfalso;revert h_;decide;done)|(exact absurd rfl h_)|(have bm:=True.intro;clear bm;(conv=>whnf)))
  rw[hw];refine⟨[],[some 1],_,_,_,_,bR,t3,cw ?_⟩;refine sp ?_ ?_<;>intro h2
  ·have h2:x.st=2:=h2;refine wh ?_;refine⟨[],[some 0],_,_,_,_,hrl quiet waited,t3,?_⟩;rintro r o' c' ⟨s',kp,rfl,rfl,rfl⟩;refine wh ?_;refine⟨[],[some 0],_,_,_,_,pA s',t3,cw ?_⟩;exact⟨[],[some 0,some 5],_,_,_,t3,⟨s',⟨quiet,waited,.inl ⟨h2,kp⟩⟩,rfl,rfl,rfl⟩⟩
  refine wh ?_;refine sp ?_ ?_<;>intro h1
  ·have h1:x.st=1:=h1;refine wh ?_;refine sp ?_ ?_<;>intro hz
   ·refine wh ?_;refine⟨[],[some 1],_,_,_,_,hb,t3,cw ?_⟩;refine⟨[],[some 1],_,_,_,_,HQ,t3,cw ?_⟩;refine⟨[],[some 0],_,_,_,_,hot quiet (IntKind.i64.wrap (waited+1)),t3,cw ?_⟩;refine⟨[],[some 0],_,_,_,_,pA (bz (pf ⟨me,ms,nodes,fA,a8,quiet,waited,q,kn,K,l,(x,true),out⟩ (a8+1) quiet (IntKind.i64.wrap (waited+1))) (js _ _)),t3,cw ?_⟩;exact⟨[],[some 0,some 7],_,_,_,t3,⟨_,⟨quiet,_,.inr (.inl ⟨h1,.inr rfl⟩)⟩,rfl,rfl,rfl⟩⟩
   ·refine wh ?_;refine⟨[],[some 0],_,_,_,_,pA (pf ⟨me,ms,nodes,fA,a8,quiet,waited,q,kn,K,l,(x,true),out⟩ (a8+1) quiet (IntKind.i64.wrap (waited+1))),t3,cw ?_⟩;exact⟨[],[some 0,some 4],_,_,_,t3,⟨_,⟨quiet,_,.inr (.inl ⟨h1,.inl rfl⟩)⟩,rfl,rfl,rfl⟩⟩
  refine wh ?_;refine sp ?_ ?_<;>intro h3
  ·refine wh ?_;refine⟨[],[some 0],_,_,_,_,hsr (IntKind.i64.wrap (quiet+1)) waited,t3,?_⟩;rintro r o' c' ⟨s',kp,rfl,rfl,rfl⟩;refine wh ?_;refine⟨[],[some 0],_,_,_,_,pA s',t3,cw ?_⟩;exact⟨[],[some 0,some 5],_,_,_,t3,⟨s',⟨_,waited,.inr (.inr (.inr kp))⟩,rfl,rfl,rfl⟩⟩
  refine wh ?_;refine⟨[],[some 0],_,_,_,_,pA (pf ⟨me,ms,nodes,fA,a8,quiet,waited,q,kn,K,l,(x,true),out⟩ (a8+1) (IntKind.i64.wrap (quiet+1)) waited),t3,cw ?_⟩;exact⟨[],[some 0,some 4],_,_,_,t3,⟨_,⟨_,waited,.inr (.inr (.inl rfl))⟩,rfl,rfl,rfl⟩⟩
theorem M6 {x:aE} (hO:ee x) {v:ak} (hv:v∈bc x):∃e∈x.dT,v= .of e.1 x.b e.2.1:=by
 unfold bc at hv;obtain⟨w,hw,rfl⟩:=List.mem_map.1 hv;obtain⟨e,he,rfl⟩:=List.mem_map.1 (dI.1 hw);refine⟨e,he,?_⟩;unfold kV;rw[(bX hO.nd).2 (show(e.1,e.2)∈x.dT from he)];rfl
section
variable {n i:Nat} {all:List MS} {S:List uM} {s s':MS}
theorem bq.adW:∀{k:Nat} {s s':MS},pC s k s'→∀{all:List MS} {S:List uM},bq n all S→all[i]? =some s→cp n i all S s':=by
 intro k s s' h
 induction h with
 |nil=>intro all S H hs;exact .refl H hs
 |snoc t h ih=>intro all S H hs;exact cp.trans hs (ih H hs) fun S1 H1 E1 g1=>H1.pps g1 h
 |skip t ih=>intro all S H hs;exact ih H hs
theorem bq.aaY (H:bq n all S) (hs:all[i]? =some s) (h2:s.p.1.st=2) (h:KL s s'):cp n i all S s':=by
 obtain⟨c,hc,hp⟩:=h;have lC:=(H.wf i s hs).1;have h24:=(lC.bM.2 c hc).2;refine cp.trans hs (H.others hs (gM s.p.1.b (aK s.K)) fun to ht=>adP ht) fun S1 H1 E1 g1=>?_;have hL:=H1.ld i _ g1;have h3:cp n i (all.set i (bz s (gM s.p.1.b (aK s.K)))) S1 (gu s):=H1.outs g1 _ fun m hm=>by
  obtain⟨v,hv,hm⟩:=List.mem_flatMap.1 hm;obtain⟨to,ht,rfl⟩:=Hi (s:=bz s (gM s.p.1.b (aK s.K))) (H1.wf i _ g1).2.1.2 hm;obtain⟨e,he,rfl⟩:=M6 lC.lw.op hv;have:=(hL.o2 h2 e he).1;exact aaT (v:=.of e.1 s.p.1.b e.2.1) (by rw[jo];exact this) lC.lw.b ht
 refine cp.trans g1 h3 fun S2 H2 E2 g2=>?_;have h4:cp n i ((all.set i (bz s (gM s.p.1.b (aK s.K)))).set i (gu s)) S2 (qH (gu s) c):=H2.outs g2 _ fun m hm=>by
  obtain⟨k,hk,rfl⟩:=List.mem_map.1 hm;exact UY (h24 k hk)
 exact cp.trans g2 h4 fun S3 H3 E3 g3=>bq.adW hp H3 g3
theorem bq.QM (H:bq n all S) (hs:all[i]? =some s) (h:KN s s'):cp n i all S s':=by
 obtain⟨q,w,h⟩:=h;have lC:=(H.wf i s hs).1;have h0:cp n i all S (pf s (s.a8+1) q w):=H.count hs (lC.cnt _ q w) ⟨rfl,rfl⟩ rfl rfl rfl rfl;rcases h with⟨h2,h⟩|⟨h1,h⟩|h
 ·exact cp.trans hs h0 fun S1 H1 E1 g1=>H1.aaY g1 h2 h
 ·rcases h with rfl |rfl
  ·exact h0
  ·refine cp.trans hs h0 fun S1 H1 E1 g1=>H1.others g1 _ fun to ht=>aaS ((H1.ld i _ g1).p1 h1) lC.lw.b ht
 ·rcases h with rfl |h
  ·exact h0
  ·exact cp.trans hs h0 fun S1 H1 E1 g1=>H1.Xr g1 h
theorem bq.As (H:bq n all S) (hs:all[i]? =some s) {m:dr} (hm:m.kind≠9→gy n (eY all) S m) (h:Hj s m s'):cp n i all S s':=by
 have J5:=(H.wf i s hs).2.1.2;obtain⟨hf,h⟩:=h;have hf:m.kind≤8→101≤m.al∧m.al≤100+(n:Int):=fun k=>by have:=hf k;omega
 rcases h with⟨k,hb,h⟩|⟨k,hv,h⟩|⟨k,hb,h⟩|⟨k,h⟩|⟨k,hc,h⟩|⟨k,ht,rfl⟩|⟨k,ht,rfl⟩|⟨k,rfl⟩|⟨k,h⟩
 ·exact H.QI hs (hf om) hb ((hm om).k1 k) h
 ·exact H.prm hs hv ((hm om).k2 k).1 ((hm om).k2 k).2 h
 ·exact H.QH hs (hf om) hb ((hm om).k3 k) h
 ·exact H.acd hs ((hm om).k4 k) h
 ·exact H.UZ hs hc ((hm om).k5 k) h
 ·exact H.TS hs _ _ (hf om) ht
 ·exact H.want hs _ (hf om) ht
 ·exact H.refuse hs _
 ·exact H.rep hs h
theorem cp.close (hs:all[i]? =some s) (h:cp n i all S s'):∃S',bq n (all.set i {s' with out:=[]}) S'∧Ext (eY all) S (eY (all.set i {s' with out:=[]})) S'∧∀m∈s'.out,gy n (eY (all.set i {s' with out:=[]})) S' m:=by
 obtain⟨S1,h1,e1⟩:=h;have hi:i<all.length:=(List.getElem?_eq_some_iff.1 hs).1;have g1:(all.set i s')[i]? =some s':=List.getElem?_set_self hi;obtain⟨t1,t2⟩:=h1.told g1;rw[List.set_set]at t1 t2;exact⟨S1,t1,by rw[t2];exact e1,fun m hm=>by rw[t2];exact h1.out i s' g1 m hm⟩
end
theorem TZ {s s':MS} (H:c9 s) {m:dr} (h:Hj s m s'):Gr s s' 5120:=by
 obtain⟨_,h⟩:=h;rcases h with⟨k,hb,h⟩|⟨k,hv,h⟩|⟨k,hb,h⟩|⟨k,h⟩|⟨k,hc,h⟩|⟨k,ht,rfl⟩|⟨k,ht,rfl⟩|⟨k,rfl⟩|⟨k,h⟩
 ·exact CB H hb h
 ·exact QC H hv h
 ·exact(Cy H hb h).le (by decide)
 ·exact(Qv H h).le (by decide)
 ·exact(Ai H hc h).le (by decide)
 ·exact(TM H _ _ _).le (by decide)
 ·exact(TN H _ _).le (by decide)
 ·exact⟨H.refuse _,rfl,rfl,rfl,rfl,rfl,.refl _,Nat.le_add_right _ _⟩
 ·exact(Xn H h).le (by decide)
theorem T2 {s s':MS} (H:c9 s) (h:KL s s'):Gr s s' 2700:=by
 obtain⟨c,hc,hp⟩:=h;have Hb:=H.outs (s.out++mL s (gM s.p.1.b (aK s.K)) s.ae.toNat);have hon:=te Hb (bc s.p.1);have iW:=ou H.lw;have b6:=H.bM;have h6:=H.lE.len;have h1:=ot H (gM s.p.1.b (aK s.K));have h2:Gr (bz s (gM s.p.1.b (aK s.K))) (gu s) 2560:=by
  refine⟨Hb.outs _,rfl,rfl,rfl,rfl,rfl,.refl _,?_⟩;show((bz s (gM s.p.1.b (aK s.K))).out++iJ (bz s (gM s.p.1.b (aK s.K))) (bc s.p.1)).length+7*cN s≤(bz s (gM s.p.1.b (aK s.K))).out.length+7*cN s+2560;rw[List.length_append];have hon:(iJ (bz s (gM s.p.1.b (aK s.K))) (bc s.p.1)).length≤5*(bc s.p.1).length:=hon;omega
 have h3:Gr (gu s) (qH (gu s) c) 7:=by
  refine⟨h2.ok.outs _,rfl,rfl,rfl,rfl,rfl,.refl _,?_⟩;have h1:=eA c;have h2:=(b6.2 c hc).1;have h3:(gY (gu s) c (aG c)).length=(aG c).length:=by simp[gY]
  show((gu s).out++gY (gu s) c (aG c)).length+7*cN s≤(gu s).out.length+7*cN s+7;rw[List.length_append];omega
 have h4:=Et hp h3.ok;exact(h1.trans (h2.trans (h3.trans h4))).le (by rw[b6.1];omega)
theorem T3 {s s':MS} (H:c9 s) (h:KN s s'):∃q w,Gr (pf s (s.a8+1) q w) s' 5130:=by
 obtain⟨q,w,h⟩:=h;have H1:=H.cnt (s.a8+1) q w;refine⟨q,w,?_⟩;rcases h with⟨h2,h⟩|⟨h1,h⟩|h
 ·exact(T2 H1 h).le (by decide)
 ·rcases h with rfl |rfl
  ·exact(Gr.refl H1).le (by decide)
  ·exact(ot H1 _).le (by decide)
 ·rcases h with rfl |h
  ·exact(Gr.refl H1).le (by decide)
  ·exact(QE H1 h).le (by decide)
@[reducible] def JF (me n:Int) (l:List CF):MS:=⟨me,n,12,3,0,0,0,(0,[]),[],[],l,(nE me n,false),[]⟩
theorem aaZ (me n:Int) (l:List CF) (h:fU l) (h5:m5 n) (hm:1≤me∧me≤n):VC E0 5 0 [.s (.int .i64 me),.s (.int .i64 n),.s (.int .i64 12),.s (.int .i64 3),.sl 5 (l.map aF) false] [] (RR (.dk [.ptr 0 0,.s (.int .i64 0)]) 1 [(0,Jp (JF me n l))]):=by
 have hl:lr [] [] l=aam l:=rfl;refine en L0 Tryz.f5 ?_;refine⟨[],[],_,_,_,_,S6 me n h5 hm,t3,cw ?_⟩
 repeat((first|(refine⟨fun h_=>?_,fun h_=>?_⟩)|(refine cU (fun h_=>?_) (fun h_=>?_))|(refine cS (fun h_=>?_) (fun h_=>?_)))<;>first|(exfalso;revert h_;decide;done)|(exact absurd rfl h_)|(have bm:=True.intro;clear bm;(conv=>whnf)))
 refine⟨[],[],_,_,_,_,Tg l h,t3,cw ?_⟩
 repeat((first|(refine⟨fun h_=>?_,fun h_=>?_⟩)|(refine cU (fun h_=>?_) (fun h_=>?_))|(refine cS (fun h_=>?_) (fun h_=>?_)))<;>first|(exfalso;revert h_;decide;done)|(exact absurd rfl h_)|(have bm:=True.intro;clear bm;(conv=>whnf)))
 refine⟨[],[],_,_,_,_,WC,t3,cw ?_⟩;exact⟨[],[some 5],_,_,_,t3,rfl,rfl,rfl⟩
theorem Xs (c:Nat) (h:1≤c∧c≤3):VC E0 6 0 [.s (.int .i64 c),.s (.int .i64 2)] [] (RR (.sl 5 ((iI 2 c).map aF) false) 0 []):=by
 refine en L0 Tryz.f6 ?_;refine⟨[],[],_,_,_,_,GR c 2 ⟨⟨om,om⟩,by decide,by decide⟩,t3,cw ?_⟩;exact⟨[],[],_,_,_,t3,rfl,rfl,rfl⟩
@[reducible] noncomputable def adX (s:MS) (k:Nat):TO:=.cells [.s (.int .i64 s.me),.s (.int .i64 s.ae),.s (.int .i64 s.nodes),.s (.int .i64 s.fA),.s (.int .i64 s.a8),.s (.int .i64 s.quiet),.s (.int .i64 s.waited),.own (GK s.q),.ptr k 0,.own (iR s.p),.own (.arr 25 true (s.out.map az))]
theorem fw (s:MS):VC E0 7 1 [.ptr 0 0] (bD s) (RR (.ptr 1 0) 2 [(0,adX s 1),(1,Tu (lr s.kn s.K s.l))]):=by
 refine en L0 Tryz.f7 ?_
 repeat((first|(refine⟨fun h_=>?_,fun h_=>?_⟩)|(refine cU (fun h_=>?_) (fun h_=>?_))|(refine cS (fun h_=>?_) (fun h_=>?_)))<;>first|(exfalso;revert h_;decide;done)|(exact absurd rfl h_)|(have bm:=True.intro;clear bm;(conv=>whnf)))
 exact⟨[],[some 0,some 1],_,_,_,t3,rfl,rfl,rfl⟩
@[reducible] def Rv (a:Int):Bool:=decide (101≤a∧a≤105)
theorem x5 (a:Int) (rows:List (List TV)):VC E0 9 1 [.s (.int .i64 a)] [(0,.bB 1 rows [])] (RR (.s (.bool (Rv a))) 1 [(0,.bB 1 rows [])]):=by
 refine en L0 Tryz.f9 ?_;refine sp ?_ ?_<;>intro h1
 ·have h1:a≥101:=h1;refine wh ?_;refine sp ?_ ?_<;>intro h2
  ·have h2:a≤105:=h2;refine wh ?_;refine⟨[],[some 0],_,_,_,tx ?_,rfl,rfl,rfl⟩;exact Lz.of (ah (Eq.symm (decide_eq_true ⟨h1,h2⟩)))
  ·have h2:¬a≤105:=h2;refine wh ?_;refine⟨[],[some 0],_,_,_,tx ?_,rfl,rfl,rfl⟩;exact Lz.of (ah (Eq.symm (decide_eq_false fun q=>h2 q.2)))
 ·have h1:¬a≥101:=h1;refine wh ?_;refine⟨[],[some 0],_,_,_,tx ?_,rfl,rfl,rfl⟩;exact Lz.of (ah (Eq.symm (decide_eq_false fun q=>h1 q.1)))
theorem uQ (a:Int):VC E0 9 0 [.s (.int .i64 a)] [] (RR (.s (.bool (Rv a))) 0 []):=by
 refine en L0 Tryz.f9 ?_;refine sp ?_ ?_<;>intro h1
 ·have h1:a≥101:=h1;refine wh ?_;refine sp ?_ ?_<;>intro h2
  ·have h2:a≤105:=h2;refine wh ?_;refine⟨[],[],_,_,_,tx ?_,rfl,rfl,rfl⟩;exact Lz.of (ah (Eq.symm (decide_eq_true ⟨h1,h2⟩)))
  ·have h2:¬a≤105:=h2;refine wh ?_;refine⟨[],[],_,_,_,tx ?_,rfl,rfl,rfl⟩;exact Lz.of (ah (Eq.symm (decide_eq_false fun q=>h2 q.2)))
 ·have h1:¬a≥101:=h1;refine wh ?_;refine⟨[],[],_,_,_,tx ?_,rfl,rfl,rfl⟩;exact Lz.of (ah (Eq.symm (decide_eq_false fun q=>h1 q.1)))
theorem gN (a b:List CF) (hb:fU b) (hr:m8 a b) (ha:∀c∈a,c.nodes.length≤6):VC E0 13 0 [.sl 5 (a.map aF) false,.sl 5 (b.map aF) false] [] (RR (.s (.bool true)) 0 []):=by
 have Vv:=hb.1.2;have hlen:=hr.1;have hra:=Jg b (fun c hc=>by have:=(ke hb hc).2.1;omega) om;rw[show∀i,@decide (fU b) i=true from fun _=>decide_eq_true hb]at hra;refine en L0 Tryz.f13 ?_;refine⟨[],[],_,_,_,_,hra,t3,cw ?_⟩;refine sp ?_ ?_<;>intro h1
 ·exact absurd (show(((a.map aF).length:Nat):Int)=((b.map aF).length:Nat) by rw[List.length_map,List.length_map,hlen]) h1
 refine wh ?_;refine⟨fun k f o c=>∃i:Nat,i≤a.length∧k=a.length - i∧c=0∧f=[(0,.sl 5 (a.map aF) false),(1,.sl 5 (b.map aF) false),(5,.s (.int .i64 i))]∧o=[],⟨a.length,?_⟩,?_⟩
 ·exact⟨[],[],_,_,_,t3,⟨0,Nat.zero_le _,rfl,rfl,rfl,rfl⟩⟩
 ·rintro k f1 o1 c1 ⟨i,hi,rfl,rfl,rfl,rfl⟩;refine wh ?_;refine sp ?_ ?_<;>intro aN
  ·have aN:i<a.length:=dZ.1 aN;have hib:i<b.length:=by omega
   obtain⟨e1,e2⟩:=hr.2 i a[i] b[i] (List.getElem?_eq_getElem aN) (List.getElem?_eq_getElem hib);have hn:=ha _ (List.getElem_mem aN);refine wh ?_;refine eT hib ?_;refine wh ?_;refine eT aN ?_;refine wh ?_;refine sp ?_ ?_<;>intro h2
   ·have h2:b[i].aq<a[i].aq:=h2;omega
   refine wh ?_;refine eT hib ?_;refine wh ?_;refine eT aN ?_;refine wh ?_;refine sp ?_ ?_<;>intro h3
   ·have h3:b[i].aq=a[i].aq:=h3;have h4:=e2 h3.symm;refine wh ?_;refine eT aN ?_;refine wh ?_;refine eT hib ?_;refine wh ?_;refine⟨[],[],_,_,_,_,Mm a[i] b[i] om,t3,?_⟩;rintro r o' c' ⟨rfl,rfl,rfl⟩;rw[ry.2 h4];refine wh ?_;refine⟨a.length - (i+1),?_,om⟩;exact⟨[],[],_,_,_,t3,⟨i+1,aN,rfl,rfl,rfl,rfl⟩⟩
   ·refine wh ?_;refine⟨a.length - (i+1),?_,om⟩;exact⟨[],[],_,_,_,t3,⟨i+1,aN,rfl,rfl,rfl,rfl⟩⟩
  ·refine wh ?_;exact⟨[],[],_,_,_,t3,rfl,rfl,rfl⟩
@[reducible] noncomputable def aJ (s:MS):List TV:=[.own (Jp s)]
@[reducible] noncomputable def stA (ms:List MS):Ob:=[(0,.bB 1 (ms.map aJ) [])]
theorem QN {α β:Type} (f:α→β) {l:List α} {i k:Nat} (hi:i<l.length) (hk:k<l.length):((l.map f).set i (f l[i])).set k (f l[k])=l.map f:=by
 refine List.ext_getElem (by simp) fun j h1 h2=>?_;simp only[List.length_map]at h2;rw[List.getElem_set,List.getElem_set,List.getElem_map];split
 ·rename_i e;subst e;rfl
 ·split
  ·rename_i e;subst e;rfl
  ·rfl
theorem my (ms:List MS) (hl:ms.length≤5) (mV:∀s∈ms,Ty s) (Jn:∀s∈ms,oq s.K≤1000) (hag:∀s∈ms,∀t∈ms,∀x v w,pz s.K x=some v→pz t.K x=some w→ao v=ao w):
 VC E0 14 1 [.tk 0] (stA ms) (RR (.s (.bool true)) 1 (stA ms)):=by
 refine en L0 Tryz.f14 ?_;refine⟨fun q f o c=>∃i:Nat,i≤ms.length∧q=ms.length - i∧c=1∧f=[(0,.tk 0),(3,.s (.int .i64 i))]∧o=stA ms,⟨ms.length,?_⟩,?_⟩
 ·exact⟨[],[some 0],_,_,_,t3,⟨0,Nat.zero_le _,rfl,rfl,rfl,rfl⟩⟩
 rintro q f1 o1 c1 ⟨i,hi,rfl,rfl,rfl,rfl⟩;refine wh ?_;refine sp ?_ ?_<;>intro aN;rotate_left
 ·refine wh ?_;exact⟨[],[some 0],_,_,_,t3,rfl,rfl,rfl⟩
 have aN:i<ms.length:=dZ.1 aN;have hsi:=List.getElem_mem aN;have UI:(ms.map aJ)[(i:Int).toNat]? =some (aJ ms[i]):=by simp[aN]
 refine wh ?_;refine⟨fun q f o c=>∃k:Nat,k≤i∧q=i - k∧c=1∧f=[(0,.tk 0),(3,.s (.int .i64 i)),(4,.s (.int .i64 k))]∧o=stA ms,⟨i,?_⟩,?_⟩
 ·exact⟨[],[some 0],_,_,_,t3,⟨0,Nat.zero_le _,rfl,rfl,rfl,rfl⟩⟩
 rintro q f1 o1 c1 ⟨k,hk,rfl,rfl,rfl,rfl⟩;refine wh ?_;refine sp ?_ ?_<;>intro nS;rotate_left
 ·refine wh ?_;refine⟨ms.length - (i+1),?_,om⟩;exact⟨[],[some 0],_,_,_,t3,⟨i+1,aN,rfl,rfl,rfl,rfl⟩⟩
 have nS:k<i:=by
  have:(k:Int)<(i:Int):=nS;omega
 have Bc:k<ms.length:=by omega
 have hsk:=List.getElem_mem Bc;have RW:(ms.map aJ)[(k:Int).toNat]? =some (aJ ms[k]):=by simp[Bc]
 refine wh ?_;refine⟨⟨om,by rw[List.length_map];omega⟩,?_⟩;refine wh ?_;refine⟨aJ ms[i],UI,?_⟩;refine wh ?_;refine⟨[],[some 1],_,_,_,_,fw ms[i],t3,cw ?_⟩;refine⟨[],[some 3],_,_,_,_,KI (lr ms[i].kn ms[i].K ms[i].l),t3,cw ?_⟩;refine⟨⟨om,by rw[List.length_map];omega⟩,?_⟩;refine wh ?_;refine⟨fun h=>absurd h om,fun _=>?_⟩;refine⟨aJ ms[k],RW,?_⟩;refine wh ?_;refine⟨[],[some 5],_,_,_,_,fw ms[k],t3,cw ?_⟩;refine⟨[],[some 7],_,_,_,_,KI (lr ms[k].kn ms[k].K ms[k].l),t3,cw ?_⟩
 have J5:(if(lr ms[k].kn ms[k].K ms[k].l).top<(lr ms[i].kn ms[i].K ms[i].l).top then(lr ms[k].kn ms[k].K ms[k].l).top else(lr ms[i].kn ms[i].K ms[i].l).top)≤1000:=by
  split
  ·exact Jn _ hsk
  ·exact Jn _ hsi
 generalize (if(lr ms[k].kn ms[k].K ms[k].l).top<(lr ms[i].kn ms[i].K ms[i].l).top then(lr ms[k].kn ms[k].K ms[k].l).top else(lr ms[i].kn ms[i].K ms[i].l).top)=mn at J5 ⊢;have BL:0≤mn.toNat:=Nat.zero_le _;refine⟨fun q f o c=>∃s:Nat,s≤mn.toNat∧q=mn.toNat - s∧c=1∧f=[(0,.tk 0),(3,.s (.int .i64 i)),(4,.s (.int .i64 k)),(5,.s (.int .i64 mn)),(6,.s (.int .i64 s))]∧o=stA ms,⟨mn.toNat,?_⟩,?_⟩
 ·refine⟨[],[some 0],_,_,_,⟨tq,.cons (.bB (ft:=[(_,aJ ms[k]),(_,aJ ms[i])]) .two (Lw.of (QN aJ aN Bc)) (.q2 om tq (.q1 tq))) .nil,by rfl⟩,⟨0,BL,rfl,rfl,rfl,rfl⟩⟩
 rintro q f1 o1 c1 ⟨s,hsm,rfl,rfl,rfl,rfl⟩;have Xt:=Jq (lr ms[i].kn ms[i].K ms[i].l) s;have oz:=Jq (lr ms[k].kn ms[k].K ms[k].l) s;rw[show bL (lr ms[i].kn ms[i].K ms[i].l).known (s:Int)=(pz ms[i].K s).map ao from mV _ hsi s]at Xt;rw[show bL (lr ms[k].kn ms[k].K ms[k].l).known (s:Int)=(pz ms[k].K s).map ao from mV _ hsk s]at oz;have hag:=hag _ hsi _ hsk s;generalize pz ms[i].K (s:Int)=ov at Xt hag;generalize pz ms[k].K (s:Int)=ow at oz hag;refine wh ?_;refine sp ?_ ?_<;>intro h3;rotate_left
 ·refine wh ?_;refine⟨i - (k+1),?_,om⟩;exact⟨[],[some 0],_,_,_,t3,⟨k+1,om,rfl,rfl,rfl,rfl⟩⟩
 have h3:(s:Int)<mn:=h3;rcases ov with _|v<;>rcases ow with _|w
 ·refine wh ?_;refine⟨⟨om,by rw[List.length_map];omega⟩,?_⟩;refine wh ?_;refine⟨aJ ms[i],UI,?_⟩;refine wh ?_;refine⟨[],[some 1],_,_,_,_,fw ms[i],t3,cw ?_⟩;refine⟨[],[some 3],_,_,_,_,Xt,t3,cw ?_⟩;refine⟨⟨om,by rw[List.length_map];omega⟩,?_⟩;refine wh ?_;refine⟨fun h=>absurd h om,fun _=>?_⟩;refine⟨aJ ms[k],RW,?_⟩;refine wh ?_;refine⟨[],[some 6],_,_,_,_,fw ms[k],t3,cw ?_⟩;refine⟨[],[some 8],_,_,_,_,oz,t3,cw ?_⟩;refine wh ?_;refine⟨mn.toNat - (s+1),?_,om⟩
  refine⟨[],[some 0],_,_,_,⟨tq,.cons (.bB (ft:=[(_,aJ ms[k]),(_,aJ ms[i])]) .two (Lw.of (QN aJ aN Bc)) (.q2 om tq (.q1 tq))) .nil,by rfl⟩,⟨s+1,om,rfl,rfl,rfl,rfl⟩⟩
 ·refine wh ?_;refine⟨⟨om,by rw[List.length_map];omega⟩,?_⟩;refine wh ?_;refine⟨aJ ms[i],UI,?_⟩;refine wh ?_;refine⟨[],[some 1],_,_,_,_,fw ms[i],t3,cw ?_⟩;refine⟨[],[some 3],_,_,_,_,Xt,t3,cw ?_⟩;refine⟨⟨om,by rw[List.length_map];omega⟩,?_⟩;refine wh ?_;refine⟨fun h=>absurd h om,fun _=>?_⟩;refine⟨aJ ms[k],RW,?_⟩;refine wh ?_;refine⟨[],[some 6],_,_,_,_,fw ms[k],t3,cw ?_⟩;refine⟨[],[some 8],_,_,_,_,oz,t3,cw ?_⟩;refine wh ?_;refine⟨mn.toNat - (s+1),?_,om⟩
  refine⟨[],[some 0],_,_,_,⟨tq,.cons (.bB (ft:=[(_,aJ ms[k]),(_,aJ ms[i])]) .two (Lw.of (QN aJ aN Bc)) (.q2 om tq (.q1 tq))) .nil,by rfl⟩,⟨s+1,om,rfl,rfl,rfl,rfl⟩⟩
 ·refine wh ?_;refine⟨⟨om,by rw[List.length_map];omega⟩,?_⟩;refine wh ?_;refine⟨aJ ms[i],UI,?_⟩;refine wh ?_;refine⟨[],[some 1],_,_,_,_,fw ms[i],t3,cw ?_⟩;refine⟨[],[some 3],_,_,_,_,Xt,t3,cw ?_⟩;refine⟨⟨om,by rw[List.length_map];omega⟩,?_⟩;refine wh ?_;refine⟨fun h=>absurd h om,fun _=>?_⟩;refine⟨aJ ms[k],RW,?_⟩;refine wh ?_;refine⟨[],[some 6],_,_,_,_,fw ms[k],t3,cw ?_⟩;refine⟨[],[some 8],_,_,_,_,oz,t3,cw ?_⟩;refine wh ?_;refine⟨mn.toNat - (s+1),?_,om⟩
  refine⟨[],[some 0],_,_,_,⟨tq,.cons (.bB (ft:=[(_,aJ ms[k]),(_,aJ ms[i])]) .two (Lw.of (QN aJ aN Bc)) (.q2 om tq (.q1 tq))) .nil,by rfl⟩,⟨s+1,om,rfl,rfl,rfl,rfl⟩⟩
 ·have he:=hag v w rfl rfl;rw[Option.map_some,he]at Xt;refine wh ?_;refine⟨⟨om,by rw[List.length_map];omega⟩,?_⟩;refine wh ?_;refine⟨aJ ms[i],UI,?_⟩;refine wh ?_;refine⟨[],[some 1],_,_,_,_,fw ms[i],t3,cw ?_⟩;refine⟨[],[some 3],_,_,_,_,Xt,t3,cw ?_⟩;refine⟨⟨om,by rw[List.length_map];omega⟩,?_⟩;refine wh ?_;refine⟨fun h=>absurd h om,fun _=>?_⟩;refine⟨aJ ms[k],RW,?_⟩;refine wh ?_;refine⟨[],[some 6],_,_,_,_,fw ms[k],t3,cw ?_⟩;refine⟨[],[some 8],_,_,_,_,oz,t3,cw ?_⟩;refine sp ?_ ?_<;>intro hx
  ·exfalso;revert hx;simp[nQ]
  refine wh ?_;refine⟨mn.toNat - (s+1),?_,om⟩;refine⟨[],[some 0],_,_,_,⟨tq,.cons (.bB (ft:=[(_,aJ ms[k]),(_,aJ ms[i])]) .two (Lw.of (QN aJ aN Bc)) (.q2 om tq (.q1 tq))) .nil,by rfl⟩,⟨s+1,om,rfl,rfl,rfl,rfl⟩⟩
structure Pk where
 kind:Int
 i:Int
 late:Bool
 KP:Bool
 cmd:cA
@[reducible] def Hm (p:Pk):List TV:=[.s (.int .i64 p.kind),.s (.int .i64 p.i),.s (.bool p.late),.s (.bool p.KP),.s (.int .i64 p.cmd.kind),.s (.int .i64 p.cmd.chain),.s (.int .u64 p.cmd.aq),.s (.int .i64 p.cmd.node)]
theorem gO:VC E0 4 0 [] [] (RR (.s (.bool true)) 0 []):=VC.mono (VC.Wz (by kernel_rfl) (fun _ _=>rfl)) fun _ _ _ h=>⟨h.1,h.2.2,h.2.1⟩
structure Xu (s s1:MS):Prop where
 ok:c9 s1
 l:s1.l=s.l
 no:s1.nodes=s.nodes
 tk:s.a8≤s1.a8∧s1.a8≤s.a8+1
 kr:m8 (aC s) (aC s1)
 out:s1.out.length≤12000
theorem mz {s s1:MS} (H:c9 s) (ho:s.out=[]) {m:dr} (h:Hj s m s1):Xu s s1:=by
 have g:=TZ H h;have h1:=g.lt H;have h2:=g.tk;rw[ho]at h1;exact⟨g.ok,g.l,g.no,om,g.kr,by simp at h1;omega⟩
theorem Au {s s1:MS} (H:c9 s) (ho:s.out=[]) (h:KN s s1):Xu s s1:=by
 obtain⟨q,w,g⟩:=T3 H h;have h1:=g.lt (H.cnt _ q w);have h2:=g.tk;have h3:(pf s (s.a8+1) q w).out.length=0:=by show s.out.length=0;rw[ho];rfl
 have h4:(pf s (s.a8+1) q w).a8=s.a8+1:=rfl;exact⟨g.ok,g.l,g.no,om,g.kr,om⟩
def Reg (l0:List CF) (t:Int) (ms:List MS):Prop:=∀s∈ms,s.out=[]∧s.l=l0∧s.nodes=12∧0≤s.a8∧s.a8≤t
structure MI (n:Nat) (l0:List CF) (t:Int) (ms:List MS) (said:List dr):Prop where
 pax:∃S,bq n ms S∧∀m∈said,gy n (eY ms) S m
 Yp:Reg l0 t ms
theorem MI.sub {n:Nat} {l0:List CF} {t:Int} {ms:List MS} {said U0:List dr} (h:MI n l0 t ms said) (hs:∀m∈U0,m∈said):MI n l0 t ms U0:=by
 obtain⟨⟨S,h1,h2⟩,h3⟩:=h;exact⟨⟨S,h1,fun m hm=>h2 m (hs m hm)⟩,h3⟩
theorem MI.more {n:Nat} {l0:List CF} {t t':Int} {ms:List MS} {said:List dr} (h:MI n l0 t ms said) (ht:t≤t'):MI n l0 t' ms said:=
 ⟨h.pax,fun s hs=>by obtain⟨a,b,c,d,e⟩:=h.Yp s hs;exact⟨a,b,c,d,om⟩⟩
theorem MI.step {n:Nat} {l0:List CF} {t:Int} {ms:List MS} {said:List dr} (h:MI n l0 t ms said) {j:Nat} {s s1:MS} (hs:ms[j]? =some s) (ho:Xu s s1)
 (hg:∀S,bq n ms S→(∀m∈said,gy n (eY ms) S m)→cp n j ms S s1) {sd:List dr} (wm:∀m∈sd,m∈said):MI n l0 (t+1) (ms.set j {s1 with out:=[]}) (sd++s1.out):=by
 obtain⟨⟨S,h1,h2⟩,h3⟩:=h;obtain⟨S',k1,k2,k3⟩:=(hg S h1 h2).close hs;refine⟨⟨S',k1,fun m hm=>?_⟩,fun x hx=>?_⟩
 ·rcases List.mem_append.1 hm with q|q
  ·exact(h2 m (wm m q)).ext k2
  ·exact k3 m q
 ·rcases List.mem_or_eq_of_mem_set hx with q|rfl
  ·obtain⟨a,b,c,d,e⟩:=h3 x q;exact⟨a,b,c,d,om⟩
  ·obtain⟨a,b,c,d,e⟩:=h3 s (List.mem_of_getElem? hs);have:=ho.tk;exact⟨rfl,ho.l.trans b,ho.no.trans c,by show 0≤s1.a8;omega,by show s1.a8≤t+1;omega⟩
theorem MI.ok {n:Nat} {l0:List CF} {t:Int} {ms:List MS} {said:List dr} (h:MI n l0 t ms said) {s:MS} (hs:s∈ms):c9 s:=by
 obtain⟨⟨S,h1,_⟩,_⟩:=h;obtain⟨i,hi,rfl⟩:=List.mem_iff_getElem.1 hs;exact(h1.wf i _ (List.getElem?_eq_getElem hi)).1
theorem MI.Av {n:Nat} {l0:List CF} {t:Int} {ms:List MS} {said:List dr} (h:MI n l0 t ms said):ms.length=n:=by
 obtain⟨⟨S,h1,_⟩,_⟩:=h;exact h1.len
theorem MI.ltr {n:Nat} {l0:List CF} {t:Int} {ms:List MS} {said:List dr} (h:MI n l0 t ms said) {m:dr} (hm:m∈said):MZ m∧(m.to≤24∨(101≤m.to∧m.to≤100+(n:Int))):=by
 obtain⟨⟨S,_,h2⟩,_⟩:=h;exact⟨(h2 m hm).sh,(h2 m hm).tn⟩
theorem MI.agree {n:Nat} {l0:List CF} {t:Int} {ms:List MS} {said:List dr} (h:MI n l0 t ms said):∀a∈ms,∀b∈ms,∀x v w,pz a.K x=some v→pz b.K x=some w→ao v=ao w:=by
 intro a ha b hb x v w hv hw;have oka:=h.ok ha;have okb:=h.ok hb;obtain⟨⟨S,h1,_⟩,_⟩:=h;obtain⟨i,hi,rfl⟩:=List.mem_iff_getElem.1 ha;obtain⟨k,hk,rfl⟩:=List.mem_iff_getElem.1 hb;obtain⟨v1,v2⟩:=(fi oka.kK.ss).1 hv;obtain⟨w1,w2⟩:=(fi okb.kK.ss).1 hw;have c1:=h1.kn i _ (List.getElem?_eq_getElem hi) v v1;have c2:=h1.kn k _ (List.getElem?_eq_getElem hk) w w1;rw[v2]at c1;rw[w2]at c2;exact h1.safe c1 c2
def tf (n:Nat) (l:List CF) (k:Nat):List MS:=(List.range k).map fun(i:Nat)=>JF (i+1) n l
theorem M7 (n:Nat) (l:List CF) (k:Nat):tf n l (k+1)=tf n l k++[JF (k+1) n l]:=by simp[tf,List.range_succ]
theorem Hn (n:Nat) (l:List CF) (k:Nat):(tf n l k).length=k:=by simp[tf]
theorem KQ {l:List CF} (h:fU l) (K:List ak):∀n,∀c∈(bf K l n).1,∀x∈aG c,x≤24
 |0,c,hc=>by cases hc
 |n+1,c,hc=>by
  have ih:=KQ h K n c;have ha:=bu h K n;unfold bf at hc;cases hv:K[n]? with
  |none=>rw[hv]at hc;exact ih hc
  |some v=>
   rw[hv]at hc;dsimp only at hc;split at hc
   ·rcases List.mem_append.1 hc with q|q
    ·exact ih q
    ·have hm:c∈(mD (bf K l n).2 (ao v)).1:=by
      cases hq:(mD (bf K l n).2 (ao v)).1[v.chain.toNat]? with
      |none=>rw[hq]at q;cases q
      |some y=>rw[hq]at q;simp at q;subst q;exact List.mem_of_getElem? hq
     exact fun x hx=>((ke (KK ha _) hm).2.2.2.2.2 x hx).2
   ·exact ih hc
theorem T4 {n:Nat} {l:List CF} (h5:n≤5) (ha:fU l) (he:HE l) {k:Nat} (hk:k<n):c9 (JF (k+1) n l):=by
 refine⟨by show 1≤(k:Int)+1∧(k:Int)+1≤5;omega,by show(k:Int)+1≤n∧(n:Int)≤5;omega,fun _=>⟨_,_,rfl⟩,?_,⟨⟨by simp,by simp⟩,by simp,by simp⟩,by simp,by show(0:Int)≤0∧(0:Int)≤18446744073709551615;decide,fun x=>rfl,⟨.nil,by simp,by simp,by simp⟩,he,fun K _=>KQ ha K _,fun K _ c hc x hx=>((ke (bu ha K _) hc).2.2.2.2.2 x hx).2⟩
 exact⟨by show 1≤(k:Int)+1∧(k:Int)+1≤5;omega,by show 1≤(n:Int)∧(n:Int)≤5;omega,⟨.nil,by simp[aQ],by simp⟩,⟨.nil,by simp[aQ]⟩,by simp,by simp,by simp,by show(0:Int)≤0∧(0:Int)≤512;decide,by show(0:Int)≤0∧(0:Int)≤18446744073709551615;decide,fun h=>absurd (show(0:Int)=1 from h) (by decide),by simp⟩
theorem mi0 {n:Nat} {l:List CF} (h1:1≤n) (h5:n≤5) (ha:fU l) (he:HE l):MI n l 0 (tf n l n) []:=by
 have get:∀{i:Nat} {s:MS},(tf n l n)[i]? =some s→i<n∧s=JF (i+1) n l:=fun {i s} h=>by
  unfold tf at h;rw[List.getElem?_map,Option.map_eq_some_iff]at h;obtain⟨a,h1,rfl⟩:=h;obtain⟨h2,h3⟩:=List.getElem?_eq_some_iff.1 h1;simp at h2 h3;subst h3;exact⟨h2,rfl⟩
 have hp:∀a,eY (tf n l n) a=0:=fun a=>by
  unfold eY;cases hq:(tf n l n)[(a - 1).toNat]? with
  |none=>rfl
  |some s=>obtain⟨_,rfl⟩:=get hq;rfl
 refine⟨⟨[],⟨⟨h1,h5⟩,Hn _ _ _,fun i s h=>?_,by simp,fun i s h=>?_,fun i s h e he=>?_,fun a b s h=>?_,by simp,fun b s c h=>?_,fun i s h v hv=>?_,fun i s h m hm=>?_⟩,by simp⟩,fun s hs=>?_⟩
 ·obtain⟨h2,rfl⟩:=get h;exact⟨T4 h5 ha he h2,⟨rfl,rfl⟩,rfl,rfl⟩
 ·obtain⟨h2,rfl⟩:=get h;exact⟨.inl rfl,fun h=>absurd rfl h,by simp,by simp,fun h=>absurd (show(0:Int)=1 from h) (by decide),fun h=>absurd (show(0:Int)=2 from h) (by decide),fun h=>absurd (show(0:Int)=2 from h) (by decide),fun h=>absurd (show(0:Int)=1 from h) (by decide)⟩
 ·obtain⟨h2,rfl⟩:=get h;cases he
 ·obtain⟨m,hm,_⟩:=h;cases hm
 ·obtain⟨m,hm,_⟩:=h;cases hm
 ·obtain⟨h2,rfl⟩:=get h;cases hv
 ·obtain⟨h2,rfl⟩:=get h;cases hm
 ·obtain⟨i,hi,rfl⟩:=List.mem_iff_getElem.1 hs;obtain⟨h2,h3⟩:=get (List.getElem?_eq_getElem hi);rw[h3];exact⟨rfl,rfl,rfl,Int.le_refl _,Int.le_refl _⟩
set_option maxHeartbeats 8000000
theorem pg {ms:List MS} {j:Nat} (hj:j<ms.length):(ms.map aJ).set j (aJ ms[j])=ms.map aJ:=by
 rw[←List.map_set,List.set_getElem_self hj]
theorem ox {ms:List MS} {j:Nat} {s:MS}:(ms.map aJ).set j (aJ s)=(ms.set j s).map aJ:=by rw[List.map_set]
theorem ad1 (n:Nat) (l:List CF) (k:Nat) (y:List TV):(((tf n l k).map aJ++[y]).set (((tf n l k).map aJ).length+0) (aJ (JF (k+1) n l)))=(tf n l (k+1)).map aJ:=by
 rw[M7,List.map_append,List.set_append_right _ _ (by simp)];simp
theorem Ew {said:List dr} {a:Nat} {m:dr} (h:m∈said.take a++said.drop (a+1)):m∈said:=by
 rcases List.mem_append.1 h with q|q
 ·exact List.mem_of_mem_take q
 ·exact List.mem_of_mem_drop q
theorem rmX {said sd:List dr} {a:Nat} (h:sd=said.take a++said.drop (a+1)):(List.drop ((0:Nat):Int).toNat (List.take (a:Int).toNat (said.map az))++List.drop ((a:Int)+1).toNat (List.take (((said.map az).length:Nat):Int).toNat (said.map az)))=sd.map az:=by
 subst h;rw[List.map_append,List.map_take,List.map_drop];simp;rw[List.take_of_length_le (by simp)]
theorem rmN {said sd:List dr} {a:Nat} (h:sd=said.take a++said.drop (a+1)):(List.drop ((0:Nat):Int).toNat (List.take (a:Int).toNat (said.map az))++List.drop ((a:Int)+1).toNat (List.take (((said.map az).length:Nat):Int).toNat (said.map az)))++[]=sd.map az:=by rw[rmX h,List.append_nil]
theorem rmS {said sd:List dr} {a:Nat} (h:sd=said.take a++said.drop (a+1)) (u:List dr):(List.drop ((0:Nat):Int).toNat (List.take (a:Int).toNat (said.map az))++List.drop ((a:Int)+1).toNat (List.take (((said.map az).length:Nat):Int).toNat (said.map az)))++u.map az=(sd++u).map az:=by rw[rmX h,List.map_append]
theorem qL {s:MS} (H:c9 s):oq s.K≤1000:=by
 unfold oq;cases hq:s.K.getLast? with
 |none=>exact(by decide:(0:Int)≤1000)
 |some v=>have:=H.kK.l6 v (List.mem_of_getLast? hq);show v.slot+1≤1000;omega
theorem dg {s:MS} (H:c9 s):VC E0 8 1 [.ptr 0 0] (MJ (lr s.kn s.K s.l)) (RR (.sl 5 ((aC s).map aF) false) 1 (MJ (lr s.kn s.K s.l))):=
 rD (lr s.kn s.K s.l) (by have:=H.bM.1;have:=H.lE.len;show(aC s).length<10000;omega) (fun c hc=>by have:=(H.bM.2 c hc).1;omega)
theorem T5 (ae dO:Int) (ps:List Pk) (hp:∀p∈ps,0≤p.cmd.aq):VC E0 3 0 [.s (.int .i64 ae),.s (.int .i64 dO),.sl 8 (ps.map Hm) false] [] (fun r _ _=>r= .s (.bool true)):=by
 refine en L0 Tryz.f3 ?_;refine sp ?_ ?_<;>intro h1
 ·refine wh ?_;refine⟨[],[],_,_,_,_,gO,t3,cw ?_⟩;exact⟨[],[],[],.s (.bool true),[],⟨.s Lz.rfl,.nil,rfl⟩,rfl⟩
 have h1:¬ae<1:=h1;refine wh ?_;refine sp ?_ ?_<;>intro h2
 ·refine wh ?_;refine⟨[],[],_,_,_,_,gO,t3,cw ?_⟩;exact⟨[],[],[],.s (.bool true),[],⟨.s Lz.rfl,.nil,rfl⟩,rfl⟩
 have h2:¬ae>5:=h2;refine wh ?_;refine sp ?_ ?_<;>intro h3
 ·refine wh ?_;refine⟨[],[],_,_,_,_,gO,t3,cw ?_⟩;exact⟨[],[],[],.s (.bool true),[],⟨.s Lz.rfl,.nil,rfl⟩,rfl⟩
 have h3:¬dO<1:=h3;refine wh ?_;refine sp ?_ ?_<;>intro h4
 ·refine wh ?_;refine⟨[],[],_,_,_,_,gO,t3,cw ?_⟩;exact⟨[],[],[],.s (.bool true),[],⟨.s Lz.rfl,.nil,rfl⟩,rfl⟩
 have h4:¬dO>3:=h4;refine wh ?_;refine sp ?_ ?_<;>intro h5
 ·refine wh ?_;refine⟨[],[],_,_,_,_,gO,t3,cw ?_⟩;exact⟨[],[],[],.s (.bool true),[],⟨.s Lz.rfl,.nil,rfl⟩,rfl⟩
 have h5:¬(((ps.map Hm).length:Nat):Int)>600:=h5;rw[List.length_map]at h5;obtain⟨n,rfl⟩:∃n:Nat,ae=n:=⟨ae.toNat,om⟩;obtain⟨ch,rfl⟩:∃n:Nat,dO=n:=⟨dO.toNat,om⟩;have cC:fU (iI 2 ch):=MD ch om 2 om om om;have aa2:HE (iI 2 ch):=ME om om;have Ry:=Xs ch om;have AT:1≤(iI 2 ch).length:=cC.1.1;generalize iI 2 ch=l at cC aa2 Ry AT;refine wh ?_;refine⟨fun kk f o c=>∃(k:Nat) (jj:Int),jj=k+1∧k≤n∧kk=n - k∧c=1∧f=[(0,.s (.int .i64 n)),(1,.s (.int .i64 ch)),(2,.sl 8 (ps.map Hm) false),(7,.tk 0),(8,.s (.int .i64 jj))]∧o=[(0,.bB 1 ((tf n l k).map aJ) [])],⟨n,?_⟩,?_⟩
 ·exact⟨[],[none],_,_,_,t3,⟨0,1,rfl,Nat.zero_le _,rfl,rfl,rfl,rfl⟩⟩
 rintro kk f1 o1 c1 ⟨k,jj,hj,hk,rfl,rfl,rfl,rfl⟩;refine wh ?_;refine sp ?_ ?_<;>intro aN
 ·have aN:jj≤n:=aN;refine wh ?_;refine⟨[],[],_,_,_,_,Ry,t3,cw ?_⟩;refine⟨[],[],_,_,_,_,aaZ jj n l cC (by unfold m5;omega) om,t3,cw ?_⟩;refine⟨by simp[Hn];omega,?_⟩;refine wh ?_;refine⟨n - (k+1),?_,om⟩;have K6:IntKind.i64.wrap (jj+1)=jj+1:=IntWalk.i64_in _ om;rw[K6];subst hj;refine⟨[],[some 3],_,_,_,⟨tq,.cons (.bB (ft:=[(_,aJ (JF (k+1) n l))]) .one (Lw.of (ad1 n l k _)) (.q1 tq)) .nil,by rfl⟩,⟨k+1,(k+1:Int)+1,om,by omega,rfl,rfl,rfl,rfl⟩⟩
 have aN:¬jj≤n:=aN;obtain rfl:n=k:=by omega
 have hM0:=mi0 (n:=n) om om cC aa2;generalize tf n l n=ms0 at hM0;refine wh ?_;refine⟨fun kk f o c=>∃(i:Nat) (ms:List MS) (said:List dr),i≤ps.length∧kk=ps.length - i∧MI n l i ms said∧said.length≤2000∧c=2∧f=[(0,.s (.int .i64 n)),(2,.sl 8 (ps.map Hm) false),(7,.tk 0),(11,.tk 1),(12,.s (.int .i64 i))]∧o=[(0,.bB 1 (ms.map aJ) []),(1,.arr 25 true (said.map az))],⟨ps.length,?_⟩,?_⟩
 ·exact⟨[],[some 0,none],_,_,_,t3,⟨0,ms0,[],Nat.zero_le _,rfl,hM0,by simp,rfl,rfl,rfl⟩⟩
 clear hM0 Ry hj aN hk;rintro kk f1 o1 c1 ⟨i,ms,said,hi,rfl,hM,hS,rfl,rfl,rfl⟩;have hml:=hM.Av;refine wh ?_;refine sp ?_ ?_<;>intro aN;rotate_left
 ·refine wh ?_;refine⟨[],[some 0],_,_,_,_,my ms om (fun s hs=>(hM.ok hs).kn) (fun s hs=>qL (hM.ok hs)) hM.agree,t3,cw ?_⟩;refine⟨[],[],_,_,_,_,gO,t3,cw ?_⟩;exact⟨[],[],[],.s (.bool true),[],⟨.s Lz.rfl,.nil,rfl⟩,rfl⟩
 have aN:i<ps.length:=dZ.1 aN;have WJ:=hp _ (List.getElem_mem aN);refine wh ?_;refine eT aN ?_;refine wh ?_;generalize ps[i]=pk at WJ;obtain⟨knd,pi,late,KP,cmd⟩:=pk;refine sp ?_ ?_<;>intro aa3
 ·refine wh ?_;refine⟨[],[],_,_,_,_,gO,t3,cw ?_⟩;exact⟨[],[],[],.s (.bool true),[],⟨.s Lz.rfl,.nil,rfl⟩,rfl⟩
 have aa3:¬pi<0:=aa3;obtain⟨j,hjn,hjr⟩:∃j:Nat,j<n∧Fk .rem .i64 .i64 pi (n:Int)=some (.int .i64 (j:Int)):=by
  have h1:=Int.emod_nonneg pi (show(n:Int)≠0 by omega);have h2:=Int.emod_lt_of_pos pi (show 0<(n:Int) by omega);refine⟨(pi % (n:Int)).toNat,om,?_⟩;rw[TP om om,Int.toNat_of_nonneg h1]
 have EM:j<ms.length:=by omega
 have gj:(ms.map aJ)[(j:Int).toNat]? =some (aJ ms[j]):=by simp[EM]
 have Nu:=List.getElem?_eq_getElem EM;have hsm:=List.getElem_mem EM;have H:=hM.ok hsm;have uS:=dg H;obtain⟨ho,mP,xn,ht0,Ym⟩:=hM.Yp _ hsm;have hol:ms[j].out.length=0:=by rw[ho];rfl
 refine wh ?_;refine sp ?_ ?_<;>intro oA;rotate_left
 ·have oA:¬(((said.map az).length:Nat):Int)>0:=oA;rw[List.length_map]at oA;refine wh ?_;rw[hjr];refine wh ?_;refine⟨⟨om,by rw[List.length_map];omega⟩,?_⟩;refine wh ?_;refine⟨aJ ms[j],gj,?_⟩;refine wh ?_;refine⟨[],[some 3],_,_,_,_,fw ms[j],t3,cw ?_⟩;refine⟨[],[some 5],_,_,_,_,uS,t3,cw ?_⟩;refine sp ?_ ?_<;>intro k0
  ·refine wh ?_;refine sp ?_ ?_<;>intro hz;rotate_left
   ·have hz:¬(((said.map az).length:Nat):Int)=0:=hz;rw[List.length_map]at hz;omega
   refine wh ?_;refine⟨ps.length - (i+1),?_,om⟩;refine⟨[],[some 0,some 1],_,_,_,⟨tq,.cons (.bB (ft:=[(_,aJ ms[j])]) .one (Lw.of (pg EM)) (.q1 tq)) (.cons (.arr Lz.rfl) .nil),by rfl⟩,⟨i+1,ms,said,aN,rfl,hM.more om,hS,rfl,rfl,rfl⟩⟩
  refine wh ?_;refine sp ?_ ?_<;>intro k1
  ·refine wh ?_;refine sp ?_ ?_<;>intro hz;rotate_left
   ·have hz:¬(((said.map az).length:Nat):Int)=0:=hz;rw[List.length_map]at hz;omega
   refine wh ?_;refine⟨ps.length - (i+1),?_,om⟩;refine⟨[],[some 0,some 1],_,_,_,⟨tq,.cons (.bB (ft:=[(_,aJ ms[j])]) .one (Lw.of (pg EM)) (.q1 tq)) (.cons (.arr Lz.rfl) .nil),by rfl⟩,⟨i+1,ms,said,aN,rfl,hM.more om,hS,rfl,rfl,rfl⟩⟩
  refine wh ?_;refine sp ?_ ?_<;>intro k2
  ·refine wh ?_;refine⟨[],[some 3],_,_,_,_,QL ms[j] H (by rw[mP];exact AT) om om om,t3,?_⟩;rintro r o' c' ⟨s1,iB,rfl,rfl,rfl⟩;have iZ:=Au H ho iB;have fT:said.map az++s1.out.map az=(said++s1.out).map az:=List.map_append.symm;have c7:=hM.step Nu iZ (fun S hS _=>hS.QM Nu iB) (sd:=said) (fun _ h=>h);refine wh ?_;have ph:fU (aC s1):=bu (by rw[iZ.l,mP];exact cC) _ _;have EE:=iZ.out;refine⟨[],[some 3],_,_,_,_,fw {s1 with out:=[]},t3,cw ?_⟩;refine⟨[],[some 10],_,_,_,_,dg (iZ.ok.outs []),t3,cw ?_⟩;refine⟨[],[],_,_,_,_,gN (aC ms[j]) (aC s1) ph iZ.kr (fun c hc=>(H.bM.2 c hc).1),t3,cw ?_⟩
   refine⟨by simp;omega,?_⟩;refine wh ?_;refine sp ?_ ?_<;>intro bl
   ·refine wh ?_;refine⟨[],[some 0],_,_,_,_,my (ms.set j {s1 with out:=[]}) (by rw[c7.Av];omega) (fun s hs=>(c7.ok hs).kn) (fun s hs=>qL (c7.ok hs)) c7.agree,⟨tq,.cons (.bB (ft:=[(_,aJ {s1 with out:=[]})]) .one (Lw.of ox) (.q1 tq)) .nil,by rfl⟩,?_⟩;rintro r o' c' ⟨rfl,rfl,rfl⟩;refine wh ?_;refine⟨[],[],_,_,_,_,gO,t3,cw ?_⟩;exact⟨[],[],[],.s (.bool true),[],⟨.s Lz.rfl,.nil,rfl⟩,rfl⟩
   have bl:¬_:=bl;have xy:(said++s1.out).length≤2000:=by have hq:=(congrArg List.length fT).trans (List.length_map (f:=az));rw[←hq];omega
   refine wh ?_;refine⟨ps.length - (i+1),?_,om⟩;refine⟨[],[some 0,some 12],_,_,_,⟨tq,.cons (.bB (ft:=[(_,aJ {s1 with out:=[]})]) .one (Lw.of ox) (.q1 tq)) (.cons (.arr (Lz.of fT)) .nil),by rfl⟩,⟨i+1,ms.set j {s1 with out:=[]},said++s1.out,aN,rfl,c7,xy,rfl,rfl,rfl⟩⟩
  ·refine wh ?_;refine⟨[],[some 3],_,_,_,_,cy ms[j] H.me,t3,cw ?_⟩;refine⟨[],[some 3],_,_,_,_,Ev ms[j] H 1 (bJ ms[j]) cmd om,t3,?_⟩;have mE:said.map az++[]=said.map az:=List.append_nil _;rintro r o' c' (⟨rfl,rfl,rfl⟩|⟨s1,iB,rfl,rfl,rfl⟩)
   ·refine wh ?_;refine⟨[],[some 3],_,_,_,_,fw ms[j],t3,cw ?_⟩;refine⟨[],[some 10],_,_,_,_,dg H,t3,cw ?_⟩;refine⟨[],[],_,_,_,_,gN (aC ms[j]) (aC ms[j]) (bu (by rw[mP];exact cC) _ _) (.refl _) (fun c hc=>(H.bM.2 c hc).1),t3,cw ?_⟩;refine⟨by simp;omega,?_⟩;refine wh ?_;refine sp ?_ ?_<;>intro bl
    ·have bl:_:=bl;have hq:=(congrArg List.length mE).trans (List.length_map (f:=az));have bl:(((_:List (List TV)).length:Nat):Int)>2000:=bl;rw[hq]at bl;omega
    refine wh ?_;refine⟨ps.length - (i+1),?_,om⟩;refine⟨[],[some 0,some 12],_,_,_,⟨tq,.cons (.bB (ft:=[(_,aJ ms[j])]) .one (Lw.of (pg EM)) (.q1 tq)) (.cons (.arr (Lz.of mE)) .nil),by rfl⟩,⟨i+1,ms,said,aN,rfl,(hM.more om),hS,rfl,rfl,rfl⟩⟩
   ·have iZ:=mz H ho iB;have fT:said.map az++s1.out.map az=(said++s1.out).map az:=List.map_append.symm;have c7:=hM.step Nu iZ (fun S hS _=>hS.As Nu (fun h=>absurd rfl h) iB) (sd:=said) (fun _ h=>h);refine wh ?_;have ph:fU (aC s1):=bu (by rw[iZ.l,mP];exact cC) _ _;have EE:=iZ.out;refine⟨[],[some 3],_,_,_,_,fw {s1 with out:=[]},t3,cw ?_⟩;refine⟨[],[some 11],_,_,_,_,dg (iZ.ok.outs []),t3,cw ?_⟩;refine⟨[],[],_,_,_,_,gN (aC ms[j]) (aC s1) ph iZ.kr (fun c hc=>(H.bM.2 c hc).1),t3,cw ?_⟩;refine⟨by simp;omega,?_⟩;refine wh ?_;refine sp ?_ ?_<;>intro bl
    ·refine wh ?_;refine⟨[],[some 0],_,_,_,_,my (ms.set j {s1 with out:=[]}) (by rw[c7.Av];omega) (fun s hs=>(c7.ok hs).kn) (fun s hs=>qL (c7.ok hs)) c7.agree,⟨tq,.cons (.bB (ft:=[(_,aJ {s1 with out:=[]})]) .one (Lw.of ox) (.q1 tq)) .nil,by rfl⟩,?_⟩;rintro r o' c' ⟨rfl,rfl,rfl⟩;refine wh ?_;refine⟨[],[],_,_,_,_,gO,t3,cw ?_⟩;exact⟨[],[],[],.s (.bool true),[],⟨.s Lz.rfl,.nil,rfl⟩,rfl⟩
    have bl:¬_:=bl;have xy:(said++s1.out).length≤2000:=by have hq:=(congrArg List.length fT).trans (List.length_map (f:=az));rw[←hq];omega
    refine wh ?_;refine⟨ps.length - (i+1),?_,om⟩;refine⟨[],[some 0,some 13],_,_,_,⟨tq,.cons (.bB (ft:=[(_,aJ {s1 with out:=[]})]) .one (Lw.of ox) (.q1 tq)) (.cons (.arr (Lz.of fT)) .nil),by rfl⟩,⟨i+1,ms.set j {s1 with out:=[]},said++s1.out,aN,rfl,c7,xy,rfl,rfl,rfl⟩⟩
 have oA:(((said.map az).length:Nat):Int)>0:=oA;rw[List.length_map]at oA;obtain⟨a,Xv,har⟩:∃a:Nat,a<said.length∧Fk .rem .i64 .i64 pi (((said.map az).length:Nat):Int)=some (.int .i64 (a:Int)):=by
  have h1:=Int.emod_nonneg pi (show((said.length:Nat):Int)≠0 by omega);have h2:=Int.emod_lt_of_pos pi (show 0<((said.length:Nat):Int) by omega);refine⟨(pi % (said.length:Nat)).toNat,om,?_⟩;rw[List.length_map,TP om om,Int.toNat_of_nonneg h1]
 refine wh ?_;rw[har];refine wh ?_;cases late with
 |true=>
  refine wh ?_;refine wh ?_;rw[hjr];refine wh ?_;refine⟨⟨om,by rw[List.length_map];omega⟩,?_⟩;refine wh ?_;refine⟨aJ ms[j],gj,?_⟩;refine wh ?_;refine⟨[],[some 3],_,_,_,_,fw ms[j],t3,cw ?_⟩;refine⟨[],[some 5],_,_,_,_,uS,t3,cw ?_⟩;refine sp ?_ ?_<;>intro k0
  ·have k0:knd=0:=k0;subst k0;refine wh ?_;refine sp ?_ ?_<;>intro hz
   ·have hz:(((said.map az).length:Nat):Int)=0:=hz;rw[List.length_map]at hz;omega
   refine wh ?_;refine⟨⟨om,by rw[List.length_map];omega⟩,?_⟩;refine wh ?_;refine⟨az said[a],by simp[Xv],?_⟩;refine wh ?_;have fL:=List.getElem_mem Xv;generalize said[a]=m at fL;obtain⟨RG,RU⟩:=hM.ltr fL;refine sp ?_ ?_<;>intro SC
   ·exact absurd (show(0:Int)=1 from SC) (by decide)
   refine wh ?_;cases KP with
   |true=>
    have AY:∀x∈said,x∈said:=fun _ h=>h;have mE:said.map az++[]=said.map az:=List.append_nil _;have pF:=hS;have fT:∀u:List dr,said.map az++u.map az=(said++u).map az:=fun _=>List.map_append.symm;refine wh ?_;refine sp ?_ ?_<;>intro HC;rotate_left
    ·exact absurd rfl HC
    refine wh ?_;rcases RU with ht|ht
    ·have Aw:=uQ m.to;rw[show Rv m.to=false from decide_eq_false om]at Aw;refine⟨[],[],_,_,_,_,Aw,t3,cw ?_⟩;refine⟨[],[some 3],_,_,_,_,fw ms[j],t3,cw ?_⟩;refine⟨[],[some 9],_,_,_,_,dg H,t3,cw ?_⟩;refine⟨[],[],_,_,_,_,gN (aC ms[j]) (aC ms[j]) (bu (by rw[mP];exact cC) _ _) (.refl _) (fun c hc=>(H.bM.2 c hc).1),t3,cw ?_⟩;refine⟨by simp;omega,?_⟩;refine wh ?_;refine sp ?_ ?_<;>intro bl
     ·have bl:_:=bl;have hq:=(congrArg List.length mE).trans (List.length_map (f:=az));have bl:(((_:List (List TV)).length:Nat):Int)>2000:=bl;rw[hq]at bl;omega
     refine wh ?_;refine⟨ps.length - (i+1),?_,om⟩;refine⟨[],[some 0,some 11],_,_,_,⟨tq,.cons (.bB (ft:=[(_,aJ ms[j])]) .one (Lw.of (pg EM)) (.q1 tq)) (.cons (.arr (Lz.of mE)) .nil),by rfl⟩,⟨i+1,ms,said,aN,rfl,((hM.sub AY).more om),pF,rfl,rfl,rfl⟩⟩
    ·obtain⟨k,hkt⟩:∃k:Nat,m.to=101+k:=⟨(m.to - 101).toNat,om⟩;have Aw:=x5 m.to (ms.map aJ);rw[show Rv m.to=true from decide_eq_true om]at Aw;have AL:k<ms.length:=by omega
     have gk:(ms.map aJ)[(k:Int).toNat]? =some (aJ ms[k]):=by simp[AL]
     have QO:=List.getElem?_eq_getElem AL;have Ax:=List.getElem_mem AL;have Hk:=hM.ok Ax;have JG:=dg Hk;obtain⟨fG,Ay,Xw,Xx,Xy⟩:=hM.Yp _ Ax;have Xz:ms[k].out.length=0:=by rw[fG];rfl
     have XA:IntKind.i64.wrap (m.to - 101)=(k:Int):=by rw[IntWalk.i64_in _ om];omega
     refine⟨[],[some 0],_,_,_,_,Aw,⟨tq,.cons (.bB (ft:=[(_,aJ ms[j])]) .one (Lw.of (pg EM)) (.q1 tq)) .nil,by rfl⟩,?_⟩;rintro r o' c' ⟨rfl,rfl,rfl⟩;refine wh ?_;rw[XA];refine⟨⟨om,by rw[List.length_map];omega⟩,?_⟩;refine wh ?_;refine⟨aJ ms[k],gk,?_⟩;refine wh ?_;refine⟨[],[some 9],_,_,_,_,fw ms[k],t3,cw ?_⟩;refine⟨[],[some 11],_,_,_,_,JG,t3,cw ?_⟩;have AO:m.to>24:=by omega
     refine⟨[],[some 9],_,_,_,_,uP ms[k] Hk m RG AO om,t3,?_⟩;rintro r o' c' (⟨rfl,rfl,rfl⟩|⟨s1,iB,rfl,rfl,rfl⟩)
     ·refine wh ?_;refine⟨[],[some 9],_,_,_,_,fw ms[k],t3,cw ?_⟩;refine⟨[],[some 15],_,_,_,_,dg Hk,t3,cw ?_⟩;refine⟨[],[],_,_,_,_,gN (aC ms[k]) (aC ms[k]) (bu (by rw[Ay];exact cC) _ _) (.refl _) (fun c hc=>(Hk.bM.2 c hc).1),t3,cw ?_⟩;refine⟨by simp;omega,?_⟩;refine wh ?_;refine sp ?_ ?_<;>intro bl
      ·have bl:_:=bl;have hq:=(congrArg List.length mE).trans (List.length_map (f:=az));have bl:(((_:List (List TV)).length:Nat):Int)>2000:=bl;rw[hq]at bl;omega
      refine wh ?_;refine⟨ps.length - (i+1),?_,om⟩;refine⟨[],[some 0,some 17],_,_,_,⟨tq,.cons (.bB (ft:=[(_,aJ ms[k])]) .one (Lw.of (pg AL)) (.q1 tq)) (.cons (.arr (Lz.of mE)) .nil),by rfl⟩,⟨i+1,ms,said,aN,rfl,((hM.sub AY).more om),pF,rfl,rfl,rfl⟩⟩
     ·have iZ:=mz Hk fG iB;have c7:=hM.step QO iZ (fun S hS hL=>hS.As QO (fun _=>hL m fL) iB) (sd:=said) AY;have fT:=fT s1.out;refine wh ?_;have ph:fU (aC s1):=bu (by rw[iZ.l,Ay];exact cC) _ _;have EE:=iZ.out;refine⟨[],[some 9],_,_,_,_,fw {s1 with out:=[]},t3,cw ?_⟩;refine⟨[],[some 16],_,_,_,_,dg (iZ.ok.outs []),t3,cw ?_⟩;refine⟨[],[],_,_,_,_,gN (aC ms[k]) (aC s1) ph iZ.kr (fun c hc=>(Hk.bM.2 c hc).1),t3,cw ?_⟩;refine⟨by simp;omega,?_⟩;refine wh ?_;refine sp ?_ ?_<;>intro bl
      ·refine wh ?_;refine⟨[],[some 0],_,_,_,_,my (ms.set k {s1 with out:=[]}) (by rw[c7.Av];omega) (fun s hs=>(c7.ok hs).kn) (fun s hs=>qL (c7.ok hs)) c7.agree,⟨tq,.cons (.bB (ft:=[(_,aJ {s1 with out:=[]})]) .one (Lw.of ox) (.q1 tq)) .nil,by rfl⟩,?_⟩;rintro r o' c' ⟨rfl,rfl,rfl⟩;refine wh ?_;refine⟨[],[],_,_,_,_,gO,t3,cw ?_⟩;exact⟨[],[],[],.s (.bool true),[],⟨.s Lz.rfl,.nil,rfl⟩,rfl⟩
      have bl:¬_:=bl;have xy:(said++s1.out).length≤2000:=by have hq:=(congrArg List.length fT).trans (List.length_map (f:=az));rw[←hq];omega
      refine wh ?_;refine⟨ps.length - (i+1),?_,om⟩;refine⟨[],[some 0,some 18],_,_,_,⟨tq,.cons (.bB (ft:=[(_,aJ {s1 with out:=[]})]) .one (Lw.of ox) (.q1 tq)) (.cons (.arr (Lz.of fT)) .nil),by rfl⟩,⟨i+1,ms.set k {s1 with out:=[]},said++s1.out,aN,rfl,c7,xy,rfl,rfl,rfl⟩⟩
   |false=>
    refine wh ?_;have XB:IntKind.i64.wrap ((a:Int)+1)=(a:Int)+1:=IntWalk.i64_in _ om;refine⟨⟨om,om,by rw[List.length_map];omega⟩,.inl ?_⟩;refine wh ?_;refine⟨by simp;omega,?_⟩;refine wh ?_;rw[XB];refine⟨⟨om,by rw[List.length_map];omega,om⟩,.inl ?_⟩;refine wh ?_;refine⟨by simp;omega,?_⟩;refine wh ?_;obtain⟨sd,wm⟩:∃sd:List dr,sd=said.take a++said.drop (a+1):=⟨_,rfl⟩;have AY:∀x∈sd,x∈said:=by rw[wm];exact fun x h=>Ew h
    have pF:sd.length≤2000:=by rw[wm,List.length_append,List.length_take,List.length_drop];omega
    have mE:=rmN wm;have fT:=rmS wm;refine sp ?_ ?_<;>intro HC;rotate_left
    ·exact absurd rfl HC
    refine wh ?_;rcases RU with ht|ht
    ·have Aw:=uQ m.to;rw[show Rv m.to=false from decide_eq_false om]at Aw;refine⟨[],[],_,_,_,_,Aw,t3,cw ?_⟩;refine⟨[],[some 3],_,_,_,_,fw ms[j],t3,cw ?_⟩;refine⟨[],[some 11],_,_,_,_,dg H,t3,cw ?_⟩;refine⟨[],[],_,_,_,_,gN (aC ms[j]) (aC ms[j]) (bu (by rw[mP];exact cC) _ _) (.refl _) (fun c hc=>(H.bM.2 c hc).1),t3,cw ?_⟩;refine⟨by simp;omega,?_⟩;refine wh ?_;refine sp ?_ ?_<;>intro bl
     ·have bl:_:=bl;have hq:=(congrArg List.length mE).trans (List.length_map (f:=az));have bl:(((_:List (List TV)).length:Nat):Int)>2000:=bl;rw[hq]at bl;omega
     refine wh ?_;refine⟨ps.length - (i+1),?_,om⟩;refine⟨[],[some 0,some 13],_,_,_,⟨tq,.cons (.bB (ft:=[(_,aJ ms[j])]) .one (Lw.of (pg EM)) (.q1 tq)) (.cons (.arr (Lz.of mE)) .nil),by rfl⟩,⟨i+1,ms,sd,aN,rfl,((hM.sub AY).more om),pF,rfl,rfl,rfl⟩⟩
    ·obtain⟨k,hkt⟩:∃k:Nat,m.to=101+k:=⟨(m.to - 101).toNat,om⟩;have Aw:=x5 m.to (ms.map aJ);rw[show Rv m.to=true from decide_eq_true om]at Aw;have AL:k<ms.length:=by omega
     have gk:(ms.map aJ)[(k:Int).toNat]? =some (aJ ms[k]):=by simp[AL]
     have QO:=List.getElem?_eq_getElem AL;have Ax:=List.getElem_mem AL;have Hk:=hM.ok Ax;have JG:=dg Hk;obtain⟨fG,Ay,Xw,Xx,Xy⟩:=hM.Yp _ Ax;have Xz:ms[k].out.length=0:=by rw[fG];rfl
     have XA:IntKind.i64.wrap (m.to - 101)=(k:Int):=by rw[IntWalk.i64_in _ om];omega
     refine⟨[],[some 0],_,_,_,_,Aw,⟨tq,.cons (.bB (ft:=[(_,aJ ms[j])]) .one (Lw.of (pg EM)) (.q1 tq)) .nil,by rfl⟩,?_⟩;rintro r o' c' ⟨rfl,rfl,rfl⟩;refine wh ?_;rw[XA];refine⟨⟨om,by rw[List.length_map];omega⟩,?_⟩;refine wh ?_;refine⟨aJ ms[k],gk,?_⟩;refine wh ?_;refine⟨[],[some 11],_,_,_,_,fw ms[k],t3,cw ?_⟩;refine⟨[],[some 13],_,_,_,_,JG,t3,cw ?_⟩;have AO:m.to>24:=by omega
     refine⟨[],[some 11],_,_,_,_,uP ms[k] Hk m RG AO om,t3,?_⟩;rintro r o' c' (⟨rfl,rfl,rfl⟩|⟨s1,iB,rfl,rfl,rfl⟩)
     ·refine wh ?_;refine⟨[],[some 11],_,_,_,_,fw ms[k],t3,cw ?_⟩;refine⟨[],[some 17],_,_,_,_,dg Hk,t3,cw ?_⟩;refine⟨[],[],_,_,_,_,gN (aC ms[k]) (aC ms[k]) (bu (by rw[Ay];exact cC) _ _) (.refl _) (fun c hc=>(Hk.bM.2 c hc).1),t3,cw ?_⟩;refine⟨by simp;omega,?_⟩;refine wh ?_;refine sp ?_ ?_<;>intro bl
      ·have bl:_:=bl;have hq:=(congrArg List.length mE).trans (List.length_map (f:=az));have bl:(((_:List (List TV)).length:Nat):Int)>2000:=bl;rw[hq]at bl;omega
      refine wh ?_;refine⟨ps.length - (i+1),?_,om⟩;refine⟨[],[some 0,some 19],_,_,_,⟨tq,.cons (.bB (ft:=[(_,aJ ms[k])]) .one (Lw.of (pg AL)) (.q1 tq)) (.cons (.arr (Lz.of mE)) .nil),by rfl⟩,⟨i+1,ms,sd,aN,rfl,((hM.sub AY).more om),pF,rfl,rfl,rfl⟩⟩
     ·have iZ:=mz Hk fG iB;have c7:=hM.step QO iZ (fun S hS hL=>hS.As QO (fun _=>hL m fL) iB) (sd:=sd) AY;have fT:=fT s1.out;refine wh ?_;have ph:fU (aC s1):=bu (by rw[iZ.l,Ay];exact cC) _ _;have EE:=iZ.out;refine⟨[],[some 11],_,_,_,_,fw {s1 with out:=[]},t3,cw ?_⟩;refine⟨[],[some 18],_,_,_,_,dg (iZ.ok.outs []),t3,cw ?_⟩;refine⟨[],[],_,_,_,_,gN (aC ms[k]) (aC s1) ph iZ.kr (fun c hc=>(Hk.bM.2 c hc).1),t3,cw ?_⟩;refine⟨by simp;omega,?_⟩;refine wh ?_;refine sp ?_ ?_<;>intro bl
      ·refine wh ?_;refine⟨[],[some 0],_,_,_,_,my (ms.set k {s1 with out:=[]}) (by rw[c7.Av];omega) (fun s hs=>(c7.ok hs).kn) (fun s hs=>qL (c7.ok hs)) c7.agree,⟨tq,.cons (.bB (ft:=[(_,aJ {s1 with out:=[]})]) .one (Lw.of ox) (.q1 tq)) .nil,by rfl⟩,?_⟩;rintro r o' c' ⟨rfl,rfl,rfl⟩;refine wh ?_;refine⟨[],[],_,_,_,_,gO,t3,cw ?_⟩;exact⟨[],[],[],.s (.bool true),[],⟨.s Lz.rfl,.nil,rfl⟩,rfl⟩
      have bl:¬_:=bl;have xy:(sd++s1.out).length≤2000:=by have hq:=(congrArg List.length fT).trans (List.length_map (f:=az));rw[←hq];omega
      refine wh ?_;refine⟨ps.length - (i+1),?_,om⟩;refine⟨[],[some 0,some 20],_,_,_,⟨tq,.cons (.bB (ft:=[(_,aJ {s1 with out:=[]})]) .one (Lw.of ox) (.q1 tq)) (.cons (.arr (Lz.of fT)) .nil),by rfl⟩,⟨i+1,ms.set k {s1 with out:=[]},sd++s1.out,aN,rfl,c7,xy,rfl,rfl,rfl⟩⟩
  refine wh ?_;refine sp ?_ ?_<;>intro k1
  ·have k1:knd=1:=k1;subst k1;refine wh ?_;refine sp ?_ ?_<;>intro hz
   ·have hz:(((said.map az).length:Nat):Int)=0:=hz;rw[List.length_map]at hz;omega
   refine wh ?_;refine⟨⟨om,by rw[List.length_map];omega⟩,?_⟩;refine wh ?_;refine⟨az said[a],by simp[Xv],?_⟩;refine wh ?_;refine sp ?_ ?_<;>intro SC;rotate_left
   ·exact absurd rfl SC
   refine wh ?_;have XB:IntKind.i64.wrap ((a:Int)+1)=(a:Int)+1:=IntWalk.i64_in _ om;refine⟨⟨om,om,by rw[List.length_map];omega⟩,.inl ?_⟩;refine wh ?_;refine⟨by simp;omega,?_⟩;refine wh ?_;rw[XB];refine⟨⟨om,by rw[List.length_map];omega,om⟩,.inl ?_⟩;refine wh ?_;refine⟨by simp;omega,?_⟩;refine wh ?_;obtain⟨sd,wm⟩:∃sd:List dr,sd=said.take a++said.drop (a+1):=⟨_,rfl⟩;have AY:∀x∈sd,x∈said:=by rw[wm];exact fun x h=>Ew h
   have pF:sd.length≤2000:=by rw[wm,List.length_append,List.length_take,List.length_drop];omega
   have mE:=rmN wm;have fT:=rmS wm;refine sp ?_ ?_<;>intro HC
   ·exact absurd (show(1:Int)=0 from HC) (by decide)
   refine wh ?_;refine⟨[],[some 3],_,_,_,_,fw ms[j],t3,cw ?_⟩;refine⟨[],[some 11],_,_,_,_,dg H,t3,cw ?_⟩;refine⟨[],[],_,_,_,_,gN (aC ms[j]) (aC ms[j]) (bu (by rw[mP];exact cC) _ _) (.refl _) (fun c hc=>(H.bM.2 c hc).1),t3,cw ?_⟩;refine⟨by simp;omega,?_⟩;refine wh ?_;refine sp ?_ ?_<;>intro bl
   ·have bl:_:=bl;have hq:=(congrArg List.length mE).trans (List.length_map (f:=az));have bl:(((_:List (List TV)).length:Nat):Int)>2000:=bl;rw[hq]at bl;omega
   refine wh ?_;refine⟨ps.length - (i+1),?_,om⟩;refine⟨[],[some 0,some 13],_,_,_,⟨tq,.cons (.bB (ft:=[(_,aJ ms[j])]) .one (Lw.of (pg EM)) (.q1 tq)) (.cons (.arr (Lz.of mE)) .nil),by rfl⟩,⟨i+1,ms,sd,aN,rfl,((hM.sub AY).more om),pF,rfl,rfl,rfl⟩⟩
  refine wh ?_;refine sp ?_ ?_<;>intro k2
  ·refine wh ?_;refine⟨[],[some 3],_,_,_,_,QL ms[j] H (by rw[mP];exact AT) om om om,t3,?_⟩;rintro r o' c' ⟨s1,iB,rfl,rfl,rfl⟩;have iZ:=Au H ho iB;have fT:said.map az++s1.out.map az=(said++s1.out).map az:=List.map_append.symm;have c7:=hM.step Nu iZ (fun S hS _=>hS.QM Nu iB) (sd:=said) (fun _ h=>h);refine wh ?_;have ph:fU (aC s1):=bu (by rw[iZ.l,mP];exact cC) _ _;have EE:=iZ.out;refine⟨[],[some 3],_,_,_,_,fw {s1 with out:=[]},t3,cw ?_⟩;refine⟨[],[some 10],_,_,_,_,dg (iZ.ok.outs []),t3,cw ?_⟩;refine⟨[],[],_,_,_,_,gN (aC ms[j]) (aC s1) ph iZ.kr (fun c hc=>(H.bM.2 c hc).1),t3,cw ?_⟩
   refine⟨by simp;omega,?_⟩;refine wh ?_;refine sp ?_ ?_<;>intro bl
   ·refine wh ?_;refine⟨[],[some 0],_,_,_,_,my (ms.set j {s1 with out:=[]}) (by rw[c7.Av];omega) (fun s hs=>(c7.ok hs).kn) (fun s hs=>qL (c7.ok hs)) c7.agree,⟨tq,.cons (.bB (ft:=[(_,aJ {s1 with out:=[]})]) .one (Lw.of ox) (.q1 tq)) .nil,by rfl⟩,?_⟩;rintro r o' c' ⟨rfl,rfl,rfl⟩;refine wh ?_;refine⟨[],[],_,_,_,_,gO,t3,cw ?_⟩;exact⟨[],[],[],.s (.bool true),[],⟨.s Lz.rfl,.nil,rfl⟩,rfl⟩
   have bl:¬_:=bl;have xy:(said++s1.out).length≤2000:=by have hq:=(congrArg List.length fT).trans (List.length_map (f:=az));rw[←hq];omega
   refine wh ?_;refine⟨ps.length - (i+1),?_,om⟩;refine⟨[],[some 0,some 12],_,_,_,⟨tq,.cons (.bB (ft:=[(_,aJ {s1 with out:=[]})]) .one (Lw.of ox) (.q1 tq)) (.cons (.arr (Lz.of fT)) .nil),by rfl⟩,⟨i+1,ms.set j {s1 with out:=[]},said++s1.out,aN,rfl,c7,xy,rfl,rfl,rfl⟩⟩
  ·refine wh ?_;refine⟨[],[some 3],_,_,_,_,cy ms[j] H.me,t3,cw ?_⟩;refine⟨[],[some 3],_,_,_,_,Ev ms[j] H 1 (bJ ms[j]) cmd om,t3,?_⟩;have mE:said.map az++[]=said.map az:=List.append_nil _;rintro r o' c' (⟨rfl,rfl,rfl⟩|⟨s1,iB,rfl,rfl,rfl⟩)
   ·refine wh ?_;refine⟨[],[some 3],_,_,_,_,fw ms[j],t3,cw ?_⟩;refine⟨[],[some 10],_,_,_,_,dg H,t3,cw ?_⟩;refine⟨[],[],_,_,_,_,gN (aC ms[j]) (aC ms[j]) (bu (by rw[mP];exact cC) _ _) (.refl _) (fun c hc=>(H.bM.2 c hc).1),t3,cw ?_⟩;refine⟨by simp;omega,?_⟩;refine wh ?_;refine sp ?_ ?_<;>intro bl
    ·have bl:_:=bl;have hq:=(congrArg List.length mE).trans (List.length_map (f:=az));have bl:(((_:List (List TV)).length:Nat):Int)>2000:=bl;rw[hq]at bl;omega
    refine wh ?_;refine⟨ps.length - (i+1),?_,om⟩;refine⟨[],[some 0,some 12],_,_,_,⟨tq,.cons (.bB (ft:=[(_,aJ ms[j])]) .one (Lw.of (pg EM)) (.q1 tq)) (.cons (.arr (Lz.of mE)) .nil),by rfl⟩,⟨i+1,ms,said,aN,rfl,(hM.more om),hS,rfl,rfl,rfl⟩⟩
   ·have iZ:=mz H ho iB;have fT:said.map az++s1.out.map az=(said++s1.out).map az:=List.map_append.symm;have c7:=hM.step Nu iZ (fun S hS _=>hS.As Nu (fun h=>absurd rfl h) iB) (sd:=said) (fun _ h=>h);refine wh ?_;have ph:fU (aC s1):=bu (by rw[iZ.l,mP];exact cC) _ _;have EE:=iZ.out;refine⟨[],[some 3],_,_,_,_,fw {s1 with out:=[]},t3,cw ?_⟩;refine⟨[],[some 11],_,_,_,_,dg (iZ.ok.outs []),t3,cw ?_⟩;refine⟨[],[],_,_,_,_,gN (aC ms[j]) (aC s1) ph iZ.kr (fun c hc=>(H.bM.2 c hc).1),t3,cw ?_⟩;refine⟨by simp;omega,?_⟩;refine wh ?_;refine sp ?_ ?_<;>intro bl
    ·refine wh ?_;refine⟨[],[some 0],_,_,_,_,my (ms.set j {s1 with out:=[]}) (by rw[c7.Av];omega) (fun s hs=>(c7.ok hs).kn) (fun s hs=>qL (c7.ok hs)) c7.agree,⟨tq,.cons (.bB (ft:=[(_,aJ {s1 with out:=[]})]) .one (Lw.of ox) (.q1 tq)) .nil,by rfl⟩,?_⟩;rintro r o' c' ⟨rfl,rfl,rfl⟩;refine wh ?_;refine⟨[],[],_,_,_,_,gO,t3,cw ?_⟩;exact⟨[],[],[],.s (.bool true),[],⟨.s Lz.rfl,.nil,rfl⟩,rfl⟩
    have bl:¬_:=bl;have xy:(said++s1.out).length≤2000:=by have hq:=(congrArg List.length fT).trans (List.length_map (f:=az));rw[←hq];omega
    refine wh ?_;refine⟨ps.length - (i+1),?_,om⟩;refine⟨[],[some 0,some 13],_,_,_,⟨tq,.cons (.bB (ft:=[(_,aJ {s1 with out:=[]})]) .one (Lw.of ox) (.q1 tq)) (.cons (.arr (Lz.of fT)) .nil),by rfl⟩,⟨i+1,ms.set j {s1 with out:=[]},said++s1.out,aN,rfl,c7,xy,rfl,rfl,rfl⟩⟩
 |false=>
  refine wh ?_;rw[TP om (by split<;>omega)];have J5:0<(if(10:Int)<(((said.map az).length:Nat):Int)then(10:Int)else(((said.map az).length:Nat):Int))∧(if(10:Int)<(((said.map az).length:Nat):Int)then(10:Int)else(((said.map az).length:Nat):Int))≤said.length:=by
   rw[List.length_map];split<;>omega
  generalize (if(10:Int)<(((said.map az).length:Nat):Int)then(10:Int)else(((said.map az).length:Nat):Int))=mn at J5 ⊢;have Az:=Int.emod_nonneg pi (show mn≠0 by omega);have qQ:=Int.emod_lt_of_pos pi J5.1;refine wh ?_;have hlen:(((said.map az).length:Nat):Int)=said.length:=by rw[List.length_map]
  have hw1:IntKind.i64.wrap ((((said.map az).length:Nat):Int) - 1)=(((said.map az).length:Nat):Int) - 1:=IntWalk.i64_in _ om;rw[hw1];have hw2:IntKind.i64.wrap ((((said.map az).length:Nat):Int) - 1 - pi % mn)=(((said.map az).length:Nat):Int) - 1 - pi % mn:=IntWalk.i64_in _ om;rw[hw2];obtain⟨a,ha⟩:∃a:Nat,(((said.map az).length:Nat):Int) - 1 - pi % mn=a:=⟨((((said.map az).length:Nat):Int) - 1 - pi % mn).toNat,om⟩;have Xv:a<said.length:=by omega
  rw[ha];refine wh ?_;rw[hjr];refine wh ?_;refine⟨⟨om,by rw[List.length_map];omega⟩,?_⟩;refine wh ?_;refine⟨aJ ms[j],gj,?_⟩;refine wh ?_;refine⟨[],[some 3],_,_,_,_,fw ms[j],t3,cw ?_⟩;refine⟨[],[some 5],_,_,_,_,uS,t3,cw ?_⟩;refine sp ?_ ?_<;>intro k0
  ·have k0:knd=0:=k0;subst k0;refine wh ?_;refine sp ?_ ?_<;>intro hz
   ·have hz:(((said.map az).length:Nat):Int)=0:=hz;rw[List.length_map]at hz;omega
   refine wh ?_;refine⟨⟨om,by rw[List.length_map];omega⟩,?_⟩;refine wh ?_;refine⟨az said[a],by simp[Xv],?_⟩;refine wh ?_;have fL:=List.getElem_mem Xv;generalize said[a]=m at fL;obtain⟨RG,RU⟩:=hM.ltr fL;refine sp ?_ ?_<;>intro SC
   ·exact absurd (show(0:Int)=1 from SC) (by decide)
   refine wh ?_;cases KP with
   |true=>
    have AY:∀x∈said,x∈said:=fun _ h=>h;have mE:said.map az++[]=said.map az:=List.append_nil _;have pF:=hS;have fT:∀u:List dr,said.map az++u.map az=(said++u).map az:=fun _=>List.map_append.symm;refine wh ?_;refine sp ?_ ?_<;>intro HC;rotate_left
    ·exact absurd rfl HC
    refine wh ?_;rcases RU with ht|ht
    ·have Aw:=uQ m.to;rw[show Rv m.to=false from decide_eq_false om]at Aw;refine⟨[],[],_,_,_,_,Aw,t3,cw ?_⟩;refine⟨[],[some 3],_,_,_,_,fw ms[j],t3,cw ?_⟩;refine⟨[],[some 9],_,_,_,_,dg H,t3,cw ?_⟩;refine⟨[],[],_,_,_,_,gN (aC ms[j]) (aC ms[j]) (bu (by rw[mP];exact cC) _ _) (.refl _) (fun c hc=>(H.bM.2 c hc).1),t3,cw ?_⟩;refine⟨by simp;omega,?_⟩;refine wh ?_;refine sp ?_ ?_<;>intro bl
     ·have bl:_:=bl;have hq:=(congrArg List.length mE).trans (List.length_map (f:=az));have bl:(((_:List (List TV)).length:Nat):Int)>2000:=bl;rw[hq]at bl;omega
     refine wh ?_;refine⟨ps.length - (i+1),?_,om⟩;refine⟨[],[some 0,some 11],_,_,_,⟨tq,.cons (.bB (ft:=[(_,aJ ms[j])]) .one (Lw.of (pg EM)) (.q1 tq)) (.cons (.arr (Lz.of mE)) .nil),by rfl⟩,⟨i+1,ms,said,aN,rfl,((hM.sub AY).more om),pF,rfl,rfl,rfl⟩⟩
    ·obtain⟨k,hkt⟩:∃k:Nat,m.to=101+k:=⟨(m.to - 101).toNat,om⟩;have Aw:=x5 m.to (ms.map aJ);rw[show Rv m.to=true from decide_eq_true om]at Aw;have AL:k<ms.length:=by omega
     have gk:(ms.map aJ)[(k:Int).toNat]? =some (aJ ms[k]):=by simp[AL]
     have QO:=List.getElem?_eq_getElem AL;have Ax:=List.getElem_mem AL;have Hk:=hM.ok Ax;have JG:=dg Hk;obtain⟨fG,Ay,Xw,Xx,Xy⟩:=hM.Yp _ Ax;have Xz:ms[k].out.length=0:=by rw[fG];rfl
     have XA:IntKind.i64.wrap (m.to - 101)=(k:Int):=by rw[IntWalk.i64_in _ om];omega
     refine⟨[],[some 0],_,_,_,_,Aw,⟨tq,.cons (.bB (ft:=[(_,aJ ms[j])]) .one (Lw.of (pg EM)) (.q1 tq)) .nil,by rfl⟩,?_⟩;rintro r o' c' ⟨rfl,rfl,rfl⟩;refine wh ?_;rw[XA];refine⟨⟨om,by rw[List.length_map];omega⟩,?_⟩;refine wh ?_;refine⟨aJ ms[k],gk,?_⟩;refine wh ?_;refine⟨[],[some 9],_,_,_,_,fw ms[k],t3,cw ?_⟩;refine⟨[],[some 11],_,_,_,_,JG,t3,cw ?_⟩;have AO:m.to>24:=by omega
     refine⟨[],[some 9],_,_,_,_,uP ms[k] Hk m RG AO om,t3,?_⟩;rintro r o' c' (⟨rfl,rfl,rfl⟩|⟨s1,iB,rfl,rfl,rfl⟩)
     ·refine wh ?_;refine⟨[],[some 9],_,_,_,_,fw ms[k],t3,cw ?_⟩;refine⟨[],[some 15],_,_,_,_,dg Hk,t3,cw ?_⟩;refine⟨[],[],_,_,_,_,gN (aC ms[k]) (aC ms[k]) (bu (by rw[Ay];exact cC) _ _) (.refl _) (fun c hc=>(Hk.bM.2 c hc).1),t3,cw ?_⟩;refine⟨by simp;omega,?_⟩;refine wh ?_;refine sp ?_ ?_<;>intro bl
      ·have bl:_:=bl;have hq:=(congrArg List.length mE).trans (List.length_map (f:=az));have bl:(((_:List (List TV)).length:Nat):Int)>2000:=bl;rw[hq]at bl;omega
      refine wh ?_;refine⟨ps.length - (i+1),?_,om⟩;refine⟨[],[some 0,some 17],_,_,_,⟨tq,.cons (.bB (ft:=[(_,aJ ms[k])]) .one (Lw.of (pg AL)) (.q1 tq)) (.cons (.arr (Lz.of mE)) .nil),by rfl⟩,⟨i+1,ms,said,aN,rfl,((hM.sub AY).more om),pF,rfl,rfl,rfl⟩⟩
     ·have iZ:=mz Hk fG iB;have c7:=hM.step QO iZ (fun S hS hL=>hS.As QO (fun _=>hL m fL) iB) (sd:=said) AY;have fT:=fT s1.out;refine wh ?_;have ph:fU (aC s1):=bu (by rw[iZ.l,Ay];exact cC) _ _;have EE:=iZ.out;refine⟨[],[some 9],_,_,_,_,fw {s1 with out:=[]},t3,cw ?_⟩;refine⟨[],[some 16],_,_,_,_,dg (iZ.ok.outs []),t3,cw ?_⟩;refine⟨[],[],_,_,_,_,gN (aC ms[k]) (aC s1) ph iZ.kr (fun c hc=>(Hk.bM.2 c hc).1),t3,cw ?_⟩;refine⟨by simp;omega,?_⟩;refine wh ?_;refine sp ?_ ?_<;>intro bl
      ·refine wh ?_;refine⟨[],[some 0],_,_,_,_,my (ms.set k {s1 with out:=[]}) (by rw[c7.Av];omega) (fun s hs=>(c7.ok hs).kn) (fun s hs=>qL (c7.ok hs)) c7.agree,⟨tq,.cons (.bB (ft:=[(_,aJ {s1 with out:=[]})]) .one (Lw.of ox) (.q1 tq)) .nil,by rfl⟩,?_⟩;rintro r o' c' ⟨rfl,rfl,rfl⟩;refine wh ?_;refine⟨[],[],_,_,_,_,gO,t3,cw ?_⟩;exact⟨[],[],[],.s (.bool true),[],⟨.s Lz.rfl,.nil,rfl⟩,rfl⟩
      have bl:¬_:=bl;have xy:(said++s1.out).length≤2000:=by have hq:=(congrArg List.length fT).trans (List.length_map (f:=az));rw[←hq];omega
      refine wh ?_;refine⟨ps.length - (i+1),?_,om⟩;refine⟨[],[some 0,some 18],_,_,_,⟨tq,.cons (.bB (ft:=[(_,aJ {s1 with out:=[]})]) .one (Lw.of ox) (.q1 tq)) (.cons (.arr (Lz.of fT)) .nil),by rfl⟩,⟨i+1,ms.set k {s1 with out:=[]},said++s1.out,aN,rfl,c7,xy,rfl,rfl,rfl⟩⟩
   |false=>
    refine wh ?_;have XB:IntKind.i64.wrap ((a:Int)+1)=(a:Int)+1:=IntWalk.i64_in _ om;refine⟨⟨om,om,by rw[List.length_map];omega⟩,.inl ?_⟩;refine wh ?_;refine⟨by simp;omega,?_⟩;refine wh ?_;rw[XB];refine⟨⟨om,by rw[List.length_map];omega,om⟩,.inl ?_⟩;refine wh ?_;refine⟨by simp;omega,?_⟩;refine wh ?_;obtain⟨sd,wm⟩:∃sd:List dr,sd=said.take a++said.drop (a+1):=⟨_,rfl⟩;have AY:∀x∈sd,x∈said:=by rw[wm];exact fun x h=>Ew h
    have pF:sd.length≤2000:=by rw[wm,List.length_append,List.length_take,List.length_drop];omega
    have mE:=rmN wm;have fT:=rmS wm;refine sp ?_ ?_<;>intro HC;rotate_left
    ·exact absurd rfl HC
    refine wh ?_;rcases RU with ht|ht
    ·have Aw:=uQ m.to;rw[show Rv m.to=false from decide_eq_false om]at Aw;refine⟨[],[],_,_,_,_,Aw,t3,cw ?_⟩;refine⟨[],[some 3],_,_,_,_,fw ms[j],t3,cw ?_⟩;refine⟨[],[some 11],_,_,_,_,dg H,t3,cw ?_⟩;refine⟨[],[],_,_,_,_,gN (aC ms[j]) (aC ms[j]) (bu (by rw[mP];exact cC) _ _) (.refl _) (fun c hc=>(H.bM.2 c hc).1),t3,cw ?_⟩;refine⟨by simp;omega,?_⟩;refine wh ?_;refine sp ?_ ?_<;>intro bl
     ·have bl:_:=bl;have hq:=(congrArg List.length mE).trans (List.length_map (f:=az));have bl:(((_:List (List TV)).length:Nat):Int)>2000:=bl;rw[hq]at bl;omega
     refine wh ?_;refine⟨ps.length - (i+1),?_,om⟩;refine⟨[],[some 0,some 13],_,_,_,⟨tq,.cons (.bB (ft:=[(_,aJ ms[j])]) .one (Lw.of (pg EM)) (.q1 tq)) (.cons (.arr (Lz.of mE)) .nil),by rfl⟩,⟨i+1,ms,sd,aN,rfl,((hM.sub AY).more om),pF,rfl,rfl,rfl⟩⟩
    ·obtain⟨k,hkt⟩:∃k:Nat,m.to=101+k:=⟨(m.to - 101).toNat,om⟩;have Aw:=x5 m.to (ms.map aJ);rw[show Rv m.to=true from decide_eq_true om]at Aw;have AL:k<ms.length:=by omega
     have gk:(ms.map aJ)[(k:Int).toNat]? =some (aJ ms[k]):=by simp[AL]
     have QO:=List.getElem?_eq_getElem AL;have Ax:=List.getElem_mem AL;have Hk:=hM.ok Ax;have JG:=dg Hk;obtain⟨fG,Ay,Xw,Xx,Xy⟩:=hM.Yp _ Ax;have Xz:ms[k].out.length=0:=by rw[fG];rfl
     have XA:IntKind.i64.wrap (m.to - 101)=(k:Int):=by rw[IntWalk.i64_in _ om];omega
     refine⟨[],[some 0],_,_,_,_,Aw,⟨tq,.cons (.bB (ft:=[(_,aJ ms[j])]) .one (Lw.of (pg EM)) (.q1 tq)) .nil,by rfl⟩,?_⟩;rintro r o' c' ⟨rfl,rfl,rfl⟩;refine wh ?_;rw[XA];refine⟨⟨om,by rw[List.length_map];omega⟩,?_⟩;refine wh ?_;refine⟨aJ ms[k],gk,?_⟩;refine wh ?_;refine⟨[],[some 11],_,_,_,_,fw ms[k],t3,cw ?_⟩;refine⟨[],[some 13],_,_,_,_,JG,t3,cw ?_⟩;have AO:m.to>24:=by omega
     refine⟨[],[some 11],_,_,_,_,uP ms[k] Hk m RG AO om,t3,?_⟩;rintro r o' c' (⟨rfl,rfl,rfl⟩|⟨s1,iB,rfl,rfl,rfl⟩)
     ·refine wh ?_;refine⟨[],[some 11],_,_,_,_,fw ms[k],t3,cw ?_⟩;refine⟨[],[some 17],_,_,_,_,dg Hk,t3,cw ?_⟩;refine⟨[],[],_,_,_,_,gN (aC ms[k]) (aC ms[k]) (bu (by rw[Ay];exact cC) _ _) (.refl _) (fun c hc=>(Hk.bM.2 c hc).1),t3,cw ?_⟩;refine⟨by simp;omega,?_⟩;refine wh ?_;refine sp ?_ ?_<;>intro bl
      ·have bl:_:=bl;have hq:=(congrArg List.length mE).trans (List.length_map (f:=az));have bl:(((_:List (List TV)).length:Nat):Int)>2000:=bl;rw[hq]at bl;omega
      refine wh ?_;refine⟨ps.length - (i+1),?_,om⟩;refine⟨[],[some 0,some 19],_,_,_,⟨tq,.cons (.bB (ft:=[(_,aJ ms[k])]) .one (Lw.of (pg AL)) (.q1 tq)) (.cons (.arr (Lz.of mE)) .nil),by rfl⟩,⟨i+1,ms,sd,aN,rfl,((hM.sub AY).more om),pF,rfl,rfl,rfl⟩⟩
     ·have iZ:=mz Hk fG iB;have c7:=hM.step QO iZ (fun S hS hL=>hS.As QO (fun _=>hL m fL) iB) (sd:=sd) AY;have fT:=fT s1.out;refine wh ?_;have ph:fU (aC s1):=bu (by rw[iZ.l,Ay];exact cC) _ _;have EE:=iZ.out;refine⟨[],[some 11],_,_,_,_,fw {s1 with out:=[]},t3,cw ?_⟩;refine⟨[],[some 18],_,_,_,_,dg (iZ.ok.outs []),t3,cw ?_⟩;refine⟨[],[],_,_,_,_,gN (aC ms[k]) (aC s1) ph iZ.kr (fun c hc=>(Hk.bM.2 c hc).1),t3,cw ?_⟩;refine⟨by simp;omega,?_⟩;refine wh ?_;refine sp ?_ ?_<;>intro bl
      ·refine wh ?_;refine⟨[],[some 0],_,_,_,_,my (ms.set k {s1 with out:=[]}) (by rw[c7.Av];omega) (fun s hs=>(c7.ok hs).kn) (fun s hs=>qL (c7.ok hs)) c7.agree,⟨tq,.cons (.bB (ft:=[(_,aJ {s1 with out:=[]})]) .one (Lw.of ox) (.q1 tq)) .nil,by rfl⟩,?_⟩;rintro r o' c' ⟨rfl,rfl,rfl⟩;refine wh ?_;refine⟨[],[],_,_,_,_,gO,t3,cw ?_⟩;exact⟨[],[],[],.s (.bool true),[],⟨.s Lz.rfl,.nil,rfl⟩,rfl⟩
      have bl:¬_:=bl;have xy:(sd++s1.out).length≤2000:=by have hq:=(congrArg List.length fT).trans (List.length_map (f:=az));rw[←hq];omega
      refine wh ?_;refine⟨ps.length - (i+1),?_,om⟩;refine⟨[],[some 0,some 20],_,_,_,⟨tq,.cons (.bB (ft:=[(_,aJ {s1 with out:=[]})]) .one (Lw.of ox) (.q1 tq)) (.cons (.arr (Lz.of fT)) .nil),by rfl⟩,⟨i+1,ms.set k {s1 with out:=[]},sd++s1.out,aN,rfl,c7,xy,rfl,rfl,rfl⟩⟩
  refine wh ?_;refine sp ?_ ?_<;>intro k1
  ·have k1:knd=1:=k1;subst k1;refine wh ?_;refine sp ?_ ?_<;>intro hz
   ·have hz:(((said.map az).length:Nat):Int)=0:=hz;rw[List.length_map]at hz;omega
   refine wh ?_;refine⟨⟨om,by rw[List.length_map];omega⟩,?_⟩;refine wh ?_;refine⟨az said[a],by simp[Xv],?_⟩;refine wh ?_;refine sp ?_ ?_<;>intro SC;rotate_left
   ·exact absurd rfl SC
   refine wh ?_;have XB:IntKind.i64.wrap ((a:Int)+1)=(a:Int)+1:=IntWalk.i64_in _ om;refine⟨⟨om,om,by rw[List.length_map];omega⟩,.inl ?_⟩;refine wh ?_;refine⟨by simp;omega,?_⟩;refine wh ?_;rw[XB];refine⟨⟨om,by rw[List.length_map];omega,om⟩,.inl ?_⟩;refine wh ?_;refine⟨by simp;omega,?_⟩;refine wh ?_;obtain⟨sd,wm⟩:∃sd:List dr,sd=said.take a++said.drop (a+1):=⟨_,rfl⟩;have AY:∀x∈sd,x∈said:=by rw[wm];exact fun x h=>Ew h
   have pF:sd.length≤2000:=by rw[wm,List.length_append,List.length_take,List.length_drop];omega
   have mE:=rmN wm;have fT:=rmS wm;refine sp ?_ ?_<;>intro HC
   ·exact absurd (show(1:Int)=0 from HC) (by decide)
   refine wh ?_;refine⟨[],[some 3],_,_,_,_,fw ms[j],t3,cw ?_⟩;refine⟨[],[some 11],_,_,_,_,dg H,t3,cw ?_⟩;refine⟨[],[],_,_,_,_,gN (aC ms[j]) (aC ms[j]) (bu (by rw[mP];exact cC) _ _) (.refl _) (fun c hc=>(H.bM.2 c hc).1),t3,cw ?_⟩;refine⟨by simp;omega,?_⟩;refine wh ?_;refine sp ?_ ?_<;>intro bl
   ·have bl:_:=bl;have hq:=(congrArg List.length mE).trans (List.length_map (f:=az));have bl:(((_:List (List TV)).length:Nat):Int)>2000:=bl;rw[hq]at bl;omega
   refine wh ?_;refine⟨ps.length - (i+1),?_,om⟩;refine⟨[],[some 0,some 13],_,_,_,⟨tq,.cons (.bB (ft:=[(_,aJ ms[j])]) .one (Lw.of (pg EM)) (.q1 tq)) (.cons (.arr (Lz.of mE)) .nil),by rfl⟩,⟨i+1,ms,sd,aN,rfl,((hM.sub AY).more om),pF,rfl,rfl,rfl⟩⟩
  refine wh ?_;refine sp ?_ ?_<;>intro k2
  ·refine wh ?_;refine⟨[],[some 3],_,_,_,_,QL ms[j] H (by rw[mP];exact AT) om om om,t3,?_⟩;rintro r o' c' ⟨s1,iB,rfl,rfl,rfl⟩;have iZ:=Au H ho iB;have fT:said.map az++s1.out.map az=(said++s1.out).map az:=List.map_append.symm;have c7:=hM.step Nu iZ (fun S hS _=>hS.QM Nu iB) (sd:=said) (fun _ h=>h);refine wh ?_;have ph:fU (aC s1):=bu (by rw[iZ.l,mP];exact cC) _ _;have EE:=iZ.out;refine⟨[],[some 3],_,_,_,_,fw {s1 with out:=[]},t3,cw ?_⟩;refine⟨[],[some 10],_,_,_,_,dg (iZ.ok.outs []),t3,cw ?_⟩;refine⟨[],[],_,_,_,_,gN (aC ms[j]) (aC s1) ph iZ.kr (fun c hc=>(H.bM.2 c hc).1),t3,cw ?_⟩
   refine⟨by simp;omega,?_⟩;refine wh ?_;refine sp ?_ ?_<;>intro bl
   ·refine wh ?_;refine⟨[],[some 0],_,_,_,_,my (ms.set j {s1 with out:=[]}) (by rw[c7.Av];omega) (fun s hs=>(c7.ok hs).kn) (fun s hs=>qL (c7.ok hs)) c7.agree,⟨tq,.cons (.bB (ft:=[(_,aJ {s1 with out:=[]})]) .one (Lw.of ox) (.q1 tq)) .nil,by rfl⟩,?_⟩;rintro r o' c' ⟨rfl,rfl,rfl⟩;refine wh ?_;refine⟨[],[],_,_,_,_,gO,t3,cw ?_⟩;exact⟨[],[],[],.s (.bool true),[],⟨.s Lz.rfl,.nil,rfl⟩,rfl⟩
   have bl:¬_:=bl;have xy:(said++s1.out).length≤2000:=by have hq:=(congrArg List.length fT).trans (List.length_map (f:=az));rw[←hq];omega
   refine wh ?_;refine⟨ps.length - (i+1),?_,om⟩;refine⟨[],[some 0,some 12],_,_,_,⟨tq,.cons (.bB (ft:=[(_,aJ {s1 with out:=[]})]) .one (Lw.of ox) (.q1 tq)) (.cons (.arr (Lz.of fT)) .nil),by rfl⟩,⟨i+1,ms.set j {s1 with out:=[]},said++s1.out,aN,rfl,c7,xy,rfl,rfl,rfl⟩⟩
  ·refine wh ?_;refine⟨[],[some 3],_,_,_,_,cy ms[j] H.me,t3,cw ?_⟩;refine⟨[],[some 3],_,_,_,_,Ev ms[j] H 1 (bJ ms[j]) cmd om,t3,?_⟩;have mE:said.map az++[]=said.map az:=List.append_nil _;rintro r o' c' (⟨rfl,rfl,rfl⟩|⟨s1,iB,rfl,rfl,rfl⟩)
   ·refine wh ?_;refine⟨[],[some 3],_,_,_,_,fw ms[j],t3,cw ?_⟩;refine⟨[],[some 10],_,_,_,_,dg H,t3,cw ?_⟩;refine⟨[],[],_,_,_,_,gN (aC ms[j]) (aC ms[j]) (bu (by rw[mP];exact cC) _ _) (.refl _) (fun c hc=>(H.bM.2 c hc).1),t3,cw ?_⟩;refine⟨by simp;omega,?_⟩;refine wh ?_;refine sp ?_ ?_<;>intro bl
    ·have bl:_:=bl;have hq:=(congrArg List.length mE).trans (List.length_map (f:=az));have bl:(((_:List (List TV)).length:Nat):Int)>2000:=bl;rw[hq]at bl;omega
    refine wh ?_;refine⟨ps.length - (i+1),?_,om⟩;refine⟨[],[some 0,some 12],_,_,_,⟨tq,.cons (.bB (ft:=[(_,aJ ms[j])]) .one (Lw.of (pg EM)) (.q1 tq)) (.cons (.arr (Lz.of mE)) .nil),by rfl⟩,⟨i+1,ms,said,aN,rfl,(hM.more om),hS,rfl,rfl,rfl⟩⟩
   ·have iZ:=mz H ho iB;have fT:said.map az++s1.out.map az=(said++s1.out).map az:=List.map_append.symm;have c7:=hM.step Nu iZ (fun S hS _=>hS.As Nu (fun h=>absurd rfl h) iB) (sd:=said) (fun _ h=>h);refine wh ?_;have ph:fU (aC s1):=bu (by rw[iZ.l,mP];exact cC) _ _;have EE:=iZ.out;refine⟨[],[some 3],_,_,_,_,fw {s1 with out:=[]},t3,cw ?_⟩;refine⟨[],[some 11],_,_,_,_,dg (iZ.ok.outs []),t3,cw ?_⟩;refine⟨[],[],_,_,_,_,gN (aC ms[j]) (aC s1) ph iZ.kr (fun c hc=>(H.bM.2 c hc).1),t3,cw ?_⟩;refine⟨by simp;omega,?_⟩;refine wh ?_;refine sp ?_ ?_<;>intro bl
    ·refine wh ?_;refine⟨[],[some 0],_,_,_,_,my (ms.set j {s1 with out:=[]}) (by rw[c7.Av];omega) (fun s hs=>(c7.ok hs).kn) (fun s hs=>qL (c7.ok hs)) c7.agree,⟨tq,.cons (.bB (ft:=[(_,aJ {s1 with out:=[]})]) .one (Lw.of ox) (.q1 tq)) .nil,by rfl⟩,?_⟩;rintro r o' c' ⟨rfl,rfl,rfl⟩;refine wh ?_;refine⟨[],[],_,_,_,_,gO,t3,cw ?_⟩;exact⟨[],[],[],.s (.bool true),[],⟨.s Lz.rfl,.nil,rfl⟩,rfl⟩
    have bl:¬_:=bl;have xy:(said++s1.out).length≤2000:=by have hq:=(congrArg List.length fT).trans (List.length_map (f:=az));rw[←hq];omega
    refine wh ?_;refine⟨ps.length - (i+1),?_,om⟩;refine⟨[],[some 0,some 13],_,_,_,⟨tq,.cons (.bB (ft:=[(_,aJ {s1 with out:=[]})]) .one (Lw.of ox) (.q1 tq)) (.cons (.arr (Lz.of fT)) .nil),by rfl⟩,⟨i+1,ms.set j {s1 with out:=[]},said++s1.out,aN,rfl,c7,xy,rfl,rfl,rfl⟩⟩
end Go.M
namespace Go.M
open Go Go.Proofs Go.RowKit Go.Maps Go.Sort Go.Shelf
set_option maxRecDepth 1000000
def xh:Go.Shelf.Ren:=⟨fun |7=>107|10=>146|n=>n,fun |23=>81|26=>3|3=>139|28=>150|0=>0|27=>149|33=>49|4=>4|n=>n,fun |n=>n⟩
theorem T6:Go.Proofs.SlLaysZI.n7 Tryz.prog xh where
 mixed:=by kernel_rfl
 f7:=⟨Tryz.f107.name,by kernel_rfl,Tryz.func107.trans (congrArg some (by kernel_rfl))⟩
 f10:=⟨Tryz.f146.name,by kernel_rfl,Tryz.func146.trans (congrArg some (by kernel_rfl))⟩
 t0:=Tryz.underlying0
 a0:=Tryz.isAgg0
 z0:=Tryz.sizeOf0
 v0:=Tryz.zeroValue0
 t4:=Tryz.underlying4
 a4:=Tryz.isAgg4
 z4:=Tryz.sizeOf4
 v4:=Tryz.zeroValue4
 t23:=Tryz.underlying81
 a23:=Tryz.isAgg81
 z23:=Tryz.sizeOf81
 v23:=Tryz.zeroValue81
 t26:=Tryz.underlying3
 a26:=Tryz.isAgg3
 z26:=Tryz.sizeOf3
 v26:=Tryz.zeroValue3
 t27:=Tryz.underlying149
 a27:=Tryz.isAgg149
 z27:=Tryz.sizeOf149
 v27:=Tryz.zeroValue149
 t28:=Tryz.underlying150
 a28:=Tryz.isAgg150
 z28:=Tryz.sizeOf150
 v28:=Tryz.zeroValue150
 t33:=Tryz.underlying49
 a33:=Tryz.isAgg49
 z33:=Tryz.sizeOf49
 v33:=Tryz.zeroValue49
theorem Ey:jP Tryz.prog 106 146:=
 o6 (ρ:=eU) (σ:=xh) od {T6 with} sP (enters_of Tryz.func145 (by kernel_rfl) rfl) (enters_of Tryz.func146 (by kernel_rfl) rfl)
def qM:Go.Shelf.Ren:=⟨fun |7=>136|10=>185|n=>n,fun |23=>80|26=>3|3=>44|28=>150|0=>0|27=>149|33=>49|4=>4|n=>n,fun |n=>n⟩
theorem KR:Go.Proofs.SlLaysZI.n7 Tryz.prog qM where
 mixed:=by kernel_rfl
 f7:=⟨Tryz.f136.name,by kernel_rfl,Tryz.func136.trans (congrArg some (by kernel_rfl))⟩
 f10:=⟨Tryz.f185.name,by kernel_rfl,Tryz.func185.trans (congrArg some (by kernel_rfl))⟩
 t0:=Tryz.underlying0
 a0:=Tryz.isAgg0
 z0:=Tryz.sizeOf0
 v0:=Tryz.zeroValue0
 t4:=Tryz.underlying4
 a4:=Tryz.isAgg4
 z4:=Tryz.sizeOf4
 v4:=Tryz.zeroValue4
 t23:=Tryz.underlying80
 a23:=Tryz.isAgg80
 z23:=Tryz.sizeOf80
 v23:=Tryz.zeroValue80
 t26:=Tryz.underlying3
 a26:=Tryz.isAgg3
 z26:=Tryz.sizeOf3
 v26:=Tryz.zeroValue3
 t27:=Tryz.underlying149
 a27:=Tryz.isAgg149
 z27:=Tryz.sizeOf149
 v27:=Tryz.zeroValue149
 t28:=Tryz.underlying150
 a28:=Tryz.isAgg150
 z28:=Tryz.sizeOf150
 v28:=Tryz.zeroValue150
 t33:=Tryz.underlying49
 a33:=Tryz.isAgg49
 z33:=Tryz.sizeOf49
 v33:=Tryz.zeroValue49
theorem Ez:jP Tryz.prog 106 185:=
 o6 (ρ:=eU) (σ:=qM) od {KR with} sP (enters_of Tryz.func145 (by kernel_rfl) rfl) (enters_of Tryz.func185 (by kernel_rfl) rfl)
theorem xE:jk Tryz.prog 135 185:=
 py (ρ:=eU) (σ:=qM) {od with} {KR with} (enters_of Tryz.func185 (by kernel_rfl) rfl)
end Go.M
namespace Go.M
open Go Go.Proofs
set_option maxRecDepth 1000000
theorem QP:Tryz.prog.follows .mixedOrders=true:=by kernel_rfl
theorem XC:Gb Tryz.prog 4:=Pj QP (fs:=[106]) (bs:=[135]) (ps:=[100]) (m:=100000) (n:=100000) (by kernel_rfl)
theorem ad5 (base B:Nat):ik Tryz.prog (eL Tryz.prog (Pt [4] [(106,[248,146,185])] [(135,[248,185])] [(223,vP),(100,mY)])) base B:=by
 refine SR (fun g hg=>?_) (fun g lp hi k hk=>?_) (fun g lp hi k hk=>?_) (fun g val hv=>?_) base B
 ·simp only[List.mem_cons,List.not_mem_nil,or_false]at hg;subst hg;exact XC
 ·simp only[look]at hi;split at hi
  ·rename_i h;have h:=beq_iff.1 h;subst h;cases hi;simp only[List.mem_cons,List.not_mem_nil,or_false]at hk;rcases hk with rfl |rfl |rfl
   ·exact DT
   ·exact Ey
   ·exact Ez
  ·cases hi
 ·simp only[look]at hi;split at hi
  ·rename_i h;have h:=beq_iff.1 h;subst h;cases hi;simp only[List.mem_cons,List.not_mem_nil,or_false]at hk;rcases hk with rfl |rfl
   ·exact xw
   ·exact xE
  ·cases hi
 ·simp only[look]at hv;split at hv
  ·rename_i h;have h:=beq_iff.1 h;subst h;cases hv;exact Wt
  ·split at hv
   ·rename_i h;have h:=beq_iff.1 h;subst h;cases hv;exact SU
   ·cases hv
theorem QQ:zH Gn 1=true:=by kernel_rfl
theorem ad6 (base B:Nat):ik Tryz.prog E0 base B:=SV (aw:=[]) QQ (fun g hg=>by simp at hg) ad5 base B
end Go.M
