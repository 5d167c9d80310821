/-
  Part 25 of the library that the proof leans on.
-/
import Derived.Test.YtpkdpgcpmeibpaaGreatDoorL12
import Derived.Test.YtpkdpgcpmeibpaaGreatDoorL24
namespace Go.M
open Go Go.Proofs
set_option maxRecDepth 100000
set_option maxHeartbeats 4000000
theorem TG {x:aE} {v:ak} (h:v∈bc x):v.ai=x.b:=by
 unfold bc at h;obtain⟨n,_,rfl⟩:=List.mem_map.1 h;rfl
theorem ou {x:aE} (h:v8 x):(bc x).length≤512:=by
 have h2:((aQ x.dT).map (· +1)).Nodup:=by
  refine List.Pairwise.map _ ?_ h.op.nd;intro a b LP e;exact LP om
 have h3:=qB 512 ((aQ x.dT).map (· +1)) h2 fun w hw=>by
  obtain⟨n,hn,rfl⟩:=List.mem_map.1 hw;have:=h.op.l6 n hn;have:=h.bQ;omega
 unfold bc;simpa[cb]using h3
theorem ta {x:aE} (_:v8 x) (b aM:Int) (vs:List ak) (h1:v8 (bY x b aM vs).1):(∀v∈(bY x b aM vs).2.1,fB v.ai)∧(bY x b aM vs).2.1.length≤512:=by
 have key:(bY x b aM vs).2.1=[]∨(bY x b aM vs).2.1=bc (bY x b aM vs).1:=by
  unfold bY;split
  ·split
   ·exact .inr rfl
   ·exact .inl rfl
  ·exact .inl rfl
 rcases key with e|e
 ·rw[e];exact⟨by simp,by simp⟩
 ·rw[e];exact⟨fun v hv=>by rw[TG hv];exact h1.b,ou h1⟩
@[reducible] def xe (s:MS) (b aM:Int) (vs:List ak):MS:={s with p:=((bY s.p.1 b aM vs).1,s.p.2)}
def xC (s:MS) (b aM:Int) (vs:List ak) (s':MS):Prop:=
 if(bY s.p.1 b aM vs).2.2=true then m9 (xe s b aM vs) (bY s.p.1 b aM vs).2.1 s' else s'=xe s b aM vs
theorem TH {s:MS} {b aM:Int} {vs:List ak} (h:(bY s.p.1 b aM vs).2.2=false):xC s b aM vs (xe s b aM vs):=by
 unfold xC;rw[if_neg (by rw[h];decide)]
theorem Qw {s s':MS} {b aM:Int} {vs:List ak} (h:(bY s.p.1 b aM vs).2.2=true) (hL:m9 (xe s b aM vs) (bY s.p.1 b aM vs).2.1 s'):xC s b aM vs s':=by
 unfold xC;rw[if_pos h];exact hL
structure tc (vs:List ak):Prop where
 len:vs.length≤600
 l6:∀v∈vs,vV v.slot
 chk:∀v∈vs,(ao v).check=0
theorem MQ (s:MS) (H:c9 s) (m:dr) (hf:100<m.al∧m.al≤105) (hv:tc m.fk) (hl:s.out.length<20000):VC E0 43 1 [.ptr 0 0,.agg (az {m with kind:=2})] (bD s) (RS (xC s m.ai (m.al - 100) m.fk)):=by
 have hw:IntKind.i64.wrap (m.al - 100)=m.al - 100:=IntWalk.i64_in _ om;have H1:=H.promise m.ai (m.al - 100) m.fk hv.len hv.l6 hv.chk;obtain⟨nh,pX⟩:=ta H.lw m.ai (m.al - 100) m.fk H1.lw;obtain⟨me,ms,nodes,fA,a8,quiet,waited,q,kn,K,l,⟨x,f⟩,out⟩:=s;cases f
 all_goals
  refine en L0 Tryz.f43 ?_;rw[hw];refine⟨[],[some 2],_,_,_,_,GL (x,_) H.px m.ai (m.al - 100) m.fk H.lw.cm H.lw.op H.lw.ms hv.len hv.l6 H.lw.bQ,t3,?_⟩;rintro r o' c' ⟨rfl,rfl,rfl⟩;have bm:=True.intro;clear bm;cases hb:(bY x m.ai (m.al - 100) m.fk).2.2
  ·refine wh ?_;exact⟨[],[some 0],_,_,_,t3,⟨_,TH hb,rfl,rfl,rfl⟩⟩
  ·refine wh ?_;refine⟨[],[some 0],_,_,_,_,G6 _ H1 (bY x m.ai (m.al - 100) m.fk).2.1 nh hl (Nat.le_trans pX (by decide)),t3,?_⟩;rintro r o' c' ⟨s',kp,rfl,rfl,rfl⟩;refine wh ?_;exact⟨[],[some 0],_,_,_,t3,⟨_,Qw hb kp,rfl,rfl,rfl⟩⟩
theorem uI (s:MS) (H:c9 s) (m:dr) (hf:100<m.al∧m.al≤105) (hv:tc m.fk) (hl:s.out.length<20000):VC E0 23 1 [.ptr 0 0,.agg (az {m with kind:=2})] (bD s) (RS (xC s m.ai (m.al - 100) m.fk)):=by
 refine en L0 Tryz.f23 ?_;refine rn ?_;refine⟨[],[some 0],_,_,_,_,MQ s H m hf hv hl,t3,?_⟩;rintro r o' c' ⟨s',kp,rfl,rfl,rfl⟩;refine wh ?_;exact⟨[],[some 0],_,_,_,t3,⟨_,kp,rfl,rfl,rfl⟩⟩
@[reducible] def sa (s:MS) (c:cA):MS:={s with p:=((aD s.p.1 c).1,s.p.2)}
def xD (s:MS) (c:cA) (s':MS):Prop:=
 if(aD s.p.1 c).2.2=0 then m9 (sa s c) [(aD s.p.1 c).2.1] s' else s'=sa s c
theorem TI {s:MS} {c:cA} (h:¬(aD s.p.1 c).2.2=0):xD s c (sa s c):=by
 unfold xD;rw[if_neg h]
theorem Qx {s s':MS} {c:cA} (h:(aD s.p.1 c).2.2=0) (hL:m9 (sa s c) [(aD s.p.1 c).2.1] s'):xD s c s':=by
 unfold xD;rw[if_pos h];exact hL
theorem En {x:aE} (h:v8 x) (c:cA) (he:(aD x c).2.2=0):fB (aD x c).2.1.ai:=by
 unfold aD at he ⊢;split at he
 ·cases he
 split at he
 ·rename_i h1 h2;exact absurd he h2
 split at he
 ·cases he
 split at he
 ·cases he
 rename_i h1 h2 h3 h4;rw[if_neg h1,if_neg h2,if_neg h3,if_neg h4];exact h.b
theorem Aj (s:MS) (H:c9 s) (c:cA) (hl:s.out.length<20000):VC E0 51 1 [.ptr 0 0,Ky c] (bD s) (RS (xD s c)):=by
 have H1:=H.pc c;have sm:=En H.lw c;obtain⟨me,ms,nodes,fA,a8,quiet,waited,q,kn,K,l,⟨x,f⟩,out⟩:=s;cases f
 all_goals
  refine en L0 Tryz.f51 ?_;refine⟨[],[some 2],_,_,_,_,GM (x,_) H.px c H.lw.op H.lw.bQ,t3,cw ?_⟩;refine sp ?_ ?_<;>intro h
  ·have h:(aD x c).2.2=0:=h;refine wh ?_;refine⟨[5],[some 0],_,_,_,_,G6 _ H1 [(aD x c).2.1] (fun v hv=>by rw[List.mem_singleton.1 hv];exact sm h) hl (by simp),t3,?_⟩;rintro r o' c' ⟨s',kp,rfl,rfl,rfl⟩;refine wh ?_;exact⟨[],[some 0],_,_,_,t3,⟨_,Qx h kp,rfl,rfl,rfl⟩⟩
  ·have h:¬(aD x c).2.2=0:=h;refine wh ?_;exact⟨[],[some 0],_,_,_,t3,⟨_,TI h,rfl,rfl,rfl⟩⟩
theorem UM.aaI {p:Int} {es:List (Int×ak)} (h:UM p es):es.length≤512:=by
 have h2:((es.map (·.1)).map (· +1)).Nodup:=by
  refine List.Pairwise.map _ ?_ h.mv.nd;intro a b LP e;exact LP om
 have:=qB 512 ((es.map (·.1)).map (· +1)) h2 fun w hw=>by
  obtain⟨n,KZ,rfl⟩:=List.mem_map.1 hw;obtain⟨e,he,rfl⟩:=List.mem_map.1 KZ;have:=h.l6 e he;omega
 simpa using this
theorem Eo (es:List (Int×ak)) (al:Int):(lq es al).length≤es.length:=by
 unfold lq rising;rw[List.length_map];refine Nat.le_trans (List.length_filter_le _ _) ?_;simp[cb]
theorem Ep {s:MS} (H:c9 s) (b al:Int):tc (c5 s.q.1 b s.q.2 al).2.1:=by
 have key:(c5 s.q.1 b s.q.2 al).2.1=[]∨(c5 s.q.1 b s.q.2 al).2.1=lq s.q.2 al:=by
  unfold c5;split
  ·exact .inl rfl
  split
  ·exact .inl rfl
  ·exact .inr rfl
 have fL:∀v∈lq s.q.2 al,(v.slot,v)∈s.q.2:=fun v hv=>by
  have hv:v∈rising s.q.2 al (cb (s.q.2.map (·.1))):=hv;rw[sR H.qk.mv,List.mem_filter]at hv;exact(jn H.qk.mv).1 hv.1
 rcases key with e|e
 ·rw[e];exact⟨by simp,by simp,by simp⟩
 ·rw[e];refine⟨Nat.le_trans (Eo _ _) (Nat.le_trans H.qk.aaI (by decide)),fun v hv=>?_,fun v hv=>H.qc _ (fL v hv)⟩;have:=H.qk.l6 _ (fL v hv);unfold vV;have h1:IntKind.i64.min= -9223372036854775808:=rfl;have h2:IntKind.i64.max=9223372036854775807:=rfl;dsimp only at this;omega
@[reducible] def Ak (b slot:Int) (vs:List ak):dr:=⟨2,0,0,b,slot,aH,aY,vs⟩
def Am (s:MS) (b slot:Int) (vs:List ak) (to:Int) (s':MS):Prop:=if to=bJ s then xC s b s.me vs s' else s'=xB s (Ak b slot vs) to
theorem G7 (s:MS) (H:c9 s) (b slot:Int) (vs:List ak) (hv:tc vs) (to:Int) (hl:s.out.length<20000):VC E0 53 1 [.ptr 0 0,.agg (az (Ak b slot vs)),.s (.int .i64 to)] (bD s) (RS (Am s b slot vs to)):=by
 unfold Am;have jF:=H.me;by_cases h:to=bJ s
 ·subst h;simp only[if_true];have e:bJ s - 100=s.me:=by show 100+s.me - 100=s.me;omega
  have gQ:=uI s H {Ak b slot vs with al:=bJ s,to:=bJ s} (by show 100<100+s.me∧100+s.me≤105;omega) hv hl;dsimp only at gQ;rw[e]at gQ;refine en L0 Tryz.f53 ?_;refine⟨[],[some 0],_,_,_,_,cy s jF,t3,cw ?_⟩;refine⟨[],[some 0],_,_,_,_,cy s jF,t3,cw ?_⟩;refine sp ?_ ?_<;>intro h1;rotate_left
  ·exact absurd rfl h1
  ·refine wh ?_;refine⟨[],[some 0],_,_,_,_,gQ,t3,?_⟩;rintro r o' c' ⟨s',kp,rfl,rfl,rfl⟩;refine wh ?_;exact⟨[],[some 0],_,_,_,t3,⟨_,kp,rfl,rfl,rfl⟩⟩
 ·simp only[if_neg h];refine VC.told (w7 s (Ak b slot vs) to jF h om) ?_;rintro r o' c' ⟨rfl,rfl,rfl⟩;exact⟨[],[some 0],_,_,_,t3,⟨_,rfl,rfl,rfl,rfl⟩⟩
def An (s:MS) (b slot:Int) (vs:List ak) (to e:Int) (s':MS):Prop:=
 if e=0 then Am {s with quiet:=0} b slot vs to s' else if e=10 then s'=Bi s to else s'=s
theorem Qy (s:MS) (H:c9 s) (m:dr) (b slot:Int) (vs:List ak) (hv:tc vs) (e:Int) (hl:s.out.length<20000):VC E0 95 1 [.ptr 0 0,.agg (az m),.s (.int .i64 e),.agg (az (Ak b slot vs))] (bD s) (RS (An s b slot vs m.al e)):=by
 unfold An;refine en L0 Tryz.f95 ?_;refine sp ?_ ?_<;>intro h1
 ·have h1:e=0:=h1;subst h1;simp only[if_true];refine wh ?_;refine⟨[],[some 0],_,_,_,_,G7 {s with quiet:=0} H.nB b slot vs hv m.al hl,t3,?_⟩;rintro r o' c' ⟨s',kp,rfl,rfl,rfl⟩;refine wh ?_;exact⟨[],[some 0],_,_,_,t3,⟨_,kp,rfl,rfl,rfl⟩⟩
 ·have h1:¬e=0:=h1;simp only[if_neg h1];refine wh ?_;refine sp ?_ ?_<;>intro h2
  ·have h2:e=10:=h2;simp only[if_pos h2];refine wh ?_;refine⟨[],[some 0],_,_,_,_,Ek s H m om,t3,cw ?_⟩;exact⟨[],[some 0],_,_,_,t3,⟨_,rfl,rfl,rfl,rfl⟩⟩
  ·have h2:¬e=10:=h2;simp only[if_neg h2];refine wh ?_;exact⟨[],[some 0],_,_,_,t3,⟨_,rfl,rfl,rfl,rfl⟩⟩
@[reducible] def sb (s:MS) (b slot:Int):MS:={s with q:=((c5 s.q.1 b s.q.2 slot).1,s.q.2)}
theorem c9.MR {s:MS} (H:c9 s) {b:Int} (hb:fB b) (slot:Int):c9 (sb s b slot):=by
 have key:(c5 s.q.1 b s.q.2 slot).1=s.q.1∨((c5 s.q.1 b s.q.2 slot).1=b∧s.q.1≤b):=by
  unfold c5;split
  ·exact .inl rfl
  split
  ·exact .inl rfl
  ·rename_i h1 h2;exact .inr ⟨rfl,om⟩
 refine⟨H.me,H.ms,H.px,H.lw,?_,H.qc,?_,H.kn,H.kK,H.lE,H.nd,H.nc⟩
 ·show UM (c5 s.q.1 b s.q.2 slot).1 s.q.2;rcases key with e|⟨e,h⟩
  ·rw[e];exact H.qk
  ·rw[e];exact⟨H.qk.mv,H.qk.l6,fun e he=>Int.le_trans (H.qk.bal e he) h⟩
 ·show 0≤(c5 s.q.1 b s.q.2 slot).1∧(c5 s.q.1 b s.q.2 slot).1≤18446744073709551615;rcases key with e|⟨e,h⟩
  ·rw[e];exact H.qp
  ·rw[e];exact hb
def kg (s:MS) (b slot al:Int) (s':MS):Prop:=
 An (sb (gq s b) b slot) b slot (c5 s.q.1 b s.q.2 slot).2.1 al (c5 s.q.1 b s.q.2 slot).2.2 s'
theorem Bj (s:MS) (H:c9 s) (m:dr) (hb:fB m.ai) (hl:s.out.length<20000):VC E0 42 1 [.ptr 0 0,.agg (az {m with kind:=1})] (bD s) (RS (kg s m.ai m.slot m.al)):=by
 have H1:=(H.refuse m.ai).MR hb m.slot;have rJ:=Ep H m.ai m.slot;have hqf:=H.qk.aaI;have fG:=H.qk.ok om;obtain⟨me,ms,nodes,fA,a8,quiet,waited,q,kn,K,l,⟨x,f⟩,out⟩:=s;cases f
 all_goals
  refine en L0 Tryz.f42 ?_;refine rn ?_;refine⟨[],[some 2],_,_,_,_,mg (x,_) H.px m.ai,t3,cw ?_⟩;refine rn ?_;refine⟨[],[some 4],_,_,_,_,GN q m.ai m.slot fG (Nat.lt_of_le_of_lt hqf (by decide)),t3,cw ?_⟩;refine⟨[6],[some 0],_,_,_,_,Qy _ H1 {m with kind:=1} m.ai m.slot (c5 q.1 m.ai q.2 m.slot).2.1 rJ (c5 q.1 m.ai q.2 m.slot).2.2 hl,t3,?_⟩;rintro r o' c' ⟨s',kp,rfl,rfl,rfl⟩;refine wh ?_;exact⟨[],[some 0],_,_,_,t3,⟨_,kp,rfl,rfl,rfl⟩⟩
theorem uJ (s:MS) (H:c9 s) (m:dr) (hb:fB m.ai) (hl:s.out.length<20000):VC E0 23 1 [.ptr 0 0,.agg (az {m with kind:=1})] (bD s) (RS (kg s m.ai m.slot m.al)):=by
 refine en L0 Tryz.f23 ?_;refine rn ?_;refine⟨[],[some 0],_,_,_,_,Bj s H m hb hl,t3,?_⟩;rintro r o' c' ⟨s',kp,rfl,rfl,rfl⟩;refine wh ?_;exact⟨[],[some 0],_,_,_,t3,⟨_,kp,rfl,rfl,rfl⟩⟩
theorem G8 (s:MS) (H:c9 s) (m:dr) (hb:fB m.ai) (hl:s.out.length<20000):VC E0 53 1 [.ptr 0 0,.agg (az {m with kind:=1}),.s (.int .i64 (bJ s))] (bD s) (RS (kg s m.ai m.slot (bJ s))):=by
 have jF:=H.me;refine en L0 Tryz.f53 ?_;refine⟨[],[some 0],_,_,_,_,cy s jF,t3,cw ?_⟩;refine⟨[],[some 0],_,_,_,_,cy s jF,t3,cw ?_⟩;refine sp ?_ ?_<;>intro h1;rotate_left
 ·exact absurd rfl h1
 ·refine wh ?_;refine⟨[],[some 0],_,_,_,_,uJ s H {m with al:=bJ s,to:=bJ s} hb hl,t3,?_⟩;rintro r o' c' ⟨s',kp,rfl,rfl,rfl⟩;refine wh ?_;exact⟨[],[some 0],_,_,_,t3,⟨_,kp,rfl,rfl,rfl⟩⟩
@[reducible] def js (b slot:Int):dr:=⟨1,0,0,b,slot,aH,aY,[]⟩
theorem G9 (s:MS) (H:c9 s) (b slot:Int) (hb:fB b) (hl:s.out.length<19000):VC E0 45 1 [.ptr 0 0,.agg (az (js b slot))] (bD s) (RS (kg (bz s (js b slot)) b slot (bJ s))):=by
 have jF:=H.me;have gR:=H.ms;refine en L0 Tryz.f45 ?_;refine⟨[],[some 0],_,_,_,_,rC s (js b slot) jF om om,t3,cw ?_⟩;refine⟨[],[some 0],_,_,_,_,cy (bz s (js b slot)) jF,t3,cw ?_⟩;have hol:=mu s (js b slot) s.ae.toNat
 refine⟨[],[some 0],_,_,_,_,G8 (bz s (js b slot)) (H.outs _) (js b slot) hb (by rw[List.length_append];omega),t3,?_⟩;rintro r o' c' ⟨s',kp,rfl,rfl,rfl⟩;refine wh ?_;exact⟨[],[some 0],_,_,_,t3,⟨_,kp,rfl,rfl,rfl⟩⟩
theorem uK {x:aE} (h:v8 x) {above al:Int} (ha:fB above) (he:(aU x above al).2=0):fB (aU x above al).1∧0≤al∧al≤512:=by
 have hm:=h.me;have hx:=h.b;have JL:=Jb ha hx;unfold aU at he ⊢;split at he
 ·cases he
 split at he
 ·rename_i h1 h2;exact absurd he h2
 rename_i h1 h2;rw[if_neg h1,if_neg h2];refine⟨?_,om,om⟩;unfold m5 at hm;have key:∀r0 r1:Int,r0=(if 1>AM above x.b / 8 then 1 else AM above x.b / 8)→r1=(if 8*r0+x.me≤AM above x.b then r0+1 else r0)→fB (if r1≥1152921504606846976 then((0:Int),(9:Int))else(8*r1+x.me,0)).1:=by
  intro r0 r1 h0 h1;unfold fB;by_cases hr:r1≥1152921504606846976
  ·rw[if_pos hr];decide
  ·rw[if_neg hr];dsimp only
   split at h0<;>split at h1<;>omega
 exact key _ _ rfl rfl
@[reducible] def qK (s:MS):MS:={s with quiet:=0,waited:=0,p:=nA s.p s.q.1 (aK s.K)}
noncomputable def nC (s s':MS):Prop:=
 if(aU s.p.1 s.q.1 (aK s.K)).2=0 then kg (bz (qK s) (js (aU s.p.1 s.q.1 (aK s.K)).1 (aK s.K))) (aU s.p.1 s.q.1 (aK s.K)).1 (aK s.K) (bJ s) s' else s'=qK s
theorem c9.start {s:MS} (H:c9 s):c9 (qK s):=by
 have hw:v8 (nA s.p s.q.1 (aK s.K)).1∧PX (nA s.p s.q.1 (aK s.K)):=by
  unfold nA;split
  ·rename_i he;obtain⟨h1,h2⟩:=uK H.lw H.qp he;exact⟨H.lw.start h1 h2,fun e=>by cases e⟩
  ·exact⟨H.lw,H.px⟩
 exact⟨H.me,H.ms,hw.2,hw.1,H.qk,H.qc,H.qp,H.kn,H.kK,H.lE,H.nd,H.nc⟩
@[reducible] def Er (s:MS):MS:={s with quiet:=0,waited:=0,p:=(ma s.p.1.me s.p.1.ae (aU s.p.1 s.q.1 (aK s.K)).1 (aK s.K),true)}
theorem td {s:MS} (h:(aU s.p.1 s.q.1 (aK s.K)).2=0):qK s=Er s:=by unfold qK nA;rw[if_pos h]
theorem Cz {s:MS} (h:¬(aU s.p.1 s.q.1 (aK s.K)).2=0):qK s={s with quiet:=0,waited:=0}:=by unfold qK nA;rw[if_neg h]
theorem JB {s s':MS} (h:(aU s.p.1 s.q.1 (aK s.K)).2=0) (hh:kg (bz (Er s) (js (aU s.p.1 s.q.1 (aK s.K)).1 (aK s.K))) (aU s.p.1 s.q.1 (aK s.K)).1 (aK s.K) (bJ s) s'):nC s s':=by
 unfold nC;rw[if_pos h,td h];exact hh
theorem MU {s:MS} (h:¬(aU s.p.1 s.q.1 (aK s.K)).2=0):nC s {s with quiet:=0,waited:=0}:=by
 unfold nC;rw[if_neg h,Cz h]
theorem Xm (s:MS) (H:c9 s) (hl:s.out.length<19000):VC E0 30 1 [.ptr 0 0] (bD s) (RS (nC s)):=by
 have H1:(aU s.p.1 s.q.1 (aK s.K)).2=0→c9 (Er s):=fun h=>by rw[←td h];exact H.start
 have sm:=uK H.lw (above:=s.q.1) (al:=aK s.K) H.qp;obtain⟨me,ms,nodes,fA,a8,quiet,waited,q,kn,K,l,⟨x,f⟩,out⟩:=s;by_cases he:(aU x q.1 (aK K)).2=0
 ·cases f
  all_goals
   have gQ:=Cl (x,_) H.px q.1 (aK K) H.qp H.lw.b H.lw.me;unfold nA at gQ;dsimp only at gQ;rw[if_pos he]at gQ;refine en L0 Tryz.f30 ?_;refine⟨[],[some 1],_,_,_,_,qI (lr kn K l),t3,cw ?_⟩;refine⟨[],[some 4],_,_,_,_,gW q,t3,cw ?_⟩;refine⟨[],[some 3],_,_,_,_,gQ,t3,cw ?_⟩;refine sp ?_ ?_<;>intro h0;rotate_left
   ·exact absurd he h0
   ·refine wh ?_;refine⟨[],[some 0],_,_,_,_,G9 _ (H1 he) (aU x q.1 (aK K)).1 (aK K) (sm he).1 hl,t3,?_⟩;rintro r o' c' ⟨s',kp,rfl,rfl,rfl⟩;refine wh ?_;exact⟨[],[some 0],_,_,_,t3,⟨_,JB he kp,rfl,rfl,rfl⟩⟩
 ·cases f
  all_goals
   have gQ:=Cl (x,_) H.px q.1 (aK K) H.qp H.lw.b H.lw.me;unfold nA at gQ;dsimp only at gQ;rw[if_neg he]at gQ;refine en L0 Tryz.f30 ?_;refine⟨[],[some 1],_,_,_,_,qI (lr kn K l),t3,cw ?_⟩;refine⟨[],[some 4],_,_,_,_,gW q,t3,cw ?_⟩;refine⟨[],[some 3],_,_,_,_,gQ,t3,cw ?_⟩;refine sp ?_ ?_<;>intro h0
   ·exact absurd h0 he
   ·refine wh ?_;exact⟨[],[some 0],_,_,_,t3,⟨_,MU he,rfl,rfl,rfl⟩⟩
@[reducible] def Qz (s:Int):dr:=⟨7,0,0,0,s,aH,aY,[]⟩
noncomputable def xf (s:MS) (b slot al:Int):MS:=
 if b<s.q.1 then Bi s al else if(aK s.K:Int)<slot then xB {gq s b with quiet:=0} (Qz (aK s.K)) al else {gq s b with quiet:=0}
theorem MW (s:MS) (H:c9 s) (m:dr) (AO:m.al≠bJ s) (hl:s.out.length<19000):VC E0 23 1 [.ptr 0 0,.agg (az {m with kind:=6})] (bD s) (RR (.dk []) 1 (bD (xf s m.ai m.slot m.al))):=by
 suffices hh:VC E0 42 1 [.ptr 0 0,.agg (az {m with kind:=6})] (bD s) (RR (.dk []) 1 (bD (xf s m.ai m.slot m.al))) by
  refine en L0 Tryz.f23 ?_;refine rn ?_;refine⟨[],[some 0],_,_,_,_,hh,t3,cw ?_⟩;exact⟨[],[some 0],_,_,_,t3,rfl,rfl,rfl⟩
 unfold xf;have jF:=H.me;by_cases h1:m.ai<s.q.1
 ·rw[if_pos h1];refine en L0 Tryz.f42 ?_;refine rn ?_;refine⟨[],[some 2],_,_,_,_,gW s.q,t3,cw ?_⟩;refine sp ?_ ?_<;>intro h2
  ·refine wh ?_;refine⟨[],[some 0],_,_,_,_,Ek s H {m with kind:=6} om,t3,cw ?_⟩;exact⟨[],[some 0],_,_,_,t3,rfl,rfl,rfl⟩
  ·exact absurd h1 h2
 ·rw[if_neg h1];have adB:=w7 {gq s m.ai with quiet:=0} (Qz (aK s.K)) m.al jF AO (by show s.out.length<100000;omega);obtain⟨me,ms,nodes,fA,a8,quiet,waited,q,kn,K,l,⟨x,f⟩,out⟩:=s;by_cases h3:(aK K:Int)<m.slot
  ·simp only[h3,if_true];cases f
   all_goals
    refine en L0 Tryz.f42 ?_;refine rn ?_;refine⟨[],[some 2],_,_,_,_,gW q,t3,cw ?_⟩;refine sp ?_ ?_<;>intro h2
    ·exact absurd h2 h1
    refine wh ?_;refine⟨[],[some 4],_,_,_,_,mg (x,_) H.px m.ai,t3,cw ?_⟩;refine rn ?_;refine⟨[],[some 6],_,_,_,_,qI (lr kn K l),t3,cw ?_⟩;refine sp ?_ ?_<;>intro h4;rotate_left
    ·exact absurd h3 h4
    ·refine wh ?_;refine⟨[],[some 0],_,_,_,_,adB,t3,cw ?_⟩;exact⟨[],[some 0],_,_,_,t3,rfl,rfl,rfl⟩
  ·simp only[h3,if_false];cases f
   all_goals
    refine en L0 Tryz.f42 ?_;refine rn ?_;refine⟨[],[some 2],_,_,_,_,gW q,t3,cw ?_⟩;refine sp ?_ ?_<;>intro h2
    ·exact absurd h2 h1
    refine wh ?_;refine⟨[],[some 4],_,_,_,_,mg (x,_) H.px m.ai,t3,cw ?_⟩;refine rn ?_;refine⟨[],[some 6],_,_,_,_,qI (lr kn K l),t3,cw ?_⟩;refine sp ?_ ?_<;>intro h4
    ·exact absurd h4 h3
    ·refine wh ?_;exact⟨[],[some 0],_,_,_,t3,rfl,rfl,rfl⟩
def pB (s:MS) (slot al:Int) (k:Nat):List dr:=(List.range k).filterMap fun(i:Nat)=>(pz s.K (slot+i)).map fun v=>gK s (pb (slot+i) (ao v)) al
theorem JC (s:MS) (slot al:Int) (k:Nat):pB s slot al (k+1)=pB s slot al k++((pz s.K (slot+k)).map fun v=>gK s (pb (slot+k) (ao v)) al).toList:=by
 unfold pB;rw[List.range_succ,List.filterMap_append]
 congr 1
theorem CA (s:MS) (slot al:Int) (k:Nat):(pB s slot al k).length≤k:=by
 unfold pB;exact Nat.le_trans (List.length_filterMap_le _ _) (by simp)
@[reducible] def Ha (s:MS) (slot al:Int):MS:={s with out:=s.out++pB s slot al 8}
theorem TJ (s:MS) (H:c9 s) (m:dr) (AO:m.al≠bJ s) (hs:0≤m.slot∧m.slot≤512) (hl:s.out.length<19000):VC E0 47 1 [.ptr 0 0,.agg (az m)] (bD s) (RR (.dk []) 1 (bD (Ha s m.slot m.al))):=by
 have jF:=H.me;refine en L0 Tryz.f47 ?_;refine⟨fun k f o c=>∃i:Nat,i≤8∧k=8 - i∧c=2∧f=[(0,.ptr 0 0),(3,.ptr 1 0),(7,.s (.int .i64 i))]∧o=bD {s with out:=s.out++pB s m.slot m.al i}++[(1,.cells (az m))],⟨8,?_⟩,?_⟩
 ·refine⟨[],[some 0,some 1],?_⟩
  iterate 3 constructor
  refine⟨⟨?_,?_,?_⟩,⟨0,by decide,rfl,rfl,rfl,rfl⟩⟩
  all_goals(repeat' first|exact LF|constructor)
  all_goals first|exact Lz.rfl|exact Lz.of (by simp[pB])
 ·rintro k f1 o1 c1 ⟨i,hi,rfl,rfl,rfl,rfl⟩;have hn:=CA s m.slot m.al i;have hw:IntKind.i64.wrap (m.slot+(i:Int))=m.slot+(i:Int):=IntWalk.i64_in _ om;refine wh ?_;refine sp ?_ ?_<;>intro aN
  ·have aN:(i:Int)<8:=aN;refine wh ?_;rw[hw];have hk:bL s.kn (m.slot+(i:Int))=(pz s.K (m.slot+i)).map ao:=H.kn (m.slot+i);have EI:=Jq (lr s.kn s.K s.l) (m.slot+i);have hsu:=JC s m.slot m.al i;cases hv:pz s.K (m.slot+(i:Int))with
   |none=>
    rw[hv]at hk hsu;rw[show bL (lr s.kn s.K s.l).known (m.slot+(i:Int))=none from hk]at EI;refine⟨[],[some 2],_,_,_,_,EI,t3,cw ?_⟩;refine⟨8 - (i+1),?_,om⟩;refine⟨[],[some 0,some 1],_,_,_,tx ?_,⟨i+1,om,rfl,rfl,rfl,rfl⟩⟩;exact Lz.of (by rw[hsu];simp)
   |some v=>
    rw[hv]at hk hsu;rw[show bL (lr s.kn s.K s.l).known (m.slot+(i:Int))=some (ao v)from hk]at EI;refine⟨[],[some 2],_,_,_,_,EI,t3,cw ?_⟩;rw[hw];refine⟨[],[some 0],_,_,_,_,w7 {s with out:=s.out++pB s m.slot m.al i} (pb (m.slot+i) (ao v)) m.al jF AO (by rw[List.length_append];omega),t3,cw ?_⟩;refine⟨8 - (i+1),?_,om⟩;refine⟨[],[some 0,some 1],_,_,_,tx ?_,⟨i+1,om,rfl,rfl,rfl,rfl⟩⟩;exact Lz.of (by rw[hsu,Option.map_some,Option.toList_some,←List.append_assoc,List.map_append (l₁:=s.out++pB s m.slot m.al i)])
  ·have aN:¬(i:Int)<8:=aN;obtain rfl:i=8:=by omega
   refine wh ?_;exact⟨[],[some 0],_,_,_,t3,rfl,rfl,rfl⟩
theorem MX (s:MS) (H:c9 s) (m:dr) (AO:m.al≠bJ s) (hs:0≤m.slot∧m.slot≤512) (hl:s.out.length<19000):VC E0 23 1 [.ptr 0 0,.agg (az {m with kind:=7})] (bD s) (RR (.dk []) 1 (bD (Ha s m.slot m.al))):=by
 refine en L0 Tryz.f23 ?_;refine rn ?_;refine⟨[],[some 0],_,_,_,_,TJ s H {m with kind:=7} AO hs hl,t3,cw ?_⟩;exact⟨[],[some 0],_,_,_,t3,rfl,rfl,rfl⟩
noncomputable def Bk (s:MS) (c:cA) (s':MS):Prop:=
 if s.p.1.st=2∧c.kind≠0∧jU (lr s.kn s.K s.l).bM c=0 then xD s c s' else s'=s
theorem Es {s:MS} {c:cA} (h:¬(s.p.1.st=2∧c.kind≠0∧jU (lr s.kn s.K s.l).bM c=0)):Bk s c s:=by
 unfold Bk;rw[if_neg h]
theorem QA {s s':MS} {c:cA} (h:s.p.1.st=2∧c.kind≠0∧jU (lr s.kn s.K s.l).bM c=0) (hh:xD s c s'):Bk s c s':=by
 unfold Bk;rw[if_pos h];exact hh
theorem He (s:MS) (H:c9 s) (m:dr) (hl:s.out.length<19000):VC E0 23 1 [.ptr 0 0,.agg (az {m with kind:=9})] (bD s) (RS (Bk s m.cmd)):=by
 refine en L0 Tryz.f23 ?_;refine rn ?_;refine⟨[],[some 0],_,_,_,_,G2 s H.px,t3,?_⟩;rintro r o' c' ⟨rfl,rfl,rfl⟩;have bm:=True.intro;clear bm;cases hb:decide (s.p.1.st=2)
 ·refine wh ?_;have hb:¬s.p.1.st=2:=of_decide_eq_false hb;exact⟨[],[some 0],_,_,_,t3,⟨s,Es (fun e=>hb e.1),rfl,rfl,rfl⟩⟩
 ·refine wh ?_;have hb:s.p.1.st=2:=of_decide_eq_true hb;refine sp ?_ ?_<;>intro hk
  ·have hk:m.cmd.kind≠0:=hk;refine wh ?_;refine⟨[],[some 3],_,_,_,_,Tw (lr s.kn s.K s.l) m.cmd,t3,cw ?_⟩;refine sp ?_ ?_<;>intro hc
   ·have hc:jU (lr s.kn s.K s.l).bM m.cmd=0:=hc;refine wh ?_;refine⟨[],[some 0],_,_,_,_,Aj s H m.cmd om,t3,?_⟩;rintro r o' c' ⟨s',kp,rfl,rfl,rfl⟩;refine wh ?_;exact⟨[],[some 0],_,_,_,t3,⟨_,QA ⟨hb,hk,hc⟩ kp,rfl,rfl,rfl⟩⟩
   ·have hc:¬jU (lr s.kn s.K s.l).bM m.cmd=0:=hc;refine wh ?_;exact⟨[],[some 0],_,_,_,t3,⟨s,Es (fun e=>hc e.2.2),rfl,rfl,rfl⟩⟩
  ·have hk:¬m.cmd.kind≠0:=hk;refine wh ?_;exact⟨[],[some 0],_,_,_,t3,⟨s,Es (fun e=>hk e.2.1),rfl,rfl,rfl⟩⟩
theorem aaJ (s:MS) (h:1≤s.ae∧s.ae≤5) (a:Int):VC E0 22 1 [.ptr 0 0,.s (.int .i64 a)] (bD s) (RR (.s (.bool (decide (100<a∧a≤100+s.ae)))) 1 (bD s)):=by
 have hw:IntKind.i64.wrap (100+s.ae)=100+s.ae:=IntWalk.i64_in _ om;refine en L0 Tryz.f22 ?_;refine sp ?_ ?_<;>intro h1
 ·have h1:a>100:=h1;refine wh ?_;rw[hw];refine sp ?_ ?_<;>intro h2
  ·have h2:a≤100+s.ae:=h2;refine wh ?_;refine⟨[],[some 0],_,_,_,tx ?_,rfl,rfl,rfl⟩;exact Lz.of (ah (by simp;omega))
  ·have h2:¬a≤100+s.ae:=h2;refine wh ?_;refine⟨[],[some 0],_,_,_,tx ?_,rfl,rfl,rfl⟩;exact Lz.of (ah (by simp;omega))
 ·have h1:¬a>100:=h1;refine wh ?_;refine⟨[],[some 0],_,_,_,tx ?_,rfl,rfl,rfl⟩;exact Lz.of (ah (by simp;omega))
def xg (s:MS) (m:dr):Prop:=cW m=0∧m.to=bJ s∧(m.kind≤8→100<m.al∧m.al≤100+s.ae)
theorem aaK (s:MS) (H:c9 s) (m:dr) (P:MS→Prop) (hk:1≤m.kind∧m.kind≤9) (hc:VC E0 21 0 [.agg (az m)] [] (RR (.s (.int .i64 (cW m))) 0 []))
 (ht:xg s m→VC E0 23 1 [.ptr 0 0,.agg (az m)] (bD s) (RS P)):VC E0 10 1 [.ptr 0 0,.agg (az m)] (bD s)
  (fun r o c=>(¬xg s m∧r= .sl 0 [] true∧c=1∧o=bD s)∨(xg s m∧∃s1,P s1∧r= .tk 1∧c=2∧o=[(0,Jp {s1 with out:=[]}),(1,.arr 25 true (s1.out.map az))])):=by
 have gR:=H.ms;have jF:=H.me;refine en L0 Tryz.f10 ?_;refine⟨[],[],_,_,_,_,hc,t3,cw ?_⟩;refine sp ?_ ?_<;>intro h1
 ·have h1:cW m≠0:=h1;refine wh ?_;exact⟨[],[some 0],_,_,_,t3,.inl ⟨fun e=>h1 e.1,rfl,rfl,rfl⟩⟩
 ·have h1:cW m=0:=Classical.not_not.1 h1;refine wh ?_;refine⟨[],[some 0],_,_,_,_,cy s jF,t3,cw ?_⟩;refine sp ?_ ?_<;>intro h2
  ·have h2:m.to≠bJ s:=h2;refine wh ?_;exact⟨[],[some 0],_,_,_,t3,.inl ⟨fun e=>h2 e.2.1,rfl,rfl,rfl⟩⟩
  ·have h2:m.to=bJ s:=Classical.not_not.1 h2;refine wh ?_;refine sp ?_ ?_<;>intro h3;rotate_left
   ·exact absurd (show m.kind≥1 from hk.1) h3
   ·refine wh ?_;refine sp ?_ ?_<;>intro h4
    ·have h4:m.kind≤8:=h4;refine wh ?_;refine⟨[],[some 0],_,_,_,_,aaJ s om m.al,t3,?_⟩;rintro r o' c' ⟨rfl,rfl,rfl⟩;have bm:=True.intro;clear bm;cases h5:decide (100<m.al∧m.al≤100+s.ae)
     ·refine wh ?_;have h5:=of_decide_eq_false h5;exact⟨[],[some 0],_,_,_,t3,.inl ⟨fun e=>h5 (e.2.2 h4),rfl,rfl,rfl⟩⟩
     ·refine wh ?_;have h5:=of_decide_eq_true h5;have ha:xg s m:=⟨h1,h2,fun _=>h5⟩;refine⟨[],[some 0],_,_,_,_,ht ha,t3,?_⟩;rintro r o' c' ⟨s1,iB,rfl,rfl,rfl⟩;refine wh ?_;refine⟨[],[some 0],_,_,_,_,pA s1,t3,cw ?_⟩;exact⟨[],[some 0,some 6],_,_,_,t3,.inr ⟨ha,s1,iB,rfl,rfl,rfl⟩⟩
    ·have h4:¬m.kind≤8:=h4;refine wh ?_;have ha:xg s m:=⟨h1,h2,fun e=>absurd e h4⟩;refine⟨[],[some 0],_,_,_,_,ht ha,t3,?_⟩;rintro r o' c' ⟨s1,iB,rfl,rfl,rfl⟩;refine wh ?_;refine⟨[],[some 0],_,_,_,_,pA s1,t3,cw ?_⟩;exact⟨[],[some 0,some 5],_,_,_,t3,.inr ⟨ha,s1,iB,rfl,rfl,rfl⟩⟩
theorem Hf (p:aE×Bool) (hp:PX p) (h:v8 p.1):VC E0 56 1 [.ptr 0 0] [(0,iR p)] (RR (c6 (bc p.1)) 1 [(0,iR p)]):=by
 have hlen:=ou h;obtain⟨x,f⟩:=p;cases f with
 |false=>
  obtain⟨me,ms,rfl⟩:=hp rfl;have e:bc (nE me ms)=[]:=by unfold bc;simp[aQ,cb]
  dsimp only
  rw[e];exact PS me ms
 |true=>
  have hol:x.dT.length≤512:=by unfold bc at hlen;simpa[cb,aQ]using hlen
  have fG:lW (aQ x.dT):=by
   refine⟨by simp[aQ];omega,fun n hn=>?_,h.op.nd⟩;have:=h.op.l6 n hn;have:=h.bQ;have h1:IntKind.i64.min= -9223372036854775808:=rfl;have h2:IntKind.i64.max=9223372036854775807:=rfl;omega
  refine VC.told (R:=RR (c6 (bc x)) 6 (rA x)) (VC.lY (m0:=0) rfl ?_) ?_
  ·show jE false (VC E0) _ _ [(1,iQ x),(2,kB x),(0,kT x 1 2)] 3 _;refine⟨[],[some 0,some 1,some 2],_,_,_,_,uz x fG om,t3,?_⟩;rintro r o' c' ⟨rfl,rfl,rfl⟩;exact⟨rfl,rfl,rfl⟩
  ·rintro r o' c' ⟨rfl,rfl,rfl⟩;exact⟨[],[some 0],_,_,_,t3,rfl,rfl,rfl⟩
def mw (l:List CF):List Int:=l.flatMap fun c=>c.nodes++[c.join]
theorem Hg {l:List CF} {i:Nat} (h:i<l.length):mw (l.take (i+1))=mw (l.take i)++(l[i].nodes++[l[i].join]):=by
 unfold mw;rw[gV _ i h,List.flatMap_append];simp
theorem Ao {l:List CF} (h:∀c∈l,c.nodes.length≤6):(mw l).length≤7*l.length:=by
 induction l with
 |nil=>simp[mw]
 |cons c l ih=>
  have h2:=h c List.mem_cons_self;have h3:=ih fun x hx=>h x (List.mem_cons_of_mem _ hx);unfold mw at h3 ⊢;rw[List.flatMap_cons,List.length_append,List.length_append];simp only[List.length_cons,List.length_nil];omega
def gL (down:List Int) (l:List CF) (vs:List ak):List Int:=down++mw l++vs.map (·.node)
def kN (taken:List Int):Nat→Nat→Int
 |0,_=>0
 |k+1,i=>if(i:Int)+1∈taken then kN taken k (i+1)else(i:Int)+1
theorem QB (s:MS) (H:c9 s) (l:List CF) (down:List Int) (hd:down.length≤1000) (hl:l.length≤6) (hn:∀c∈l,c.nodes.length≤6) (xn:0≤s.nodes∧s.nodes≤24):
 VC E0 58 1 [.ptr 0 0,.sl 5 (l.map aF) false,.sl 1 (down.map aR) false] (bD s) (RR (.s (.int .i64 (kN (gL down l (bc s.p.1)) s.nodes.toNat 0))) 1 (bD s)):=by
 have iW:=ou H.lw;have gQ:=Hf s.p H.px H.lw;have htC:=Ao hn;refine en L0 Tryz.f58 ?_;refine⟨[],[],_,_,_,_,iS down om,t3,cw ?_⟩
 refine⟨fun k f o c=>∃i:Nat,i≤l.length∧k=l.length - i∧c=2∧f=[(0,.ptr 0 0),(7,.tk 1),(15,.sl 5 (l.map aF) false),(16,.s (.int .i64 (l.map aF).length)),(17,.s (.int .i64 i))]∧
  o=bD s++[(1,.arr 1 true ((down++mw (l.take i)).map aR))],⟨l.length,?_⟩,?_⟩
 ·refine⟨[],[some 0,some 1],?_⟩
  iterate 3 constructor
  refine⟨⟨?_,?_,?_⟩,⟨0,Nat.zero_le _,rfl,rfl,rfl,rfl⟩⟩
  all_goals(repeat' first|exact LF|constructor)
  all_goals first|exact Lz.rfl|exact Lz.of (by simp[mw])
 ·rintro k f1 o1 c1 ⟨i,hi,rfl,rfl,rfl,rfl⟩;have htl:=Ao (l:=l.take i) fun c hc=>hn c (List.mem_of_mem_take hc);rw[List.length_take]at htl;refine wh ?_;refine sp ?_ ?_<;>intro aN
  ·have aN:i<l.length:=dZ.1 aN;have Nc:=hn _ (List.getElem_mem aN);refine wh ?_;refine eT aN ?_;refine wh ?_;refine⟨by simp;omega,?_⟩;refine wh ?_;refine⟨by simp;omega,?_⟩;refine wh ?_;refine⟨l.length - (i+1),?_,om⟩;refine⟨[],[some 0,some 5],_,_,_,tx ?_,⟨i+1,aN,rfl,rfl,rfl,rfl⟩⟩;exact Lz.of (by rw[Hg aN];simp)
  ·have aN:¬i<l.length:=mt dZ.2 aN;rw[List.take_of_length_le (Nat.not_lt.1 aN)];obtain⟨me,ms,nodes,fA,a8,quiet,waited,q,kn,K,lc,⟨x,f⟩,out⟩:=s;cases f
   ·dsimp only at iW xn;refine wh ?_;refine⟨[],[some 2],_,_,_,_,gQ,t3,cw ?_⟩
    refine⟨fun k f o c=>∃j:Nat,j≤(bc x).length∧k=(bc x).length - j∧c=2∧f=[(0,.ptr 0 0),(7,.tk 1),(34,c6 (bc x)),(35,.s (.int .i64 ((bc x).map eZ).length)),(36,.s (.int .i64 j))]∧
     o=bD ⟨me,ms,nodes,fA,a8,quiet,waited,q,kn,K,lc,(x,false),out⟩++[(1,.arr 1 true ((down++mw l++((bc x).take j).map (·.node)).map aR))],⟨(bc x).length,?_⟩,?_⟩
    ·refine⟨[],[some 0,some 1],?_⟩
     iterate 3 constructor
     refine⟨⟨?_,?_,?_⟩,⟨0,Nat.zero_le _,rfl,rfl,rfl,rfl⟩⟩
     all_goals(repeat' first|exact LF|constructor)
     all_goals first|exact Lz.rfl|exact Lz.of (by simp)
    ·rintro k f1 o1 c1 ⟨j,hj,rfl,rfl,rfl,rfl⟩;refine wh ?_;refine sp ?_ ?_<;>intro mK
     ·have mK:j<(bc x).length:=dZ.1 mK;refine wh ?_;refine eT mK ?_;refine wh ?_;refine⟨by simp;omega,?_⟩;refine wh ?_;refine⟨(bc x).length - (j+1),?_,om⟩;refine⟨[],[some 0,some 4],_,_,_,tx ?_,⟨j+1,mK,rfl,rfl,rfl,rfl⟩⟩;exact Lz.of (by rw[gV _ j mK];simp only[List.map_append,List.append_assoc];rfl)
     ·have mK:¬j<(bc x).length:=mt dZ.2 mK;rw[List.take_of_length_le (Nat.not_lt.1 mK)];refine wh ?_
      refine⟨fun k f o c=>∃n:Nat,n≤nodes.toNat∧k=nodes.toNat - n∧kN (gL down l (bc x)) (nodes.toNat - n) n=kN (gL down l (bc x)) nodes.toNat 0∧c=1∧f=[(0,.ptr 0 0),(7,.sl 1 ((gL down l (bc x)).map aR) false),(50,.s (.int .i64 nodes)),(51,.s (.int .i64 n))]∧
       o=bD ⟨me,ms,nodes,fA,a8,quiet,waited,q,kn,K,lc,(x,false),out⟩,⟨nodes.toNat,?_⟩,?_⟩
      ·exact⟨[1],[some 0],_,_,_,t3,⟨0,Nat.zero_le _,rfl,rfl,rfl,rfl,rfl⟩⟩
      ·rintro k f1 o1 c1 ⟨n,KZ,rfl,vk,rfl,rfl,rfl⟩;have hw:IntKind.i64.wrap ((n:Int)+1)=(n:Int)+1:=IntWalk.i64_in _ om;have uU:(gL down l (bc x)).length<1000000:=by unfold gL;simp;omega
       refine wh ?_;refine sp ?_ ?_<;>intro h3
       ·have h3:(n:Int)<nodes:=h3;have bR:nodes.toNat - n=(nodes.toNat - (n+1))+1:=by omega
        rw[bR]at vk;refine wh ?_;rw[hw];refine⟨[],[],_,_,_,_,jq (gL down l (bc x)) ((n:Int)+1) uU,t3,?_⟩;rintro r o' c' ⟨rfl,rfl,rfl⟩;have bm:=True.intro;clear bm;cases hb:decide ((n:Int)+1∈gL down l (bc x))
        ·have hb:=of_decide_eq_false hb;refine wh ?_;refine⟨[],[some 0],_,_,_,tx ?_,rfl,rfl,rfl⟩;exact Lz.int (by rw[hw];rw[kN,if_neg hb]at vk;exact vk)
        ·have hb:=of_decide_eq_true hb;refine wh ?_;rw[kN,if_pos hb]at vk;refine⟨nodes.toNat - (n+1),?_,om⟩;exact⟨[],[some 0],_,_,_,t3,⟨n+1,om,rfl,vk,rfl,rfl,rfl⟩⟩
       ·have h3:¬(n:Int)<nodes:=h3;refine wh ?_;refine⟨[],[some 0],_,_,_,tx ?_,rfl,rfl,rfl⟩;exact Lz.int (by rw[show nodes.toNat - n=0 by omega]at vk;exact vk)
   ·dsimp only at iW xn;refine wh ?_;refine⟨[],[some 2],_,_,_,_,gQ,t3,cw ?_⟩
    refine⟨fun k f o c=>∃j:Nat,j≤(bc x).length∧k=(bc x).length - j∧c=2∧f=[(0,.ptr 0 0),(7,.tk 1),(34,c6 (bc x)),(35,.s (.int .i64 ((bc x).map eZ).length)),(36,.s (.int .i64 j))]∧
     o=bD ⟨me,ms,nodes,fA,a8,quiet,waited,q,kn,K,lc,(x,true),out⟩++[(1,.arr 1 true ((down++mw l++((bc x).take j).map (·.node)).map aR))],⟨(bc x).length,?_⟩,?_⟩
    ·refine⟨[],[some 0,some 1],?_⟩
     iterate 3 constructor
     refine⟨⟨?_,?_,?_⟩,⟨0,Nat.zero_le _,rfl,rfl,rfl,rfl⟩⟩
     all_goals(repeat' first|exact LF|constructor)
     all_goals first|exact Lz.rfl|exact Lz.of (by simp)
    ·rintro k f1 o1 c1 ⟨j,hj,rfl,rfl,rfl,rfl⟩;refine wh ?_;refine sp ?_ ?_<;>intro mK
     ·have mK:j<(bc x).length:=dZ.1 mK;refine wh ?_;refine eT mK ?_;refine wh ?_;refine⟨by simp;omega,?_⟩;refine wh ?_;refine⟨(bc x).length - (j+1),?_,om⟩;refine⟨[],[some 0,some 4],_,_,_,tx ?_,⟨j+1,mK,rfl,rfl,rfl,rfl⟩⟩;exact Lz.of (by rw[gV _ j mK];simp only[List.map_append,List.append_assoc];rfl)
     ·have mK:¬j<(bc x).length:=mt dZ.2 mK;rw[List.take_of_length_le (Nat.not_lt.1 mK)];refine wh ?_
      refine⟨fun k f o c=>∃n:Nat,n≤nodes.toNat∧k=nodes.toNat - n∧kN (gL down l (bc x)) (nodes.toNat - n) n=kN (gL down l (bc x)) nodes.toNat 0∧c=1∧f=[(0,.ptr 0 0),(7,.sl 1 ((gL down l (bc x)).map aR) false),(50,.s (.int .i64 nodes)),(51,.s (.int .i64 n))]∧
       o=bD ⟨me,ms,nodes,fA,a8,quiet,waited,q,kn,K,lc,(x,true),out⟩,⟨nodes.toNat,?_⟩,?_⟩
      ·exact⟨[1],[some 0],_,_,_,t3,⟨0,Nat.zero_le _,rfl,rfl,rfl,rfl,rfl⟩⟩
      ·rintro k f1 o1 c1 ⟨n,KZ,rfl,vk,rfl,rfl,rfl⟩;have hw:IntKind.i64.wrap ((n:Int)+1)=(n:Int)+1:=IntWalk.i64_in _ om;have uU:(gL down l (bc x)).length<1000000:=by unfold gL;simp;omega
       refine wh ?_;refine sp ?_ ?_<;>intro h3
       ·have h3:(n:Int)<nodes:=h3;have bR:nodes.toNat - n=(nodes.toNat - (n+1))+1:=by omega
        rw[bR]at vk;refine wh ?_;rw[hw];refine⟨[],[],_,_,_,_,jq (gL down l (bc x)) ((n:Int)+1) uU,t3,?_⟩;rintro r o' c' ⟨rfl,rfl,rfl⟩;have bm:=True.intro;clear bm;cases hb:decide ((n:Int)+1∈gL down l (bc x))
        ·have hb:=of_decide_eq_false hb;refine wh ?_;refine⟨[],[some 0],_,_,_,tx ?_,rfl,rfl,rfl⟩;exact Lz.int (by rw[hw];rw[kN,if_neg hb]at vk;exact vk)
        ·have hb:=of_decide_eq_true hb;refine wh ?_;rw[kN,if_pos hb]at vk;refine⟨nodes.toNat - (n+1),?_,om⟩;exact⟨[],[some 0],_,_,_,t3,⟨n+1,om,rfl,vk,rfl,rfl,rfl⟩⟩
       ·have h3:¬(n:Int)<nodes:=h3;refine wh ?_;refine⟨[],[some 0],_,_,_,tx ?_,rfl,rfl,rfl⟩;exact Lz.int (by rw[show nodes.toNat - n=0 by omega]at vk;exact vk)
theorem QC {s s':MS} (H:c9 s) {b aM:Int} {vs:List ak} (hv:tc vs) (h:xC s b aM vs s'):Gr s s' 5120:=by
 have H1:=H.promise b aM vs hv.len hv.l6 hv.chk;obtain⟨nh,pX⟩:=ta H.lw b aM vs H1.lw;have h0:Gr s (xe s b aM vs) 0:=⟨H1,rfl,rfl,rfl,rfl,rfl,.refl _,Nat.le_refl _⟩;unfold xC at h;split at h
 ·exact(h0.trans (Em h H1 nh)).le om
 ·subst h;exact h0.le (by decide)
theorem QD {s s':MS} (H:c9 s) {c:cA} (h:xD s c s'):Gr s s' 10:=by
 have H1:=H.pc c;have h0:Gr s (sa s c) 0:=⟨H1,rfl,rfl,rfl,rfl,rfl,.refl _,Nat.le_refl _⟩;unfold xD at h;split at h
 ·rename_i he;exact(h0.trans (Em h H1 fun v hv=>by rw[List.mem_singleton.1 hv];exact En H.lw c he)).le (by simp)
 ·subst h;exact h0.le (by decide)
theorem TK {s s':MS} (H:c9 s) {b slot to:Int} {vs:List ak} (hv:tc vs) (h:Am s b slot vs to s'):Gr s s' 5120:=by
 unfold Am at h;split at h
 ·exact QC H hv h
 ·subst h;exact(xZ H _ to).le (by decide)
theorem TL {s s':MS} (H:c9 s) {b slot to e:Int} {vs:List ak} (hv:tc vs) (h:An s b slot vs to e s'):Gr s s' 5120:=by
 unfold An at h;split at h
 ·have h1:=TK H.nB hv h;exact⟨h1.ok,h1.me,h1.ms,h1.l,h1.no,h1.tk,h1.kr,h1.out⟩
 split at h
 ·subst h;exact(JA H to).le (by decide)
 ·subst h;exact(Gr.refl H).le (by decide)
theorem CB {s s':MS} (H:c9 s) {b slot al:Int} (hb:fB b) (h:kg s b slot al s'):Gr s s' 5120:=by
 have h1:=TL ((H.refuse b).MR hb slot) (Ep H b slot) h;exact⟨h1.ok,h1.me,h1.ms,h1.l,h1.no,h1.tk,h1.kr,h1.out⟩
theorem QE {s s':MS} (H:c9 s) (h:nC s s'):Gr s s' 5125:=by
 have h0:Gr s (qK s) 0:=⟨H.start,rfl,rfl,rfl,rfl,rfl,.refl _,Nat.le_refl _⟩;unfold nC at h;split at h
 ·rename_i he;exact(h0.trans ((ot H.start _).trans (CB (H.start.outs _) (uK H.lw H.qp he).1 h))).le (by decide)
 ·subst h;exact h0.le (by decide)
theorem TM {s:MS} (H:c9 s) (b slot al:Int):Gr s (xf s b slot al) 1:=by
 have H1:c9 {gq s b with quiet:=0}:=(H.refuse b).nB;have h0:Gr s {gq s b with quiet:=0} 0:=⟨H1,rfl,rfl,rfl,rfl,rfl,.refl _,Nat.le_refl _⟩;unfold xf;split
 ·exact JA H al
 split
 ·exact(h0.trans (xZ H1 _ al)).le (by decide)
 ·exact h0.le (by decide)
theorem TN {s:MS} (H:c9 s) (slot al:Int):Gr s (Ha s slot al) 8:=by
 refine⟨H.outs _,rfl,rfl,rfl,rfl,rfl,.refl _,?_⟩;have h1:=CA s slot al 8;show(s.out++pB s slot al 8).length+7*cN s≤s.out.length+7*cN s+8;rw[List.length_append];omega
theorem Xn {s s':MS} (H:c9 s) {c:cA} (h:Bk s c s'):Gr s s' 10:=by
 unfold Bk at h;split at h
 ·exact QD H h
 ·subst h;exact(Gr.refl H).le (by decide)
def iJ (s:MS) (vs:List ak):List dr:=vs.flatMap fun v=>mL s (lu v) s.ae.toNat
theorem Hh {s:MS} {vs:List ak} {i:Nat} (h:i<vs.length):iJ s (vs.take (i+1))=iJ s (vs.take i)++mL s (lu vs[i]) s.ae.toNat:=by
 unfold iJ;rw[gV _ i h,List.flatMap_append];simp
theorem te {s:MS} (H:c9 s) (vs:List ak):(iJ s vs).length≤5*vs.length:=by
 have gR:=H.ms
 induction vs with
 |nil=>simp[iJ]
 |cons v vs ih=>
  have h1:=mu s (lu v) s.ae.toNat
  unfold iJ at ih ⊢;rw[List.flatMap_cons,List.length_append,List.length_cons];omega
@[reducible] def QF (s:MS) (vs:List ak):MS:={s with out:=s.out++iJ s vs}
theorem MY (s:MS) (H:c9 s) (vs:List ak) (hl:s.out.length<20000) (hv:vs.length≤600):VC E0 55 1 [c6 vs,.dc 27 [.ptr 0 0] []] (bD s) (RR (.dk []) 1 (bD (QF s vs))):=by
 have jF:=H.me;have gR:=H.ms;refine en L0 Tryz.f55 ?_;refine⟨fun k f o c=>∃i:Nat,i≤vs.length∧k=vs.length - i∧c=1∧f=[(1,.dc 27 [.ptr 0 0] []),(6,c6 vs),(7,.s (.int .i64 (vs.map eZ).length)),(8,.s (.int .i64 i))]∧o=bD {s with out:=s.out++iJ s (vs.take i)},⟨vs.length,?_⟩,?_⟩
 ·refine⟨[],[some 0],?_⟩
  iterate 3 constructor
  refine⟨⟨?_,?_,?_⟩,⟨0,Nat.zero_le _,rfl,rfl,rfl,rfl⟩⟩
  all_goals(repeat' first|exact LF|constructor)
  all_goals first|exact Lz.rfl|exact Lz.of (by simp[iJ])
 ·rintro k f1 o1 c1 ⟨i,hi,rfl,rfl,rfl,rfl⟩;have hG:=te H (vs.take i);rw[List.length_take]at hG;refine wh ?_;refine sp ?_ ?_<;>intro aN
  ·have aN:i<vs.length:=dZ.1 aN;refine wh ?_;refine eT aN ?_;refine wh ?_;refine⟨[],[some 0],_,_,_,_,rC {s with out:=s.out++iJ s (vs.take i)} (lu vs[i]) jF (by show 1≤s.ae∧s.ae≤5;omega) (by rw[List.length_append];omega),t3,cw ?_⟩;refine⟨vs.length - (i+1),?_,om⟩;refine⟨[],[some 0],_,_,_,tx ?_,⟨i+1,aN,rfl,rfl,rfl,rfl⟩⟩;exact Lz.of (by rw[Hh aN];simp only[List.map_append,List.append_assoc];rfl)
  ·have aN:¬i<vs.length:=mt dZ.2 aN;refine wh ?_;refine⟨[],[some 0],_,_,_,tx ?_,rfl,rfl,rfl⟩;exact Lz.of (by rw[List.take_of_length_le (Nat.not_lt.1 aN)])
@[reducible] def gM (b slot:Int):dr:=⟨6,0,0,b,slot,aH,aY,[]⟩
inductive pC:MS→Nat→MS→Prop
 |nil (s:MS):pC s 0 s
 |snoc {s s1 s':MS} {k:Nat} {c:cA} (t:pC s k s1) (h:xD s1 c s'):pC s (k+1) s'
 |skip {s s1:MS} {k:Nat} (t:pC s k s1):pC s (k+1) s1
theorem Et {s s':MS} {k:Nat} (h:pC s k s'):c9 s→Gr s s' (10*k):=by
 induction h with
 |nil=>intro H;exact .refl H
 |snoc t h ih=>
  intro H;have h1:=ih H;exact(h1.trans (QD h1.ok h)).le om
 |skip t ih=>intro H;exact(ih H).le om
@[reducible] noncomputable def aC (s:MS):List CF:=(lr s.kn s.K s.l).bM
@[reducible] noncomputable def gu (s:MS):MS:=QF (bz s (gM s.p.1.b (aK s.K))) (bc s.p.1)
def KL (s s':MS):Prop:=∃c∈aC s,pC (qH (gu s) c) (aC s).length s'
theorem KM (K:List ak) (l:List CF):∀n,(bf K l n).2.length=l.length
 |0=>rfl
 |n+1=>by
  have ih:=KM K l n;unfold bf;cases K[n]? with
  |none=>exact ih
  |some v=>dsimp only;rw[KF];exact ih
theorem c9.bM {s:MS} (H:c9 s):(aC s).length=s.l.length∧∀c∈aC s,c.nodes.length≤6∧∀x∈aG c,x≤24:=
 ⟨KM _ _ _,fun c hc=>⟨(H.lE.aV s.K (aK s.K)).n6 c hc,H.nc s.K H.kK c hc⟩⟩
theorem TP {a b:Int} (ha:0≤a) (hb:0<b):Fk .rem .i64 .i64 a b=some (.int .i64 (a % b)):=by
 show fb (Go.binOp .rem 0 (.int .i64 a) (.int .i64 b))=_;simp only[Go.binOp,Op.intDiv];rw[Int.tmod_eq_emod_of_nonneg ha];rw[if_neg (show¬b=0 by omega)];rfl
@[reducible] def TQ:TV:=.sl 0 [] true
theorem aaL (s:MS) (H:c9 s) (h0:1≤s.l.length) (xn:0≤s.nodes∧s.nodes≤24) (uU:0≤s.a8∧s.a8<1000000) (hl:s.out.length<5000):VC E0 26 1 [.ptr 0 0,TQ] (bD s) (RS (KL s)):=by
 have jF:=H.me;have gR:=H.ms;have b6:=H.bM;have hot:=mu s (gM s.p.1.b (aK s.K)) s.ae.toNat
 have iW:=ou H.lw;have Hb:=H.outs (s.out++mL s (gM s.p.1.b (aK s.K)) s.ae.toNat);have hon:=te Hb (bc s.p.1);have Hr:=Hb.outs ((s.out++mL s (gM s.p.1.b (aK s.K)) s.ae.toNat)++iJ (bz s (gM s.p.1.b (aK s.K))) (bc s.p.1));have hoc:=rC s (gM s.p.1.b (aK s.K)) jF om om;have hac:=MY (bz s (gM s.p.1.b (aK s.K))) Hb (bc s.p.1) (by show(s.out++mL s (gM s.p.1.b (aK s.K)) s.ae.toNat).length<20000;rw[List.length_append];omega) om;have hlr:(gu s).out.length<9000:=by
  show((s.out++mL s (gM s.p.1.b (aK s.K)) s.ae.toNat)++iJ (bz s (gM s.p.1.b (aK s.K))) (bc s.p.1)).length<9000;have hon:(iJ (bz s (gM s.p.1.b (aK s.K))) (bc s.p.1)).length≤5*(bc s.p.1).length:=hon;rw[List.length_append,List.length_append];omega
 have ht:∀c∈aC s,VC E0 57 1 [.ptr 0 0,.agg (aF c)] (bD (gu s)) (RR (.dk []) 1 (bD (qH (gu s) c))):=fun c hc=>
  UU (gu s) c jF (by have:=(b6.2 c hc).1;omega) (fun n hn=>by have:=(b6.2 c hc).2 n hn;show n≠100+s.me;omega) om
 have Hc:∀c,c9 (qH (gu s) c):=fun c=>Hr.outs _;have Hcl:∀c∈aC s,(qH (gu s) c).out.length<10000:=fun c hc=>by
  have h1:=eA c;have h2:=(b6.2 c hc).1;have h3:(gY (gu s) c (aG c)).length=(aG c).length:=by simp[gY]
  show((gu s).out++gY (gu s) c (aG c)).length<10000;rw[List.length_append];omega
 have hb:=zT s.p H.px;have hn:=qI (lr s.kn s.K s.l);have ho:=Hf s.p H.px H.lw;have uS:=rD (lr s.kn s.K s.l) (by have:=b6.1;have:=H.lE.len;show(aC s).length<10000;omega) (fun c hc=>by have:=(b6.2 c hc).1;omega);obtain⟨a,ha,hvr⟩:∃a:Nat,a<(aC s).length∧Fk .rem .i64 .i64 s.a8 (((aC s).map aF).length:Nat)=some (.int .i64 (a:Int)):=by
  have h1:=Int.emod_nonneg s.a8 (show(((aC s).length:Nat):Int)≠0 by omega);have h2:=Int.emod_lt_of_pos s.a8 (show 0<(((aC s).length:Nat):Int) by omega);refine⟨(s.a8 % (aC s).length).toNat,om,?_⟩;rw[List.length_map,TP uU.1 om,Int.toNat_of_nonneg h1]
 have hta:=ht _ (List.getElem_mem ha);obtain⟨me,ms,nodes,fA,a8,quiet,waited,q,kn,K,l,⟨x,f⟩,out⟩:=s;cases f
 ·refine en L0 Tryz.f26 ?_;refine⟨[],[some 1],_,_,_,_,hb,t3,cw ?_⟩;refine⟨[],[some 3],_,_,_,_,hn,t3,cw ?_⟩;refine⟨[],[some 0],_,_,_,_,hoc,t3,cw ?_⟩;refine⟨[],[some 6],_,_,_,_,ho,t3,cw ?_⟩;refine⟨[],[some 0],_,_,_,_,hac,t3,cw ?_⟩;refine⟨[],[some 9],_,_,_,_,uS,t3,cw ?_⟩;rw[hvr];refine wh ?_;refine eT ha ?_;refine wh ?_;refine⟨[],[some 0],_,_,_,_,hta,t3,cw ?_⟩
  refine⟨fun k f o c=>∃(i:Nat) (s1:MS),i≤l.length∧k=l.length - i∧pC (qH (gu ⟨me,ms,nodes,fA,a8,quiet,waited,q,kn,K,l,(x,false),out⟩) (aC ⟨me,ms,nodes,fA,a8,quiet,waited,q,kn,K,l,(x,false),out⟩)[a]) i s1∧c=1∧f=[(0,.ptr 0 0),(1,TQ),(48,.s (.int .i64 l.length)),(49,.s (.int .i64 i))]∧o=bD s1,⟨l.length,?_⟩,?_⟩
  ·refine⟨[],[some 0],_,_,_,tx ?_,⟨0,_,Nat.zero_le _,rfl,.nil _,rfl,rfl,rfl⟩⟩;exact Lz.int (by rw[List.length_map];exact congrArg Nat.cast b6.1)
  ·rintro k f1 o1 c1 ⟨i,s1,hi,rfl,hA,rfl,rfl,rfl⟩;have hG:=Et hA (Hc _);have H1:=hG.ok;have RP:=hG.lt (Hc _);have adD:=Hcl _ (List.getElem_mem ha);have lx:=H1.bM;have vd:s1.l=l:=hG.l;have Ui:s1.nodes=nodes:=hG.no;have hle:l.length≤6:=H.lE.len;have Xo:=rD (lr s1.kn s1.K s1.l) (by show(aC s1).length<10000;rw[lx.1,vd];exact Nat.lt_of_le_of_lt hle (by decide)) (fun c hc=>by have:=(lx.2 c hc).1;omega);refine wh ?_;refine sp ?_ ?_<;>intro aN
   ·have aN:i<l.length:=by
     have:(i:Int)<(l.length:Nat):=aN;omega
    have hic:i<(aC s1).length:=by rw[lx.1,vd];exact aN
    refine wh ?_;refine⟨[],[some 1],_,_,_,_,Xo,t3,cw ?_⟩;refine eT hic ?_;refine wh ?_;have hc6:=(lx.2 _ (List.getElem_mem hic)).1;have vk:=QB s1 H1 (aC s1) [] (by simp) (by rw[lx.1,vd];exact hle) (fun c hc=>(lx.2 c hc).1) (by rw[Ui];exact xn);generalize kN (gL [] (aC s1) (bc s1.p.1)) s1.nodes.toNat 0=spr at vk;generalize (aC s1)[i]=ci at hc6;obtain⟨chain,aq,ns,fresh,join⟩:=ci;have uL:pC (qH (gu ⟨me,ms,nodes,fA,a8,quiet,waited,q,kn,K,l,(x,false),out⟩) (aC ⟨me,ms,nodes,fA,a8,quiet,waited,q,kn,K,l,(x,false),out⟩)[a]) (i+1) s1:=hA.skip;refine sp ?_ ?_<;>intro hj
    ·refine wh ?_;refine⟨l.length - (i+1),?_,om⟩;exact⟨[],[some 0],_,_,_,t3,⟨i+1,s1,aN,rfl,uL,rfl,rfl,rfl⟩⟩
    refine wh ?_;cases fresh with
    |true=>
     refine wh ?_;refine⟨l.length - (i+1),?_,om⟩;exact⟨[],[some 0],_,_,_,t3,⟨i+1,s1,aN,rfl,uL,rfl,rfl,rfl⟩⟩
    |false=>
     refine wh ?_;refine sp ?_ ?_<;>intro hp
     ·refine wh ?_;refine⟨l.length - (i+1),?_,om⟩;exact⟨[],[some 0],_,_,_,t3,⟨i+1,s1,aN,rfl,uL,rfl,rfl,rfl⟩⟩
     refine wh ?_;refine⟨[],[some 0],_,_,_,_,vk,t3,cw ?_⟩;refine sp ?_ ?_<;>intro hz
     ·refine wh ?_;refine⟨[],[some 0],_,_,_,_,Aj s1 H1 ⟨2,chain,aq,spr⟩ om,t3,?_⟩;rintro r o' c' ⟨s2,mJ,rfl,rfl,rfl⟩;refine wh ?_;refine⟨l.length - (i+1),?_,om⟩;exact⟨[],[some 0],_,_,_,t3,⟨i+1,s2,aN,rfl,hA.snoc mJ,rfl,rfl,rfl⟩⟩
     ·refine wh ?_;refine⟨l.length - (i+1),?_,om⟩;exact⟨[],[some 0],_,_,_,t3,⟨i+1,s1,aN,rfl,uL,rfl,rfl,rfl⟩⟩
   ·have aN:i=l.length:=by
     have:¬(i:Int)<(l.length:Nat):=aN;omega
    subst aN;refine wh ?_;exact⟨[],[some 0],_,_,_,t3,⟨s1,⟨_,List.getElem_mem ha,by rw[b6.1];exact hA⟩,rfl,rfl,rfl⟩⟩
 ·refine en L0 Tryz.f26 ?_;refine⟨[],[some 1],_,_,_,_,hb,t3,cw ?_⟩;refine⟨[],[some 3],_,_,_,_,hn,t3,cw ?_⟩;refine⟨[],[some 0],_,_,_,_,hoc,t3,cw ?_⟩;refine⟨[],[some 6],_,_,_,_,ho,t3,cw ?_⟩;refine⟨[],[some 0],_,_,_,_,hac,t3,cw ?_⟩;refine⟨[],[some 9],_,_,_,_,uS,t3,cw ?_⟩;rw[hvr];refine wh ?_;refine eT ha ?_;refine wh ?_;refine⟨[],[some 0],_,_,_,_,hta,t3,cw ?_⟩
  refine⟨fun k f o c=>∃(i:Nat) (s1:MS),i≤l.length∧k=l.length - i∧pC (qH (gu ⟨me,ms,nodes,fA,a8,quiet,waited,q,kn,K,l,(x,true),out⟩) (aC ⟨me,ms,nodes,fA,a8,quiet,waited,q,kn,K,l,(x,true),out⟩)[a]) i s1∧c=1∧f=[(0,.ptr 0 0),(1,TQ),(48,.s (.int .i64 l.length)),(49,.s (.int .i64 i))]∧o=bD s1,⟨l.length,?_⟩,?_⟩
  ·refine⟨[],[some 0],_,_,_,tx ?_,⟨0,_,Nat.zero_le _,rfl,.nil _,rfl,rfl,rfl⟩⟩;exact Lz.int (by rw[List.length_map];exact congrArg Nat.cast b6.1)
  ·rintro k f1 o1 c1 ⟨i,s1,hi,rfl,hA,rfl,rfl,rfl⟩;have hG:=Et hA (Hc _);have H1:=hG.ok;have RP:=hG.lt (Hc _);have adD:=Hcl _ (List.getElem_mem ha);have lx:=H1.bM;have vd:s1.l=l:=hG.l;have Ui:s1.nodes=nodes:=hG.no;have hle:l.length≤6:=H.lE.len;have Xo:=rD (lr s1.kn s1.K s1.l) (by show(aC s1).length<10000;rw[lx.1,vd];exact Nat.lt_of_le_of_lt hle (by decide)) (fun c hc=>by have:=(lx.2 c hc).1;omega);refine wh ?_;refine sp ?_ ?_<;>intro aN
   ·have aN:i<l.length:=by
     have:(i:Int)<(l.length:Nat):=aN;omega
    have hic:i<(aC s1).length:=by rw[lx.1,vd];exact aN
    refine wh ?_;refine⟨[],[some 1],_,_,_,_,Xo,t3,cw ?_⟩;refine eT hic ?_;refine wh ?_;have hc6:=(lx.2 _ (List.getElem_mem hic)).1;have vk:=QB s1 H1 (aC s1) [] (by simp) (by rw[lx.1,vd];exact hle) (fun c hc=>(lx.2 c hc).1) (by rw[Ui];exact xn);generalize kN (gL [] (aC s1) (bc s1.p.1)) s1.nodes.toNat 0=spr at vk;generalize (aC s1)[i]=ci at hc6;obtain⟨chain,aq,ns,fresh,join⟩:=ci;have uL:pC (qH (gu ⟨me,ms,nodes,fA,a8,quiet,waited,q,kn,K,l,(x,true),out⟩) (aC ⟨me,ms,nodes,fA,a8,quiet,waited,q,kn,K,l,(x,true),out⟩)[a]) (i+1) s1:=hA.skip;refine sp ?_ ?_<;>intro hj
    ·refine wh ?_;refine⟨l.length - (i+1),?_,om⟩;exact⟨[],[some 0],_,_,_,t3,⟨i+1,s1,aN,rfl,uL,rfl,rfl,rfl⟩⟩
    refine wh ?_;cases fresh with
    |true=>
     refine wh ?_;refine⟨l.length - (i+1),?_,om⟩;exact⟨[],[some 0],_,_,_,t3,⟨i+1,s1,aN,rfl,uL,rfl,rfl,rfl⟩⟩
    |false=>
     refine wh ?_;refine sp ?_ ?_<;>intro hp
     ·refine wh ?_;refine⟨l.length - (i+1),?_,om⟩;exact⟨[],[some 0],_,_,_,t3,⟨i+1,s1,aN,rfl,uL,rfl,rfl,rfl⟩⟩
     refine wh ?_;refine⟨[],[some 0],_,_,_,_,vk,t3,cw ?_⟩;refine sp ?_ ?_<;>intro hz
     ·refine wh ?_;refine⟨[],[some 0],_,_,_,_,Aj s1 H1 ⟨2,chain,aq,spr⟩ om,t3,?_⟩;rintro r o' c' ⟨s2,mJ,rfl,rfl,rfl⟩;refine wh ?_;refine⟨l.length - (i+1),?_,om⟩;exact⟨[],[some 0],_,_,_,t3,⟨i+1,s2,aN,rfl,hA.snoc mJ,rfl,rfl,rfl⟩⟩
     ·refine wh ?_;refine⟨l.length - (i+1),?_,om⟩;exact⟨[],[some 0],_,_,_,t3,⟨i+1,s1,aN,rfl,uL,rfl,rfl,rfl⟩⟩
   ·have aN:i=l.length:=by
     have:¬(i:Int)<(l.length:Nat):=aN;omega
    subst aN;refine wh ?_;exact⟨[],[some 0],_,_,_,t3,⟨s1,⟨_,List.getElem_mem ha,by rw[b6.1];exact hA⟩,rfl,rfl,rfl⟩⟩
structure uM where
 kind:Int
 al:Int
 ai:Int
 slot:Int
 cmd:cA
def eX (S:List uM) (b s:Int) (c:cA):Prop:=∃m∈S,m.kind=3∧m.ai=b∧m.slot=s∧m.cmd=c
def x3 (S:List uM) (a b s:Int):Prop:=∃m∈S,m.kind=4∧m.al=a∧m.ai=b∧m.slot=s
def uN (S:List uM) (b s:Int):Prop:=∃m∈S,m.kind=1∧m.ai=b∧m.slot=s
def eY (all:List MS) (a:Int):Int:=((all[(a - 1).toNat]?).map fun s=>s.q.1).getD 0
def QG (n:Nat) (P:Int→Prop):Prop:=∃t:Nat,t<64∧iC t n=true∧∀i:Nat,1≤i→i≤n→t.testBit i=true→P i
def UW (n s t:Nat):Bool:= !(iC s n&&iC t n)||(List.range (n+1)).any fun i=>decide (1≤i)&&s.testBit i&&t.testBit i
theorem TR:∀n<6,∀s<64,∀t<64,UW n s t=true:=by decide+kernel
theorem QG.meet {n:Nat} (hn:n≤5) {P P':Int→Prop} (h:QG n P) (h':QG n P'):∃i:Nat,1≤i∧i≤n∧P i∧P' i:=by
 obtain⟨s,s6,s1,s2⟩:=h;obtain⟨t,t6,t1,t2⟩:=h';have hk:=TR n om s s6 t t6;unfold UW at hk;rw[s1,t1]at hk;simp only[Bool.and_self,Bool.not_true,Bool.false_or,List.any_eq_true,List.mem_range,Bool.and_eq_true,decide_eq_true_iff]at hk;obtain⟨i,hi,⟨h1,h2⟩,h3⟩:=hk;exact⟨i,h1,om,s2 i h1 om h2,t2 i h1 om h3⟩
theorem QG.imp {n:Nat} {P P':Int→Prop} (h:QG n P) (hi:∀i,P i→P' i):QG n P':=by
 obtain⟨t,t6,t1,t2⟩:=h;exact⟨t,t6,t1,fun i a b c=>hi _ (t2 i a b c)⟩
def Ru (n:Nat) (p:Int→Int) (S:List uM) (b s:Int):Prop:=QG n fun a=>b<p a∧¬x3 S a b s
def Nq (n:Nat) (S:List uM) (s:Int) (c:cA):Prop:=∃b,eX S b s c∧QG n fun a=>x3 S a b s
structure Ext (p:Int→Int) (S:List uM) (p':Int→Int) (S':List uM):Prop where
 le:∀a,p a≤p' a
 sub:∀m∈S,m∈S'
 new:∀a b s,x3 S' a b s→x3 S a b s∨p a≤b
def jt (p:Int→Int) (S:List uM) (w b al:Int) (vs:List ak):Prop:=
 b≤p w∧(∀b' s,al≤s→b'<b→x3 S w b' s→∃v∈vs,v.slot=s∧b'≤v.ai)∧∀v∈vs,v.ai≤b∧eX S v.ai v.slot (ao v)∧al≤v.slot∧0≤v.slot∧v.slot<512
inductive MZ:dr→Prop
 |MR (f t b s:Int) (hb:fB b) (h:f≠t):MZ ⟨1,f,t,b,s,aH,aY,[]⟩
 |prom (f t b s:Int) (vs:List ak) (hv:tc vs) (h:f≠t):MZ ⟨2,f,t,b,s,aH,aY,vs⟩
 |acc (f t b s:Int) (c:cA) (hb:fB b) (h:f≠t):MZ ⟨3,f,t,b,s,c,aY,[]⟩
 |aaO (f t b s:Int) (h:f≠t):MZ ⟨4,f,t,b,s,aH,aY,[]⟩
 |aaP (f t s:Int) (c:cA) (h:f≠t):MZ ⟨5,f,t,0,s,c,aY,[]⟩
 |TS (f t b s:Int) (h:f≠t):MZ ⟨6,f,t,b,s,aH,aY,[]⟩
 |want (f t s:Int) (h:f≠t):MZ ⟨7,f,t,0,s,aH,aY,[]⟩
 |aaQ (f t b:Int) (h:f≠t):MZ ⟨8,f,t,b,0,aH,aY,[]⟩
 |GS (f t:Int) (c:CF) (h:t≤24):MZ ⟨11,f,t,0,0,aH,c,[]⟩
structure gy (n:Nat) (p:Int→Int) (S:List uM) (m:dr):Prop where
 k1:m.kind=1→uN S m.ai m.slot
 k2:m.kind=2→uN S m.ai m.slot∧jt p S (m.al - 100) m.ai m.slot m.fk
 k3:m.kind=3→eX S m.ai m.slot m.cmd
 k4:m.kind=4→x3 S (m.al - 100) m.ai m.slot
 k5:m.kind=5→Nq n S m.slot m.cmd
 sh:MZ m
 tn:m.to≤24∨(101≤m.to∧m.to≤100+(n:Int))
section
variable {n:Nat} {p p' p2:Int→Int} {S S' S2:List uM}
theorem Ext.refl:Ext p S p S:=⟨fun _=>Int.le_refl _,fun _ h=>h,fun _ _ _ h=>.inl h⟩
theorem Ext.trans (h:Ext p S p' S') (k:Ext p' S' p2 S2):Ext p S p2 S2:=
 ⟨fun a=>Int.le_trans (h.le a) (k.le a),fun m hm=>k.sub m (h.sub m hm),fun a b s hv=>by
  rcases k.new a b s hv with q|q
  ·exact h.new a b s q
  ·exact .inr (Int.le_trans (h.le a) q)⟩
theorem eX.ext (E:Ext p S p' S') {b s:Int} {c:cA} (h:eX S b s c):eX S' b s c:=by
 obtain⟨m,hm,h⟩:=h;exact⟨m,E.sub m hm,h⟩
theorem x3.ext (E:Ext p S p' S') {a b s:Int} (h:x3 S a b s):x3 S' a b s:=by
 obtain⟨m,hm,h⟩:=h;exact⟨m,E.sub m hm,h⟩
theorem uN.ext (E:Ext p S p' S') {b s:Int} (h:uN S b s):uN S' b s:=by
 obtain⟨m,hm,h⟩:=h;exact⟨m,E.sub m hm,h⟩
theorem Nq.ext (E:Ext p S p' S') {s:Int} {c:cA} (h:Nq n S s c):Nq n S' s c:=by
 obtain⟨b,h1,h2⟩:=h;exact⟨b,h1.ext E,h2.imp fun _ h=>h.ext E⟩
theorem Ru.ext (E:Ext p S p' S') {b s:Int} (h:Ru n p S b s):Ru n p' S' b s:=by
 refine QG.imp h fun i ⟨h1,h2⟩=>⟨Int.lt_of_lt_of_le h1 (E.le i),fun hv=>?_⟩;rcases E.new _ _ _ hv with h|h
 ·exact h2 h
 ·omega
theorem jt.ext (E:Ext p S p' S') {w b al:Int} {vs:List ak} (h:jt p S w b al vs):jt p' S' w b al vs:=by
 obtain⟨h1,h2,h3⟩:=h;refine⟨Int.le_trans h1 (E.le w),fun b' s hs hb hv=>?_,fun v hv=>?_⟩
 ·rcases E.new _ _ _ hv with h|h
  ·exact h2 b' s hs hb h
  ·omega
 ·obtain⟨q1,q2,q3⟩:=h3 v hv;exact⟨q1,q2.ext E,q3⟩
theorem gy.ext (E:Ext p S p' S') {m:dr} (h:gy n p S m):gy n p' S' m:=
 ⟨fun k=>(h.k1 k).ext E,fun k=>⟨(h.k2 k).1.ext E,(h.k2 k).2.ext E⟩,fun k=>(h.k3 k).ext E,fun k=>(h.k4 k).ext E,fun k=>(h.k5 k).ext E,h.sh,h.tn⟩
structure Nr (n:Nat) (p:Int→Int) (S:List uM) (x:aE):Prop where
 st:x.st=0∨x.st=1∨x.st=2
 b8:x.st≠0→x.b % 8=x.me
 TT:∀m∈S,m.kind=3→m.al=x.me→m.ai≤x.b∧(m.ai=x.b→x.st≠1∧m.slot<x.bQ)
 pre:∀m∈S,m.kind=1→m.al=x.me→m.ai≤x.b∧(m.ai=x.b→m.slot=x.al)
 s1:x.st=1→∀e∈x.aV,jt p S e.1 x.b x.al e.2
 s2:x.st=2→∀s,x.bQ≤s→∀b'<x.b,Ru n p S b' s
 o2:x.st=2→∀e∈x.dT,eX S x.b e.1 e.2.1∧∀i:Nat,1≤i→i≤n→e.2.2.testBit i=true→x3 S i x.b e.1
 p1:x.st=1→uN S x.b x.al
theorem Nr.ext (E:Ext p S p' S') {x:aE} (h:Nr n p S x) (hn:∀m∈S',m∈S∨m.kind=4∨m.al≠x.me):Nr n p' S' x:=
 ⟨h.st,h.b8,fun m hm hk hf=>by
  rcases hn m hm with q|q|q
  ·exact h.TT m q hk hf
  ·omega
  ·exact absurd hf q,fun m hm hk hf=>by
  rcases hn m hm with q|q|q
  ·exact h.pre m q hk hf
  ·omega
  ·exact absurd hf q,fun hs e he=>(h.s1 hs e he).ext E,fun hs s h1 b' h2=>(h.s2 hs s h1 b' h2).ext E,
  fun hs e he=>⟨(h.o2 hs e he).1.ext E,fun i a b c=>((h.o2 hs e he).2 i a b c).ext E⟩,fun hs=>(h.p1 hs).ext E⟩
theorem x3.app {P:List uM} {a b s:Int} (h:x3 (S++P) a b s):x3 S a b s∨∃m∈P,m.kind=4∧m.al=a∧m.ai=b∧m.slot=s:=by
 obtain⟨m,hm,h⟩:=h;rcases List.mem_append.1 hm with q|q
 ·exact .inl ⟨m,q,h⟩
 ·exact .inr ⟨m,q,h⟩
theorem eX.app {P:List uM} {b s:Int} {c:cA} (h:eX (S++P) b s c):eX S b s c∨∃m∈P,m.kind=3∧m.ai=b∧m.slot=s∧m.cmd=c:=by
 obtain⟨m,hm,h⟩:=h;rcases List.mem_append.1 hm with q|q
 ·exact .inl ⟨m,q,h⟩
 ·exact .inr ⟨m,q,h⟩
theorem Eu (P:List uM) (hP:∀m∈P,m.kind≠4):Ext p S p (S++P):=
 ⟨fun _=>Int.le_refl _,fun m hm=>List.mem_append_left _ hm,fun a b s h=>by
  rcases h.app with q|⟨m,hm,q,_⟩
  ·exact .inl q
  ·exact absurd q (hP m hm)⟩
end
structure bq (n:Nat) (all:List MS) (S:List uM):Prop where
 n5:1≤n∧n≤5
 len:all.length=n
 wf:∀(i:Nat) s,all[i]? =some s→c9 s∧(s.me=i+1∧s.ae=n)∧s.p.1.me=i+1∧s.p.1.ae=n
 l6:∀m∈S,(1≤m.al∧m.al≤n)∧(m.kind≠4→m.ai % 8=m.al)
 ld:∀(i:Nat) s,all[i]? =some s→Nr n (eY all) S s.p.1
 kv:∀(i:Nat) s,all[i]? =some s→∀e∈s.q.2,eX S e.2.ai e.1 (ao e.2)
 vt:∀a b s,x3 S a b s→b≤eY all a∧∃q,all[(a - 1).toNat]? =some q∧∃v,ew q.q.2 s=some v∧b≤v.ai
 un:∀m∈S,∀m'∈S,m.kind=3→m'.kind=3→m.ai=m'.ai→m.slot=m'.slot→m.cmd=m'.cmd
 sf:∀b s c,eX S b s c→∀b'<b,Ru n (eY all) S b' s∨eX S b' s c
 kn:∀(i:Nat) s,all[i]? =some s→∀v∈s.K,Nq n S v.slot (ao v)
 out:∀(i:Nat) s,all[i]? =some s→∀m∈s.out,gy n (eY all) S m
theorem bq.safe {n:Nat} {all:List MS} {S:List uM} (H:bq n all S) {s:Int} {c c':cA} (h:Nq n S s c) (h':Nq n S s c'):c=c':=by
 have key:∀b b' c c',eX S b s c→QG n (fun a=>x3 S a b s)→eX S b' s c'→b<b'→c=c':=fun b b' c c' p1 q1 p2 hb=>by
  rcases H.sf _ _ _ p2 b hb with h|h
  ·obtain⟨i,_,_,⟨_,h1⟩,h2⟩:=QG.meet H.n5.2 h q1;exact absurd h2 h1
  ·obtain⟨m,hm,k1,k2,k3,k4⟩:=p1;obtain⟨m',AJ,l1,l2,l3,l4⟩:=h;rw[←k4,←l4];exact H.un m hm m' AJ k1 l1 (by rw[k2,l2]) (by rw[k3,l3])
 obtain⟨b,p1,q1⟩:=h;obtain⟨b',p2,q2⟩:=h';rcases Int.lt_trichotomy b b' with h|h|h
 ·exact key b b' c c' p1 q1 p2 h
 ·obtain⟨m,hm,k1,k2,k3,k4⟩:=p1;obtain⟨m',AJ,l1,l2,l3,l4⟩:=p2;rw[←k4,←l4];exact H.un m hm m' AJ k1 l1 (by rw[k2,l2,h]) (by rw[k3,l3])
 ·exact(key b' b c' c p2 q2 p1 h).symm
section
variable {n i:Nat} {all:List MS} {S P:List uM} {s s':MS}
theorem pd (hs:all[i]? =some s) (a:Int):eY (all.set i s') a=if i=(a - 1).toNat then s'.q.1 else eY all a:=by
 obtain⟨hi,_⟩:=List.getElem?_eq_some_iff.1 hs;unfold eY;by_cases h:i=(a - 1).toNat
 ·rw[if_pos h,←h,List.getElem?_set_self hi];rfl
 ·rw[if_neg h,List.getElem?_set_ne h]
theorem nD (hs:all[i]? =some s) {a:Int} (h:i=(a - 1).toNat):eY all a=s.q.1:=by
 unfold eY;rw[←h,hs];rfl
theorem Ap (hs:all[i]? =some s) (h:s'.q.1=s.q.1):eY (all.set i s')=eY all:=by
 funext a
 rw[pd hs];split
 ·rename_i e;rw[nD hs e,h]
 ·rfl
structure Bl (n:Nat) (all:List MS) (S P:List uM) (i:Nat) (s s':MS):Prop where
 wf:c9 s'∧(s'.me=s.me∧s'.ae=s.ae)∧s'.p.1.me=s.p.1.me∧s'.p.1.ae=s.p.1.ae
 al:∀m∈P,m.al=i+1∧(m.kind≠4→m.ai % 8=m.al)
 p:s.q.1≤s'.q.1
 new:∀m∈P,m.kind=4→s.q.1≤m.ai
 ld:Nr n (eY (all.set i s')) (S++P) s'.p.1
 kv:∀e∈s'.q.2,eX (S++P) e.2.ai e.1 (ao e.2)
 vt:∀b sl,x3 (S++P) (i+1) b sl→b≤s'.q.1∧∃v,ew s'.q.2 sl=some v∧b≤v.ai
 un:∀m∈P,m.kind=3→∀m'∈S++P,m'.kind=3→m.ai=m'.ai→m.slot=m'.slot→m.cmd=m'.cmd
 sf:∀m∈P,m.kind=3→∀b'<m.ai,Ru n (eY all) S b' m.slot∨eX S b' m.slot m.cmd
 kn:∀v∈s'.K,Nq n (S++P) v.slot (ao v)
 out:∀m∈s'.out,gy n (eY (all.set i s')) (S++P) m
theorem Bl.ext (hs:all[i]? =some s) (T:Bl n all S P i s s'):Ext (eY all) S (eY (all.set i s')) (S++P):=by
 refine⟨fun a=>?_,fun m hm=>List.mem_append_left _ hm,fun a b sl h=>?_⟩
 ·rw[pd hs];split
  ·rename_i e;rw[nD hs e];exact T.p
  ·exact Int.le_refl _
 ·rcases h.app with q|⟨m,hm,q1,q2,q3,_⟩
  ·exact .inl q
  ·right;rw[nD hs (by have:=(T.al m hm).1;omega),←q3];exact T.new m hm q1
theorem Bl.ok (H:bq n all S) (hs:all[i]? =some s) (T:Bl n all S P i s s'):bq n (all.set i s') (S++P):=by
 have E:=T.ext hs;have hi:i<all.length:=(List.getElem?_eq_some_iff.1 hs).1;have hw:=H.wf i s hs;have hl:=H.len;have get:∀{k:Nat} {t:MS},(all.set i s')[k]? =some t→(k=i∧t=s')∨(k≠i∧all[k]? =some t):=fun {k t} h=>by
  by_cases hk:i=k
  ·subst hk;rw[List.getElem?_set_self hi]at h;cases h;exact .inl ⟨rfl,rfl⟩
  ·rw[List.getElem?_set_ne hk]at h;exact .inr ⟨fun e=>hk e.symm,h⟩
 refine⟨H.n5,by rw[List.length_set];exact H.len,fun k t ht=>?_,fun m hm=>?_,fun k t ht=>?_,fun k t ht e he=>?_,fun a b sl h=>?_,fun m hm m' AJ a b c d=>?_,fun b sl c h b' hb=>?_,fun k t ht v hv=>?_,fun k t ht m hm=>?_⟩
 ·rcases get ht with⟨rfl,rfl⟩|⟨_,ht⟩
  ·obtain⟨w1,⟨w2,w3⟩,w4,w5⟩:=T.wf;exact⟨w1,⟨w2.trans hw.2.1.1,w3.trans hw.2.1.2⟩,w4.trans hw.2.2.1,w5.trans hw.2.2.2⟩
  ·exact H.wf k t ht
 ·rcases List.mem_append.1 hm with q|q
  ·exact H.l6 m q
  ·obtain⟨a,b⟩:=T.al m q;exact⟨om,b⟩
 ·rcases get ht with⟨rfl,rfl⟩|⟨hk,ht⟩
  ·exact T.ld
  ·refine(H.ld k t ht).ext E fun m hm=>?_;rcases List.mem_append.1 hm with q|q
   ·exact .inl q
   ·right;right;have:=(T.al m q).1;have:=(H.wf k t ht).2.2.1;omega
 ·rcases get ht with⟨rfl,rfl⟩|⟨_,ht⟩
  ·exact T.kv e he
  ·exact(H.kv k t ht e he).ext E
 ·by_cases hk:i=(a - 1).toNat
  ·have hai:a=i+1:=by
    rcases h.app with q|⟨m,hm,_,q,_⟩
    ·obtain⟨m,hm,_,q,_⟩:=q;have:=(H.l6 m hm).1;omega
    ·have:=(T.al m hm).1;omega
   subst hai;obtain⟨h1,v,h2,h3⟩:=T.vt b sl h;rw[pd hs,if_pos hk];exact⟨h1,s',by rw[←hk,List.getElem?_set_self hi],v,h2,h3⟩
  ·rw[pd hs,if_neg hk,List.getElem?_set_ne hk];rcases h.app with q|⟨m,hm,_,q,_⟩
   ·exact H.vt a b sl q
   ·have:=(T.al m hm).1;omega
 ·rcases List.mem_append.1 hm with q|q
  ·rcases List.mem_append.1 AJ with q'|q'
   ·exact H.un m q m' q' a b c d
   ·exact(T.un m' q' b m hm a c.symm d.symm).symm
  ·exact T.un m q a m' AJ b c d
 ·rcases h.app with q|⟨m,hm,q1,q2,q3,q4⟩
  ·exact(H.sf b sl c q b' hb).imp (·.ext E) (·.ext E)
  ·subst q2 q3 q4;exact(T.sf m hm q1 b' hb).imp (·.ext E) (·.ext E)
 ·rcases get ht with⟨rfl,rfl⟩|⟨_,ht⟩
  ·exact T.kn v hv
  ·exact(H.kn k t ht v hv).ext E
 ·rcases get ht with⟨rfl,rfl⟩|⟨_,ht⟩
  ·exact T.out m hm
  ·exact(H.out k t ht m hm).ext E
def cp (n i:Nat) (all:List MS) (S:List uM) (s':MS):Prop:=∃S',bq n (all.set i s') S'∧Ext (eY all) S (eY (all.set i s')) S'
theorem Bl.goes (H:bq n all S) (hs:all[i]? =some s) (T:Bl n all S P i s s'):cp n i all S s':=⟨_,T.ok H hs,T.ext hs⟩
theorem x4 {α:Type} {l:List α} {i:Nat} {a:α} (h:l[i]? =some a):l.set i a=l:=by
 obtain⟨hi,rfl⟩:=List.getElem?_eq_some_iff.1 h;exact List.set_getElem_self hi
theorem cp.refl (H:bq n all S) (hs:all[i]? =some s):cp n i all S s:=⟨S,by rw[x4 hs];exact H,by rw[x4 hs];exact .refl⟩
theorem cp.trans {s1 s2:MS} (hs:all[i]? =some s) (h:cp n i all S s1)
 (k:∀S',bq n (all.set i s1) S'→Ext (eY all) S (eY (all.set i s1)) S'→(all.set i s1)[i]? =some s1→cp n i (all.set i s1) S' s2):cp n i all S s2:=by
 obtain⟨S1,h1,h2⟩:=h;have hi:i<all.length:=(List.getElem?_eq_some_iff.1 hs).1;obtain⟨S2,k1,k2⟩:=k S1 h1 h2 (List.getElem?_set_self hi);rw[List.set_set]at k1 k2;exact⟨S2,k1,h2.trans k2⟩
theorem bq.say (H:bq n all S) (hs:all[i]? =some s) (hw:c9 s'∧(s'.me=s.me∧s'.ae=s.ae)∧s'.p.1.me=s.p.1.me∧s'.p.1.ae=s.p.1.ae) (hq:s'.q=s.q) (hK:s'.K=s.K)
 (hP:∀m∈P,(m.kind=1∨m.kind=3)∧m.al=i+1∧m.ai % 8=m.al)
 (hL:Nr n (eY all) (S++P) s'.p.1)
 (hu:∀m∈P,m.kind=3→∀m'∈S++P,m'.kind=3→m.ai=m'.ai→m.slot=m'.slot→m.cmd=m'.cmd)
 (hf:∀m∈P,m.kind=3→∀b'<m.ai,Ru n (eY all) S b' m.slot∨eX S b' m.slot m.cmd)
 (ho:∀m∈s'.out,gy n (eY all) (S++P) m):bq n (all.set i s') (S++P)∧Ext (eY all) S (eY (all.set i s')) (S++P):=by
 have Np:eY (all.set i s')=eY all:=Ap hs (by rw[hq]);have E:=Eu (p:=eY all) (S:=S) P fun m hm=>by rcases(hP m hm).1 with h|h<;>omega
 have T:Bl n all S P i s s':=⟨hw,fun m hm=>⟨(hP m hm).2.1,fun _=>(hP m hm).2.2⟩,by rw[hq];exact Int.le_refl _,fun m hm hk=>by rcases(hP m hm).1 with h|h<;>omega,by rw[Np];exact hL,
  fun e he=>(H.kv i s hs e (by rw[←hq];exact he)).ext E,fun b sl h=>?_,hu,hf,fun v hv=>(H.kn i s hs v (by rw[←hK];exact hv)).ext E,by rw[Np];exact ho⟩
 ·exact⟨T.ok H hs,T.ext hs⟩
 ·rcases h.app with q|⟨m,hm,q,_⟩
  ·obtain⟨h1,r,h2,h3⟩:=H.vt _ b sl q;rw[show((i:Int)+1 - 1).toNat=i by omega,hs]at h2;cases h2;rw[nD hs om]at h1;rw[hq];exact⟨h1,h3⟩
  ·rcases(hP m hm).1 with h|h<;>omega
theorem bq.M0 (H:bq n all S) (hs:all[i]? =some s) (hw:c9 s'∧(s'.me=s.me∧s'.ae=s.ae)∧s'.p.1.me=s.p.1.me∧s'.p.1.ae=s.p.1.ae) (hq:s'.q=s.q) (hK:s'.K=s.K)
 (hL:Nr n (eY all) S s'.p.1) (ho:∀m∈s'.out,gy n (eY all) S m):cp n i all S s':=by
 have:=H.say (P:=[]) (s':=s') hs hw hq hK (by simp) (by simpa using hL) (by simp) (by simp) (by simpa using ho);exact⟨_,this.1,this.2⟩
end
def M4 (i:Nat) (v:ak):uM:=⟨3,i+1,v.ai,v.slot,ao v⟩
section
variable {n i:Nat} {all:List MS} {S:List uM} {s:MS}
theorem uO {v:ak} {vs:List ak} (hv:v∈vs):eX (S++vs.map (M4 i)) v.ai v.slot (ao v):=
 ⟨M4 i v,List.mem_append_right _ (List.mem_map_of_mem hv),rfl,rfl,rfl,rfl⟩
theorem Aq (p:Int→Int) (vs:List ak):Ext p S p (S++vs.map (M4 i)):=Eu _ fun m hm=>by
 obtain⟨v,_,rfl⟩:=List.mem_map.1 hm;exact fun e=>by cases e
theorem bq.own (H:bq n all S) (hs:all[i]? =some s) (h0:s.p.1.st≠0) {m:uM} (hm:m∈S) (hk:m.kind=3) (hb:m.ai=s.p.1.b):s.p.1.st≠1∧m.slot<s.p.1.bQ:=by
 have hL:=H.ld i s hs;have h8:=(H.l6 m hm).2 om;rw[hb,hL.b8 h0]at h8;exact(hL.TT m hm hk h8.symm).2 hb
theorem bq.lay (H:bq n all S) (hs:all[i]? =some s) (h0:s.p.1.st≠0) {s':MS} (vs:List ak) (hw:c9 s'∧(s'.me=s.me∧s'.ae=s.ae)∧s'.p.1.me=s.p.1.me∧s'.p.1.ae=s.p.1.ae) (hq:s'.q=s.q) (hK:s'.K=s.K) (ho:s'.out=s.out)
 (hb:∀v∈vs,v.ai=s.p.1.b)
 (hu:∀v∈vs,∀w∈vs,v.slot=w.slot→ao v=ao w)
 (hn:∀v∈vs,s.p.1.st=1∨s.p.1.bQ≤v.slot)
 (hf:∀v∈vs,∀b'<s.p.1.b,Ru n (eY all) S b' v.slot∨eX S b' v.slot (ao v))
 (h':Nr n (eY all) (S++vs.map (M4 i)) s'.p.1):bq n (all.set i s') (S++vs.map (M4 i))∧Ext (eY all) S (eY (all.set i s')) (S++vs.map (M4 i)):=by
 have hL:=H.ld i s hs;have jF:=(H.wf i s hs).2.2.1;refine H.say hs hw hq hK (fun m hm=>?_) h' (fun m hm hk m' AJ kH sm hss=>?_) (fun m hm hk b' bV=>?_) (fun m hm=>?_)
 ·obtain⟨v,hv,rfl⟩:=List.mem_map.1 hm;refine⟨.inr rfl,rfl,?_⟩;show v.ai % 8=i+1;rw[hb v hv,hL.b8 h0,jF]
 ·obtain⟨v,hv,rfl⟩:=List.mem_map.1 hm;rcases List.mem_append.1 AJ with q|q
  ·have sm:v.ai=m'.ai:=sm;have hss:v.slot=m'.slot:=hss;obtain⟨a,b⟩:=H.own hs h0 q kH (by rw[←sm,hb v hv]);rcases hn v hv with h|h
   ·exact absurd h a
   ·omega
  ·obtain⟨w,hw,rfl⟩:=List.mem_map.1 q;exact hu v hv w hw hss
 ·obtain⟨v,hv,rfl⟩:=List.mem_map.1 hm;exact hf v hv b' (by rw[←hb v hv];exact bV)
 ·rw[ho]at hm;exact(H.out i s hs m hm).ext (Aq _ vs)
theorem bq.start (H:bq n all S) (hs:all[i]? =some s) {s':MS} {b al:Int} (hw:c9 s') (hm:s'.me=s.me∧s'.ae=s.ae) (hq:s'.q=s.q) (hK:s'.K=s.K) (ho:s'.out=s.out) (hp:s'.p.1=ma s.p.1.me s.p.1.ae b al) (hb:s.p.1.b<b) (h8:b % 8=s.p.1.me):
 ∃S',(bq n (all.set i s') S'∧Ext (eY all) S (eY (all.set i s')) S')∧uN S' b al:=by
 have hL:=H.ld i s hs;have jF:=(H.wf i s hs).2.2.1;have hE:Ext (eY all) S (eY all) (S++[⟨1,i+1,b,al,aH⟩]):=Eu _ (by simp);refine⟨S++[⟨1,i+1,b,al,aH⟩],H.say hs ⟨hw,hm,by rw[hp],by rw[hp]⟩ hq hK (fun m hm=>?_) ?_ (fun m hm hk=>?_) (fun m hm hk=>?_) (fun m hm=>?_),⟨_,List.mem_append_right _ List.mem_cons_self,rfl,rfl,rfl⟩⟩
 ·simp at hm;subst hm;exact⟨.inl rfl,rfl,by show b % 8=i+1;rw[h8,jF]⟩
 ·rw[hp];refine⟨.inr (.inl rfl),fun _=>h8,fun m hm hk hf=>?_,fun m hm hk hf=>?_,fun _=>by simp,fun h=>absurd (show(1:Int)=2 from h) (by decide),fun h=>absurd (show(1:Int)=2 from h) (by decide),fun _=>⟨_,List.mem_append_right _ List.mem_cons_self,rfl,rfl,rfl⟩⟩
  ·rcases List.mem_append.1 hm with q|q
   ·have h1:=(hL.TT m q hk hf).1;refine⟨by show m.ai≤b;omega,fun e=>?_⟩;have e:m.ai=b:=e;omega
   ·simp at q;subst q;cases hk
  ·rcases List.mem_append.1 hm with q|q
   ·have h1:=(hL.pre m q hk hf).1;refine⟨by show m.ai≤b;omega,fun e=>?_⟩;have e:m.ai=b:=e;omega
   ·simp at q;subst q;exact⟨Int.le_refl _,fun _=>rfl⟩
 ·simp at hm;subst hm;cases hk
 ·simp at hm;subst hm;cases hk
 ·rw[ho]at hm;exact(H.out i s hs m hm).ext hE
theorem bq.refuse (H:bq n all S) (hs:all[i]? =some s) (b:Int):cp n i all S (gq s b):=by
 have hL:=H.ld i s hs;have hR:Nr n (eY all) S (cP s.p.1 b).1∧(cP s.p.1 b).1.me=s.p.1.me∧(cP s.p.1 b).1.ae=s.p.1.ae:=by
  unfold cP;split
  ·exact⟨hL,rfl,rfl⟩
  ·refine⟨⟨.inl rfl,fun h=>absurd rfl h,fun m hm hk hf=>?_,hL.pre,fun h=>?_,fun h=>?_,fun h=>?_,fun h=>absurd (show(0:Int)=1 from h) (by decide)⟩,rfl,rfl⟩
   ·obtain⟨b,c⟩:=hL.TT m hm hk hf;exact⟨b,fun e=>⟨by show(0:Int)≠1;omega,(c e).2⟩⟩
   ·exact absurd (show(0:Int)=1 from h) (by decide)
   ·exact absurd (show(0:Int)=2 from h) (by decide)
   ·exact absurd (show(0:Int)=2 from h) (by decide)
 exact H.M0 hs ⟨(H.wf i s hs).1.refuse b,⟨rfl,rfl⟩,hR.2⟩ rfl rfl hR.1 (H.out i s hs)
theorem bq.pc (H:bq n all S) (hs:all[i]? =some s) (c:cA) (he:(aD s.p.1 c).2.2=0):
 ∃S',(bq n (all.set i (sa s c)) S'∧Ext (eY all) S (eY (all.set i (sa s c))) S')∧eX S' (aD s.p.1 c).2.1.ai (aD s.p.1 c).2.1.slot (ao (aD s.p.1 c).2.1):=by
 have hL:=H.ld i s hs;have lC:=(H.wf i s hs).1;have hw:=lC.pc c;have LO:=lC.lw;have Uw:sa s c={s with p:=((aD s.p.1 c).1,s.p.2)}:=rfl;rw[Uw];unfold aD at he hw ⊢;split at he
 ·cases he
 split at he
 ·rename_i h1 h2;exact absurd he h2
 split at he
 ·cases he
 split at he
 ·cases he
 rename_i h1 h2 h3 h4;rw[if_neg h1,if_neg h2,if_neg h3,if_neg h4]at hw ⊢;have h1:s.p.1.st=2:=Classical.not_not.1 h1;have hvo:kV (iu s.p.1 c) s.p.1.bQ= .of s.p.1.bQ s.p.1.b c:=by simp[kV,iu,oi]
 dsimp only at hw ⊢;rw[hvo];have hE:=Aq (S:=S) (i:=i) (eY all) [ak.of s.p.1.bQ s.p.1.b c];have Yd:s.p.1.bQ∉aQ s.p.1.dT:=fun hm=>by have:=LO.op.l6 _ hm;omega
 refine⟨_,H.lay hs om [.of s.p.1.bQ s.p.1.b c] ⟨hw,⟨rfl,rfl⟩,rfl,rfl⟩ rfl rfl rfl (by simp[ak.of]) (by simp) (fun v hv=>by simp at hv;subst hv;exact .inr (Int.le_refl _))
  (fun v hv b' bV=>by simp at hv;subst hv;exact .inl (hL.s2 h1 s.p.1.bQ (Int.le_refl _) b' bV)) ?_,uO (by simp)⟩
 refine⟨hL.st,hL.b8,fun m hm hk hf=>?_,fun m hm hk hf=>?_,fun h=>?_,fun h sl uX b' bV=>?_,fun h e he=>?_,fun h=>absurd (show s.p.1.st=1 from h) om⟩
 ·rcases List.mem_append.1 hm with q|q
  ·obtain⟨b,d⟩:=hL.TT m q hk hf;exact⟨b,fun e=>⟨(d e).1,by have:=(d e).2;show m.slot<s.p.1.bQ+1;omega⟩⟩
  ·simp at q;subst q;exact⟨Int.le_refl _,fun _=>⟨by show s.p.1.st≠1;omega,by show s.p.1.bQ<s.p.1.bQ+1;omega⟩⟩
 ·rcases List.mem_append.1 hm with q|q
  ·exact hL.pre m q hk hf
  ·simp at q;subst q;cases hk
 ·have h:s.p.1.st=1:=h;omega
 ·have uX:s.p.1.bQ+1≤sl:=uX;exact(hL.s2 h1 sl om b' bV).ext hE
 ·have he:e∈ib s.p.1.dT s.p.1.bQ (c,0):=he;rw[l8 Yd]at he;rcases List.mem_append.1 he with q|q
  ·obtain⟨a,b⟩:=hL.o2 h1 e q;exact⟨a.ext hE,fun i h1 h2 h3=>(b i h1 h2 h3).ext hE⟩
  ·simp at q;subst q;exact⟨uO (v:=.of s.p.1.bQ s.p.1.b c) (by simp),fun i _ _ h=>by simp at h⟩
theorem bq.accepted (H:bq n all S) (hs:all[i]? =some s) {b slot aM:Int} (hv:x3 S aM b slot):
 cp n i all S (MN s b slot aM)∧((ax s.p.1 b slot aM).2.2=true→Nq n S (ax s.p.1 b slot aM).2.1.slot (ao (ax s.p.1 b slot aM).2.1)):=by
 have hL:=H.ld i s hs;have lC:=(H.wf i s hs).1;have hn5:=H.n5;have gR:=(H.wf i s hs).2.2.2;have LO:=lC.lw
 suffices h:(Nr n (eY all) S (ax s.p.1 b slot aM).1∧(ax s.p.1 b slot aM).1.me=s.p.1.me∧(ax s.p.1 b slot aM).1.ae=s.p.1.ae)∧((ax s.p.1 b slot aM).2.2=true→Nq n S (ax s.p.1 b slot aM).2.1.slot (ao (ax s.p.1 b slot aM).2.1)) by
  exact⟨H.M0 hs ⟨lC.accepted b slot aM,⟨rfl,rfl⟩,h.1.2⟩ rfl rfl h.1.1 (H.out i s hs),h.2⟩
 unfold ax;by_cases hg:(s.p.1.st=2∧s.p.1.b=b)∧1≤aM∧aM≤s.p.1.ae
 ·rw[if_pos hg];obtain⟨⟨h1,h2⟩,h3,h4⟩:=hg;have hw:m5 aM:=by unfold m5;omega
  cases hq:bL s.p.1.dT slot with
  |none=>exact⟨⟨hL,rfl,rfl⟩,fun e=>by cases e⟩
  |some p=>
   have fL:=(bX LO.op.nd).1 hq;have Np:=LO.ev _ fL;have Wu:rM (bI p.2 [aM]):=jl Np (by simpa using hw);obtain⟨o1,o2⟩:=hL.o2 h1 _ fL;have UX:∀k:Nat,1≤k→k≤n→(bI p.2 [aM]).testBit k=true→x3 S k s.p.1.b slot:=fun k k1 k2 kH=>by
    rcases wa _ _ kH with q|⟨w,FT,q⟩
    ·exact o2 k k1 k2 q
    ·simp at FT;subst FT;rw[h2,show(k:Int)=w by omega];exact hv
   have lS:Nr n (eY all) S {s.p.1 with dT:=ib s.p.1.dT slot (p.1,bI p.2 [aM])}:=by
    refine⟨hL.st,hL.b8,hL.TT,hL.pre,hL.s1,hL.s2,fun h e he=>?_,hL.p1⟩;rcases(zN LO.op.nd).1 he with rfl |⟨_,q⟩
    ·exact⟨o1,UX⟩
    ·exact hL.o2 h1 e q
   dsimp only
   by_cases mE:iC (bI p.2 [aM]) s.p.1.ae=true
   ·rw[if_pos mE];refine⟨⟨⟨hL.st,hL.b8,hL.TT,hL.pre,hL.s1,hL.s2,fun h e he=>lS.o2 h1 e (oh.subset he),hL.p1⟩,rfl,rfl⟩,fun _=>⟨s.p.1.b,?_,bI p.2 [aM],Wu.1,by rw[←gR];exact mE,fun k k1 k2 kH=>UX k k1 k2 kH⟩⟩;rw[jo];exact o1
   ·rw[if_neg mE];exact⟨⟨lS,rfl,rfl⟩,fun e=>by cases e⟩
 ·rw[if_neg hg];exact⟨⟨hL,rfl,rfl⟩,fun e=>by cases e⟩
theorem bq.promise (H:bq n all S) (hs:all[i]? =some s) {b aM slot:Int} {vs:List ak} (rJ:tc vs) (Dx:uN S b slot) (Nt:jt (eY all) S aM b slot vs):
 ∃S',(bq n (all.set i (xe s b aM vs)) S'∧Ext (eY all) S (eY (all.set i (xe s b aM vs))) S')∧∀v∈(bY s.p.1 b aM vs).2.1,eX S' v.ai v.slot (ao v):=by
 have hL:=H.ld i s hs;have lC:=(H.wf i s hs).1;have hn5:=H.n5;have gR:=(H.wf i s hs).2.2.2;have jF:=(H.wf i s hs).2.2.1;have LO:=lC.lw;have hw:=lC.promise b aM vs rJ.len rJ.l6 rJ.chk;have Uw:xe s b aM vs={s with p:=((bY s.p.1 b aM vs).1,s.p.2)}:=rfl;rw[Uw];unfold bY at hw ⊢;by_cases hg:(s.p.1.st=1∧s.p.1.b=b)∧1≤aM∧aM≤s.p.1.ae
 ·rw[if_pos hg]at hw ⊢;obtain⟨⟨h1,h2⟩,h3,h4⟩:=hg;obtain⟨oA,ho0⟩:=LO.s1 h1;have EJ:=hL.s1 h1;have pF:slot=s.p.1.al:=by
   obtain⟨m,hm,k1,k2,k3⟩:=Dx;have h8:=(H.l6 m hm).2 om;rw[k2,←h2,hL.b8 om]at h8;rw[←k3];exact(hL.pre m hm k1 h8.symm).2 om
  subst pF;have X7:=LO.bQ;have hw5:m5 aM:=by unfold m5;omega
  have adH:sV s.p.1.al vs=vs:=by
   unfold sV;rw[List.filter_eq_self];intro v hv;rw[GH];exact⟨(Nt.2.2 v hv).2.2.1,(Nt.2.2 v hv).2.2.2.2⟩
  obtain⟨rY,ady⟩:=zS LO.cm hw5 (vs:=vs) rJ.len rJ.l6;have M5:∀e∈(bS s.p.1 aM vs).aV,jt (eY all) S e.1 s.p.1.b s.p.1.al e.2:=fun e he=>by
   have he:e∈(if aM∈aQ s.p.1.aV then s.p.1.aV else s.p.1.aV++[(aM,sV s.p.1.al vs)]):=he;split at he
   ·exact EJ e he
   ·rcases List.mem_append.1 he with q|q
    ·exact EJ e q
    ·simp at q;subst q;show jt (eY all) S aM s.p.1.b s.p.1.al (sV s.p.1.al vs);rw[adH,h2];exact Nt
  have hL1:Nr n (eY all) S (bS s.p.1 aM vs):=⟨hL.st,hL.b8,hL.TT,hL.pre,fun h=>M5,hL.s2,hL.o2,hL.p1⟩;by_cases mE:iC (bI 0 (aQ (bS s.p.1 aM vs).aV)) s.p.1.ae=true
  ·rw[if_pos mE]at hw ⊢;dsimp only at hw ⊢;generalize Lr:({bS s.p.1 aM vs with st:=2}:aE)=x2 at hw;have e2:x2.me=s.p.1.me∧x2.ae=s.p.1.ae∧x2.b=s.p.1.b∧x2.al=s.p.1.al∧x2.bQ=s.p.1.bQ∧x2.dT=s.p.1.dT∧x2.st=2∧x2.aV=(bS s.p.1 aM vs).aV:=by
    subst Lr;exact⟨rfl,rfl,rfl,rfl,rfl,rfl,rfl,rfl⟩
   obtain⟨z1,z2,z3,z4,z5,z6,z7,z8⟩:=e2;have u0:fj x2:=by subst Lr;exact⟨rY.nd,rY.k5,rY.I7⟩
   have M5:∀e∈x2.aV,jt (eY all) S e.1 s.p.1.b s.p.1.al e.2:=fun e he=>M5 e (by rw[←z8];exact he);rw[←z8]at mE;generalize hBe:ey (eV x2)=B at hw
   -- the votes that came
   have cC:∀l,l∈eV x2↔∃e∈x2.aV,l=e.2:=fun l=>by
    unfold eV;rw[List.mem_map];constructor
    ·rintro⟨w,hw,rfl⟩;obtain⟨e,he,rfl⟩:=List.mem_map.1 (dI.1 hw);exact⟨e,he,by rw[(bX u0.nd).2 (show(e.1,e.2)∈x2.aV from he)];rfl⟩
    ·rintro⟨e,he,rfl⟩;exact⟨e.1,dI.2 (List.mem_map.2 ⟨e,he,rfl⟩),by rw[(bX u0.nd).2 (show(e.1,e.2)∈x2.aV from he)];rfl⟩
   have Tz:∀l∈eV x2,∀v∈l,vV v.slot:=fun l hl v hv=>by
    obtain⟨e,he,rfl⟩:=(cC l).1 hl;exact((u0.I7 e he).2 v hv).1
   have hSS:SS B:=by rw[←hBe];exact GI Tz
   have hmB:∀v,v∈B↔ew (gm (eV x2).flatten) v.slot=some v:=fun v=>by rw[←hBe];exact Ci Tz
   have u4:∀u,u∈(eV x2).flatten↔∃e∈x2.aV,u∈e.2:=fun u=>by
    rw[List.mem_flatten];constructor
    ·rintro⟨l,hl,hu⟩;obtain⟨e,he,rfl⟩:=(cC l).1 hl;exact⟨e,he,hu⟩
    ·rintro⟨e,he,hu⟩;exact⟨e.2,(cC _).2 ⟨e,he,rfl⟩,hu⟩
   have hB1:∀v∈B,(∃e∈x2.aV,v∈e.2)∧∀e∈x2.aV,∀u∈e.2,u.slot=v.slot→u.ai≤v.ai:=fun v hv=>by
    have:=s8 v.slot (eV x2).flatten;rw[(hmB v).1 hv]at this;exact⟨(u4 v).1 this.1,fun e he u hu hs=>this.2.2 u ((u4 u).2 ⟨e,he,hu⟩) hs⟩
   have hB0:∀sl,(∀v∈B,v.slot≠sl)→∀e∈x2.aV,∀u∈e.2,u.slot≠sl:=fun sl hs e he u hu=>by
    have:=s8 sl (eV x2).flatten;cases hq:ew (gm (eV x2).flatten) sl with
    |none=>rw[hq]at this;exact this u ((u4 u).2 ⟨e,he,hu⟩)
    |some v=>
     rw[hq]at this;obtain⟨a,b,c⟩:=this;exact absurd b (hs v ((hmB v).2 (by rw[b];exact hq)))
   have hBr:∀v∈B,s.p.1.al≤v.slot∧v.slot<512:=fun v hv=>by
    obtain⟨⟨e,he,hu⟩,_⟩:=hB1 v hv;have:=((M5 e he).2.2 v hu).2.2;exact⟨this.1,this.2.2⟩
   -- whoever promised votes for nothing below any more
   have IP:∀sl b',s.p.1.al≤sl→b'<s.p.1.b→(∀e∈x2.aV,∀u∈e.2,u.slot=sl→u.ai<b')→Ru n (eY all) S b' sl:=fun sl b' Rz bV hu=>by
    have adI:rM (bI 0 (aQ x2.aV)):=jl (by decide) u0.k5;refine⟨bI 0 (aQ x2.aV),adI.1,by rw[←gR];exact mE,fun k k1 k2 kH=>?_⟩;rcases wa _ _ kH with q|⟨w,FT,q⟩
    ·simp at q
    ·obtain⟨e,he,rfl⟩:=List.mem_map.1 FT;have hk5:=u0.k5 _ FT;unfold m5 at hk5;have UE:(k:Int)=e.1:=by omega
     rw[UE];obtain⟨p1,p2,_⟩:=M5 e he;refine⟨om,fun hv=>?_⟩;obtain⟨v,pJ,HX,hv3⟩:=p2 b' sl Rz bV hv;have:=hu e he v pJ HX;omega
   have ho2:ee x2:=by subst Lr;exact⟨LO.op.nd,LO.op.l6⟩
   have hF:=Jt B x2 ho2 om hSS (fun v hv=>by have:=hBr v hv;omega);have hO:=(ho2.fill om B).1;generalize hy:dD x2 B=y at hF hO hw;have hyn:∀e∈y.dT,(s.p.1.al≤e.1∧e.1<y.bQ)∧e.2.2=0∧((∃v∈B,v.slot=e.1∧ao v=e.2.1)∨(e.2.1=aH∧∀v∈B,v.slot≠e.1)):=fun e he=>by
    rcases hF.new e he with q|⟨q1,q2,q3,q4⟩
    ·rw[z6,ho0]at q;cases q
    ·exact⟨⟨om,q2⟩,q3,q4⟩
   have iW:∀v,v∈bc y↔∃e∈y.dT,v= .of e.1 s.p.1.b e.2.1:=fun v=>by
    unfold bc;rw[List.mem_map];have rJ:∀e∈y.dT,kV y e.1= .of e.1 s.p.1.b e.2.1:=fun e he=>by
     unfold kV;rw[(bX hO.nd).2 (show(e.1,e.2)∈y.dT from he),hF.b,z3];rfl
    constructor
    ·rintro⟨w,hw,rfl⟩;obtain⟨e,he,rfl⟩:=List.mem_map.1 (dI.1 hw);exact⟨e,he,rJ e he⟩
    ·rintro⟨e,he,rfl⟩;exact⟨e.1,dI.2 (List.mem_map.2 ⟨e,he,rfl⟩),rJ e he⟩
   have hE:=Aq (S:=S) (i:=i) (eY all) (bc y);refine⟨_,H.lay hs om (bc y) ⟨hw,⟨rfl,rfl⟩,hF.me.trans z1,hF.ms.trans z2⟩ rfl rfl rfl (fun v hv=>?_) (fun v hv w hw hs=>?_) (fun v hv=>.inl h1) (fun v hv b' bV=>?_) ?_,fun v hv=>uO hv⟩
   ·obtain⟨e,he,rfl⟩:=(iW v).1 hv;rfl
   ·obtain⟨e,he,rfl⟩:=(iW v).1 hv;obtain⟨e',vo,rfl⟩:=(iW w).1 hw;have hs:e.1=e'.1:=hs;have q1:=(bX hO.nd).2 (show(e.1,e.2)∈y.dT from he);have q2:=(bX hO.nd).2 (show(e'.1,e'.2)∈y.dT from vo);rw[hs,q2]at q1;have:e'.2=e.2:=by simpa using q1
    show ao (.of e.1 s.p.1.b e.2.1)=ao (.of e'.1 s.p.1.b e'.2.1);rw[jo,jo,this]
   ·obtain⟨e,he,rfl⟩:=(iW v).1 hv;rw[jo];show Ru n (eY all) S b' e.1∨eX S b' e.1 e.2.1;rcases(hyn e he).2.2 with⟨u,hu,hu1,hu2⟩|⟨_,hu⟩
    ·obtain⟨⟨e',vo,hue⟩,NN⟩:=hB1 u hu;obtain⟨_,hp3,_⟩:=(M5 e' vo).2.2 u hue;rw[hu1,hu2]at hp3;rcases Int.lt_trichotomy b' u.ai with h|h|h
     ·exact H.sf _ _ _ hp3 b' h
     ·rw[h];exact .inr hp3
     ·exact .inl (IP e.1 b' (hyn e he).1.1 bV fun e'' Xp w hw V8=>by have:=NN e'' Xp w hw (by rw[V8,hu1]);omega)
    ·exact .inl (IP e.1 b' (hyn e he).1.1 bV fun e'' Xp w hw V8=>absurd V8 (hB0 e.1 hu e'' Xp w hw))
   ·refine⟨.inr (.inr (hF.st.trans z7)),fun _=>by rw[hF.b,z3,hF.me,z1];exact hL.b8 om,fun m' AJ kH hf=>?_,fun m' AJ kH hf=>?_,fun h=>?_,fun h sl hs b' bV=>?_,fun h e he=>?_,fun h=>absurd ((hF.st.trans z7).symm.trans h) (by decide)⟩
    ·have hf:m'.al=y.me:=hf;rcases List.mem_append.1 AJ with q|q
     ·obtain⟨b,c⟩:=hL.TT m' q kH (by rw[hf,hF.me,z1]);refine⟨by rw[hF.b,z3];exact b,fun e=>?_⟩;rw[hF.b,z3]at e;exact absurd h1 (c e).1
     ·obtain⟨v,hv,rfl⟩:=List.mem_map.1 q;obtain⟨e,he,rfl⟩:=(iW v).1 hv;refine⟨by rw[hF.b,z3];exact Int.le_refl _,fun _=>⟨by rw[hF.st,z7];decide,?_⟩⟩;exact(hyn e he).1.2
    ·have hf:m'.al=y.me:=hf;rcases List.mem_append.1 AJ with q|q
     ·obtain⟨b,c⟩:=hL.pre m' q kH (by rw[hf,hF.me,z1]);exact⟨by rw[hF.b,z3];exact b,fun e=>by rw[hF.al,z4];rw[hF.b,z3]at e;exact c e⟩
     ·obtain⟨v,hv,rfl⟩:=List.mem_map.1 q;cases kH
    ·rw[hF.st,z7]at h;exact absurd h (by decide)
    ·rw[hF.b,z3]at bV;have xI:=hF.ge;have hs:y.bQ≤sl:=hs;refine(IP sl b' om bV fun e he u hu hus=>?_).ext hE;exact absurd hus (hB0 sl (fun v hv e=>by have:=hF.lt v hv;omega) e he u hu)
    ·refine⟨?_,fun k _ _ kH=>?_⟩
     ·have:=uO (S:=S) (i:=i) (v:=.of e.1 s.p.1.b e.2.1) (vs:=bc y) ((iW _).2 ⟨e,he,rfl⟩);rw[hF.b,z3];rw[jo]at this;exact this
     ·rw[(hyn e he).2.1]at kH;simp at kH
  ·rw[if_neg mE]at hw ⊢;obtain⟨S',h⟩:=H.M0 (s':={s with p:=(bS s.p.1 aM vs,s.p.2)}) hs ⟨hw,⟨rfl,rfl⟩,rfl,rfl⟩ rfl rfl hL1 (H.out i s hs);exact⟨S',h,by simp⟩
 ·rw[if_neg hg]at hw ⊢;obtain⟨S',h⟩:=H.M0 (s':={s with p:=(s.p.1,s.p.2)}) hs ⟨hw,⟨rfl,rfl⟩,rfl,rfl⟩ rfl rfl hL (H.out i s hs);exact⟨S',h,by simp⟩
end
section
variable {n i:Nat} {all:List MS} {S:List uM} {s:MS}
theorem cp.go {s1 s2:MS} {Q:List uM→Prop} (hs:all[i]? =some s) (h:∃S',(bq n (all.set i s1) S'∧Ext (eY all) S (eY (all.set i s1)) S')∧Q S')
 (k:∀S',bq n (all.set i s1) S'→Ext (eY all) S (eY (all.set i s1)) S'→(all.set i s1)[i]? =some s1→Q S'→cp n i (all.set i s1) S' s2):cp n i all S s2:=by
 obtain⟨S1,⟨h1,h2⟩,h3⟩:=h;have hi:i<all.length:=(List.getElem?_eq_some_iff.1 hs).1;obtain⟨S2,k1,k2⟩:=k S1 h1 h2 (List.getElem?_set_self hi) h3;rw[List.set_set]at k1 k2;exact⟨S2,k1,h2.trans k2⟩
theorem i1:((i:Int)+1 - 1).toNat=i:=by omega
theorem bq.outs (H:bq n all S) (hs:all[i]? =some s) (l:List dr) (hl:∀m∈l,gy n (eY all) S m):cp n i all S {s with out:=s.out++l}:=
 H.M0 hs ⟨(H.wf i s hs).1.outs _,⟨rfl,rfl⟩,rfl,rfl⟩ rfl rfl (H.ld i s hs) fun m hm=>by
  rcases List.mem_append.1 hm with q|q
  ·exact H.out i s hs m q
  ·exact hl m q
theorem bq.told (H:bq n all S) (hs:all[i]? =some s):bq n (all.set i {s with out:=[]}) S∧eY (all.set i {s with out:=[]})=eY all:=by
 have h:=H.say (P:=[]) (s':={s with out:=[]}) hs ⟨(H.wf i s hs).1.outs _,⟨rfl,rfl⟩,rfl,rfl⟩ rfl rfl (by simp) (by simpa using H.ld i s hs) (by simp) (by simp) (by simp);rw[List.append_nil]at h;exact⟨h.1,Ap hs rfl⟩
theorem bq.TU (H:bq n all S) (hs:all[i]? =some s) {b slot:Int} (hb:fB b):
 ∃S',(bq n (all.set i (sb s b slot)) S'∧Ext (eY all) S (eY (all.set i (sb s b slot))) S')∧(S'=S∧((c5 s.q.1 b s.q.2 slot).2.2=0→jt (eY (all.set i (sb s b slot))) S (i+1) b slot (c5 s.q.1 b s.q.2 slot).2.1)):=by
 have lC:=(H.wf i s hs).1;have LM:=lC.qk;have K7:=lC.MR hb slot;have hpo:∀{s':MS},eY (all.set i s') (i+1)=s'.q.1:=fun {s'}=>by rw[pd hs,if_pos i1.symm]
 by_cases he:(c5 s.q.1 b s.q.2 slot).2.2=0
 ·have TW:c5 s.q.1 b s.q.2 slot=(b,lq s.q.2 slot,0)∧s.q.1≤b:=by
   unfold c5 at he ⊢;split at he
   ·cases he
   ·split at he
    ·cases he
    ·rename_i h1 h2;exact⟨by rw[if_neg h1,if_neg h2],om⟩
  obtain⟨TW,hle⟩:=TW;have Xq:sb s b slot={s with q:=(b,s.q.2)}:=by unfold sb;rw[TW]
  rw[Xq]at K7 ⊢;rw[TW];dsimp only
  have hv:∀v,v∈lq s.q.2 slot↔v∈pL s.q.2∧slot≤v.slot:=fun v=>by
   show v∈rising s.q.2 slot (cb (s.q.2.map (·.1)))↔_;rw[sR LM.mv,List.mem_filter,decide_eq_true_iff]
  have hvv:∀b' sl,x3 S (i+1) b' sl→b'≤s.q.1∧∃v,ew s.q.2 sl=some v∧b'≤v.ai:=fun b' sl h=>by
   obtain⟨h1,r,h2,h3⟩:=H.vt _ b' sl h;rw[i1,hs]at h2;cases h2;rw[nD hs i1.symm]at h1;exact⟨h1,h3⟩
  have hE:Ext (eY all) S (eY (all.set i {s with q:=(b,s.q.2)})) S:=by
   refine⟨fun a=>?_,fun m hm=>hm,fun a b s h=>.inl h⟩;rw[pd hs];split
   ·rename_i e;rw[nD hs e];exact hle
   ·exact Int.le_refl _
  have T:Bl n all S [] i s {s with q:=(b,s.q.2)}:=by
   refine⟨⟨K7,⟨rfl,rfl⟩,rfl,rfl⟩,by simp,hle,by simp,?_,?_,?_,by simp,by simp,?_,?_⟩
   ·rw[List.append_nil];exact(H.ld i s hs).ext hE fun m hm=>.inl hm
   ·rw[List.append_nil];exact H.kv i s hs
   ·rw[List.append_nil];exact fun b' sl h=>⟨Int.le_trans (hvv b' sl h).1 hle,(hvv b' sl h).2⟩
   ·rw[List.append_nil];exact H.kn i s hs
   ·rw[List.append_nil];exact fun m hm=>(H.out i s hs m hm).ext hE
  have T1:=T.ok H hs;rw[List.append_nil]at T1;refine⟨S,⟨T1,hE⟩,rfl,fun _=>⟨?_,fun b' sl pF bV hvt=>?_,fun v hvm=>?_⟩⟩
  ·rw[hpo];exact Int.le_refl _
  ·obtain⟨_,v,h3,h4⟩:=hvv b' sl hvt;have fL:=(o8 LM.mv.nd).1 h3;have iB:=LM.mv.key _ fL;have iB:v.slot=sl:=iB;exact⟨v,(hv v).2 ⟨(jn LM.mv).2 (by rw[iB];exact fL),by rw[iB];exact pF⟩,iB,h4⟩
  ·obtain⟨pJ,HX⟩:=(hv v).1 hvm;have fL:=(jn LM.mv).1 pJ;have mH:=LM.l6 _ fL;exact⟨Int.le_trans (LM.bal _ fL) hle,H.kv i s hs _ fL,HX,mH⟩
 ·have Xq:sb s b slot=s:=by
   have:(c5 s.q.1 b s.q.2 slot).1=s.q.1:=by
    unfold c5 at he ⊢;split
    ·rfl
    split
    ·rfl
    ·rename_i h1 h2;rw[if_neg h1,if_neg h2]at he;exact absurd rfl he
   unfold sb;rw[this]
  rw[Xq,x4 hs];exact⟨S,⟨H,.refl⟩,rfl,fun e=>absurd e he⟩
theorem bq.accept (H:bq n all S) (hs:all[i]? =some s) {b slot:Int} {c:cA} (hb:fB b) (Nt:eX S b slot c):
 ∃S',(bq n (all.set i (G5 s b slot c)) S'∧Ext (eY all) S (eY (all.set i (G5 s b slot c))) S')∧((eN s.q.1 s.q.2 b slot c).2.2=0→x3 S' (i+1) b slot):=by
 have lC:=(H.wf i s hs).1;have LM:=lC.qk;have K7:=lC.acc hb slot c;by_cases he:(eN s.q.1 s.q.2 b slot c).2.2=0
 ·have TW:eN s.q.1 s.q.2 b slot c=(b,jS s.q.2 slot (.of slot b c),0)∧s.q.1≤b:=by
   unfold eN at he ⊢;split at he
   ·cases he
   ·split at he
    ·rename_i h1 h2;exact absurd he h2
    ·split at he
     ·cases he
     ·rename_i h1 h2 h3;exact⟨by rw[if_neg h1,if_neg h2,if_neg h3],om⟩
  obtain⟨TW,hle⟩:=TW;have Xq:G5 s b slot c={s with q:=(b,jS s.q.2 slot (.of slot b c))}:=by unfold G5;rw[TW]
  rw[TW]at K7;rw[Xq];dsimp only at K7;have nv:∀m∈S,m∈S++[(⟨4,i+1,b,slot,c⟩:uM)]:=fun m hm=>List.mem_append_left _ hm;have hE:Ext (eY all) S (eY (all.set i {s with q:=(b,jS s.q.2 slot (.of slot b c))})) (S++[⟨4,i+1,b,slot,c⟩]):=by
   refine⟨fun a=>?_,nv,fun a b' sl h=>?_⟩
   ·rw[pd hs];split
    ·rename_i e;rw[nD hs e];exact hle
    ·exact Int.le_refl _
   ·rcases h.app with q|⟨m,hm,q1,q2,q3,_⟩
    ·exact .inl q
    ·simp at hm;subst hm;right;have q2:(i:Int)+1=a:=q2;have q3:b=b':=q3;rw[nD hs om,←q3];exact hle
  have T:Bl n all S [⟨4,i+1,b,slot,c⟩] i s {s with q:=(b,jS s.q.2 slot (.of slot b c))}:=by
   refine⟨⟨K7,⟨rfl,rfl⟩,rfl,rfl⟩,fun m hm=>?_,hle,fun m hm _=>?_,?_,fun e hem=>?_,fun b' sl h=>?_,fun m hm hk=>?_,fun m hm hk=>?_,fun v hv=>(H.kn i s hs v hv).ext hE,fun m hm=>(H.out i s hs m hm).ext hE⟩
   ·simp at hm;subst hm;exact⟨rfl,fun h=>absurd rfl h⟩
   ·simp at hm;subst hm;exact hle
   ·refine(H.ld i s hs).ext hE fun m hm=>?_;rcases List.mem_append.1 hm with q|q
    ·exact .inl q
    ·simp at q;subst q;exact .inr (.inl rfl)
   ·rcases(ir LM.mv.nd).1 hem with rfl |⟨_,hem⟩
    ·show eX _ b slot (ao (.of slot b c));rw[jo];exact Nt.ext hE
    ·exact(H.kv i s hs e hem).ext hE
   ·rcases h.app with q|⟨m,hm,q1,q2,q3,q4⟩
    ·obtain⟨h1,r,h2,v,h3,h4⟩:=H.vt _ b' sl q;rw[i1,hs]at h2;cases h2;rw[nD hs i1.symm]at h1;refine⟨Int.le_trans h1 hle,?_⟩;show∃v,ew (jS s.q.2 slot (.of slot b c)) sl=some v∧_;rw[jT];by_cases pF:sl=slot
     ·rw[if_pos pF];exact⟨_,rfl,by show b'≤b;omega⟩
     ·rw[if_neg pF];exact⟨v,h3,h4⟩
    ·simp at hm;subst hm;have q3:b=b':=q3;have q4:slot=sl:=q4;subst q3 q4;refine⟨Int.le_refl _,?_⟩;show∃v,ew (jS s.q.2 slot (.of slot b c)) slot=some v∧_;rw[jT,if_pos rfl];exact⟨_,rfl,Int.le_refl _⟩
   ·simp at hm;subst hm;cases hk
   ·simp at hm;subst hm;cases hk
  exact⟨_,⟨T.ok H hs,hE⟩,fun _=>⟨_,List.mem_append_right _ List.mem_cons_self,rfl,rfl,rfl,rfl⟩⟩
 ·have Xq:G5 s b slot c=s:=by
   have:(eN s.q.1 s.q.2 b slot c).1=s.q.1∧(eN s.q.1 s.q.2 b slot c).2.1=s.q.2:=by
    unfold eN at he ⊢;split
    ·exact⟨rfl,rfl⟩
    split
    ·exact⟨rfl,rfl⟩
    split
    ·exact⟨rfl,rfl⟩
    ·rename_i h1 h2 h3;rw[if_neg h1,if_neg h2,if_neg h3]at he;exact absurd rfl he
   unfold G5;rw[this.1,this.2]
  rw[Xq,x4 hs];exact⟨S,⟨H,.refl⟩,fun e=>absurd e he⟩
theorem TX {p:Int→Int} {m:dr} (h:6≤m.kind) (hs:MZ m) (ht:m.to≤24∨(101≤m.to∧m.to≤100+(n:Int))):gy n p S m:=⟨fun e=>by omega,fun e=>by omega,fun e=>by omega,fun e=>by omega,fun e=>by omega,hs,ht⟩
theorem TY {K:List ak} {l:List CF} (hK:AN K) {slot:Int} {c:cA} {v:ak} (hv:v∈(br K l slot c).1):(v.slot=slot∧ao v=c)∨v∈K:=by
 unfold br at hv;split at hv
 ·exact .inr hv
 split at hv
 ·exact .inr hv
 split at hv
 ·exact .inr hv
 ·rcases(gl hK.ss).1 hv with rfl |⟨_,q⟩
  ·exact .inl ⟨rfl,rfl⟩
  ·exact .inr q
theorem UY {p:Int→Int} {c:CF} {to:Int} (h:to≤24):gy n p S (gK s (Cu c) to):=TX (by show(6:Int)≤11;decide) (.GS _ _ _ h) (.inl h)
theorem JD {s:MS} {l:List CF} {m:dr} (h:m∈ic s l):∃c∈l,∃k∈aG c,m=gK s (Cu c) k:=by
 obtain⟨c,hc,h⟩:=List.mem_flatMap.1 h;obtain⟨k,hk,rfl⟩:=List.mem_map.1 h;exact⟨c,hc,k,hk,rfl⟩
theorem bq.UZ (H:bq n all S) (hs:all[i]? =some s) {slot:Int} {c:cA} {s':MS} (hc:0≤c.aq) (hch:Nq n S slot c) (h:qJ s slot c s'):cp n i all S s':=by
 have hg:=Ai (H.wf i s hs).1 hc h;obtain⟨rN,rfl,hk⟩:=h;have fG:c9 (sZ s slot c rN):=hg.ok;have Np:eY (all.set i (sZ s slot c rN))=eY all:=Ap hs rfl;have T:Bl n all S [] i s (sZ s slot c rN):=by
  refine⟨⟨fG,⟨rfl,rfl⟩,rfl,rfl⟩,by simp,Int.le_refl _,by simp,?_,?_,?_,by simp,by simp,fun v hv=>?_,fun m hm=>?_⟩
  ·rw[List.append_nil,Np];exact H.ld i s hs
  ·rw[List.append_nil];exact H.kv i s hs
  ·rw[List.append_nil];intro b' sl h;obtain⟨h1,r,h2,h3⟩:=H.vt _ b' sl h;rw[i1,hs]at h2;cases h2;rw[nD hs i1.symm]at h1;exact⟨h1,h3⟩
  ·rw[List.append_nil];rcases TY (H.wf i s hs).1.kK (show v∈(br s.K s.l slot c).1 from hv)with⟨q1,q2⟩|q
   ·rw[q1,q2];exact hch
   ·exact H.kn i s hs v q
  ·rw[List.append_nil,Np];have hm:m∈s.out++(if s.p.1.st=2 then ic s (br s.K s.l slot c).2.1 else []):=hm;rcases List.mem_append.1 hm with q|q
   ·exact H.out i s hs m q
   ·split at q
    ·obtain⟨x,hx,k,hk,rfl⟩:=JD q;obtain⟨h1,h2,_⟩:=s7 (H.wf i s hs).1.kK (H.wf i s hs).1.lE slot c hc;exact UY ((H.wf i s hs).1.nd _ h1 x (h2 x hx) k hk)
    ·cases q
 exact T.goes H hs
end
end Go.M
