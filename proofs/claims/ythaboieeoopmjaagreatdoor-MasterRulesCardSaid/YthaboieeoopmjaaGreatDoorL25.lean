/-
  Part 25 of the library that the proof leans on.
-/
import Derived.Test.YthaboieeoopmjaaGreatDoorL12
import Derived.Test.YthaboieeoopmjaaGreatDoorL24
namespace Go.M
open Go Go.Proofs
set_option maxRecDepth 100000
set_option maxHeartbeats 4000000
theorem T4 {x:aB} {v:ai} (h:v∈bf x):v.ao=x.b:=by
 unfold bf at h;obtain⟨n,_,rfl⟩:=List.mem_map.1 h;rfl
theorem nu {x:aB} (h:vZ x):(bf x).length≤512:=by
 have h2:((aP x.eJ).map (· +1)).Nodup:=by
  refine List.Pairwise.map _ ?_ h.op.nd;intro a b LH e;exact LH om
 have h3:=pL 512 ((aP x.eJ).map (· +1)) h2 fun w hw=>by
  obtain⟨n,hn,rfl⟩:=List.mem_map.1 hw;have:=h.op.pI n hn;have:=h.cu;omega
 unfold bf;simpa[bY]using h3
theorem zo {x:aB} (_:vZ x) (b aO:Int) (vs:List ai) (h1:vZ (bR x b aO vs).1):(∀v∈(bR x b aO vs).2.1,iL v.ao)∧(bR x b aO vs).2.1.length≤512:=by
 have key:(bR x b aO vs).2.1=[]∨(bR x b aO vs).2.1=bf (bR x b aO vs).1:=by
  unfold bR;split
  ·split
   ·exact .inr rfl
   ·exact .inl rfl
  ·exact .inl rfl
 rcases key with e|e
 ·rw[e];exact⟨by simp,by simp⟩
 ·rw[e];exact⟨fun v hv=>by rw[T4 hv];exact h1.b,nu h1⟩
@[reducible] def Gp (s:MS) (b aO:Int) (vs:List ai):MS:={s with p:=((bR s.p.1 b aO vs).1,s.p.2)}
def wE (s:MS) (b aO:Int) (vs:List ai) (s':MS):Prop:=
 if(bR s.p.1 b aO vs).2.2=true then mh (Gp s b aO vs) (bR s.p.1 b aO vs).2.1 s' else s'=Gp s b aO vs
theorem T5 {s:MS} {b aO:Int} {vs:List ai} (h:(bR s.p.1 b aO vs).2.2=false):wE s b aO vs (Gp s b aO vs):=by
 unfold wE;rw[if_neg (by rw[h];decide)]
theorem Qy {s s':MS} {b aO:Int} {vs:List ai} (h:(bR s.p.1 b aO vs).2.2=true) (hL:mh (Gp s b aO vs) (bR s.p.1 b aO vs).2.1 s'):wE s b aO vs s':=by
 unfold wE;rw[if_pos h];exact hL
structure zp (vs:List ai):Prop where
 len:vs.length≤600
 pI:∀v∈vs,vR v.slot
 chk:∀v∈vs,(aA v).check=0
theorem MD (s:MS) (H:dc s) (m:bS) (hf:100<m.ak∧m.ak≤105) (hv:zp m.eg) (hl:s.out.length<20000):VC E0 37 1 [.ptr 0 0,.agg (bu {m with kind:=2})] (bz s) (RS (wE s m.ao (m.ak - 100) m.eg)):=by
 have hw:IntKind.i64.wrap (m.ak - 100)=m.ak - 100:=IntWalk.i64_in _ om;have H1:=H.promise m.ao (m.ak - 100) m.eg hv.len hv.pI hv.chk;obtain⟨ny,oY⟩:=zo H.lw m.ao (m.ak - 100) m.eg H1.lw;obtain⟨me,ms,nodes,eC,aK,quiet,waited,q,kn,K,l,⟨x,f⟩,out⟩:=s;cases f
 all_goals
  refine en L0 Tryz.f37 ?_;rw[hw];refine⟨[],[some 2],_,_,_,_,FY (x,_) H.px m.ao (m.ak - 100) m.eg H.lw.cm H.lw.op H.lw.ms hv.len hv.pI H.lw.cu,t3,?_⟩;rintro r o' c' ⟨rfl,rfl,rfl⟩;have bj:=True.intro;clear bj;cases hb:(bR x m.ao (m.ak - 100) m.eg).2.2
  ·refine wh ?_;exact⟨[],[some 0],_,_,_,t3,⟨_,T5 hb,rfl,rfl,rfl⟩⟩
  ·refine wh ?_;refine⟨[],[some 0],_,_,_,_,Gn _ H1 (bR x m.ao (m.ak - 100) m.eg).2.1 ny hl (Nat.le_trans oY (by decide)),t3,?_⟩;rintro r o' c' ⟨s',jL,rfl,rfl,rfl⟩;refine wh ?_;exact⟨[],[some 0],_,_,_,t3,⟨_,Qy hb jL,rfl,rfl,rfl⟩⟩
theorem tO (s:MS) (H:dc s) (m:bS) (hf:100<m.ak∧m.ak≤105) (hv:zp m.eg) (hl:s.out.length<20000):VC E0 20 1 [.ptr 0 0,.agg (bu {m with kind:=2})] (bz s) (RS (wE s m.ao (m.ak - 100) m.eg)):=by
 refine en L0 Tryz.f20 ?_;refine rn ?_;refine⟨[],[some 0],_,_,_,_,MD s H m hf hv hl,t3,?_⟩;rintro r o' c' ⟨s',jL,rfl,rfl,rfl⟩;refine wh ?_;exact⟨[],[some 0],_,_,_,t3,⟨_,jL,rfl,rfl,rfl⟩⟩
@[reducible] def Gq (s:MS) (c:b8):MS:={s with p:=((aI s.p.1 c).1,s.p.2)}
def qM (s:MS) (c:b8) (s':MS):Prop:=
 if(aI s.p.1 c).2.2=0 then mh (Gq s c) [(aI s.p.1 c).2.1] s' else s'=Gq s c
theorem T6 {s:MS} {c:b8} (h:¬(aI s.p.1 c).2.2=0):qM s c (Gq s c):=by
 unfold qM;rw[if_neg h]
theorem Qz {s s':MS} {c:b8} (h:(aI s.p.1 c).2.2=0) (hL:mh (Gq s c) [(aI s.p.1 c).2.1] s'):qM s c s':=by
 unfold qM;rw[if_pos h];exact hL
theorem Kt {x:aB} (h:vZ x) (c:b8) (he:(aI x c).2.2=0):iL (aI x c).2.1.ao:=by
 unfold aI at he ⊢;split at he
 ·cases he
 split at he
 ·rename_i h1 h2;exact absurd he h2
 split at he
 ·cases he
 split at he
 ·cases he
 rename_i h1 h2 h3 h4;rw[if_neg h1,if_neg h2,if_neg h3,if_neg h4];exact h.b
theorem zq (s:MS) (H:dc s) (c:b8) (hl:s.out.length<20000):VC E0 45 1 [.ptr 0 0,Kh c] (bz s) (RS (qM s c)):=by
 have H1:=H.w6 c;have zO:=Kt H.lw c;obtain⟨me,ms,nodes,eC,aK,quiet,waited,q,kn,K,l,⟨x,f⟩,out⟩:=s;cases f
 all_goals
  refine en L0 Tryz.f45 ?_;refine⟨[],[some 2],_,_,_,_,FZ (x,_) H.px c H.lw.op H.lw.cu,t3,cw ?_⟩;refine sp ?_ ?_<;>intro h
  ·have h:(aI x c).2.2=0:=h;refine wh ?_;refine⟨[5],[some 0],_,_,_,_,Gn _ H1 [(aI x c).2.1] (fun v hv=>by rw[List.mem_singleton.1 hv];exact zO h) hl (by simp),t3,?_⟩;rintro r o' c' ⟨s',jL,rfl,rfl,rfl⟩;refine wh ?_;exact⟨[],[some 0],_,_,_,t3,⟨_,Qz h jL,rfl,rfl,rfl⟩⟩
  ·have h:¬(aI x c).2.2=0:=h;refine wh ?_;exact⟨[],[some 0],_,_,_,t3,⟨_,T6 h,rfl,rfl,rfl⟩⟩
theorem Vc.abg {p:Int} {es:List (Int×ai)} (h:Vc p es):es.length≤512:=by
 have h2:((es.map (·.1)).map (· +1)).Nodup:=by
  refine List.Pairwise.map _ ?_ h.mv.nd;intro a b LH e;exact LH om
 have:=pL 512 ((es.map (·.1)).map (· +1)) h2 fun w hw=>by
  obtain⟨n,KT,rfl⟩:=List.mem_map.1 hw;obtain⟨e,he,rfl⟩:=List.mem_map.1 KT;have:=h.pI e he;omega
 simpa using this
theorem DO (es:List (Int×ai)) (ak:Int):(kz es ak).length≤es.length:=by
 unfold kz rising;rw[List.length_map];refine Nat.le_trans (List.length_filter_le _ _) ?_;simp[bY]
theorem Ku {s:MS} (H:dc s) (b ak:Int):zp (dx s.q.1 b s.q.2 ak).2.1:=by
 have key:(dx s.q.1 b s.q.2 ak).2.1=[]∨(dx s.q.1 b s.q.2 ak).2.1=kz s.q.2 ak:=by
  unfold dx;split
  ·exact .inl rfl
  split
  ·exact .inl rfl
  ·exact .inr rfl
 have oI:∀v∈kz s.q.2 ak,(v.slot,v)∈s.q.2:=fun v hv=>by
  have hv:v∈rising s.q.2 ak (bY (s.q.2.map (·.1))):=hv;rw[yT H.qk.mv,List.mem_filter]at hv;exact(lh H.qk.mv).1 hv.1
 rcases key with e|e
 ·rw[e];exact⟨by simp,by simp,by simp⟩
 ·rw[e];refine⟨Nat.le_trans (DO _ _) (Nat.le_trans H.qk.abg (by decide)),fun v hv=>?_,fun v hv=>H.qc _ (oI v hv)⟩;have:=H.qk.pI _ (oI v hv);unfold vR;have h1:IntKind.i64.min= -9223372036854775808:=rfl;have h2:IntKind.i64.max=9223372036854775807:=rfl;dsimp only at this;omega
@[reducible] def BM (b slot:Int) (vs:List ai):bS:=⟨2,0,0,b,slot,aF,aS,vs⟩
def zr (s:MS) (b slot:Int) (vs:List ai) (to:Int) (s':MS):Prop:=if to=bF s then wE s b s.me vs s' else s'=DI s (BM b slot vs) to
theorem Gs (s:MS) (H:dc s) (b slot:Int) (vs:List ai) (hv:zp vs) (to:Int) (hl:s.out.length<20000):VC E0 46 1 [.ptr 0 0,.agg (bu (BM b slot vs)),.s (.int .i64 to)] (bz s) (RS (zr s b slot vs to)):=by
 unfold zr;have mH:=H.me;by_cases h:to=bF s
 ·subst h;simp only[if_true];have e:bF s - 100=s.me:=by show 100+s.me - 100=s.me;omega
  have gg:=tO s H {BM b slot vs with ak:=bF s,to:=bF s} (by show 100<100+s.me∧100+s.me≤105;omega) hv hl;dsimp only at gg;rw[e]at gg;refine en L0 Tryz.f46 ?_;refine⟨[],[some 0],_,_,_,_,c7 s mH,t3,cw ?_⟩;refine⟨[],[some 0],_,_,_,_,c7 s mH,t3,cw ?_⟩;refine sp ?_ ?_<;>intro h1;rotate_left
  ·exact absurd rfl h1
  ·refine wh ?_;refine⟨[],[some 0],_,_,_,_,gg,t3,?_⟩;rintro r o' c' ⟨s',jL,rfl,rfl,rfl⟩;refine wh ?_;exact⟨[],[some 0],_,_,_,t3,⟨_,jL,rfl,rfl,rfl⟩⟩
 ·simp only[if_neg h];refine VC.told (vY s (BM b slot vs) to mH h om) ?_;rintro r o' c' ⟨rfl,rfl,rfl⟩;exact⟨[],[some 0],_,_,_,t3,⟨_,rfl,rfl,rfl,rfl⟩⟩
def zt (s:MS) (b slot:Int) (vs:List ai) (to e:Int) (s':MS):Prop:=
 if e=0 then zr {s with quiet:=0} b slot vs to s' else if e=10 then s'=qL s to else s'=s
theorem QA (s:MS) (H:dc s) (m:bS) (b slot:Int) (vs:List ai) (hv:zp vs) (e:Int) (hl:s.out.length<20000):VC E0 84 1 [.ptr 0 0,.agg (bu m),.s (.int .i64 e),.agg (bu (BM b slot vs))] (bz s) (RS (zt s b slot vs m.ak e)):=by
 unfold zt;refine en L0 Tryz.f84 ?_;refine sp ?_ ?_<;>intro h1
 ·have h1:e=0:=h1;subst h1;simp only[if_true];refine wh ?_;refine⟨[],[some 0],_,_,_,_,Gs {s with quiet:=0} H.zl b slot vs hv m.ak hl,t3,?_⟩;rintro r o' c' ⟨s',jL,rfl,rfl,rfl⟩;refine wh ?_;exact⟨[],[some 0],_,_,_,t3,⟨_,jL,rfl,rfl,rfl⟩⟩
 ·have h1:¬e=0:=h1;simp only[if_neg h1];refine wh ?_;refine sp ?_ ?_<;>intro h2
  ·have h2:e=10:=h2;simp only[if_pos h2];refine wh ?_;refine⟨[],[some 0],_,_,_,_,DL s H m om,t3,cw ?_⟩;exact⟨[],[some 0],_,_,_,t3,⟨_,rfl,rfl,rfl,rfl⟩⟩
  ·have h2:¬e=10:=h2;simp only[if_neg h2];refine wh ?_;exact⟨[],[some 0],_,_,_,t3,⟨_,rfl,rfl,rfl,rfl⟩⟩
@[reducible] def Vm (s:MS) (b slot:Int):MS:={s with q:=((dx s.q.1 b s.q.2 slot).1,s.q.2)}
theorem dc.QB {s:MS} (H:dc s) {b:Int} (hb:iL b) (slot:Int):dc (Vm s b slot):=by
 have key:(dx s.q.1 b s.q.2 slot).1=s.q.1∨((dx s.q.1 b s.q.2 slot).1=b∧s.q.1≤b):=by
  unfold dx;split
  ·exact .inl rfl
  split
  ·exact .inl rfl
  ·rename_i h1 h2;exact .inr ⟨rfl,om⟩
 refine⟨H.me,H.ms,H.px,H.lw,?_,H.qc,?_,H.kn,H.kK,H.lE,H.nd,H.nc⟩
 ·show Vc (dx s.q.1 b s.q.2 slot).1 s.q.2;rcases key with e|⟨e,h⟩
  ·rw[e];exact H.qk
  ·rw[e];exact⟨H.qk.mv,H.qk.pI,fun e he=>Int.le_trans (H.qk.bal e he) h⟩
 ·show 0≤(dx s.q.1 b s.q.2 slot).1∧(dx s.q.1 b s.q.2 slot).1≤18446744073709551615;rcases key with e|⟨e,h⟩
  ·rw[e];exact H.qp
  ·rw[e];exact hb
def jD (s:MS) (b slot ak:Int) (s':MS):Prop:=
 zt (Vm (eD s b) b slot) b slot (dx s.q.1 b s.q.2 slot).2.1 ak (dx s.q.1 b s.q.2 slot).2.2 s'
theorem Ay (s:MS) (H:dc s) (m:bS) (hb:iL m.ao) (hl:s.out.length<20000):VC E0 36 1 [.ptr 0 0,.agg (bu {m with kind:=1})] (bz s) (RS (jD s m.ao m.slot m.ak)):=by
 have H1:=(H.refuse m.ao).QB hb m.slot;have Ng:=Ku H m.ao m.slot;have hqf:=H.qk.abg;have gl:=H.qk.ok om;obtain⟨me,ms,nodes,eC,aK,quiet,waited,q,kn,K,l,⟨x,f⟩,out⟩:=s;cases f
 all_goals
  refine en L0 Tryz.f36 ?_;refine rn ?_;refine⟨[],[some 2],_,_,_,_,lr (x,_) H.px m.ao,t3,cw ?_⟩;refine rn ?_;refine⟨[],[some 4],_,_,_,_,F4 q m.ao m.slot gl (Nat.lt_of_le_of_lt hqf (by decide)),t3,cw ?_⟩;refine⟨[6],[some 0],_,_,_,_,QA _ H1 {m with kind:=1} m.ao m.slot (dx q.1 m.ao q.2 m.slot).2.1 Ng (dx q.1 m.ao q.2 m.slot).2.2 hl,t3,?_⟩;rintro r o' c' ⟨s',jL,rfl,rfl,rfl⟩;refine wh ?_;exact⟨[],[some 0],_,_,_,t3,⟨_,jL,rfl,rfl,rfl⟩⟩
theorem tP (s:MS) (H:dc s) (m:bS) (hb:iL m.ao) (hl:s.out.length<20000):VC E0 20 1 [.ptr 0 0,.agg (bu {m with kind:=1})] (bz s) (RS (jD s m.ao m.slot m.ak)):=by
 refine en L0 Tryz.f20 ?_;refine rn ?_;refine⟨[],[some 0],_,_,_,_,Ay s H m hb hl,t3,?_⟩;rintro r o' c' ⟨s',jL,rfl,rfl,rfl⟩;refine wh ?_;exact⟨[],[some 0],_,_,_,t3,⟨_,jL,rfl,rfl,rfl⟩⟩
theorem Gt (s:MS) (H:dc s) (m:bS) (hb:iL m.ao) (hl:s.out.length<20000):VC E0 46 1 [.ptr 0 0,.agg (bu {m with kind:=1}),.s (.int .i64 (bF s))] (bz s) (RS (jD s m.ao m.slot (bF s))):=by
 have mH:=H.me;refine en L0 Tryz.f46 ?_;refine⟨[],[some 0],_,_,_,_,c7 s mH,t3,cw ?_⟩;refine⟨[],[some 0],_,_,_,_,c7 s mH,t3,cw ?_⟩;refine sp ?_ ?_<;>intro h1;rotate_left
 ·exact absurd rfl h1
 ·refine wh ?_;refine⟨[],[some 0],_,_,_,_,tP s H {m with ak:=bF s,to:=bF s} hb hl,t3,?_⟩;rintro r o' c' ⟨s',jL,rfl,rfl,rfl⟩;refine wh ?_;exact⟨[],[some 0],_,_,_,t3,⟨_,jL,rfl,rfl,rfl⟩⟩
@[reducible] def fZ (b slot:Int):bS:=⟨1,0,0,b,slot,aF,aS,[]⟩
theorem Gu (s:MS) (H:dc s) (b slot:Int) (hb:iL b) (hl:s.out.length<19000):VC E0 39 1 [.ptr 0 0,.agg (bu (fZ b slot))] (bz s) (RS (jD (bo s (fZ b slot)) b slot (bF s))):=by
 have mH:=H.me;have gG:=H.ms;refine en L0 Tryz.f39 ?_;refine⟨[],[some 0],_,_,_,_,qy s (fZ b slot) mH om om,t3,cw ?_⟩;refine⟨[],[some 0],_,_,_,_,c7 (bo s (fZ b slot)) mH,t3,cw ?_⟩;have hol:=lB s (fZ b slot) s.ah.toNat
 refine⟨[],[some 0],_,_,_,_,Gt (bo s (fZ b slot)) (H.outs _) (fZ b slot) hb (by rw[List.length_append];omega),t3,?_⟩;rintro r o' c' ⟨s',jL,rfl,rfl,rfl⟩;refine wh ?_;exact⟨[],[some 0],_,_,_,t3,⟨_,jL,rfl,rfl,rfl⟩⟩
theorem zu {x:aB} (h:vZ x) {above ak:Int} (ha:iL above) (he:(aY x above ak).2=0):iL (aY x above ak).1∧0≤ak∧ak≤512:=by
 have hm:=h.me;have hx:=h.b;have M7:=IJ ha hx;unfold aY at he ⊢;split at he
 ·cases he
 split at he
 ·rename_i h1 h2;exact absurd he h2
 rename_i h1 h2;rw[if_neg h1,if_neg h2];refine⟨?_,om,om⟩;unfold m5 at hm;have key:∀r0 r1:Int,r0=(if 1>Dq above x.b / 8 then 1 else Dq above x.b / 8)→r1=(if 8*r0+x.me≤Dq above x.b then r0+1 else r0)→iL (if r1≥1152921504606846976 then((0:Int),(9:Int))else(8*r1+x.me,0)).1:=by
  intro r0 r1 h0 h1;unfold iL;by_cases hr:r1≥1152921504606846976
  ·rw[if_pos hr];decide
  ·rw[if_neg hr];dsimp only
   split at h0<;>split at h1<;>omega
 exact key _ _ rfl rfl
@[reducible] def lC (s:MS):MS:={s with quiet:=0,waited:=0,p:=mJ s.p s.q.1 (aD s.K)}
noncomputable def lD (s s':MS):Prop:=
 if(aY s.p.1 s.q.1 (aD s.K)).2=0 then jD (bo (lC s) (fZ (aY s.p.1 s.q.1 (aD s.K)).1 (aD s.K))) (aY s.p.1 s.q.1 (aD s.K)).1 (aD s.K) (bF s) s' else s'=lC s
theorem dc.start {s:MS} (H:dc s):dc (lC s):=by
 have hw:vZ (mJ s.p s.q.1 (aD s.K)).1∧PX (mJ s.p s.q.1 (aD s.K)):=by
  unfold mJ;split
  ·rename_i he;obtain⟨h1,h2⟩:=zu H.lw H.qp he;exact⟨H.lw.start h1 h2,fun e=>by cases e⟩
  ·exact⟨H.lw,H.px⟩
 exact⟨H.me,H.ms,hw.2,hw.1,H.qk,H.qc,H.qp,H.kn,H.kK,H.lE,H.nd,H.nc⟩
@[reducible] def Jb (s:MS):MS:={s with quiet:=0,waited:=0,p:=(mI s.p.1.me s.p.1.ah (aY s.p.1 s.q.1 (aD s.K)).1 (aD s.K),true)}
theorem zw {s:MS} (h:(aY s.p.1 s.q.1 (aD s.K)).2=0):lC s=Jb s:=by unfold lC mJ;rw[if_pos h]
theorem ME {s:MS} (h:¬(aY s.p.1 s.q.1 (aD s.K)).2=0):lC s={s with quiet:=0,waited:=0}:=by unfold lC mJ;rw[if_neg h]
theorem Jc {s s':MS} (h:(aY s.p.1 s.q.1 (aD s.K)).2=0) (hh:jD (bo (Jb s) (fZ (aY s.p.1 s.q.1 (aD s.K)).1 (aD s.K))) (aY s.p.1 s.q.1 (aD s.K)).1 (aD s.K) (bF s) s'):lD s s':=by
 unfold lD;rw[if_pos h,zw h];exact hh
theorem MF {s:MS} (h:¬(aY s.p.1 s.q.1 (aD s.K)).2=0):lD s {s with quiet:=0,waited:=0}:=by
 unfold lD;rw[if_neg h,ME h]
theorem XM (s:MS) (H:dc s) (hl:s.out.length<19000):VC E0 27 1 [.ptr 0 0] (bz s) (RS (lD s)):=by
 have H1:(aY s.p.1 s.q.1 (aD s.K)).2=0→dc (Jb s):=fun h=>by rw[←zw h];exact H.start
 have zO:=zu H.lw (above:=s.q.1) (ak:=aD s.K) H.qp;obtain⟨me,ms,nodes,eC,aK,quiet,waited,q,kn,K,l,⟨x,f⟩,out⟩:=s;by_cases he:(aY x q.1 (aD K)).2=0
 ·cases f
  all_goals
   have gg:=BB (x,_) H.px q.1 (aD K) H.qp H.lw.b H.lw.me;unfold mJ at gg;dsimp only at gg;rw[if_pos he]at gg;refine en L0 Tryz.f27 ?_;refine⟨[],[some 1],_,_,_,_,pS (oR kn K l),t3,cw ?_⟩;refine⟨[],[some 4],_,_,_,_,gy q,t3,cw ?_⟩;refine⟨[],[some 3],_,_,_,_,gg,t3,cw ?_⟩;refine sp ?_ ?_<;>intro h0;rotate_left
   ·exact absurd he h0
   ·refine wh ?_;refine⟨[],[some 0],_,_,_,_,Gu _ (H1 he) (aY x q.1 (aD K)).1 (aD K) (zO he).1 hl,t3,?_⟩;rintro r o' c' ⟨s',jL,rfl,rfl,rfl⟩;refine wh ?_;exact⟨[],[some 0],_,_,_,t3,⟨_,Jc he jL,rfl,rfl,rfl⟩⟩
 ·cases f
  all_goals
   have gg:=BB (x,_) H.px q.1 (aD K) H.qp H.lw.b H.lw.me;unfold mJ at gg;dsimp only at gg;rw[if_neg he]at gg;refine en L0 Tryz.f27 ?_;refine⟨[],[some 1],_,_,_,_,pS (oR kn K l),t3,cw ?_⟩;refine⟨[],[some 4],_,_,_,_,gy q,t3,cw ?_⟩;refine⟨[],[some 3],_,_,_,_,gg,t3,cw ?_⟩;refine sp ?_ ?_<;>intro h0
   ·exact absurd h0 he
   ·refine wh ?_;exact⟨[],[some 0],_,_,_,t3,⟨_,MF he,rfl,rfl,rfl⟩⟩
@[reducible] def QC (s:Int):bS:=⟨7,0,0,0,s,aF,aS,[]⟩
noncomputable def wb (s:MS) (b slot ak:Int):MS:=
 if b<s.q.1 then qL s ak else if(aD s.K:Int)<slot then DI {eD s b with quiet:=0} (QC (aD s.K)) ak else {eD s b with quiet:=0}
theorem MG (s:MS) (H:dc s) (m:bS) (BI:m.ak≠bF s) (hl:s.out.length<19000):VC E0 20 1 [.ptr 0 0,.agg (bu {m with kind:=6})] (bz s) (RR (.c4 []) 1 (bz (wb s m.ao m.slot m.ak))):=by
 suffices hh:VC E0 36 1 [.ptr 0 0,.agg (bu {m with kind:=6})] (bz s) (RR (.c4 []) 1 (bz (wb s m.ao m.slot m.ak))) by
  refine en L0 Tryz.f20 ?_;refine rn ?_;refine⟨[],[some 0],_,_,_,_,hh,t3,cw ?_⟩;exact⟨[],[some 0],_,_,_,t3,rfl,rfl,rfl⟩
 unfold wb;have mH:=H.me;by_cases h1:m.ao<s.q.1
 ·rw[if_pos h1];refine en L0 Tryz.f36 ?_;refine rn ?_;refine⟨[],[some 2],_,_,_,_,gy s.q,t3,cw ?_⟩;refine sp ?_ ?_<;>intro h2
  ·refine wh ?_;refine⟨[],[some 0],_,_,_,_,DL s H {m with kind:=6} om,t3,cw ?_⟩;exact⟨[],[some 0],_,_,_,t3,rfl,rfl,rfl⟩
  ·exact absurd h1 h2
 ·rw[if_neg h1];have ad5:=vY {eD s m.ao with quiet:=0} (QC (aD s.K)) m.ak mH BI (by show s.out.length<100000;omega);obtain⟨me,ms,nodes,eC,aK,quiet,waited,q,kn,K,l,⟨x,f⟩,out⟩:=s;by_cases h3:(aD K:Int)<m.slot
  ·simp only[h3,if_true];cases f
   all_goals
    refine en L0 Tryz.f36 ?_;refine rn ?_;refine⟨[],[some 2],_,_,_,_,gy q,t3,cw ?_⟩;refine sp ?_ ?_<;>intro h2
    ·exact absurd h2 h1
    refine wh ?_;refine⟨[],[some 4],_,_,_,_,lr (x,_) H.px m.ao,t3,cw ?_⟩;refine rn ?_;refine⟨[],[some 6],_,_,_,_,pS (oR kn K l),t3,cw ?_⟩;refine sp ?_ ?_<;>intro h4;rotate_left
    ·exact absurd h3 h4
    ·refine wh ?_;refine⟨[],[some 0],_,_,_,_,ad5,t3,cw ?_⟩;exact⟨[],[some 0],_,_,_,t3,rfl,rfl,rfl⟩
  ·simp only[h3,if_false];cases f
   all_goals
    refine en L0 Tryz.f36 ?_;refine rn ?_;refine⟨[],[some 2],_,_,_,_,gy q,t3,cw ?_⟩;refine sp ?_ ?_<;>intro h2
    ·exact absurd h2 h1
    refine wh ?_;refine⟨[],[some 4],_,_,_,_,lr (x,_) H.px m.ao,t3,cw ?_⟩;refine rn ?_;refine⟨[],[some 6],_,_,_,_,pS (oR kn K l),t3,cw ?_⟩;refine sp ?_ ?_<;>intro h4
    ·exact absurd h4 h3
    ·refine wh ?_;exact⟨[],[some 0],_,_,_,t3,rfl,rfl,rfl⟩
def pW (s:MS) (slot ak:Int) (k:Nat):List bS:=(List.range k).filterMap fun(i:Nat)=>(tF s.K (slot+i)).map fun v=>vX s (oq (slot+i) (aA v)) ak
theorem Jd (s:MS) (slot ak:Int) (k:Nat):pW s slot ak (k+1)=pW s slot ak k++((tF s.K (slot+k)).map fun v=>vX s (oq (slot+k) (aA v)) ak).toList:=by
 unfold pW;rw[List.range_succ,List.filterMap_append]
 congr 1
theorem BN (s:MS) (slot ak:Int) (k:Nat):(pW s slot ak k).length≤k:=by
 unfold pW;exact Nat.le_trans (List.length_filterMap_le _ _) (by simp)
@[reducible] def Gv (s:MS) (slot ak:Int):MS:={s with out:=s.out++pW s slot ak 8}
theorem T7 (s:MS) (H:dc s) (m:bS) (BI:m.ak≠bF s) (hs:0≤m.slot∧m.slot≤512) (hl:s.out.length<19000):VC E0 41 1 [.ptr 0 0,.agg (bu m)] (bz s) (RR (.c4 []) 1 (bz (Gv s m.slot m.ak))):=by
 have mH:=H.me;refine en L0 Tryz.f41 ?_;refine⟨fun k f o c=>∃i:Nat,i≤8∧k=8 - i∧c=2∧f=[(0,.ptr 0 0),(3,.ptr 1 0),(7,.s (.int .i64 i))]∧o=bz {s with out:=s.out++pW s m.slot m.ak i}++[(1,.cells (bu m))],⟨8,?_⟩,?_⟩
 ·refine⟨[],[some 0,some 1],?_⟩
  iterate 3 constructor
  refine⟨⟨?_,?_,?_⟩,⟨0,by decide,rfl,rfl,rfl,rfl⟩⟩
  all_goals(repeat' first|exact LF|constructor)
  all_goals first|exact Lz.rfl|exact Lz.of (by simp[pW])
 ·rintro k f1 o1 c1 ⟨i,hi,rfl,rfl,rfl,rfl⟩;have hn:=BN s m.slot m.ak i;have hw:IntKind.i64.wrap (m.slot+(i:Int))=m.slot+(i:Int):=IntWalk.i64_in _ om;refine wh ?_;refine sp ?_ ?_<;>intro aU
  ·have aU:(i:Int)<8:=aU;refine wh ?_;rw[hw];have hk:bH s.kn (m.slot+(i:Int))=(tF s.K (m.slot+i)).map aA:=H.kn (m.slot+i);have D3:=XI (oR s.kn s.K s.l) (m.slot+i);have hsu:=Jd s m.slot m.ak i;cases hv:tF s.K (m.slot+(i:Int))with
   |none=>
    rw[hv]at hk hsu;rw[show bH (oR s.kn s.K s.l).known (m.slot+(i:Int))=none from hk]at D3;refine⟨[],[some 2],_,_,_,_,D3,t3,cw ?_⟩;refine⟨8 - (i+1),?_,om⟩;refine⟨[],[some 0,some 1],_,_,_,tx ?_,⟨i+1,om,rfl,rfl,rfl,rfl⟩⟩;exact Lz.of (by rw[hsu];simp)
   |some v=>
    rw[hv]at hk hsu;rw[show bH (oR s.kn s.K s.l).known (m.slot+(i:Int))=some (aA v)from hk]at D3;refine⟨[],[some 2],_,_,_,_,D3,t3,cw ?_⟩;rw[hw];refine⟨[],[some 0],_,_,_,_,vY {s with out:=s.out++pW s m.slot m.ak i} (oq (m.slot+i) (aA v)) m.ak mH BI (by rw[List.length_append];omega),t3,cw ?_⟩;refine⟨8 - (i+1),?_,om⟩;refine⟨[],[some 0,some 1],_,_,_,tx ?_,⟨i+1,om,rfl,rfl,rfl,rfl⟩⟩;exact Lz.of (by rw[hsu,Option.map_some,Option.toList_some,←List.append_assoc,List.map_append (l₁:=s.out++pW s m.slot m.ak i)])
  ·have aU:¬(i:Int)<8:=aU;obtain rfl:i=8:=by omega
   refine wh ?_;exact⟨[],[some 0],_,_,_,t3,rfl,rfl,rfl⟩
theorem MH (s:MS) (H:dc s) (m:bS) (BI:m.ak≠bF s) (hs:0≤m.slot∧m.slot≤512) (hl:s.out.length<19000):VC E0 20 1 [.ptr 0 0,.agg (bu {m with kind:=7})] (bz s) (RR (.c4 []) 1 (bz (Gv s m.slot m.ak))):=by
 refine en L0 Tryz.f20 ?_;refine rn ?_;refine⟨[],[some 0],_,_,_,_,T7 s H {m with kind:=7} BI hs hl,t3,cw ?_⟩;exact⟨[],[some 0],_,_,_,t3,rfl,rfl,rfl⟩
noncomputable def Az (s:MS) (c:b8) (s':MS):Prop:=
 if s.p.1.st=2∧c.kind≠0∧iI (oR s.kn s.K s.l).bK c=0 then qM s c s' else s'=s
theorem DP {s:MS} {c:b8} (h:¬(s.p.1.st=2∧c.kind≠0∧iI (oR s.kn s.K s.l).bK c=0)):Az s c s:=by
 unfold Az;rw[if_neg h]
theorem QD {s s':MS} {c:b8} (h:s.p.1.st=2∧c.kind≠0∧iI (oR s.kn s.K s.l).bK c=0) (hh:qM s c s'):Az s c s':=by
 unfold Az;rw[if_pos h];exact hh
theorem Gw (s:MS) (H:dc s) (m:bS) (hl:s.out.length<19000):VC E0 20 1 [.ptr 0 0,.agg (bu {m with kind:=9})] (bz s) (RS (Az s m.cmd)):=by
 refine en L0 Tryz.f20 ?_;refine rn ?_;refine⟨[],[some 0],_,_,_,_,Gj s H.px,t3,?_⟩;rintro r o' c' ⟨rfl,rfl,rfl⟩;have bj:=True.intro;clear bj;cases hb:decide (s.p.1.st=2)
 ·refine wh ?_;have hb:¬s.p.1.st=2:=of_decide_eq_false hb;exact⟨[],[some 0],_,_,_,t3,⟨s,DP (fun e=>hb e.1),rfl,rfl,rfl⟩⟩
 ·refine wh ?_;have hb:s.p.1.st=2:=of_decide_eq_true hb;refine sp ?_ ?_<;>intro hk
  ·have hk:m.cmd.kind≠0:=hk;refine wh ?_;refine⟨[],[some 3],_,_,_,_,TW (oR s.kn s.K s.l) m.cmd,t3,cw ?_⟩;refine sp ?_ ?_<;>intro hc
   ·have hc:iI (oR s.kn s.K s.l).bK m.cmd=0:=hc;refine wh ?_;refine⟨[],[some 0],_,_,_,_,zq s H m.cmd om,t3,?_⟩;rintro r o' c' ⟨s',jL,rfl,rfl,rfl⟩;refine wh ?_;exact⟨[],[some 0],_,_,_,t3,⟨_,QD ⟨hb,hk,hc⟩ jL,rfl,rfl,rfl⟩⟩
   ·have hc:¬iI (oR s.kn s.K s.l).bK m.cmd=0:=hc;refine wh ?_;exact⟨[],[some 0],_,_,_,t3,⟨s,DP (fun e=>hc e.2.2),rfl,rfl,rfl⟩⟩
  ·have hk:¬m.cmd.kind≠0:=hk;refine wh ?_;exact⟨[],[some 0],_,_,_,t3,⟨s,DP (fun e=>hk e.2.1),rfl,rfl,rfl⟩⟩
theorem abh (s:MS) (h:1≤s.ah∧s.ah≤5) (a:Int):VC E0 19 1 [.ptr 0 0,.s (.int .i64 a)] (bz s) (RR (.s (.bool (decide (100<a∧a≤100+s.ah)))) 1 (bz s)):=by
 have hw:IntKind.i64.wrap (100+s.ah)=100+s.ah:=IntWalk.i64_in _ om;refine en L0 Tryz.f19 ?_;refine sp ?_ ?_<;>intro h1
 ·have h1:a>100:=h1;refine wh ?_;rw[hw];refine sp ?_ ?_<;>intro h2
  ·have h2:a≤100+s.ah:=h2;refine wh ?_;refine⟨[],[some 0],_,_,_,tx ?_,rfl,rfl,rfl⟩;exact Lz.of (an (by simp;omega))
  ·have h2:¬a≤100+s.ah:=h2;refine wh ?_;refine⟨[],[some 0],_,_,_,tx ?_,rfl,rfl,rfl⟩;exact Lz.of (an (by simp;omega))
 ·have h1:¬a>100:=h1;refine wh ?_;refine⟨[],[some 0],_,_,_,tx ?_,rfl,rfl,rfl⟩;exact Lz.of (an (by simp;omega))
def pX (s:MS) (m:bS):Prop:=cL m=0∧m.to=bF s∧(m.kind≤8→100<m.ak∧m.ak≤100+s.ah)
theorem tQ (s:MS) (H:dc s) (m:bS) (P:MS→Prop) (hk:1≤m.kind∧m.kind≤9) (hc:VC E0 18 0 [.agg (bu m)] [] (RR (.s (.int .i64 (cL m))) 0 []))
 (ht:pX s m→VC E0 20 1 [.ptr 0 0,.agg (bu m)] (bz s) (RS P)):VC E0 8 1 [.ptr 0 0,.agg (bu m)] (bz s)
  (fun r o c=>(¬pX s m∧r= .sl 0 [] true∧c=1∧o=bz s)∨(pX s m∧∃s1,P s1∧r= .tk 1∧c=2∧o=[(0,IY {s1 with out:=[]}),(1,.arr 25 true (s1.out.map bu))])):=by
 have gG:=H.ms;have mH:=H.me;refine en L0 Tryz.f8 ?_;refine⟨[],[],_,_,_,_,hc,t3,cw ?_⟩;refine sp ?_ ?_<;>intro h1
 ·have h1:cL m≠0:=h1;refine wh ?_;exact⟨[],[some 0],_,_,_,t3,.inl ⟨fun e=>h1 e.1,rfl,rfl,rfl⟩⟩
 ·have h1:cL m=0:=Classical.not_not.1 h1;refine wh ?_;refine⟨[],[some 0],_,_,_,_,c7 s mH,t3,cw ?_⟩;refine sp ?_ ?_<;>intro h2
  ·have h2:m.to≠bF s:=h2;refine wh ?_;exact⟨[],[some 0],_,_,_,t3,.inl ⟨fun e=>h2 e.2.1,rfl,rfl,rfl⟩⟩
  ·have h2:m.to=bF s:=Classical.not_not.1 h2;refine wh ?_;refine sp ?_ ?_<;>intro h3;rotate_left
   ·exact absurd (show m.kind≥1 from hk.1) h3
   ·refine wh ?_;refine sp ?_ ?_<;>intro h4
    ·have h4:m.kind≤8:=h4;refine wh ?_;refine⟨[],[some 0],_,_,_,_,abh s om m.ak,t3,?_⟩;rintro r o' c' ⟨rfl,rfl,rfl⟩;have bj:=True.intro;clear bj;cases h5:decide (100<m.ak∧m.ak≤100+s.ah)
     ·refine wh ?_;have h5:=of_decide_eq_false h5;exact⟨[],[some 0],_,_,_,t3,.inl ⟨fun e=>h5 (e.2.2 h4),rfl,rfl,rfl⟩⟩
     ·refine wh ?_;have h5:=of_decide_eq_true h5;have ha:pX s m:=⟨h1,h2,fun _=>h5⟩;refine⟨[],[some 0],_,_,_,_,ht ha,t3,?_⟩;rintro r o' c' ⟨s1,qa,rfl,rfl,rfl⟩;refine wh ?_;refine⟨[],[some 0],_,_,_,_,oE s1,t3,cw ?_⟩;exact⟨[],[some 0,some 6],_,_,_,t3,.inr ⟨ha,s1,qa,rfl,rfl,rfl⟩⟩
    ·have h4:¬m.kind≤8:=h4;refine wh ?_;have ha:pX s m:=⟨h1,h2,fun e=>absurd e h4⟩;refine⟨[],[some 0],_,_,_,_,ht ha,t3,?_⟩;rintro r o' c' ⟨s1,qa,rfl,rfl,rfl⟩;refine wh ?_;refine⟨[],[some 0],_,_,_,_,oE s1,t3,cw ?_⟩;exact⟨[],[some 0,some 5],_,_,_,t3,.inr ⟨ha,s1,qa,rfl,rfl,rfl⟩⟩
theorem Gx (p:aB×Bool) (hp:PX p) (h:vZ p.1):VC E0 49 1 [.ptr 0 0] [(0,ie p)] (RR (cQ (bf p.1)) 1 [(0,ie p)]):=by
 have hlen:=nu h;obtain⟨x,f⟩:=p;cases f with
 |false=>
  obtain⟨me,ms,rfl⟩:=hp rfl;have e:bf (mL me ms)=[]:=by unfold bf;simp[aP,bY]
  dsimp only
  rw[e];exact PO me ms
 |true=>
  have hol:x.eJ.length≤512:=by unfold bf at hlen;simpa[bY,aP]using hlen
  have gl:k8 (aP x.eJ):=by
   refine⟨by simp[aP];omega,fun n hn=>?_,h.op.nd⟩;have:=h.op.pI n hn;have:=h.cu;have h1:IntKind.i64.min= -9223372036854775808:=rfl;have h2:IntKind.i64.max=9223372036854775807:=rfl;omega
  refine VC.told (R:=RR (cQ (bf x)) 6 (qw x)) (VC.ld (m0:=0) rfl ?_) ?_
  ·show iU false (VC E0) _ _ [(1,ic x),(2,jS x),(0,kc x 1 2)] 3 _;refine⟨[],[some 0,some 1,some 2],_,_,_,_,tH x gl om,t3,?_⟩;rintro r o' c' ⟨rfl,rfl,rfl⟩;exact⟨rfl,rfl,rfl⟩
  ·rintro r o' c' ⟨rfl,rfl,rfl⟩;exact⟨[],[some 0],_,_,_,t3,rfl,rfl,rfl⟩
def lF (l:List CF):List Int:=l.flatMap fun c=>c.nodes++[c.join]
theorem Gy {l:List CF} {i:Nat} (h:i<l.length):lF (l.take (i+1))=lF (l.take i)++(l[i].nodes++[l[i].join]):=by
 unfold lF;rw[gu _ i h,List.flatMap_append];simp
theorem zy {l:List CF} (h:∀c∈l,c.nodes.length≤6):(lF l).length≤7*l.length:=by
 induction l with
 |nil=>simp[lF]
 |cons c l ih=>
  have h2:=h c List.mem_cons_self;have h3:=ih fun x hx=>h x (List.mem_cons_of_mem _ hx);unfold lF at h3 ⊢;rw[List.flatMap_cons,List.length_append,List.length_append];simp only[List.length_cons,List.length_nil];omega
def eU (down:List Int) (l:List CF) (vs:List ai):List Int:=down++lF l++vs.map (·.node)
def g7 (taken:List Int):Nat→Nat→Int
 |0,_=>0
 |k+1,i=>if(i:Int)+1∈taken then g7 taken k (i+1)else(i:Int)+1
theorem QE (s:MS) (H:dc s) (l:List CF) (down:List Int) (hd:down.length≤1000) (hl:l.length≤6) (hn:∀c∈l,c.nodes.length≤6) (vx:0≤s.nodes∧s.nodes≤24):
 VC E0 51 1 [.ptr 0 0,.sl 5 (l.map aJ) false,.sl 1 (down.map aW) false] (bz s) (RR (.s (.int .i64 (g7 (eU down l (bf s.p.1)) s.nodes.toNat 0))) 1 (bz s)):=by
 have ju:=nu H.lw;have gg:=Gx s.p H.px H.lw;have htC:=zy hn;refine en L0 Tryz.f51 ?_;refine⟨[],[],_,_,_,_,ig down om,t3,cw ?_⟩
 refine⟨fun k f o c=>∃i:Nat,i≤l.length∧k=l.length - i∧c=2∧f=[(0,.ptr 0 0),(7,.tk 1),(15,.sl 5 (l.map aJ) false),(16,.s (.int .i64 (l.map aJ).length)),(17,.s (.int .i64 i))]∧
  o=bz s++[(1,.arr 1 true ((down++lF (l.take i)).map aW))],⟨l.length,?_⟩,?_⟩
 ·refine⟨[],[some 0,some 1],?_⟩
  iterate 3 constructor
  refine⟨⟨?_,?_,?_⟩,⟨0,Nat.zero_le _,rfl,rfl,rfl,rfl⟩⟩
  all_goals(repeat' first|exact LF|constructor)
  all_goals first|exact Lz.rfl|exact Lz.of (by simp[lF])
 ·rintro k f1 o1 c1 ⟨i,hi,rfl,rfl,rfl,rfl⟩;have htl:=zy (l:=l.take i) fun c hc=>hn c (List.mem_of_mem_take hc);rw[List.length_take]at htl;refine wh ?_;refine sp ?_ ?_<;>intro aU
  ·have aU:i<l.length:=fW.1 aU;have Na:=hn _ (List.getElem_mem aU);refine wh ?_;refine jg aU ?_;refine wh ?_;refine⟨by simp;omega,?_⟩;refine wh ?_;refine⟨by simp;omega,?_⟩;refine wh ?_;refine⟨l.length - (i+1),?_,om⟩;refine⟨[],[some 0,some 5],_,_,_,tx ?_,⟨i+1,aU,rfl,rfl,rfl,rfl⟩⟩;exact Lz.of (by rw[Gy aU];simp)
  ·have aU:¬i<l.length:=mt fW.2 aU;rw[List.take_of_length_le (Nat.not_lt.1 aU)];obtain⟨me,ms,nodes,eC,aK,quiet,waited,q,kn,K,lc,⟨x,f⟩,out⟩:=s;cases f
   ·dsimp only at ju vx;refine wh ?_;refine⟨[],[some 2],_,_,_,_,gg,t3,cw ?_⟩
    refine⟨fun k f o c=>∃j:Nat,j≤(bf x).length∧k=(bf x).length - j∧c=2∧f=[(0,.ptr 0 0),(7,.tk 1),(34,cQ (bf x)),(35,.s (.int .i64 ((bf x).map eL).length)),(36,.s (.int .i64 j))]∧
     o=bz ⟨me,ms,nodes,eC,aK,quiet,waited,q,kn,K,lc,(x,false),out⟩++[(1,.arr 1 true ((down++lF l++((bf x).take j).map (·.node)).map aW))],⟨(bf x).length,?_⟩,?_⟩
    ·refine⟨[],[some 0,some 1],?_⟩
     iterate 3 constructor
     refine⟨⟨?_,?_,?_⟩,⟨0,Nat.zero_le _,rfl,rfl,rfl,rfl⟩⟩
     all_goals(repeat' first|exact LF|constructor)
     all_goals first|exact Lz.rfl|exact Lz.of (by simp)
    ·rintro k f1 o1 c1 ⟨j,hj,rfl,rfl,rfl,rfl⟩;refine wh ?_;refine sp ?_ ?_<;>intro eA
     ·have eA:j<(bf x).length:=fW.1 eA;refine wh ?_;refine jg eA ?_;refine wh ?_;refine⟨by simp;omega,?_⟩;refine wh ?_;refine⟨(bf x).length - (j+1),?_,om⟩;refine⟨[],[some 0,some 4],_,_,_,tx ?_,⟨j+1,eA,rfl,rfl,rfl,rfl⟩⟩;exact Lz.of (by rw[gu _ j eA];simp only[List.map_append,List.append_assoc];rfl)
     ·have eA:¬j<(bf x).length:=mt fW.2 eA;rw[List.take_of_length_le (Nat.not_lt.1 eA)];refine wh ?_
      refine⟨fun k f o c=>∃n:Nat,n≤nodes.toNat∧k=nodes.toNat - n∧g7 (eU down l (bf x)) (nodes.toNat - n) n=g7 (eU down l (bf x)) nodes.toNat 0∧c=1∧f=[(0,.ptr 0 0),(7,.sl 1 ((eU down l (bf x)).map aW) false),(50,.s (.int .i64 nodes)),(51,.s (.int .i64 n))]∧
       o=bz ⟨me,ms,nodes,eC,aK,quiet,waited,q,kn,K,lc,(x,false),out⟩,⟨nodes.toNat,?_⟩,?_⟩
      ·exact⟨[1],[some 0],_,_,_,t3,⟨0,Nat.zero_le _,rfl,rfl,rfl,rfl,rfl⟩⟩
      ·rintro k f1 o1 c1 ⟨n,KT,rfl,uv,rfl,rfl,rfl⟩;have hw:IntKind.i64.wrap ((n:Int)+1)=(n:Int)+1:=IntWalk.i64_in _ om;have tY:(eU down l (bf x)).length<1000000:=by unfold eU;simp;omega
       refine wh ?_;refine sp ?_ ?_<;>intro h3
       ·have h3:(n:Int)<nodes:=h3;have bN:nodes.toNat - n=(nodes.toNat - (n+1))+1:=by omega
        rw[bN]at uv;refine wh ?_;rw[hw];refine⟨[],[],_,_,_,_,iH (eU down l (bf x)) ((n:Int)+1) tY,t3,?_⟩;rintro r o' c' ⟨rfl,rfl,rfl⟩;have bj:=True.intro;clear bj;cases hb:decide ((n:Int)+1∈eU down l (bf x))
        ·have hb:=of_decide_eq_false hb;refine wh ?_;refine⟨[],[some 0],_,_,_,tx ?_,rfl,rfl,rfl⟩;exact Lz.int (by rw[hw];rw[g7,if_neg hb]at uv;exact uv)
        ·have hb:=of_decide_eq_true hb;refine wh ?_;rw[g7,if_pos hb]at uv;refine⟨nodes.toNat - (n+1),?_,om⟩;exact⟨[],[some 0],_,_,_,t3,⟨n+1,om,rfl,uv,rfl,rfl,rfl⟩⟩
       ·have h3:¬(n:Int)<nodes:=h3;refine wh ?_;refine⟨[],[some 0],_,_,_,tx ?_,rfl,rfl,rfl⟩;exact Lz.int (by rw[show nodes.toNat - n=0 by omega]at uv;exact uv)
   ·dsimp only at ju vx;refine wh ?_;refine⟨[],[some 2],_,_,_,_,gg,t3,cw ?_⟩
    refine⟨fun k f o c=>∃j:Nat,j≤(bf x).length∧k=(bf x).length - j∧c=2∧f=[(0,.ptr 0 0),(7,.tk 1),(34,cQ (bf x)),(35,.s (.int .i64 ((bf x).map eL).length)),(36,.s (.int .i64 j))]∧
     o=bz ⟨me,ms,nodes,eC,aK,quiet,waited,q,kn,K,lc,(x,true),out⟩++[(1,.arr 1 true ((down++lF l++((bf x).take j).map (·.node)).map aW))],⟨(bf x).length,?_⟩,?_⟩
    ·refine⟨[],[some 0,some 1],?_⟩
     iterate 3 constructor
     refine⟨⟨?_,?_,?_⟩,⟨0,Nat.zero_le _,rfl,rfl,rfl,rfl⟩⟩
     all_goals(repeat' first|exact LF|constructor)
     all_goals first|exact Lz.rfl|exact Lz.of (by simp)
    ·rintro k f1 o1 c1 ⟨j,hj,rfl,rfl,rfl,rfl⟩;refine wh ?_;refine sp ?_ ?_<;>intro eA
     ·have eA:j<(bf x).length:=fW.1 eA;refine wh ?_;refine jg eA ?_;refine wh ?_;refine⟨by simp;omega,?_⟩;refine wh ?_;refine⟨(bf x).length - (j+1),?_,om⟩;refine⟨[],[some 0,some 4],_,_,_,tx ?_,⟨j+1,eA,rfl,rfl,rfl,rfl⟩⟩;exact Lz.of (by rw[gu _ j eA];simp only[List.map_append,List.append_assoc];rfl)
     ·have eA:¬j<(bf x).length:=mt fW.2 eA;rw[List.take_of_length_le (Nat.not_lt.1 eA)];refine wh ?_
      refine⟨fun k f o c=>∃n:Nat,n≤nodes.toNat∧k=nodes.toNat - n∧g7 (eU down l (bf x)) (nodes.toNat - n) n=g7 (eU down l (bf x)) nodes.toNat 0∧c=1∧f=[(0,.ptr 0 0),(7,.sl 1 ((eU down l (bf x)).map aW) false),(50,.s (.int .i64 nodes)),(51,.s (.int .i64 n))]∧
       o=bz ⟨me,ms,nodes,eC,aK,quiet,waited,q,kn,K,lc,(x,true),out⟩,⟨nodes.toNat,?_⟩,?_⟩
      ·exact⟨[1],[some 0],_,_,_,t3,⟨0,Nat.zero_le _,rfl,rfl,rfl,rfl,rfl⟩⟩
      ·rintro k f1 o1 c1 ⟨n,KT,rfl,uv,rfl,rfl,rfl⟩;have hw:IntKind.i64.wrap ((n:Int)+1)=(n:Int)+1:=IntWalk.i64_in _ om;have tY:(eU down l (bf x)).length<1000000:=by unfold eU;simp;omega
       refine wh ?_;refine sp ?_ ?_<;>intro h3
       ·have h3:(n:Int)<nodes:=h3;have bN:nodes.toNat - n=(nodes.toNat - (n+1))+1:=by omega
        rw[bN]at uv;refine wh ?_;rw[hw];refine⟨[],[],_,_,_,_,iH (eU down l (bf x)) ((n:Int)+1) tY,t3,?_⟩;rintro r o' c' ⟨rfl,rfl,rfl⟩;have bj:=True.intro;clear bj;cases hb:decide ((n:Int)+1∈eU down l (bf x))
        ·have hb:=of_decide_eq_false hb;refine wh ?_;refine⟨[],[some 0],_,_,_,tx ?_,rfl,rfl,rfl⟩;exact Lz.int (by rw[hw];rw[g7,if_neg hb]at uv;exact uv)
        ·have hb:=of_decide_eq_true hb;refine wh ?_;rw[g7,if_pos hb]at uv;refine⟨nodes.toNat - (n+1),?_,om⟩;exact⟨[],[some 0],_,_,_,t3,⟨n+1,om,rfl,uv,rfl,rfl,rfl⟩⟩
       ·have h3:¬(n:Int)<nodes:=h3;refine wh ?_;refine⟨[],[some 0],_,_,_,tx ?_,rfl,rfl,rfl⟩;exact Lz.int (by rw[show nodes.toNat - n=0 by omega]at uv;exact uv)
theorem QF {s s':MS} (H:dc s) {b aO:Int} {vs:List ai} (hv:zp vs) (h:wE s b aO vs s'):Gr s s' 5120:=by
 have H1:=H.promise b aO vs hv.len hv.pI hv.chk;obtain⟨ny,oY⟩:=zo H.lw b aO vs H1.lw;have h0:Gr s (Gp s b aO vs) 0:=⟨H1,rfl,rfl,rfl,rfl,rfl,.refl _,Nat.le_refl _⟩;unfold wE at h;split at h
 ·exact(h0.trans (DN h H1 ny)).le om
 ·subst h;exact h0.le (by decide)
theorem QG {s s':MS} (H:dc s) {c:b8} (h:qM s c s'):Gr s s' 10:=by
 have H1:=H.w6 c;have h0:Gr s (Gq s c) 0:=⟨H1,rfl,rfl,rfl,rfl,rfl,.refl _,Nat.le_refl _⟩;unfold qM at h;split at h
 ·rename_i he;exact(h0.trans (DN h H1 fun v hv=>by rw[List.mem_singleton.1 hv];exact Kt H.lw c he)).le (by simp)
 ·subst h;exact h0.le (by decide)
theorem T8 {s s':MS} (H:dc s) {b slot to:Int} {vs:List ai} (hv:zp vs) (h:zr s b slot vs to s'):Gr s s' 5120:=by
 unfold zr at h;split at h
 ·exact QF H hv h
 ·subst h;exact(w8 H _ to).le (by decide)
theorem T9 {s s':MS} (H:dc s) {b slot to e:Int} {vs:List ai} (hv:zp vs) (h:zt s b slot vs to e s'):Gr s s' 5120:=by
 unfold zt at h;split at h
 ·have h1:=T8 H.zl hv h;exact⟨h1.ok,h1.me,h1.ms,h1.l,h1.no,h1.tk,h1.kr,h1.out⟩
 split at h
 ·subst h;exact(Ja H to).le (by decide)
 ·subst h;exact(Gr.refl H).le (by decide)
theorem BO {s s':MS} (H:dc s) {b slot ak:Int} (hb:iL b) (h:jD s b slot ak s'):Gr s s' 5120:=by
 have h1:=T9 ((H.refuse b).QB hb slot) (Ku H b slot) h;exact⟨h1.ok,h1.me,h1.ms,h1.l,h1.no,h1.tk,h1.kr,h1.out⟩
theorem QH {s s':MS} (H:dc s) (h:lD s s'):Gr s s' 5125:=by
 have h0:Gr s (lC s) 0:=⟨H.start,rfl,rfl,rfl,rfl,rfl,.refl _,Nat.le_refl _⟩;unfold lD at h;split at h
 ·rename_i he;exact(h0.trans ((nr H.start _).trans (BO (H.start.outs _) (zu H.lw H.qp he).1 h))).le (by decide)
 ·subst h;exact h0.le (by decide)
theorem Ua {s:MS} (H:dc s) (b slot ak:Int):Gr s (wb s b slot ak) 1:=by
 have H1:dc {eD s b with quiet:=0}:=(H.refuse b).zl;have h0:Gr s {eD s b with quiet:=0} 0:=⟨H1,rfl,rfl,rfl,rfl,rfl,.refl _,Nat.le_refl _⟩;unfold wb;split
 ·exact Ja H ak
 split
 ·exact(h0.trans (w8 H1 _ ak)).le (by decide)
 ·exact h0.le (by decide)
theorem Ub {s:MS} (H:dc s) (slot ak:Int):Gr s (Gv s slot ak) 8:=by
 refine⟨H.outs _,rfl,rfl,rfl,rfl,rfl,.refl _,?_⟩;have h1:=BN s slot ak 8;show(s.out++pW s slot ak 8).length+7*cN s≤s.out.length+7*cN s+8;rw[List.length_append];omega
theorem XN {s s':MS} (H:dc s) {c:b8} (h:Az s c s'):Gr s s' 10:=by
 unfold Az at h;split at h
 ·exact QG H h
 ·subst h;exact(Gr.refl H).le (by decide)
def g8 (s:MS) (vs:List ai):List bS:=vs.flatMap fun v=>mK s (jC v) s.ah.toNat
theorem Gz {s:MS} {vs:List ai} {i:Nat} (h:i<vs.length):g8 s (vs.take (i+1))=g8 s (vs.take i)++mK s (jC vs[i]) s.ah.toNat:=by
 unfold g8;rw[gu _ i h,List.flatMap_append];simp
theorem sk {s:MS} (H:dc s) (vs:List ai):(g8 s vs).length≤5*vs.length:=by
 have gG:=H.ms
 induction vs with
 |nil=>simp[g8]
 |cons v vs ih=>
  have h1:=lB s (jC v) s.ah.toNat
  unfold g8 at ih ⊢;rw[List.flatMap_cons,List.length_append,List.length_cons];omega
@[reducible] def Je (s:MS) (vs:List ai):MS:={s with out:=s.out++g8 s vs}
theorem MI (s:MS) (H:dc s) (vs:List ai) (hl:s.out.length<20000) (hv:vs.length≤600):VC E0 48 1 [cQ vs,.cW 24 [.ptr 0 0] []] (bz s) (RR (.c4 []) 1 (bz (Je s vs))):=by
 have mH:=H.me;have gG:=H.ms;refine en L0 Tryz.f48 ?_;refine⟨fun k f o c=>∃i:Nat,i≤vs.length∧k=vs.length - i∧c=1∧f=[(1,.cW 24 [.ptr 0 0] []),(6,cQ vs),(7,.s (.int .i64 (vs.map eL).length)),(8,.s (.int .i64 i))]∧o=bz {s with out:=s.out++g8 s (vs.take i)},⟨vs.length,?_⟩,?_⟩
 ·refine⟨[],[some 0],?_⟩
  iterate 3 constructor
  refine⟨⟨?_,?_,?_⟩,⟨0,Nat.zero_le _,rfl,rfl,rfl,rfl⟩⟩
  all_goals(repeat' first|exact LF|constructor)
  all_goals first|exact Lz.rfl|exact Lz.of (by simp[g8])
 ·rintro k f1 o1 c1 ⟨i,hi,rfl,rfl,rfl,rfl⟩;have hG:=sk H (vs.take i);rw[List.length_take]at hG;refine wh ?_;refine sp ?_ ?_<;>intro aU
  ·have aU:i<vs.length:=fW.1 aU;refine wh ?_;refine jg aU ?_;refine wh ?_;refine⟨[],[some 0],_,_,_,_,qy {s with out:=s.out++g8 s (vs.take i)} (jC vs[i]) mH (by show 1≤s.ah∧s.ah≤5;omega) (by rw[List.length_append];omega),t3,cw ?_⟩;refine⟨vs.length - (i+1),?_,om⟩;refine⟨[],[some 0],_,_,_,tx ?_,⟨i+1,aU,rfl,rfl,rfl,rfl⟩⟩;exact Lz.of (by rw[Gz aU];simp only[List.map_append,List.append_assoc];rfl)
  ·have aU:¬i<vs.length:=mt fW.2 aU;refine wh ?_;refine⟨[],[some 0],_,_,_,tx ?_,rfl,rfl,rfl⟩;exact Lz.of (by rw[List.take_of_length_le (Nat.not_lt.1 aU)])
@[reducible] def iM (b slot:Int):bS:=⟨6,0,0,b,slot,aF,aS,[]⟩
inductive we:MS→Nat→MS→Prop
 |nil (s:MS):we s 0 s
 |snoc {s s1 s':MS} {k:Nat} {c:b8} (t:we s k s1) (h:qM s1 c s'):we s (k+1) s'
 |skip {s s1:MS} {k:Nat} (t:we s k s1):we s (k+1) s1
theorem DQ {s s':MS} {k:Nat} (h:we s k s'):dc s→Gr s s' (10*k):=by
 induction h with
 |nil=>intro H;exact .refl H
 |snoc t h ih=>
  intro H;have h1:=ih H;exact(h1.trans (QG h1.ok h)).le om
 |skip t ih=>intro H;exact(ih H).le om
@[reducible] noncomputable def aN (s:MS):List CF:=(oR s.kn s.K s.l).bK
@[reducible] noncomputable def ik (s:MS):MS:=Je (bo s (iM s.p.1.b (aD s.K))) (bf s.p.1)
def QI (s s':MS):Prop:=∃c∈aN s,we (re (ik s) c) (aN s).length s'
theorem Kv (K:List ai) (l:List CF):∀n,(a8 K l n).2.length=l.length
 |0=>rfl
 |n+1=>by
  have ih:=Kv K l n;unfold a8;cases K[n]? with
  |none=>exact ih
  |some v=>dsimp only;rw[Kn];exact ih
theorem dc.bK {s:MS} (H:dc s):(aN s).length=s.l.length∧∀c∈aN s,c.nodes.length≤6∧∀x∈aG c,x≤24:=
 ⟨Kv _ _ _,fun c hc=>⟨(H.lE.bk s.K (aD s.K)).n6 c hc,H.nc s.K H.kK c hc⟩⟩
theorem ad6 {a b:Int} (ha:0≤a) (hb:0<b):Ld .rem .i64 .i64 a b=some (.int .i64 (a % b)):=by
 show eP (Go.binOp .rem 0 (.int .i64 a) (.int .i64 b))=_;simp only[Go.binOp,Op.intDiv];rw[Int.tmod_eq_emod_of_nonneg ha];rw[if_neg (show¬b=0 by omega)];rfl
inductive MJ:bS→Prop
 |QB (f t b s:Int) (hb:iL b) (h:f≠t):MJ ⟨1,f,t,b,s,aF,aS,[]⟩
 |prom (f t b s:Int) (vs:List ai) (hv:zp vs) (h:f≠t):MJ ⟨2,f,t,b,s,aF,aS,vs⟩
 |acc (f t b s:Int) (c:b8) (hb:iL b) (h:f≠t):MJ ⟨3,f,t,b,s,c,aS,[]⟩
 |abi (f t b s:Int) (h:f≠t):MJ ⟨4,f,t,b,s,aF,aS,[]⟩
 |abj (f t s:Int) (c:b8) (h:f≠t):MJ ⟨5,f,t,0,s,c,aS,[]⟩
 |abk (f t b s:Int) (h:f≠t):MJ ⟨6,f,t,b,s,aF,aS,[]⟩
 |want (f t s:Int) (h:f≠t):MJ ⟨7,f,t,0,s,aF,aS,[]⟩
 |abl (f t b:Int) (h:f≠t):MJ ⟨8,f,t,b,0,aF,aS,[]⟩
 |Aw (f t:Int) (c:CF) (h:t≤24):MJ ⟨11,f,t,0,0,aF,c,[]⟩
def DR (c:b8):Bool:=c.kind==0&&c.chain==0&&c.aq==0&&c.node==0
theorem ot {c:b8} (h:DR c=true):c=aF:=by
 obtain⟨a,b,d,e⟩:=c;simp only[DR,Bool.and_eq_true,beq_iff_eq]at h;obtain⟨⟨⟨rfl,rfl⟩,rfl⟩,rfl⟩:=h;rfl
def nCF (c:CF):Bool:=c.chain==0&&c.aq==0&&c.nodes.isEmpty&& !c.fresh&&c.join==0
theorem QJ {c:CF} (h:nCF c=true):c=aS:=by
 obtain⟨a,b,d,e,f⟩:=c;simp only[nCF,Bool.and_eq_true,beq_iff_eq,List.isEmpty_iff,Bool.not_eq_true']at h;obtain⟨⟨⟨⟨rfl,rfl⟩,rfl⟩,rfl⟩,rfl⟩:=h;rfl
def vsB (vs:List ai):Bool:=decide (vs.length≤600)&&vs.all fun v=>decide (IntKind.i64.min≤v.slot∧v.slot≤IntKind.i64.max)&&(aA v).check==0
theorem XO {vs:List ai} (h:vsB vs=true):zp vs:=by
 simp only[vsB,Bool.and_eq_true,List.all_eq_true,decide_eq_true_eq,beq_iff_eq]at h;exact⟨h.1,fun v hv=>(h.2 v hv).1,fun v hv=>(h.2 v hv).2⟩
def XP (m:bS):Bool:=
 if m.kind=11 then decide (m.to≤24)&&m.ao==0&&m.slot==0&&DR m.cmd&&m.eg.isEmpty
 else(decide (m.ak≠m.to)&&(
  if m.kind=2 then vsB m.eg&&DR m.cmd&&nCF m.Aw
  else(m.eg.isEmpty&&nCF m.Aw&&(
   if m.kind=1 then decide (iL m.ao)&&DR m.cmd
   else if m.kind=3 then decide (iL m.ao)
   else if m.kind=4 then DR m.cmd
   else if m.kind=5 then m.ao==0
   else if m.kind=6 then DR m.cmd
   else if m.kind=7 then m.ao==0&&DR m.cmd
   else if m.kind=8 then m.slot==0&&DR m.cmd
   else false))))
theorem Uc {m:bS} (h:XP m=true):MJ m:=by
 obtain⟨k,f,t,b,s,c,cf,vs⟩:=m;unfold XP at h;dsimp only at h;split at h
 ·rename_i hk;subst hk;simp only[Bool.and_eq_true,decide_eq_true_eq,beq_iff_eq,List.isEmpty_iff]at h;obtain⟨⟨⟨⟨h1,rfl⟩,rfl⟩,h4⟩,rfl⟩:=h;cases ot h4;exact .Aw f t cf h1
 rw[Bool.and_eq_true,decide_eq_true_eq]at h;obtain⟨Ef,h⟩:=h;split at h
 ·rename_i hk;subst hk;simp only[Bool.and_eq_true]at h;obtain⟨⟨h1,h2⟩,h3⟩:=h;cases ot h2;cases QJ h3;exact .prom f t b s vs (XO h1) Ef
 simp only[Bool.and_eq_true,List.isEmpty_iff]at h;obtain⟨⟨rfl,h2⟩,h⟩:=h;cases QJ h2;split at h
 ·rename_i hk;subst hk;simp only[Bool.and_eq_true,decide_eq_true_eq]at h;cases ot h.2;exact .QB f t b s h.1 Ef
 split at h
 ·rename_i hk;subst hk;exact .acc f t b s c (of_decide_eq_true h) Ef
 split at h
 ·rename_i hk;subst hk;cases ot h;exact .abi f t b s Ef
 split at h
 ·rename_i hk;subst hk;cases beq_iff_eq.1 h;exact .abj f t s c Ef
 split at h
 ·rename_i hk;subst hk;cases ot h;exact .abk f t b s Ef
 split at h
 ·rename_i hk;subst hk;rw[Bool.and_eq_true,beq_iff_eq]at h;obtain⟨rfl,h⟩:=h;cases ot h;exact .want f t s Ef
 split at h
 ·rename_i hk;subst hk;rw[Bool.and_eq_true,beq_iff_eq]at h;obtain⟨rfl,h⟩:=h;cases ot h;exact .abl f t b Ef
 ·cases h
def zz (s:MS) (m:bS) (s':MS):Prop:=(m.kind≤8→100<m.ak∧m.ak≤100+s.ah)∧
 ((m.kind=1∧iL m.ao∧jD s m.ao m.slot m.ak s')∨(m.kind=2∧zp m.eg∧wE s m.ao (m.ak - 100) m.eg s')∨(m.kind=3∧iL m.ao∧jB s m.ao m.slot m.cmd m.ak s')∨(m.kind=4∧zj s m.ao m.slot (m.ak - 100) s')∨
 (m.kind=5∧0≤m.cmd.aq∧pU s m.slot m.cmd s')∨(m.kind=6∧m.ak≠bF s∧s'=wb s m.ao m.slot m.ak)∨(m.kind=7∧m.ak≠bF s∧s'=Gv s m.slot m.ak)∨(m.kind=8∧s'=eD s m.ao)∨(m.kind=9∧Az s m.cmd s'))
theorem GA {m:bS} (h:cL m=0):bL m=true:=by
 unfold cL at h;split at h
 ·rename_i q;simp at q;exact q.2.2
 ·cases h
@[reducible] def lG (s:MS) (t q w:Int):MS:={s with aK:=t,quiet:=q,waited:=w}
def QL (s s':MS):Prop:=∃q w,(s.p.1.st=2∧QI (lG s (s.aK+1) q w) s')∨(s.p.1.st=1∧(s'=lG s (s.aK+1) q w∨s'=bo (lG s (s.aK+1) q w) (fZ s.p.1.b s.p.1.ak)))∨(s'=lG s (s.aK+1) q w∨lD (lG s (s.aK+1) q w) s')
theorem dc.cnt {s:MS} (H:dc s) (t q w:Int):dc (lG s t q w):=⟨H.me,H.ms,H.px,H.lw,H.qk,H.qc,H.qp,H.kn,H.kK,H.lE,H.nd,H.nc⟩
@[reducible] noncomputable def abm (P:MS→Prop):TV→Ob→Nat→Prop:=fun r o c=>∃s1,P s1∧r= .tk 1∧c=2∧o=[(0,IY {s1 with out:=[]}),(1,.arr 25 true (s1.out.map bu))]
def Jf (x:Int):List Int→List Int
 |[]=>[x]
 |y::l=>if x≤y then x::y::l else y::Jf x l
def GB:List Int→List Int
 |[]=>[]
 |x::l=>Jf x (GB l)
theorem vd (x:Int):∀l,(Jf x l).Perm (x::l)
 |[]=>.refl _
 |y::l=>by
  unfold Jf;split
  ·exact .refl _
  ·exact((vd x l).cons y).trans (.swap x y l)
theorem Kw (x:Int):∀{l:List Int},l.Pairwise (· ≤·)→(Jf x l).Pairwise (· ≤·)
 |[],_=>by simp[Jf]
 |y::l,h=>by
  obtain⟨h1,h2⟩:=List.pairwise_cons.1 h;unfold Jf;split
  ·rename_i hx;refine List.pairwise_cons.2 ⟨fun a ha=>?_,h⟩;rcases List.mem_cons.1 ha with rfl |ha
   ·exact hx
   ·have:=h1 a ha;omega
  ·rename_i hx;refine List.pairwise_cons.2 ⟨fun a ha=>?_,Kw x h2⟩;rcases List.mem_cons.1 ((vd x l).subset ha)with rfl |ha
   ·omega
   ·exact h1 a ha
theorem BP:∀l,(GB l).Perm l
 |[]=>.refl _
 |x::l=>(vd x _).trans ((BP l).cons x)
theorem Kx:∀l,(GB l).Pairwise (· ≤·)
 |[]=>.nil
 |x::l=>Kw x (Kx l)
theorem w9 (l:List Int):GB l=bY l:=
 List.Perm.eq_of_pairwise (le:=fun a b:Int=>a≤b) (fun a b _ _ h1 h2=>by omega) (Kx l) (FC l) ((BP l).trans (List.mergeSort_perm l _).symm)
def BQ (x:aB):List ai:=(GB (aP x.eJ)).map (nj x)
theorem pY (x:aB):BQ x=bf x:=by unfold BQ bf;rw[w9]
def XQ (x:aB):List (List ai):=(GB (aP x.bk)).map fun w=>(bH x.bk w).getD []
theorem Ud (x:aB):XQ x=fM x:=by unfold XQ fM;rw[w9]
def QM (es:List (Int×ai)):List ai:=(GB (es.map (·.1))).map (As es)
theorem QN (es:List (Int×ai)):QM es=oh es:=by unfold QM oh;rw[w9]
def Jg (es:List (Int×ai)) (ak:Int):List ai:=rising es ak (GB (es.map (·.1)))
theorem MK (es:List (Int×ai)) (ak:Int):Jg es ak=kz es ak:=by unfold Jg kz;rw[w9]
def Ky (p b:Int) (es:List (Int×ai)) (ak:Int):Int×List ai×Int:=
 if bP b=false∨ak<0∨ak>512 then(p,[],1)else if b<p then(p,[],10)else(b,Jg es ak,0)
theorem QO (p b:Int) (es:List (Int×ai)) (ak:Int):Ky p b es ak=dx p b es ak:=by unfold Ky dx;rw[MK]
def Kz (x:aB) (b aO:Int) (vs:List ai):aB×List ai×Bool:=
 if(x.st=1∧x.b=b)∧1≤aO∧aO≤x.ah then
  (if l6 (bZ 0 (aP (bQ x aO vs).bk)) x.ah=true then
   (let y:=dq {bQ x aO vs with st:=2} (QM (fY (XQ {bQ x aO vs with st:=2}).flatten));(y,BQ y,true))
  else(bQ x aO vs,[],false))
 else(x,[],false)
theorem QP (x:aB) (b aO:Int) (vs:List ai):Kz x b aO vs=bR x b aO vs:=by
 unfold Kz bR;simp only[pY,Ud,QN];rfl
def tR (x:aB) (c:b8):aB×ai×Int:=
 if x.st≠2 then(x,cZ,12)else if c.check≠0 then(x,cZ,c.check)else if c.kind≠0∧sf c (BQ x)=true then(x,cZ,8)
 else if x.eJ.length≥8∨x.cu≥512 then(x,cZ,9)else(gQ x c,nj (gQ x c) x.cu,0)
theorem GC (x:aB) (c:b8):tR x c=aI x c:=by unfold tR aI;rw[pY]
def Ue (l:List CF) (c:b8):Int:=
 if¬kA l then 1 else if c.check≠0 then c.check else if c.kind=0 then 0 else
 match l[c.chain.toNat]? with
 |none=>7
 |some x=>if x.aq≠c.aq then 10 else PV l x c
theorem KA (l:List CF) (c:b8):Ue l c=iI l c:=by
 unfold Ue iI;by_cases h:kA l
 ·simp only[h,not_true_eq_false,if_false];cases l[c.chain.toNat]? <;>congr
 ·simp only[h,not_false_eq_true,if_true]
def doD (l:List CF) (c:b8):List CF×Bool:=
 if Ue l c≠0 then(l,false)else if c.kind=0 then(l,true)else
 match l[c.chain.toNat]? with
 |none=>(l,true)
 |some x=>(l.set c.chain.toNat (kg x c.kind c.node),true)
theorem XR (l:List CF) (c:b8):doD l c=kH l c:=by unfold doD kH;rw[KA];rfl
def Vn (v:ai) (p:List CF×List CF):List CF×List CF:=
 match p with
 |(a,b)=>match doD b (aA v)with
  |(b',ok)=>(if ok=true∧v.kind≠0 then a++(b'[v.chain.toNat]?).toList else a,b')
def zA (K:List ai) (l:List CF):Nat→List CF×List CF
 |0=>([],l)
 |n+1=>match K[n]? with
  |none=>zA K l n
  |some v=>Vn v (zA K l n)
theorem tS (K:List ai) (l:List CF):∀n,zA K l n=a8 K l n
 |0=>rfl
 |n+1=>by
  have ih:=tS K l n;unfold zA a8;cases K[n]? with
  |none=>exact ih
  |some v=>
   dsimp only
   rw[ih];unfold Vn;dsimp only
   rw[XR]
def DS (K:List ai) (l:List CF) (slot:Int) (c:b8):List ai×List CF×Int:=
 if slot<0∨slot>511 then(K,[],1)else if c.check≠0 then(K,[],c.check)else if other K slot c=true then(K,[],8)
 else(put K (.of slot 0 c),(zA (put K (.of slot 0 c)) l (aD (put K (.of slot 0 c)))).1.drop (zA K l (aD K)).1.length,0)
theorem ML (K:List ai) (l:List CF) (slot:Int) (c:b8):DS K l slot c=bp K l slot c:=by
 unfold DS bp gS;rw[tS,tS]
def ab (s:MS):MS:={s with kn:=[]}
def DT (s:MS) (slot:Int) (c:b8):MS:=
 {s with K:=(DS s.K s.l slot c).1,out:=s.out++(if s.p.1.st=2 then g6 s (DS s.K s.l slot c).2.1 else [])}
theorem BR {s s':MS} {slot:Int} {c:b8} (h:pU s slot c s'):ab s'=DT (ab s) slot c:=by
 obtain⟨so,rfl,_⟩:=h;unfold DT;rw[ML];rfl
def MN (s:MS) (b slot aO:Int):MS:=
 let r:=aC s.p.1 b slot aO
 if r.2.2=true then DT (bo (I5 s b slot aO) (oq r.2.1.slot (aA r.2.1))) r.2.1.slot (aA r.2.1)else I5 s b slot aO
theorem KD {s s':MS} {b slot aO:Int} (h:zj s b slot aO s'):ab s'=MN (ab s) b slot aO:=by
 unfold zj at h;unfold MN;split at h
 ·rename_i hb;rw[BR h];exact(if_pos hb).symm
 ·rename_i hb;subst h;exact(if_neg hb).symm
def GD (s:MS) (b slot to:Int) (m:bS):MS:=if to=bF s then MN s b slot s.me else DI s m to
theorem QQ {s s':MS} {b slot to:Int} {m:bS} (h:zk s b slot to m s'):ab s'=GD (ab s) b slot to m:=by
 unfold zk at h;unfold GD;split at h
 ·rename_i hb;rw[KD h];exact(if_pos hb).symm
 ·rename_i hb;subst h;exact(if_neg hb).symm
theorem Jh (s:MS) (to:Int):ab (qL s to)=qL (ab s) to:=by
 unfold qL;by_cases h:to=bF s
 ·rw[if_pos h];exact(if_pos h).symm
 ·rw[if_neg h];exact(if_neg h).symm
def GF (s:MS) (b slot to e:Int):MS:=
 if e=0 then GD {s with quiet:=0} b slot to (qz b slot)else if e=10 then qL s to else s
theorem QR {s s':MS} {b slot to e:Int} (h:zm s b slot to e s'):ab s'=GF (ab s) b slot to e:=by
 unfold zm at h;unfold GF;split at h
 ·rename_i hb;rw[if_pos hb,QQ h];rfl
 split at h
 ·rename_i hb hc;subst h;rw[if_neg hb,if_pos hc,Jh]
 ·rename_i hb hc;subst h;rw[if_neg hb,if_neg hc]
def qA (s:MS) (b slot:Int) (c:b8) (ak:Int):MS:=GF (XL (eD s b) b slot c) b slot ak (fA s.q.1 s.q.2 b slot c).2.2
theorem zB {s s':MS} {b slot ak:Int} {c:b8} (h:jB s b slot c ak s'):ab s'=qA (ab s) b slot c ak:=by
 unfold jB at h;exact QR h
def BS:MS→List ai→MS
 |s,[]=>s
 |s,v::vs=>BS (qA (bo s (jC v)) v.ao v.slot (aA v) (bF s)) vs
theorem GG {s s':MS} {vs:List ai} (h:mh s vs s'):ab s'=BS (ab s) vs:=by
 induction h with
 |nil s=>rfl
 |cons h _ ih=>
  rw[ih,zB h];rfl
def MP (s:MS) (b aO:Int) (vs:List ai):MS:=
 let r:=Kz s.p.1 b aO vs
 if r.2.2=true then BS {s with p:=(r.1,s.p.2)} r.2.1 else {s with p:=(r.1,s.p.2)}
theorem KE {s s':MS} {b aO:Int} {vs:List ai} (h:wE s b aO vs s'):ab s'=MP (ab s) b aO vs:=by
 unfold wE at h;unfold MP;rw[QP];split at h
 ·rename_i hb;rw[GG h];exact(if_pos hb).symm
 ·rename_i hb;subst h;exact(if_neg hb).symm
def Ji (s:MS) (c:b8):MS:=
 let r:=tR s.p.1 c
 if r.2.2=0 then BS {s with p:=(r.1,s.p.2)} [r.2.1]else {s with p:=(r.1,s.p.2)}
theorem KF {s s':MS} {c:b8} (h:qM s c s'):ab s'=Ji (ab s) c:=by
 unfold qM at h;unfold Ji;rw[GC];split at h
 ·rename_i hb;rw[GG h];exact(if_pos hb).symm
 ·rename_i hb;subst h;exact(if_neg hb).symm
def GH (s:MS) (b slot:Int) (vs:List ai) (to:Int):MS:=if to=bF s then MP s b s.me vs else DI s (BM b slot vs) to
theorem QS {s s':MS} {b slot to:Int} {vs:List ai} (h:zr s b slot vs to s'):ab s'=GH (ab s) b slot vs to:=by
 unfold zr at h;unfold GH;split at h
 ·rename_i hb;rw[KE h];exact(if_pos hb).symm
 ·rename_i hb;subst h;exact(if_neg hb).symm
def GI (s:MS) (b slot:Int) (vs:List ai) (to e:Int):MS:=
 if e=0 then GH {s with quiet:=0} b slot vs to else if e=10 then qL s to else s
theorem QT {s s':MS} {b slot to e:Int} {vs:List ai} (h:zt s b slot vs to e s'):ab s'=GI (ab s) b slot vs to e:=by
 unfold zt at h;unfold GI;split at h
 ·rename_i hb;rw[if_pos hb,QS h];rfl
 split at h
 ·rename_i hb hc;subst h;rw[if_neg hb,if_pos hc,Jh]
 ·rename_i hb hc;subst h;rw[if_neg hb,if_neg hc]
def qB (s:MS) (b slot ak:Int):MS:=
 let r:=Ky s.q.1 b s.q.2 slot
 GI {eD s b with q:=(r.1,s.q.2)} b slot r.2.1 ak r.2.2
theorem zC {s s':MS} {b slot ak:Int} (h:jD s b slot ak s'):ab s'=qB (ab s) b slot ak:=by
 unfold jD at h;unfold qB;rw[QO,QT h];rfl
def zD (s:MS):MS:=
 let r:=aY s.p.1 s.q.1 (aD s.K)
 if r.2=0 then qB (bo (lC s) (fZ r.1 (aD s.K))) r.1 (aD s.K) (bF s)else lC s
theorem MQ {s s':MS} (h:lD s s'):ab s'=zD (ab s):=by
 unfold lD at h;unfold zD;split at h
 ·rename_i hb;rw[zC h];exact(if_pos hb).symm
 ·rename_i hb;subst h;exact(if_neg hb).symm
def GJ (s:MS) (b slot ak:Int):MS:=
 if b<s.q.1 then qL s ak else if(aD s.K:Int)<slot then DI {eD s b with quiet:=0} (QC (aD s.K)) ak else {eD s b with quiet:=0}
theorem QU (s:MS) (b slot ak:Int):ab (wb s b slot ak)=GJ (ab s) b slot ak:=by
 unfold wb GJ;by_cases h:b<s.q.1
 ·rw[if_pos h,Jh];exact(if_pos h).symm
 rw[if_neg h];refine Eq.trans ?_ (if_neg h).symm;by_cases h2:(aD s.K:Int)<slot
 ·rw[if_pos h2];exact(if_pos h2).symm
 ·rw[if_neg h2];exact(if_neg h2).symm
def ou (s:MS):List CF:=(zA s.K s.l (aD s.K)).2
theorem nv (s:MS):ou s=aN s:=by
 unfold ou;rw[tS]
def QV (s:MS) (c:b8):MS:=if s.p.1.st=2∧c.kind≠0∧Ue (ou s) c=0 then Ji s c else s
theorem Uf {s s':MS} {c:b8} (h:Az s c s'):ab s'=QV (ab s) c:=by
 unfold Az at h;unfold QV;rw[KA,nv];split at h
 ·rename_i hb;rw[KF h];exact(if_pos hb).symm
 ·rename_i hb;subst h;exact(if_neg hb).symm
def GK (s:MS) (m:bS):MS:=
 if m.kind=1 then qB s m.ao m.slot m.ak else if m.kind=2 then MP s m.ao (m.ak - 100) m.eg else if m.kind=3 then qA s m.ao m.slot m.cmd m.ak
 else if m.kind=4 then MN s m.ao m.slot (m.ak - 100)else if m.kind=5 then DT s m.slot m.cmd else if m.kind=6 then GJ s m.ao m.slot m.ak
 else if m.kind=7 then Gv s m.slot m.ak else if m.kind=8 then eD s m.ao else QV s m.cmd
theorem GL {s s':MS} {m:bS} (h:zz s m s'):ab s'=GK (ab s) m:=by
 obtain⟨_,h⟩:=h;unfold GK;rcases h with⟨hk,_,h⟩|⟨hk,_,h⟩|⟨hk,_,h⟩|⟨hk,h⟩|⟨hk,_,h⟩|⟨hk,_,h⟩|⟨hk,_,h⟩|⟨hk,h⟩|⟨hk,h⟩<;>simp only[hk,Int.reduceEq,if_true,if_false]
 ·exact zC h
 ·exact KE h
 ·exact zB h
 ·exact KD h
 ·exact BR h
 ·rw[h];exact QU ..
 ·rw[h];rfl
 ·rw[h];rfl
 ·exact Uf h
end Go.M
