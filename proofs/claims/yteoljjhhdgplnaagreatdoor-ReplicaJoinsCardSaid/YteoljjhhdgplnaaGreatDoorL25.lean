/-
  Part 25 of the library that the proof leans on.
-/
import Derived.Test.YteoljjhhdgplnaaGreatDoorL12
import Derived.Test.YteoljjhhdgplnaaGreatDoorL24
import Derived.Test.YteoljjhhdgplnaaGreatDoorL22
import Derived.Test.YteoljjhhdgplnaaGreatDoorL23
namespace Go.M
open Go Go.Proofs
set_option maxRecDepth 100000
set_option maxHeartbeats 4000000
@[reducible] def GC (b:List Int):TV:=.sl 1 (bm b) false
@[reducible] def abe (i j:Nat):TV:=.dg 165 [] [.ptr i 0,.ptr j 0]
theorem TY (b:List Int):VC E0 116 0 [GC b,.s (.int .i64 1024)] [] (RR (abe 0 1) 2 [(0,.cells [GC b]),(1,.cells [.s (.int .i64 1024)])]):=by
 refine en L0 Tryz.f116 ?_;refine rn ?_;exact⟨[],[some 0,some 1],_,_,_,t3,rfl,rfl,rfl⟩
noncomputable def mvB:Code:=match Tryz.f84.body with|some c=>c|_=>.skip
noncomputable def mv0:Code:=match mvB with| .seq a _=>a|_=>.skip
noncomputable def mv1:Code:=match mvB with| .seq _ (.seq a _)=>a|_=>.skip
noncomputable def mv2:Code:=match mvB with| .seq _ (.seq _ (.seq (.seq a _) _))=>a|_=>.skip
noncomputable def rL:Code:=match mvB with| .seq _ (.seq _ (.seq (.seq _ (.block _ (.rangeFunc _ _ a _))) _))=>a|_=>.skip
noncomputable def rM:Code:=match mvB with| .seq _ (.seq _ (.seq (.seq _ (.block _ (.rangeFunc _ _ _ a))) _))=>a|_=>.skip
noncomputable def mv3:Code:=match mvB with| .seq _ (.seq _ (.seq _ a))=>a|_=>.skip
theorem Xr:Tryz.f84.body=some (.seq mv0 (.seq mv1 (.seq (.seq mv2 (.block 0 (.rangeFunc (.tmp 12) #[13] rL rM))) mv3))):=rfl
def SL:Fr→Fr→Prop
 |[],_=>True
 |p::l,f=>pe f p.1=p.2∧SL l f
theorem SL.all {f:Fr}:∀{l:Fr},SL l f→∀t,pe l t=pe f t∨pe l t= .j
 |[],_,t=>.inr rfl
 |p::l,h,t=>by
  rw[oy];split
  ·rename_i e;subst e;exact .inl h.1.symm
  ·exact SL.all h.2 t
theorem SL.pV {c:Nat} {ρ:Gh} {F:Nat→Prop} {h:ah} {f l:Fr} {af:AF} (H:SL l f) (S:bH c ρ F h f af):bH c ρ F h l af:=fun t=>by
 rcases H.all t with e|e
 ·rw[e];exact S t
 ·rw[e];exact .j _
@[reducible] def QN (f1:Fr) (o1:Ob) (c1:Nat):CK:=fun ex f o c=>ex= .normal∧f=f1∧o=o1∧c=c1
@[reducible] def QS (l:Fr) (o1:Ob) (c1:Nat):CK:=fun ex f o c=>ex= .normal∧SL l f∧o=o1∧c=c1
@[reducible] def aM1 (a:Int):List TV:=[.s (.int .u64 a),.sl 0 [] true]
@[reducible] def oM1 (a:Int):Ob:=[(1,.cells [.ptr 0 0]),(0,.cells (aM1 a))]
@[reducible] def PG (a:Int) (b:List Int):Ob:=[(2,.cells [GC b]),(3,.cells [.s (.int .i64 1024)]),(1,.cells [.ptr 0 0]),(0,.cells (aM1 a))]
@[reducible] def fM2:Fr:=[(12,abe 2 3),(5,.ptr 1 0)]
theorem abf (a:Int) (b:List Int):ux T0 (VC E0) 40 0 [] mv0 [(0,.s (.int .u64 a)),(1,GC b)] [] 0 (QS [(0,.s (.int .u64 a)),(1,GC b)] [] 0):=by
 (conv=>whnf)
 exact⟨rfl,⟨rfl,rfl,trivial⟩,rfl,rfl⟩
theorem abg (a:Int) (b:List Int):ux T0 (VC E0) 40 0 [] mv1 [(0,.s (.int .u64 a)),(1,GC b)] [] 0 (QS [(1,GC b),(5,.ptr 1 0)] (oM1 a) 2):=by
 (conv=>whnf)
 exact⟨rfl,⟨rfl,rfl,trivial⟩,rfl,rfl⟩
theorem abh (a:Int) (b:List Int) (hb:b.length<1000000):ux T0 (VC E0) 40 0 [] mv2 [(1,GC b),(5,.ptr 1 0)] (oM1 a) 2 (QS fM2 (PG a b) 4):=by
 (conv=>whnf)
 refine⟨[],[],_,_,_,_,l6 b hb,t3,cw ?_⟩;refine⟨[],[],_,_,_,_,TY b,t3,cw ?_⟩;exact⟨rfl,⟨rfl,rfl,trivial⟩,rfl,rfl⟩
noncomputable def ckB:Code:=match Tryz.f165.body with|some c=>c|_=>.skip
noncomputable def ck0:Code:=match ckB with| .seq a _=>a|_=>.skip
noncomputable def ck1:Code:=match ckB with| .seq _ (.block _ (.loop (.seq a _)))=>a|_=>.skip
noncomputable def ck3:Code:=match ckB with| .seq _ (.block _ (.loop (.seq _ (.seq (.block _ (.seq a _)) _))))=>a|_=>.skip
noncomputable def yq:List Oper:=match ckB with| .seq _ (.block _ (.loop (.seq _ (.seq (.block _ (.seq _ (.seq (.region _ a _) _))) _))))=>a.toList|_=>[]
noncomputable def ckC:Code:=match ckB with| .seq _ (.block _ (.loop (.seq _ (.seq (.block _ (.seq _ (.seq _ a))) _))))=>a|_=>.skip
noncomputable def ck2:Code:=match ckB with| .seq _ (.block _ (.loop (.seq _ (.seq _ a))))=>a|_=>.skip
theorem Xs:Tryz.f165.body=some (.seq ck0 (.block 0 (.loop (.seq ck1 (.seq (.block 1 (.seq ck3 (.seq (.region 4 yq.toArray false) ckC))) ck2))))):=rfl
@[reducible] def JJ (n:Int):Fr:=[(4,.s (.int .i64 n)),(1,.ptr 2 0),(2,.ptr 3 0)]
theorem abi (c0:Nat) (a:Int) (b:List Int):ux T0 (VC E0) 31 c0 [] ck0 [(0,.j),(1,.ptr 2 0),(2,.ptr 3 0)] (PG a b) 4 (QS (JJ 0) (PG a b) 4):=by
 (conv=>whnf)
 exact⟨rfl,⟨rfl,rfl,rfl,trivial⟩,rfl,rfl⟩
theorem abj (c0:Nat) (a:Int) (b:List Int) (hb:0<b.length):ux T0 (VC E0) 31 c0 [] ck1 (JJ 0) (PG a b) 4 (QS (JJ 0) (PG a b) 4):=by
 (conv=>whnf)
 refine sp ?_ ?_<;>intro h
 ·(conv=>whnf)
  exact⟨rfl,⟨rfl,rfl,rfl,trivial⟩,rfl,rfl⟩
 ·exact absurd (show(0:Int)<((bm b).length:Nat)from by simp[bm];omega) h
theorem abk (c0:Nat) (a:Int) (b:List Int) (hb:0<b.length∧b.length≤1024):ux T0 (VC E0) 31 c0 [] ck3 (JJ 0) (PG a b) 4 (QS ((5,.s (.int .i64 b.length))::JJ 0) (PG a b) 4):=by
 have hl:(if((List.drop (Int.toNat 0) (List.take (((bm b).length:Nat):Int).toNat (bm b))).length:Int)<1024 then((List.drop (Int.toNat 0) (List.take (((bm b).length:Nat):Int).toNat (bm b))).length:Int)else 1024)=b.length:=by
  simp[bm];omega
 (conv=>whnf)
 refine D1 ?_
 (conv=>whnf)
 refine⟨⟨by decide,om,om⟩,?_⟩
 (conv=>whnf)
 rw[hl];refine D1 ?_;exact⟨rfl,⟨rfl,rfl,rfl,rfl,trivial⟩,rfl,rfl⟩
@[reducible] def yS (b:List Int):TV:=.sl 1 (bm b) true
theorem abl (a:Int) (b:List Int) (hb:0<b.length∧b.length≤1024):An T0 (VC E0) 31 yq ((yq.drop 1).take 9) ((5,.s (.int .i64 b.length))::JJ 0) (PG a b) 4 (fun f o c=>SL ((28,yS b)::JJ 0) f∧o=PG a b∧c=4):=by
 have hw:IntKind.i64.wrap (0+(b.length:Int))=b.length:=by rw[Int.zero_add];exact IntWalk.i64_in _ om
 have hd:List.drop (Int.toNat 0) (List.take ((b.length:Int)).toNat (bm b))=bm b:=by rw[List.take_of_length_le (by simp[bm])];rfl
 (conv=>whnf)
 rw[hw,hd];refine⟨⟨by decide,om,rfl,by simp[bm]⟩,?_⟩
 (conv=>whnf)
 exact⟨⟨rfl,rfl,rfl,rfl,trivial⟩,rfl,rfl⟩
theorem Xt (o:Ob) (c:Nat):An T0 (VC E0) 31 yq (yq.drop 11) ((29,.s (.bool true))::JJ 0) o c (fun f o' c'=>SL ((30,.s (.bool false))::JJ 0) f∧o'=o∧c'=c):=by
 (conv=>whnf)
 exact⟨⟨rfl,rfl,rfl,rfl,trivial⟩,rfl,rfl⟩
theorem abm (c0:Nat) (o:Ob) (c:Nat):ux T0 (VC E0) 31 c0 [] ckC ((30,.s (.bool false))::JJ 0) o c (QS (JJ 0) o c):=by
 (conv=>whnf)
 exact⟨rfl,⟨rfl,rfl,rfl,trivial⟩,rfl,rfl⟩
@[reducible] def Xu (a:Int) (b:List Int):Ob:=[(5,.arr 1 true [[GC b]]),(4,.arr 1 true [[GC b]]),(2,.cells [GC b]),(3,.cells [.s (.int .i64 1024)]),(1,.cells [.ptr 0 0]),(0,.cells [.s (.int .u64 a),.tk 5])]
@[reducible] def Xv (at_:Int) (ps:List (List Int)):TO:=.cells [.s (.int .u64 at_),.own (.arr 1 true (ps.map fun p=>[GC p]))]
theorem Xw (c0:Nat) (a:Int) (b:List Int) (hb:b.length≤1024):ux T0 (VC E0) 31 c0 [] ck1 (JJ 1024) (Xu a b) 6 (fun ex _ o c=>ex= .exit 0∧o=Xu a b∧c=6):=by
 (conv=>whnf)
 refine sp ?_ ?_<;>intro h
 ·exact absurd (show(1024:Int)<((bm b).length:Nat)from h) (by simp[bm];omega)
 ·(conv=>whnf)
  exact⟨rfl,rfl,rfl⟩
theorem abn (c0:Nat) (a:Int) (b:List Int):ux T0 (VC E0) 31 c0 [] ck2 (JJ 0) (Xu a b) 6 (QS (JJ 1024) (Xu a b) 6):=by
 (conv=>whnf)
 exact⟨rfl,⟨rfl,rfl,rfl,trivial⟩,rfl,rfl⟩
theorem abo (c0:Nat) (a:Int) (b:List Int):ux T0 (VC E0) 40 c0 [] rL [(13,yS b),(5,.ptr 1 0)] (PG a b) 4 (QN [(6,yS b),(13,yS b),(5,.ptr 1 0)] (PG a b) 4):=by
 (conv=>whnf)
 exact⟨rfl,rfl,rfl,rfl⟩
theorem abp (c0:Nat) (a:Int) (b:List Int):ux T0 (VC E0) 40 c0 [] rM [(6,yS b),(13,yS b),(5,.ptr 1 0)] (PG a b) 4 (fun ex _ o c=>ex= .normal∧o=Xu a b∧c=6):=by
 have hd:List.drop ((0:Nat):Int).toNat (List.take (((bm b).length:Nat):Int).toNat (bm b))=bm b:=by simp
 (conv=>whnf)
 refine D1 ?_
 (conv=>whnf)
 refine⟨⟨by decide,om,rfl,om⟩,?_⟩
 (conv=>whnf)
 rw[hd];refine⟨by show 1<1048576;decide,?_⟩
 (conv=>whnf)
 refine D1 ?_
 (conv=>whnf)
 exact⟨rfl,rfl,rfl⟩
theorem abq (a:Int) (b:List Int):ux T0 (VC E0) 40 0 [] mv3 [(5,.ptr 1 0)] (Xu a b) 6 (He T0 0 [.tmp 4] (RR (.ptr 0 0) 1 [(0,Xv a [b])])):=by
 (conv=>whnf)
 refine⟨fun h=>?_,fun _=>?_⟩
 ·exact absurd h (by show¬((1:Nat):Int)=0;decide)
 (conv=>whnf)
 exact⟨[],[some 0],_,_,_,t3,rfl,rfl,rfl⟩
theorem TZ {base m:Nat} {af:AF} {h:ah}:kN E0 base (eE E0 base (aN E0 base m)) (dK base (aN E0 base m)) yq (yq.take 1) af h=some (af.put (some 19) (af.get 0),h):=rfl
theorem T5 {base m L:Nat} {af:AF} {h h':ah} {v:Value} (hy:af.get 19= .func (.yield L) #[] #[]) (hr:dK base (aN E0 base m) L [af.get 28] h=some (v,h')):
 kN E0 base (eE E0 base (aN E0 base m)) (dK base (aN E0 base m)) yq ((yq.drop 10).take 1) af h=some (af.put (some 29) v,h'):=by
 obtain⟨p,hp,h1,h2,h3,h4,h5,h6⟩:∃p:Oper,(yq.drop 10).take 1=[p]∧(∀f,wanted yq p f=true)∧p.dst=some 29∧(∀f,aO E0 f p=none)∧(∀f,bP E0 f p=none)∧(∀f,bt E0 f p=none)∧
  ∀f h,dk E0 base f p h=((ev E0 f (.tmp 19)).bind fun g=>(match g with
   | .func (.func g) first captured=>some (mj.enter g (first.toList++[f.get 28]++captured.toList),h)
   | .func (.yield l) first _=>some (.round l (first.toList++[f.get 28]),h)
   |_=>none)):=⟨_,rfl,fun _=>rfl,rfl,fun _=>rfl,fun _=>rfl,fun _=>rfl,fun _ _=>rfl⟩
 rw[hp];have e6:dk E0 base af p h=some (.round L [af.get 28],h):=by
  rw[h6,show ev E0 af (.tmp 19)=some (af.get 19)from rfl,hy];rfl
 simp only[kN,h1,eM,h3,h4,h5,e6,hr,h2,Option.bind_some]
theorem Xx (a:Int) (b:List Int) (hb:0<b.length∧b.length≤1024):VC E0 84 0 [.s (.int .u64 a),GC b] [] (RR (.ptr 0 0) 1 [(0,Xv a [b])]):=by
 refine VC.abc L0 (fn:=Tryz.f84) (by kernel_rfl) (fun _ _=>rfl) Xr rfl ?_;intro X ρ F h af hc N H S hn
 have go:∀{code:Code} {f:Fr} {o:Ob} {c:Nat} {Q:CK} {ρ:Gh} {F:Nat→Prop} {af:AF} {h:ah},ux T0 (VC E0) 40 0 [] code f o c Q→Mem X ρ F o c h→bH c ρ F h f af→af.n=40→Comes E0 X 40 code af h Q:=
  fun {code} {f} {o} {c} {Q} {ρ} {F} {af} {h} hw H S hn=>Ig (c9:=[]) L0 N code (by rw[hc,←Ba];exact hw) H S hn
 obtain⟨_,af0,h0,f0,_,_,ρ0,F0,r0,⟨rfl,q0,rfl,rfl⟩,H0,S0,n0⟩:=go (abf a b) H S hn;obtain⟨_,nK,h1,f1,_,_,iE,F1,r1,⟨rfl,q1,rfl,rfl⟩,H1,S1,n1⟩:=go (abg a b) H0 (q0.pV S0) n0;obtain⟨_,Dd,h2,f2,_,_,MI,F2,r2,⟨rfl,q2,rfl,rfl⟩,H2,S2,n2⟩:=go (abh a b om) H1 (q1.pV S1) n1;have S2:=q2.pV S2
 -- the loop's record
 have JH:=S2 12;obtain⟨p1,p2,e12,v1,v2⟩:∃p1 p2,Dd.get 12= .func (.func 165) #[] #[p1,p2]∧VR 4 MI F2 h2 (.ptr 2 0) p1∧VR 4 MI F2 h2 (.ptr 3 0) p2:=by
  have JH:VR 4 MI F2 h2 (abe 2 3) (Dd.get 12):=JH;generalize Dd.get 12=v at JH;cases JH with
  |dg B4 ha1 Cf ha2=>
   rename_i a1 k1;have ea:a1= #[]:=Array.eq_empty_of_size_eq_zero (by simpa using B4.symm);subst ea;obtain⟨l⟩:=k1
   match l,Cf,ha2 with
   |[x,y],_,ha2=>exact⟨x,y,rfl,ha2 0 _ _ rfl rfl,ha2 1 _ _ rfl rfl⟩
   |[],Cf,_=>simp at Cf
   |[_],Cf,_=>simp at Cf
   |_::_::_::_,Cf,_=>simp at Cf
 obtain⟨Sq,K2⟩:=H2.ex;obtain⟨ob,hob⟩:∃ob,ob=eC.loop .ready none Dd [13] rL rM:=⟨_,rfl⟩;have uc:bJ ob=true:=by rw[hob];rfl
 obtain⟨H3,K3,m3⟩:=H2.afL K2 (ob:=ob) uc;have g3:(h2.push ob).get h2.size=some ob:=by rw[ah.al,if_pos rfl]
 have l3:∀m y,look (PG a b) m=some y→h2.size∉cM (Sq m):=fun m y hl hx=>by have:=(K2.eG m y _ hl hx).2.1;omega
 have hLX:X.h0.size≤h2.size:=H2.jb.size;have hLb:X.base≤h2.size:=H2.mF;generalize hL:h2.size=L at g3 l3 hLX hLb
 -- the iterator
 obtain⟨aE,haE⟩:∃aE,aE=AF.enter [.func (.yield L) #[] #[],p1,p2] 31:=⟨_,rfl⟩;obtain⟨sE,nE⟩:=qO (n:=31) (args:=[.j,.ptr 2 0,.ptr 3 0]) (dW:=[.func (.yield L) #[] #[],p1,p2]) (.cons (.j _) (.cons (m3 _ _ v1) (.cons (m3 _ _ v2) .nil))) (by decide);have yE:aE.get 0= .func (.yield L) #[] #[]:=by rw[haE];rfl
 rw[←haE]at sE nE;obtain⟨_,aA,hA,fA,_,_,ρA,FA,SA,rA,⟨rfl,qA,rfl,rfl⟩,HA,KA,gA,lA,mA,sA,nA⟩:=xm L0 N H3 K3 g3 uc l3 (abi 4 a b) sE nE;have yA:=(rA.bx (t:=0) (by kernel_rfl)).trans yE;obtain⟨_,aB,hB,fB,_,_,ρB,FB,SB,rB,⟨rfl,qB,rfl,rfl⟩,HB,KB,gB,lB,mB,sB,nB⟩:=xm L0 N HA KA gA uc lA (abj 4 a b hb.1) (qA.pV sA) nA;have yB:=(rB.bx (t:=0) (by kernel_rfl)).trans yA;obtain⟨_,aC,hC,fC,_,_,ρC,FC,SC,rC,⟨rfl,qC,rfl,rfl⟩,HC,KC,gC,lC,mC,sC,nC⟩:=xm L0 N HB KB gB uc lB (abk 4 a b hb) (qB.pV sB) nB;have yC:=(rC.bx (t:=0) (by kernel_rfl)).trans yB
 have sC1:=SL.pV (l:=(5,.s (.int .i64 b.length))::JJ 0) (f:=(19,.j)::fC) (by exact⟨qC.1,qC.2.1,qC.2.2.1,qC.2.2.2.1,trivial⟩) (xn sC (.j (aC.get 0)) om);obtain⟨aD,hD,fD,_,_,ρD,FD,SD,⟨dD,rD⟩,⟨qD,rfl,rfl⟩,HD,KD,gD,lD,mD,sD,nD⟩:=Nq L0 N HC KC gC uc lC (abl a b hb) sC1 (by rw[AF.L2];exact nC);have yD:aD.get 19= .func (.yield L) #[] #[]:=by
  rw[sL (t:=19) _ (by kernel_rfl) (rD dD (Nat.le_refl _)),AF.br,if_pos ⟨rfl,om⟩,yC]
 have mAD:∀t v,VR 4 MI F2 h2 t v→VR 4 ρD FD hD t v:=fun t v hv=>mD _ _ (mC _ _ (mB _ _ (mA _ _ (m3 _ _ hv))));have s28:VR 4 ρD FD hD (yS b) (aD.get 28):=by have:=sD 28;rw[qD.1]at this;exact this
 subst hob
 obtain⟨ρY,FY,_,_,hY,SY,⟨dY,rY⟩,⟨rfl,rfl⟩,HY,KY,lY,gY,_,mY⟩:=TX (n:=40) (c9:=[]) (args:=[aD.get 28]) (fA:=[(13,yS b),(5,.ptr 1 0)]) (fB:=[(6,yS b),(13,yS b),(5,.ptr 1 0)]) (R:=fun o c=>o=Xu a b∧c=6) L0 N HD KD gD hLb hLX lD rfl (by kernel_rfl)
  (by
   have:=xn (t:=13) (uH S2 mAD) s28 om;exact SL.pV (l:=[(13,yS b),(5,.ptr 1 0)]) (f:=(13,yS b)::fM2) ⟨rfl,rfl,trivial⟩ this)
  (by show(AF.set Dd 13 _).n=40;rw[AF.zG];exact n2) (by rw[←Ba];exact abo 4 a b) (by rw[←Ba];exact abp 4 a b)
 have sF:=xn (t:=29) (v:=.s (.bool true)) (x:=.bool true) (uH (SL.pV (l:=JJ 0) (f:=fD) qD.2 sD) mY) (.s rfl) om;obtain⟨aG,hG,fG,_,_,ρG,FG,SG,⟨dG,rG⟩,⟨qG,rfl,rfl⟩,HG,KG,gG,lG,mG,sG,nG⟩:=Nq L0 N HY KY gY rfl lY (Xt (Xu a b) 6) sF (by rw[AF.L2];exact nD);obtain⟨_,aH,hH,fH,_,_,ρH,FH,SH,rH,⟨rfl,qH,rfl,rfl⟩,HH,KH,gH,lH,mH,sH,nH⟩:=xm L0 N HG KG gG rfl lG (abm 6 (Xu a b) 6) (qG.pV sG) nG;obtain⟨_,aI,hI,fI,_,_,ρI,FI,SI,rI,⟨rfl,qI,rfl,rfl⟩,HI,KI,gI,lI,mI,sI,nI⟩:=xm L0 N HH KH gH rfl lH (abn 6 a b) (qH.pV sH) nH
 obtain⟨_,aJ,hJ,fJ,_,_,ρJ,FJ,SJ,rJ,⟨rfl,rfl,rfl⟩,HJ,KJ,gJ,lJ,mJ,sJ,nJ⟩:=xm L0 N HI KI gI rfl lI (Xw 6 a b hb.2) (qI.pV sI) nI;obtain⟨HZ,KZ,mZ⟩:=HJ.Iw KJ (ob:=.loop .exhausted none Dd [13] rL rM) gJ rfl rfl hLX lJ;have ajG:∀t v,VR 4 MI F2 h2 t v→VR 6 ρJ FJ (hJ.put L (.loop .exhausted none Dd [13] rL rM)) t v:=fun t v hv=>mZ _ _ (mJ _ _ (mI _ _ (mH _ _ (mG _ _ (mY _ _ (mAD _ _ hv))))))
 -- the region that calls
 have rR:gU E0 X.base (.region 4 yq.toArray false) aC hC (.normal,aG,hG):=by
  refine⟨max dD (max dY dG)+1,fun m hm=>?_⟩;obtain⟨k,rfl⟩:∃k,m=k+1:=⟨m - 1,om⟩;have e1:=rD k om;have e2:=T5 (v:=.bool true) yD (rY k om);have e3:=rG k om;show((kN E0 X.base (eE E0 X.base (aN E0 X.base k)) (dK X.base (aN E0 X.base k)) yq yq aC hC).bind fun q=>some (Ex.normal,q.1,q.2))=_;have e4:kN E0 X.base (eE E0 X.base (aN E0 X.base k)) (dK X.base (aN E0 X.base k)) yq (yq.take 1++((yq.drop 1).take 9++((yq.drop 10).take 1++yq.drop 11))) aC hC=some (aG,hG):=by
   rw[rF,TZ];simp only[Option.bind_some];rw[rF,e1];simp only[Option.bind_some];rw[rF,e2];exact e3
  have e5:yq.take 1++((yq.drop 1).take 9++((yq.drop 10).take 1++yq.drop 11))=yq:=rfl;rw[e5]at e4;rw[e4];rfl
 have rL1:gU E0 X.base (.seq ck1 (.seq (.block 1 (.seq ck3 (.seq (.region 4 yq.toArray false) ckC))) ck2)) aA hA (.normal,aI,hI):=rB.Ci ((gU.Lx (rC.Ci (rR.Ci rH)) (.inl rfl)).Ci rI);have rL2:gU E0 X.base (.seq ck1 (.seq (.block 1 (.seq ck3 (.seq (.region 4 yq.toArray false) ckC))) ck2)) aI hI (.exit 0,aJ,hJ):=rJ.aap (by simp);obtain⟨dR,ajH⟩:=rA.Ci (gU.Lx (rL1.RV (rL2.Ie (by simp))) (.inr rfl));have abr:gU E0 X.base (.rangeFunc (.tmp 12) #[13] rL rM) Dd h2 (.normal,Dd,hJ.put L (.loop .exhausted none Dd [13] rL rM)):=by
  refine⟨dR+1,fun m hm=>?_⟩;obtain⟨k,rfl⟩:∃k,m=k+1:=⟨m - 1,om⟩;have e1:=ajH k om;have e2:eE E0 X.base (aN E0 X.base k) 165 ([]++[.func (.yield L) #[] #[]]++[p1,p2]) (h2.push (.loop .ready none Dd [13] rL rM))=some (.tuple #[],hJ):=by
   unfold eE;rw[show E0.func 165=some Tryz.f165 from by kernel_rfl];simp only[Option.bind_some];rw[show E0.v9 X.base 165 ([]++[.func (.yield L) #[] #[]]++[p1,p2]) (h2.push (.loop .ready none Dd [13] rL rM))=none from rfl];simp only[Xs,Option.bind_some];rw[haE]at e1
   show bL true (match aN E0 X.base k _ (AF.enter [.func (.yield L) #[] #[],p1,p2] 31) (h2.push (.loop .ready none Dd [13] rL rM))with
    |some (.normal,f,h')=>(cY E0 h' f []).bind fun vs=>some (ct vs,h')
    |some (.ret,f,h')=>(cY E0 h' f []).bind fun vs=>some (ct vs,h')
    |_=>none)=_
   rw[e1];rfl
  have Kw:Nat.ble X.base h2.size=true:=aL.2 om;simp only[aN];rw[show ev E0 Dd (.tmp 12)=some (Dd.get 12)from rfl,e12];simp only[Option.bind_some,Kw,bL];rw[show(#[]:Array Value).toList++[Value.func (.yield h2.size) #[] #[]]++ #[p1,p2].toList=[]++[.func (.yield L) #[] #[]]++[p1,p2]from by rw[hL],e2];simp only[Option.bind_some,hL,gJ];rfl
 have S9:bH 6 ρJ FJ (hJ.put L (.loop .exhausted none Dd [13] rL rM)) [(5,.ptr 1 0)] Dd:=SL.pV (l:=[(5,.ptr 1 0)]) (f:=fM2) ⟨rfl,trivial⟩ (uH S2 ajG);obtain⟨ex,afz,hz,fz,oz,cz,ρz,Fz,rz,qz,Hz,Sz,nz⟩:=go (abq a b) HZ S9 n2;exact⟨ex,afz,hz,fz,oz,cz,ρz,Fz,r0.Ci (r1.Ci ((r2.Ci (gU.Lx abr (.inl rfl))).Ci rz)),qz,Hz,Sz,nz⟩
@[reducible] def Vn (x:MvI):TO:=.cells [.s (.int .u64 x.at_),.s (.int .i64 x.parts),.s (.int .i64 x.next),.own (.arr 1 true (bm x.b))]
@[reducible] def Ja:TV:=.s (.pointer none)
@[reducible] def afN (q:TV) (x:RS):List TV:=[.s (.int .i64 x.node),.s (.int .i64 x.ak.chain),.s (.int .u64 x.ak.aV),.sl 1 (x.ak.nodes.map fo) false,.s (.bool x.ak.fresh),.s (.int .i64 x.ak.join),
 .s (.bool x.role.Bm),.s (.bool x.role.jm),.s (.bool x.role.head),.s (.bool x.role.tail),.s (.bool x.role.waits),.s (.int .i64 x.role.place),.s (.int .i64 x.role.pred),.s (.int .i64 x.role.succ),
 .own (abb x.st),.own (aa7 x.an),.s (.int .u64 x.base),.s (.bool x.dq),.s (.int .u64 x.bu),.s (.bool x.known),q,.s (.int .i64 x.want),.own (Vn x.comes),.own (.arr 25 true (x.out.map bp))]
@[reducible] def ie (x:RS):TO:=.cells (afN Ja x)
@[reducible] def iz (x:RS):Ob:=[(0,ie x)]
@[reducible] def Cp (a:Int) (b:List Int) (x:RS):TO:=.cells (afN (.own (Xv a [b])) x)
@[reducible] def yu (a:Int) (b:List Int) (x:RS):Ob:=[(0,Cp a b x)]
theorem Xy (x:RS) (l:Lr) (to:Int) (hl:x.out.length<100000):VC E0 83 1 [.ptr 0 0,.agg (bp l),.s (.int .i64 to)] (iz x) (RR (.cB []) 1 (iz (mw x l to))):=by
 refine en L0 Tryz.f83 ?_;refine sp ?_ ?_<;>intro hk
 ·have hk:l.kind≠18:=hk;have e:vP x l to={l with oI:=x.node,to:=to,chain:=x.ak.chain,aV:=x.ak.aV}:=if_neg hk;refine wh ?_;refine⟨by simp;omega,?_⟩;refine wh ?_;refine⟨[],[some 0],?_⟩
  iterate 3 constructor
  refine⟨⟨?_,?_,?_⟩,rfl,rfl,rfl⟩
  all_goals(repeat' first|exact LF|constructor)
  all_goals exact Lz.of (by show _=(x.out++[vP x l to]).map bp;rw[e,List.map_append];rfl)
 ·have hk:l.kind=18:=Classical.not_not.1 hk;have e:vP x l to={l with oI:=x.node,to:=to}:=if_pos hk;refine wh ?_;refine⟨by simp;omega,?_⟩;refine wh ?_;refine⟨[],[some 0],?_⟩
  iterate 3 constructor
  refine⟨⟨?_,?_,?_⟩,rfl,rfl,rfl⟩
  all_goals(repeat' first|exact LF|constructor)
  all_goals exact Lz.of (by show _=(x.out++[vP x l to]).map bp;rw[e,List.map_append];rfl)
theorem abt (a:Int) (b:List Int) (x:RS) (l:Lr) (to:Int) (hl:x.out.length<100000):VC E0 83 1 [.ptr 0 0,.agg (bp l),.s (.int .i64 to)] (yu a b x) (RR (.cB []) 1 (yu a b (mw x l to))):=by
 refine en L0 Tryz.f83 ?_;refine sp ?_ ?_<;>intro hk
 ·have hk:l.kind≠18:=hk;have e:vP x l to={l with oI:=x.node,to:=to,chain:=x.ak.chain,aV:=x.ak.aV}:=if_neg hk;refine wh ?_;refine⟨by simp;omega,?_⟩;refine wh ?_;refine⟨[],[some 0],?_⟩
  iterate 3 constructor
  refine⟨⟨?_,?_,?_⟩,rfl,rfl,rfl⟩
  all_goals(repeat' first|exact LF|constructor)
  all_goals exact Lz.of (by show _=(x.out++[vP x l to]).map bp;rw[e,List.map_append];rfl)
 ·have hk:l.kind=18:=Classical.not_not.1 hk;have e:vP x l to={l with oI:=x.node,to:=to}:=if_pos hk;refine wh ?_;refine⟨by simp;omega,?_⟩;refine wh ?_;refine⟨[],[some 0],?_⟩
  iterate 3 constructor
  refine⟨⟨?_,?_,?_⟩,rfl,rfl,rfl⟩
  all_goals(repeat' first|exact LF|constructor)
  all_goals exact Lz.of (by show _=(x.out++[vP x l to]).map bp;rw[e,List.map_append];rfl)
theorem dp (x:RS):VC E0 31 1 [.ptr 0 0] (iz x) (RR (.tk 1) 2 [(0,ie (bE x)),(1,.arr 25 true (x.out.map bp))]):=by
 refine en L0 Tryz.f31 ?_;exact⟨[],[some 0,some 1],_,_,_,t3,rfl,rfl,rfl⟩
theorem sM (a:Int) (b:List Int) (x:RS):VC E0 31 1 [.ptr 0 0] (yu a b x) (RR (.tk 1) 2 [(0,Cp a b (bE x)),(1,.arr 25 true (x.out.map bp))]):=by
 refine en L0 Tryz.f31 ?_;exact⟨[],[some 0,some 1],_,_,_,t3,rfl,rfl,rfl⟩
theorem PH (x:RS) (r:fw) (hl:x.out.length<100000) (hr:0≤r.ao∧r.ao≤6):VC E0 60 1 [.ptr 0 0,.agg (yX r)] (iz x) (RR (.cB []) 1 (iz (Fy x r))):=by
 have hw:IntKind.i64.wrap (200+r.ao)=200+r.ao:=IntWalk.i64_in _ om;refine en L0 Tryz.f60 ?_;rw[hw];refine⟨[],[some 0],_,_,_,_,Xy x (S7 r) (200+r.ao) hl,t3,cw ?_⟩;exact⟨[],[some 0],_,_,_,t3,rfl,rfl,rfl⟩
theorem Jb (x:MvI):VC E0 106 1 [.ptr 0 0] [(0,Vn x)] (RR (.cB [.s (.int .u64 x.at_),.s (.int .i64 x.next)]) 1 [(0,Vn x)]):=by
 refine en L0 Tryz.f106 ?_;exact⟨[],[some 0],_,_,_,t3,rfl,rfl,rfl⟩
theorem pH (x:RS) (hl:x.out.length<100000) (H:nN x.an):VC E0 64 1 [.ptr 0 0] (iz x) (RR (.cB []) 1 (iz (jo x))):=by
 refine en L0 Tryz.f64 ?_;refine sp ?_ ?_<;>intro hp
 ·have e:jo x=x:=if_pos hp;rw[e];refine wh ?_;exact⟨[],[some 0],_,_,_,t3,rfl,rfl,rfl⟩
 have e:jo x=mw x (S8 x) x.role.pred:=if_neg hp;rw[e];have bW:=bX x.an H;refine wh ?_;refine⟨[],[some 1],_,_,_,_,Jb x.comes,t3,cw ?_⟩;refine⟨[],[some 3],_,_,_,_,bW,t3,cw ?_⟩;refine⟨[],[some 3],_,_,_,_,kp x.an,t3,cw ?_⟩;refine⟨[],[some 0],_,_,_,_,Xy x (S8 x) x.role.pred hl,t3,cw ?_⟩;exact⟨[],[some 0],_,_,_,t3,rfl,rfl,rfl⟩
theorem Cq (a:Int) (b:List Int) (x:RS) (hl:x.out.length<100000) (H:nN x.an):VC E0 64 1 [.ptr 0 0] (yu a b x) (RR (.cB []) 1 (yu a b (jo x))):=by
 refine en L0 Tryz.f64 ?_;refine sp ?_ ?_<;>intro hp
 ·have e:jo x=x:=if_pos hp;rw[e];refine wh ?_;exact⟨[],[some 0],_,_,_,t3,rfl,rfl,rfl⟩
 have e:jo x=mw x (S8 x) x.role.pred:=if_neg hp;rw[e];have bW:=bX x.an H;refine wh ?_;refine⟨[],[some 1],_,_,_,_,Jb x.comes,t3,cw ?_⟩;refine⟨[],[some 3],_,_,_,_,bW,t3,cw ?_⟩;refine⟨[],[some 3],_,_,_,_,kp x.an,t3,cw ?_⟩;refine⟨[],[some 0],_,_,_,_,(abt a b) x (S8 x) x.role.pred hl,t3,cw ?_⟩;exact⟨[],[some 0],_,_,_,t3,rfl,rfl,rfl⟩
theorem Xz (x:RS) (hl:x.out.length<100000) (H:nN x.an) (hk:x.role.succ=0∨x.known=false∨(fm x.an x.bu 4).isSome=true):VC E0 44 1 [.ptr 0 0] (iz x) (RR (.cB []) 1 (iz (dZ x))):=by
 have bW:=bX x.an H;obtain⟨node,ak,role,st,an,base,dq,bu,known,want,comes,out⟩:=x;by_cases hs:role.succ=0
 ·have e:dZ ⟨node,ak,role,st,an,base,dq,bu,known,want,comes,out⟩=⟨node,ak,role,st,an,base,dq,bu,known,want,comes,out⟩:=if_pos hs;rw[e];refine en L0 Tryz.f44 ?_;refine sp ?_ ?_<;>intro hz
  ·refine wh ?_;exact⟨[],[some 0],_,_,_,t3,rfl,rfl,rfl⟩
  ·exact absurd hs hz
 cases known
 ·have e:dZ ⟨node,ak,role,st,an,base,dq,bu,false,want,comes,out⟩=mw ⟨node,ak,role,st,an,base,dq,bu,false,want,comes,out⟩ (DD ⟨node,ak,role,st,an,base,dq,bu,false,want,comes,out⟩ []) role.succ:=by
   unfold dZ;rw[if_neg hs,if_pos rfl]
  have F5:=Xy ⟨node,ak,role,st,an,base,dq,bu,false,want,comes,out⟩ (DD ⟨node,ak,role,st,an,base,dq,bu,false,want,comes,out⟩ []) role.succ hl;rw[e];refine en L0 Tryz.f44 ?_;refine sp ?_ ?_<;>intro hz
  ·exact absurd hz hs
  refine wh ?_;refine⟨[],[some 1],_,_,_,_,bW,t3,cw ?_⟩;refine⟨[],[some 0],_,_,_,_,F5,t3,cw ?_⟩;exact⟨[],[some 0],_,_,_,t3,rfl,rfl,rfl⟩
 ·obtain⟨l,hf⟩:=Option.isSome_iff_exists.1 (hk.resolve_left hs |>.resolve_left Bool.noConfusion);have e:dZ ⟨node,ak,role,st,an,base,dq,bu,true,want,comes,out⟩=mw ⟨node,ak,role,st,an,base,dq,bu,true,want,comes,out⟩ (DD ⟨node,ak,role,st,an,base,dq,bu,true,want,comes,out⟩ l) role.succ:=by
   unfold dZ;rw[if_neg hs,if_neg (show¬(true=false)from Bool.noConfusion),hf]
  have v8:=FX an H bu 4 (by decide) l hf;have F5:=Xy ⟨node,ak,role,st,an,base,dq,bu,true,want,comes,out⟩ (DD ⟨node,ak,role,st,an,base,dq,bu,true,want,comes,out⟩ l) role.succ hl;rw[e];refine en L0 Tryz.f44 ?_;refine sp ?_ ?_<;>intro hz
  ·exact absurd hz hs
  refine wh ?_;refine⟨[],[some 1],_,_,_,_,bW,t3,cw ?_⟩;refine⟨[],[some 1],_,_,_,_,v8,t3,cw ?_⟩;refine⟨[],[some 0],_,_,_,_,F5,t3,cw ?_⟩;exact⟨[],[some 0],_,_,_,t3,rfl,rfl,rfl⟩
theorem PI (x:RS) (u:dx) (H:nN x.an) (Hs:zr x.st) (hu:Qv u) (hc:uz u=0) (hsq:u.seq - 1=au x.an) (h0:1≤u.seq) (h:x.an.l.length<9999):VC E0 62 1 [.ptr 0 0,.agg (cD u)] (iz x) (RR (.cB []) 1 (iz (Bn x u))):=by
 have ha:=PE x.st u Hs hu;have hw:=Xh x.an u H hc hsq h0 h;refine en L0 Tryz.f62 ?_;refine⟨[],[some 2],_,_,_,_,ha,t3,cw ?_⟩;refine⟨[],[some 4],_,_,_,_,hw,t3,cw ?_⟩;exact⟨[],[some 0],_,_,_,t3,rfl,rfl,rfl⟩
@[reducible] def DN (a:Int) (b:List Int):Ob:=[(0,Xv a [b])]
theorem F6 (a:Int) (b:List Int):VC E0 66 1 [.ptr 0 0] (DN a b) (RR (.s (.int .u64 a)) 1 (DN a b)):=by
 refine en L0 Tryz.f66 ?_
 repeat((first|(refine⟨fun h_=>?_,fun h_=>?_⟩)|(refine aU (fun h_=>?_) (fun h_=>?_))|(refine aT (fun h_=>?_) (fun h_=>?_)))<;>first|(exfalso;revert h_;decide;done)|(exact absurd rfl h_)|(have dw:=True.intro;clear dw;(conv=>whnf)))
 exact⟨[],[some 0],_,_,_,t3,rfl,rfl,rfl⟩
theorem sN (a:Int) (b:List Int):VC E0 67 1 [.ptr 0 0] (DN a b) (RR (.s (.int .i64 1)) 1 (DN a b)):=by
 refine en L0 Tryz.f67 ?_
 repeat((first|(refine⟨fun h_=>?_,fun h_=>?_⟩)|(refine aU (fun h_=>?_) (fun h_=>?_))|(refine aT (fun h_=>?_) (fun h_=>?_)))<;>first|(exfalso;revert h_;decide;done)|(exact absurd rfl h_)|(have dw:=True.intro;clear dw;(conv=>whnf)))
 exact⟨[],[some 0],_,_,_,t3,rfl,rfl,rfl⟩
theorem Jc (a:Int) (b:List Int) (hb:b.length<1000000):VC E0 85 1 [.ptr 0 0,.s (.int .i64 0)] (DN a b) (RR (.cB [GC b,.s (.bool true)]) 1 (DN a b)):=by
 refine en L0 Tryz.f85 ?_
 repeat((first|(refine⟨fun h_=>?_,fun h_=>?_⟩)|(refine aU (fun h_=>?_) (fun h_=>?_))|(refine aT (fun h_=>?_) (fun h_=>?_)))<;>first|(exfalso;revert h_;decide;done)|(exact absurd rfl h_)|(have dw:=True.intro;clear dw;(conv=>whnf)))
 refine⟨[],[some 0],_,_,_,_,sN a b,t3,cw ?_⟩
 repeat((first|(refine⟨fun h_=>?_,fun h_=>?_⟩)|(refine aU (fun h_=>?_) (fun h_=>?_))|(refine aT (fun h_=>?_) (fun h_=>?_)))<;>first|(exfalso;revert h_;decide;done)|(exact absurd rfl h_)|(have dw:=True.intro;clear dw;(conv=>whnf)))
 refine⟨⟨by decide,by show(0:Int)<((1:Nat):Int);decide⟩,?_⟩;refine wh ?_;refine⟨_,rfl,?_⟩;refine wh ?_;refine⟨[],[],_,_,_,_,l6 b hb,t3,cw ?_⟩;exact⟨[],[some 0],_,_,_,t3,rfl,rfl,rfl⟩
@[reducible] def mW (a:Int) (b:List Int):Lr:={noL with kind:=14,seq:=a,num:=1,data:=b}
theorem Jd (a:Int) (b:List Int) (x:RS) (hl:x.out.length<100000) (H:nN x.an) (hs:x.role.succ≠0) (hk:x.known=true) (hf:fm x.an x.bu 4=none) (hw:x.want=0) (hb:b.length<1000000):
 VC E0 44 1 [.ptr 0 0] (yu a b x) (RR (.cB []) 1 (yu a b (mw x (mW a b) x.role.succ))):=by
 have bW:=bX x.an H;have v8:=zt x.an H x.bu 4 hf;have F5:=abt a b x (mW a b) x.role.succ hl;obtain⟨node,ak,role,st,an,base,dq,bu,known,want,comes,out⟩:=x;have hk:known=true:=hk;have hw:want=0:=hw;subst hk hw;refine en L0 Tryz.f44 ?_;refine sp ?_ ?_<;>intro hz
 ·exact absurd hz hs
 refine wh ?_;refine⟨[],[some 1],_,_,_,_,bW,t3,cw ?_⟩;refine⟨[],[some 1],_,_,_,_,v8,t3,cw ?_⟩;refine⟨[],[some 5],_,_,_,_,Jc a b hb,t3,cw ?_⟩;refine⟨[],[some 5],_,_,_,_,F6 a b,t3,cw ?_⟩;refine⟨[],[some 5],_,_,_,_,sN a b,t3,cw ?_⟩;refine⟨[],[some 0],_,_,_,_,F5,t3,cw ?_⟩;exact⟨[],[some 0],_,_,_,t3,rfl,rfl,rfl⟩
theorem T6 (x:RS) (hl:x.out.length<100000) (H:nN x.an) (hs:x.role.succ≠0) (hk:x.known=true) (hf:fm x.an x.bu 4=none) (HP:yp x.st) (hb:0<(oL x.st).length∧(oL x.st).length≤1024):
 VC E0 44 1 [.ptr 0 0] (iz x) (RR (.cB []) 1 (yu (au x.an) (oL x.st) (mw {x with want:=0} (mW (au x.an) (oL x.st)) x.role.succ))):=by
 have bW:=bX x.an H;have v8:=zt x.an H x.bu 4 hf;have PC:=F4 x.st HP;have F5:=abt (au x.an) (oL x.st) {x with want:=0} (mW (au x.an) (oL x.st)) x.role.succ hl;generalize au x.an=a at bW F5 ⊢;generalize oL x.st=b at PC F5 hb ⊢;obtain⟨node,ak,role,st,an,base,dq,bu,known,want,comes,out⟩:=x;have hk:known=true:=hk;subst hk;refine en L0 Tryz.f44 ?_;refine sp ?_ ?_<;>intro hz
 ·exact absurd hz hs
 refine wh ?_;refine⟨[],[some 1],_,_,_,_,bW,t3,cw ?_⟩;refine⟨[],[some 1],_,_,_,_,v8,t3,cw ?_⟩;refine⟨[],[some 1],_,_,_,_,bW,t3,cw ?_⟩;refine⟨[],[some 6],_,_,_,_,PC,t3,cw ?_⟩;refine⟨[],[],_,_,_,_,Xx a b hb,t3,cw ?_⟩;refine⟨[],[some 8],_,_,_,_,Jc a b om,t3,cw ?_⟩;refine⟨[],[some 8],_,_,_,_,F6 a b,t3,cw ?_⟩;refine⟨[],[some 8],_,_,_,_,sN a b,t3,cw ?_⟩;refine⟨[],[some 0],_,_,_,_,F5,t3,cw ?_⟩;exact⟨[],[some 0],_,_,_,t3,rfl,rfl,rfl⟩
structure yv (x y:RS) (k:Nat):Prop where
 node:y.node=x.node
 ak:y.ak=x.ak
 role:y.role=x.role
 st:y.st=x.st
 an:y.an=x.an
 comes:y.comes=x.comes
 out:y.out.length≤x.out.length+k
theorem yv.refl (x:RS):yv x x 0:=⟨rfl,rfl,rfl,rfl,rfl,rfl,Nat.le_refl _⟩
theorem yv.trans {x y z:RS} {a b:Nat} (h:yv x y a) (k:yv y z b):yv x z (a+b):=
 ⟨k.node.trans h.node,k.ak.trans h.ak,k.role.trans h.role,k.st.trans h.st,k.an.trans h.an,k.comes.trans h.comes,by have:=h.out;have:=k.out;omega⟩
theorem Ly (st:e7) (x:RS) (u:dx):yv x (iV st x u) 1:=by
 unfold iV;split
 ·exact⟨rfl,rfl,rfl,rfl,rfl,rfl,by show(x.out++[_]).length≤_;rw[List.length_append];exact Nat.le_refl _⟩
 ·exact⟨rfl,rfl,rfl,rfl,rfl,rfl,Nat.le_succ _⟩
theorem DO (st:e7):∀(l:List dx) (x:RS),yv x (l.foldl (iV st) x) l.length
 |[],x=>.refl x
 |u::l,x=>by
  have h:=(Ly st x u).trans (DO st l (iV st x u));rw[List.length_cons];exact⟨h.node,h.ak,h.role,h.st,h.an,h.comes,by have:=h.out;show(l.foldl (iV st) (iV st x u)).out.length≤_;omega⟩
theorem Je {w:gV} (H:nN w):nN (ko w):=by
 have Y7:=H.done;have yJ:=H.low;unfold ko;split
 ·exact H
 ·exact⟨by show 0≤max w.low _∧max w.low _≤50000;omega,Y7,by show(w.l.drop _).length≤10000;rw[List.length_drop];have:=H.len;omega,fun u hu=>H.data u (List.mem_of_mem_drop hu)⟩
theorem PJ {w:gV} {n:Int} (H:nN w) (hd:w.done≤au w) (h5:au w≤50000):nN (ic w n).2:=by
 have hE:au w=w.low+(w.l.length:Nat):=rfl;have Y7:=H.done;have yJ:=H.low;have hr:w.done≤cS w n∧cS w n≤au w:=by unfold cS;omega
 exact Je (w:={w with done:=cS w n}) ⟨H.low,by show 0≤cS w n∧cS w n≤50000;omega,H.len,H.data⟩
def LA (t:gg):Prop:=∀c,0≤(iM t c).1.ao∧(iM t c).1.ao≤6
theorem T7 (x:RS) (n:Int) (hl:x.out.length<50000) (H:nN x.an) (Hs:zr x.st) (Hr:LA x.st.t) (hn:0≤n∧n≤1000000) (hd:x.an.done≤au x.an) (h5:au x.an≤50000) (hb:x.st.bs.length<13):
 VC E0 53 1 [.ptr 0 0,.s (.int .u64 n)] (iz x) (RR (.cB []) 1 (iz (cp x n))):=by
 have hre:=IY x.an n H hn hd h5;have zS:=pF x.an.done x.an.l (cS x.an n - x.an.done);have hle:=H.len;have xP:=DO x.st;have e1:(ic x.an n).1=cg x.an.done x.an.l (cS x.an n - x.an.done):=rfl;rw[←e1]at zS;refine en L0 Tryz.f53 ?_;refine⟨[],[some 1],_,_,_,_,kp x.an,t3,cw ?_⟩;refine⟨[],[some 1],_,_,_,_,hre,t3,cw ?_⟩;generalize hrw:ic x.an n=T8 at zS;obtain⟨l,w2⟩:=T8;have zS:l.length≤x.an.l.length:=zS;have hx1:x.an.done≤50000:=H.done.2
 refine⟨fun k f o c=>∃i:Nat,i≤l.length∧k=l.length - i∧c=1∧f=[(0,.ptr 0 0),(4,.s (.int .u64 x.an.done)),(19,.sl 7 (l.map cD) false),(20,.s (.int .i64 l.length)),(21,.s (.int .i64 i))]∧o=iz ((l.take i).foldl (iV x.st) {x with an:=w2}),⟨l.length,?_⟩,?_⟩
 ·refine⟨[],[some 0],_,_,_,tx ?_,⟨0,Nat.zero_le _,rfl,rfl,rfl,rfl⟩⟩;exact Lz.int (by rw[List.length_map])
 rintro k f1 o1 c1 ⟨i,hi,rfl,rfl,rfl,rfl⟩;refine wh ?_;refine sp ?_ ?_<;>intro h
 ·have h:i<l.length:=by have h:(i:Int)<l.length:=h
                        omega
  have BU:IntKind.i64.wrap ((i:Int)+1)=((i+1:Nat):Int):=IntWalk.i64_in _ om;have nX:(l.take (i+1)).foldl (iV x.st) {x with an:=w2}=iV x.st ((l.take i).foldl (iV x.st) {x with an:=w2}) l[i]:=by rw[jT l i h,List.foldl_append];rfl
  have T9:=xP (l.take i) {x with an:=w2};rw[List.length_take]at T9;generalize (l.take i).foldl (iV x.st) {x with an:=w2}=y at nX T9;have hyo:=T9.out;have ja:=TU y.st l[i].ao;have HT:=Hr l[i].ao;have Jf:y.st=x.st:=T9.st;rw[Jf]at ja;have Jg:iV x.st y l[i]=(if y.role.head=true∧(iM x.st.t l[i].ao).2=true∧(iM x.st.t l[i].ao).1.seq=l[i].seq then Fy y (iM x.st.t l[i].ao).1 else y):=rfl;generalize iM x.st.t l[i].ao=q at ja HT Jg;obtain⟨r,ok⟩:=q;have hyo:y.out.length≤x.out.length+min i l.length:=hyo;have lM:=PH y r om HT;obtain⟨js,Zb,⟨yi,yj,yh,yt,yw,zu,zw,zy⟩,DP,kY,jt,pI,pJ,fR,ju,fS,nO⟩:=y
  have Jf:DP=x.st:=Jf;subst Jf;refine wh ?_;refine oB h ?_;refine wh ?_;refine⟨[],[some 2],_,_,_,_,ja,t3,cw ?_⟩;cases yh with
  |false=>
   rw[if_neg (fun q=>Bool.noConfusion q.1)]at Jg;refine wh ?_;refine⟨l.length - (i+1),?_,om⟩;rw[BU];exact⟨[],[some 0],_,_,_,t3,⟨i+1,h,rfl,rfl,rfl,(congrArg iz (nX.trans Jg)).symm⟩⟩
  |true=>
   refine wh ?_;cases ok with
   |false=>
    rw[if_neg (fun q=>Bool.noConfusion q.2.1)]at Jg;refine wh ?_;refine⟨l.length - (i+1),?_,om⟩;rw[BU];exact⟨[],[some 0],_,_,_,t3,⟨i+1,h,rfl,rfl,rfl,(congrArg iz (nX.trans Jg)).symm⟩⟩
   |true=>
    refine wh ?_;refine sp ?_ ?_<;>intro hq
    ·have hq:r.seq=l[i].seq:=hq;rw[if_pos ⟨rfl,rfl,hq⟩]at Jg;refine wh ?_;refine⟨[],[some 0],_,_,_,_,lM,t3,cw ?_⟩;refine⟨l.length - (i+1),?_,om⟩;rw[BU];exact⟨[],[some 0],_,_,_,t3,⟨i+1,h,rfl,rfl,rfl,(congrArg iz (nX.trans Jg)).symm⟩⟩
    ·have hq:¬r.seq=l[i].seq:=hq;rw[if_neg (fun q=>hq q.2.2)]at Jg;refine wh ?_;refine⟨l.length - (i+1),?_,om⟩;rw[BU];exact⟨[],[some 0],_,_,_,t3,⟨i+1,h,rfl,rfl,rfl,(congrArg iz (nX.trans Jg)).symm⟩⟩
 ·obtain rfl:i=l.length:=by have h:¬(i:Int)<l.length:=h;omega
  have T9:=xP l {x with an:=w2};rw[List.take_length];have GD:cp x n=(if x.an.done<w2.done∧x.role.Bm=true∧x.role.head=false then jo {l.foldl (iV x.st) {x with an:=w2}with st:=tA x.st w2.done}else {l.foldl (iV x.st) {x with an:=w2}with st:=tA x.st w2.done}):=by
   unfold cp;rw[hrw]
  rw[GD];have Gz:nN w2:=by have:=PJ (n:=n) H hd h5;rw[hrw]at this;exact this
  have VE:=DM x.st w2.done Hs hb;generalize l.foldl (iV x.st) {x with an:=w2}=y at T9;have hyo:y.out.length≤x.out.length+l.length:=T9.out;have Jf:=T9.st;have Ua:=T9.an;have Ga:=T9.role;clear T9 GD xP;obtain⟨js,Zb,Zc,DP,kY,jt,pI,pJ,fR,ju,fS,nO⟩:=y;have Jf:DP=x.st:=Jf;have Ua:kY=w2:=Ua;have Ga:Zc=x.role:=Ga;subst Jf Ua;rw[←Ga];clear Ga;obtain⟨yi,yj,yh,yt,yw,zu,zw,zy⟩:=Zc;have fT:=pH ⟨js,Zb,⟨yi,yj,yh,yt,yw,zu,zw,zy⟩,tA x.st kY.done,kY,jt,pI,pJ,fR,ju,fS,nO⟩ (by show nO.length<100000;have hyo:nO.length≤_:=hyo;omega) Gz;refine wh ?_;refine⟨[],[some 2],_,_,_,_,kp kY,t3,cw ?_⟩
  refine⟨[],[some 1],_,_,_,_,VE,t3,?_⟩;rintro r o' c' ⟨m,rfl,rfl,rfl⟩;refine wh ?_;refine⟨[],[some 2],_,_,_,_,kp kY,t3,cw ?_⟩;refine sp ?_ ?_<;>intro gu;rotate_left
  ·rw[if_neg (fun q=>gu q.1)];refine wh ?_;exact⟨[],[some 0],_,_,_,t3,rfl,rfl,rfl⟩
  have gu:x.an.done<kY.done:=gu;refine wh ?_;cases yi with
  |false=>
   rw[if_neg (fun q=>Bool.noConfusion q.2.1)];refine wh ?_;exact⟨[],[some 0],_,_,_,t3,rfl,rfl,rfl⟩
  |true=>
   refine wh ?_;cases yh with
   |true=>
    rw[if_neg (fun q=>Bool.noConfusion q.2.2)];refine wh ?_;exact⟨[],[some 0],_,_,_,t3,rfl,rfl,rfl⟩
   |false=>
    rw[if_pos ⟨gu,rfl,rfl⟩];refine wh ?_;refine⟨[],[some 0],_,_,_,_,fT,t3,cw ?_⟩;exact⟨[],[some 0],_,_,_,t3,rfl,rfl,rfl⟩
theorem uI (d:Int):∀l:List dx,cg d l 0=[]
 |[]=>rfl
 |u::l=>by unfold cg;rw[if_pos (.inr (by decide))];exact uI d l
theorem DQ {x:RS} (hd:x.an.done=au x.an):cp x (au x.an)={x with an:=ko x.an,st:=tA x.st x.an.done}:=by
 have hr:cS x.an (au x.an)=x.an.done:=by unfold cS;rw[←hd];omega
 have e:ic x.an (au x.an)=([],ko x.an):=by
  unfold ic;rw[hr,Int.sub_self,uI]
 have ed:(ko x.an).done=x.an.done:=by unfold ko;split<;>rfl
 unfold cp;rw[e];dsimp only[List.foldl_nil];rw[ed,if_neg (fun q=>by omega)]
theorem Ub (a:Int) (b:List Int) (x:RS) (H:nN x.an) (Hs:zr x.st) (hd:x.an.done=au x.an) (h5:au x.an≤50000) (hb:x.st.bs.length<13):
 VC E0 53 1 [.ptr 0 0,.s (.int .u64 (au x.an))] (yu a b x) (RR (.cB []) 1 (yu a b (cp x (au x.an)))):=by
 have hr:cS x.an (au x.an)=x.an.done:=by unfold cS;rw[←hd];omega
 have hre:=IY x.an (au x.an) H (by have:=H.done;omega) om h5;have e:ic x.an (au x.an)=([],ko x.an):=by
  unfold ic;rw[hr,Int.sub_self,uI]
 have ed:(ko x.an).done=x.an.done:=by unfold ko;split<;>rfl
 have VE:=DM x.st x.an.done Hs hb;have Gz:=kp (ko x.an);rw[ed]at Gz;rw[e]at hre;rw[DQ hd];refine VC.cQ L0 (show E0.func 53=some Tryz.f53 by kernel_rfl) (fun _ _=>rfl) rfl rfl [999999] ?_;refine wh ?_;refine⟨[],[some 1],_,_,_,_,kp x.an,t3,cw ?_⟩;refine⟨[],[some 1],_,_,_,_,hre,t3,cw ?_⟩;refine sp ?_ ?_<;>intro h
 ·exact absurd (show(0:Int)<((0:Nat):Int)from h) (by decide)
 refine wh ?_;refine⟨[],[some 1],_,_,_,_,Gz,t3,cw ?_⟩;refine⟨[],[some 4],_,_,_,_,VE,t3,?_⟩;rintro r o' c' ⟨m,rfl,rfl,rfl⟩;refine wh ?_;refine⟨[],[some 1],_,_,_,_,Gz,t3,cw ?_⟩;refine sp ?_ ?_<;>intro gu
 ·exact absurd (show x.an.done>x.an.done from gu) om
 refine wh ?_;exact⟨[],[some 0],_,_,_,t3,rfl,rfl,rfl⟩
structure gX (x:RS):Prop where
 an:nN x.an
 st:zr x.st
 rows:LA x.st.t
 dn:x.an.done≤au x.an
 e5:au x.an≤40000
 bs:x.st.bs.length<13
 out:x.out.length<50000
structure nP (x:RS):Prop where
 an:nN x.an
 out:x.out.length<50000
 k:x.role.succ=0∨x.known=false∨(fm x.an x.bu 4).isSome=true
theorem gX.done {x:RS} (G:gX x) (n:Int) (hn:0≤n∧n≤1000000):VC E0 53 1 [.ptr 0 0,.s (.int .u64 n)] (iz x) (RR (.cB []) 1 (iz (cp x n))):=
 T7 x n G.out G.an G.st G.rows hn G.dn (by have:=G.e5;omega) G.bs
theorem nP.hand {x:RS} (G:nP x):VC E0 44 1 [.ptr 0 0] (iz x) (RR (.cB []) 1 (iz (dZ x))):=
 Xz x (by have:=G.out;omega) G.an G.k
theorem gX.XA {x:RS} (G:gX x):0≤au x.an∧au x.an≤1000000:=by
 have h1:=G.an.low;have h2:=G.e5;have hE:au x.an=x.an.low+(x.an.l.length:Nat):=rfl;omega
structure Jh (x:RS) (u:dx):Prop where
 rng:Qv u
 chk:uz u=0
 seq:u.seq - 1=au x.an
 one:1≤u.seq
 room:x.an.l.length<9999
theorem Jh.up {x:RS} {u:dx} (G:gX x) (U:Jh x u):VC E0 62 1 [.ptr 0 0,.agg (cD u)] (iz x) (RR (.cB []) 1 (iz (Bn x u))):=
 PI x u G.an G.st U.rng U.chk U.seq U.one U.room
@[reducible] def u2 (x:RS) (u:dx):dx:={u with seq:=au x.an+1}
@[reducible] def Gb (x:RS) (u:dx):RS:=Bn x (u2 x u)
@[reducible] def XB (x:RS) (u:dx):RS:=if x.role.tail=true then cp (Gb x u) (au (Gb x u).an)else Gb x u
theorem PK {x:RS} {u:dx} (ho:x.dq=true) (hj:di x.st.t u.ao u.num=0) (hd:l4 x.an<16):uA x u=dZ (XB x u):=by
 unfold uA;rw[if_neg (by rw[ho];exact Bool.noConfusion),if_neg (by rw[hj];decide),if_pos hj,if_pos hd]
theorem Uc (x:RS) (f t ch e:Int) (u:dx) (G:gX x) (ho:x.dq=true) (hj:di x.st.t u.ao u.num=0) (hd:l4 x.an<16) (U:Jh x (u2 x u)) (G1:gX (Gb x u)) (G2:nP (XB x u)):
 VC E0 27 1 [.ptr 0 0,.agg (bp (GA f t ch e [u]))] (iz x) (RR (.cB []) 1 (iz (uA x u))):=by
 rw[PK ho hj hd];have hju:=Lv x.st u.ao u.num;rw[hj]at hju;have B2:=TB x.an G.an G.dn;rw[decide_eq_true hd]at B2;have bW:=bX x.an G.an;have mX:=bX (Gb x u).an G1.an;have zq:=U.up G;have dM:=G1.done (au (Gb x u).an) G1.XA;have bj:=G2.hand;have Mu:=G.XA;have hw:IntKind.u64.wrap (au x.an+1)=au x.an+1:=IntWalk.u64_in _ om;have hrt:(Gb x u).role=x.role:=rfl;obtain⟨node,ak,⟨ri,rj,rh,rt,T8,XC,XD,XE⟩,st,an,base,dq,bu,known,want,comes,out⟩:=x;have ho:dq=true:=ho;subst ho;refine en L0 Tryz.f27 ?_;refine⟨cD u,⟨by decide,rfl⟩,?_⟩;refine wh ?_;refine⟨[],[some 3],_,_,_,_,hju,t3,cw ?_⟩
 repeat((first|(refine⟨fun h_=>?_,fun h_=>?_⟩)|(refine aU (fun h_=>?_) (fun h_=>?_))|(refine aT (fun h_=>?_) (fun h_=>?_)))<;>first|(exfalso;revert h_;decide;done)|(exact absurd rfl h_)|(have dw:=True.intro;clear dw;(conv=>whnf)))
 refine⟨[],[some 5],_,_,_,_,B2,t3,cw ?_⟩;refine⟨[],[some 5],_,_,_,_,bW,t3,cw ?_⟩;rw[hw];refine⟨[],[some 0],_,_,_,_,zq,t3,cw ?_⟩;cases rt with
 |true=>
  refine wh ?_;refine⟨[],[some 9],_,_,_,_,mX,t3,cw ?_⟩;refine⟨[],[some 0],_,_,_,_,dM,t3,cw ?_⟩;refine⟨[],[some 0],_,_,_,_,bj,t3,cw ?_⟩;exact⟨[],[some 0],_,_,_,t3,rfl,rfl,rfl⟩
 |false=>
  refine wh ?_;refine⟨[],[some 0],_,_,_,_,bj,t3,cw ?_⟩;exact⟨[],[some 0],_,_,_,t3,rfl,rfl,rfl⟩
structure na (x y:RS):Prop where
 node:y.node=x.node
 ak:y.ak=x.ak
 role:y.role=x.role
 dq:y.dq=x.dq
 bu:y.bu=x.bu
 known:y.known=x.known
 comes:y.comes=x.comes
theorem na.refl (x:RS):na x x:=⟨rfl,rfl,rfl,rfl,rfl,rfl,rfl⟩
theorem na.trans {x y z:RS} (h:na x y) (k:na y z):na x z:=
 ⟨k.node.trans h.node,k.ak.trans h.ak,k.role.trans h.role,k.dq.trans h.dq,k.bu.trans h.bu,k.known.trans h.known,k.comes.trans h.comes⟩
theorem XF (x:RS) (u:dx):na x (Bn x u):=⟨rfl,rfl,rfl,rfl,rfl,rfl,rfl⟩
theorem Bv:∀(l:List dx) (x:RS),na x (l.foldl Bn x)
 |[],x=>.refl x
 |u::l,x=>(XF x u).trans (Bv l _)
theorem LB (st:e7) (x:RS) (u:dx):na x (iV st x u):=by
 unfold iV;split<;>exact⟨rfl,rfl,rfl,rfl,rfl,rfl,rfl⟩
theorem DR (st:e7):∀(l:List dx) (x:RS),na x (l.foldl (iV st) x)
 |[],x=>.refl x
 |u::l,x=>(LB st x u).trans (DR st l _)
theorem Ud (x:RS):na x (jo x):=by
 unfold jo;split<;>exact⟨rfl,rfl,rfl,rfl,rfl,rfl,rfl⟩
theorem xo (x:RS) (n:Int):na x (cp x n):=by
 unfold cp;have h1:na x {x with an:=(ic x.an n).2}:=⟨rfl,rfl,rfl,rfl,rfl,rfl,rfl⟩;have h2:=h1.trans (DR x.st (ic x.an n).1 _);have h3:na x {(ic x.an n).1.foldl (iV x.st) {x with an:=(ic x.an n).2}with st:=tA x.st (ic x.an n).2.done}:=⟨h2.node,h2.ak,h2.role,h2.dq,h2.bu,h2.known,h2.comes⟩;dsimp only
 split
 ·exact h3.trans (Ud _)
 ·exact h3
def nb:List dx→Int→Int
 |[],a=>a
 |u::l,a=>if u.seq=0∨u.seq - 1≠a then nb l a else nb l u.seq
theorem xp:∀(l:List dx) (a:Int) (u:dx),dX (l++[u]) a=dX l a++(if u.seq=0∨u.seq - 1≠nb l a then []else [u])∧nb (l++[u]) a=(if u.seq=0∨u.seq - 1≠nb l a then nb l a else u.seq)
 |[],a,u=>by
  constructor
  ·show dX [u] a=[]++_;unfold dX nb;split<;>rfl
  ·show nb [u] a=_;unfold nb;split<;>rfl
 |x::l,a,u=>by
  show dX (x::(l++[u])) a=dX (x::l) a++_∧nb (x::(l++[u])) a=_;unfold dX nb;split
  ·exact xp l a u
  ·obtain⟨h1,h2⟩:=xp l x.seq u;exact⟨by rw[h1,List.cons_append],h2⟩
theorem vX:∀(l:List dx) (a:Int),(dX l a).length≤l.length
 |[],_=>Nat.le_refl _
 |u::l,a=>by
  unfold dX;split
  ·have:=vX l a;simp;omega
  ·have:=vX l u.seq;simp;omega
theorem XG (a:Int) (u:dx) (hu:Qv u) (h:u.seq=0∨u.seq - 1≠a):VC E0 105 1 [.agg (cD u),.ptr 0 0] [(0,Nj a)] (RR (.s (.bool false)) 1 [(0,Nj a)]):=by
 have h1:=hu.seq;refine en L0 Tryz.f105 ?_;refine sp ?_ ?_<;>intro h0
 ·refine wh ?_;exact⟨[],[some 0],_,_,_,t3,rfl,rfl,rfl⟩
 ·have h0:¬u.seq=0:=h0;have hw:IntKind.u64.wrap (u.seq - 1)=u.seq - 1:=IntWalk.u64_in _ om;refine wh ?_;rw[hw];refine sp ?_ ?_<;>intro h2
  ·refine wh ?_;exact⟨[],[some 0],_,_,_,t3,rfl,rfl,rfl⟩
  ·exact absurd (h.resolve_left h0) h2
theorem Ue (a:Int) (u:dx) (hu:Qv u) (h:¬(u.seq=0∨u.seq - 1≠a)):VC E0 105 1 [.agg (cD u),.ptr 0 0] [(0,Nj a)] (RR (.s (.bool true)) 1 [(0,Nj u.seq)]):=by
 have h1:=hu.seq;refine en L0 Tryz.f105 ?_;refine sp ?_ ?_<;>intro h0
 ·exact absurd (.inl h0) h
 ·have h0:¬u.seq=0:=h0;have hw:IntKind.u64.wrap (u.seq - 1)=u.seq - 1:=IntWalk.u64_in _ om;refine wh ?_;rw[hw];refine sp ?_ ?_<;>intro h2
  ·exact absurd (.inr h2) h
  ·refine wh ?_;exact⟨[],[some 0],_,_,_,t3,rfl,rfl,rfl⟩
@[reducible] def afP (a:Nat):TV:=.dg 105 [] [.ptr a 0]
theorem Uf (l:List dx) (a:Int) (hl:l.length<100000) (hd:∀u∈l,u.data.length≤2048∧Qv u):VC E0 104 1 [.sl 7 (l.map cD) false,afP 0] [(0,Nj a)]
 (RR (.sl 7 ((dX l a).map cD) false) 1 [(0,Nj (nb l a))]):=by
 refine en L0 Tryz.f104 ?_;refine⟨fun k f o c=>∃i:Nat,i≤l.length∧k=l.length - i∧c=2∧f=[(1,afP 0),(5,.tk 1),(8,.sl 7 (l.map cD) false),(9,.s (.int .i64 l.length)),(10,.s (.int .i64 i))]∧o=[(0,Nj (nb (l.take i) a)),(1,.arr 7 true ((dX (l.take i) a).map cD))],⟨l.length,?_⟩,?_⟩
 ·refine⟨[],[some 0,none],?_⟩
  iterate 3 constructor
  refine⟨⟨?_,?_,?_⟩,⟨0,Nat.zero_le _,rfl,rfl,rfl,rfl⟩⟩
  all_goals(repeat' first|exact LF|constructor)
  ·exact Lz.int (by rw[List.length_map])
 ·rintro k f1 o1 c1 ⟨i,hi,rfl,rfl,rfl,rfl⟩;refine wh ?_;refine sp ?_ ?_<;>intro h
  ·have h:i<l.length:=by have h:(i:Int)<l.length:=h
                         omega
   obtain⟨hs,he⟩:=xp (l.take i) a l[i];rw[←jT l i h]at hs he;have uY:=vX (l.take i) a;rw[List.length_take]at uY;obtain⟨Y6,hui⟩:=hd _ (List.getElem_mem h);have BU:IntKind.i64.wrap ((i:Int)+1)=((i+1:Nat):Int):=IntWalk.i64_in _ om;refine wh ?_;refine oB h ?_;refine wh ?_;by_cases hq:l[i].seq=0∨l[i].seq - 1≠nb (l.take i) a
   ·rw[if_pos hq]at hs he;rw[List.append_nil]at hs;refine⟨[],[some 0],_,_,_,_,XG _ l[i] hui hq,t3,cw ?_⟩;refine⟨l.length - (i+1),?_,om⟩;rw[BU,←hs,←he];exact⟨[],[some 0,some 1],_,_,_,t3,⟨i+1,h,rfl,rfl,rfl,rfl⟩⟩
   ·rw[if_neg hq]at hs he;refine⟨[],[some 0],_,_,_,_,Ue _ l[i] hui hq,t3,cw ?_⟩;refine⟨[],[],_,_,_,_,l6 l[i].data om,t3,cw ?_⟩;refine⟨by simp;omega,?_⟩;refine wh ?_;refine⟨l.length - (i+1),?_,om⟩;rw[BU];refine⟨[],[some 0,some 5],?_⟩
    iterate 3 constructor
    refine⟨⟨?_,?_,?_⟩,⟨i+1,h,rfl,rfl,rfl,rfl⟩⟩
    all_goals(repeat' first|exact LF|constructor)
    all_goals first|exact Lz.int he.symm|exact Lz.of (by rw[hs,List.map_append];rfl)
  ·obtain rfl:i=l.length:=by have h:¬(i:Int)<l.length:=h;omega
   rw[List.take_length];refine wh ?_;exact⟨[1],[some 0],_,_,_,t3,rfl,rfl,rfl⟩
theorem Ji (l:List dx) (a:Int) (hl:l.length<100000) (hd:∀u∈l,u.data.length≤2048∧Qv u):VC E0 63 0 [.sl 7 (l.map cD) false,.s (.int .u64 a)] [] (RR (.sl 7 ((dX l a).map cD) false) 0 []):=by
 refine en L0 Tryz.f63 ?_;refine⟨[],[some 0],_,_,_,_,Uf l a hl hd,t3,cw ?_⟩;exact⟨[],[],_,_,_,t3,rfl,rfl,rfl⟩
end Go.M
