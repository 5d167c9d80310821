/-
  Part 28 of the library that the proof leans on.
-/
import Derived.Test.YteoljjhhdgplnaaGreatDoorL27
import Derived.Test.YteoljjhhdgplnaaGreatDoorL12
namespace Go.M
open Go Go.Proofs
set_option maxRecDepth 100000
set_option maxHeartbeats 2000000
def BE (s:e7):List Int:=No s.e (gj s.t) s.bs.length++(Pa (iT s.bs)).flatMap (yY s)
theorem Gk (s:e7):BE s=oL s:=by unfold BE;rw[MX]
structure RJ where
 r:RS
 g:Option (Int×List Int)
@[reducible] noncomputable def s7 (x:RJ):List TV:=match x.g with
 |none=>[.own (ie x.r)]
 |some (a,b)=>[.own (Cp a b x.r)]
def gone (x:RS) (s:Int):Bool:=(fm x.an (max x.bu s) 0).isNone
def iX (x:RJ) (m:Lr):RJ:=match x.g with
 |none=>if m.kind=14 then⟨jo (pW x.r m.seq m.data),none⟩else
  if m.kind=13∧gone x.r m.seq=true then⟨mw {Bw x.r m.seq with want:=0} (mW (au x.r.an) (BE x.r.st)) x.r.role.succ,some (au x.r.an,BE x.r.st)⟩
  else⟨iu x.r m,none⟩
 |some (a,b)=>if m.kind=12 then⟨tB x.r m.done m.us,some (a,b)⟩else if gone x.r m.seq=true then⟨mw (Bw x.r m.seq) (mW a b) x.r.role.succ,some (a,b)⟩else⟨{Bw x.r m.seq with want:=0},none⟩
def nf (x:RJ):RJ:=match x.g with
 |none=>⟨cq x.r,none⟩
 |some (a,b)=>⟨mw x.r (mW a b) x.r.role.succ,some (a,b)⟩
@[reducible] def gR (x:RJ):RJ:=⟨bE x.r,x.g⟩
def Jq (x:RS) (m:Lr):Bool:=decide (m.kind=13)&&(XS x m&&(decide (bV x.ak)&&(xw m.oI&&(xw x.node&&(decide (0≤m.slot∧m.slot≤512)&&(decide ((bh x.ak x.node).succ≠0∧m.oI=(bh x.ak x.node).succ)&&(Bx x.an&&(decide (x.out.length<50000)&&
 (decide (x.role.succ∉x.ak.nodes)&&decide (x.role.succ≠0))))))))))
structure af4 (x:RS) (m:Lr):Prop where
 eq:m=kL m.oI x.node x.ak.chain x.ak.aV m.num m.seq m.done m.slot
 right:bV x.ak
 f:sw m.oI
 n:sw x.node
 sl:0≤m.slot∧m.slot≤512
 succ:(bh x.ak x.node).succ≠0∧m.oI=(bh x.ak x.node).succ
 an:nN x.an
 out:x.out.length<50000
 no:x.role.succ∉x.ak.nodes
 nz:x.role.succ≠0
theorem BF {x:RS} {m:Lr} (h:Jq x m=true):af4 x m:=by
 simp only[Jq,Bool.and_eq_true,decide_eq_true_eq]at h;obtain⟨h0,h1,h2,h3,h4,h5,h6,h7,h8,h9,Kv⟩:=h;exact⟨Nv h0 h1,h2,jy h3,jy h4,h5,h6,nd h7,h8,h9,Kv⟩
def okM (x:RS) (m:Lr):Bool:=Jq x m&&(gone x m.seq&&(Jk x&&decide (0<(BE x.st).length∧(BE x.st).length≤1024)))
def Zh (a:Int) (b:List Int) (x:RS) (m:Lr):Bool:=Jq x m&&(gone x m.seq&&(x.known&&(decide (m.num≠a)&&(decide (x.want=0)&&decide (b.length<1000000)))))
def UI (a:Int) (x:RS) (m:Lr):Bool:=Jq x m&&(decide (m.num=a∧m.slot=0)&&(x.known&&decide (¬(x.bu<max x.bu m.seq∧max x.bu m.seq<au x.an))))
def af5 (x:RS) (m:Lr):Bool:=decide (m.kind=14)&&(decide (m.to=x.node)&&(decide (m.chain=x.ak.chain)&&(decide (m.aV=x.ak.aV)&&(decide (m.num=1)&&(decide (m.done=0)&&(decide (m.ey=0)&&(decide (m.slot=0)&&(decide (m.code=0)&&m.us.isEmpty))))))))
def af6 (x:RS) (m:Lr):Bool:=af5 x m&&(decide (bV x.ak)&&(xw m.oI&&(xw x.node&&(decide ((bh x.ak x.node).pred≠0∧m.oI=(bh x.ak x.node).pred)&&(Bx x.an&&(decide (x.out.length<50000)&&(!x.dq&&
 (decide (x.comes.next=0)&&(x.comes.b.isEmpty&&(decide (x.comes.at_≤m.seq)&&(decide (0≤m.seq∧m.seq≤40000)&&(decide (m.data.length≤1024)&&(m.data.all (fun y=>decide (0≤y∧y<256))&&(decide (tI m.data=0)&&decide ((GG m.data).s.e=m.seq)))))))))))))))
def Zi (x:RS) (m:Lr):Bool:=XR x m&&(decide (bV x.ak)&&(xw m.oI&&(xw x.node&&(m.us.all (okW false)&&(decide ((bh x.ak x.node).pred≠0∧m.oI=(bh x.ak x.node).pred)&&(Bx x.an&&(XP x.st&&(decide (x.an.done=au x.an)&&(decide (au x.an≤50000)&&
 (decide (x.st.bs.length<13)&&(decide (x.out.length<50000)&&(x.role.tail&&(!x.role.jm&&(!x.ak.fresh&&(decide (m.us.length≤4)&&((m.us.all fun u=>decide (u.data.length≤2048)&&Uk u)&&(dX m.us (au x.an)).isEmpty))))))))))))))))
def zA (x:RJ) (m:Lr):Bool:=match x.g with
 |none=>if m.kind=14 then af6 x.r m else if m.kind=13∧gone x.r m.seq=true then okM x.r m else xy x.r m
 |some (a,b)=>if m.kind=12 then Zi x.r m else if gone x.r m.seq=true then Zh a b x.r m else UI a x.r m
def Gl (x:RJ):Bool:=match x.g with
 |none=>By x.r
 |some (_,b)=>decide (x.r.ak.nodes.length<1000000)&&(Bx x.r.an&&(decide (x.r.out.length<50000)&&(decide (x.r.role.succ≠0)&&(x.r.known&&(decide (x.r.bu<au x.r.an)&&((fm x.r.an x.r.bu 4).isNone&&(decide (x.r.want=0)&&decide (b.length<1000000))))))))
@[reducible] noncomputable def abH (x:RJ):TO:=match x.g with
 |none=>ie x.r
 |some (a,b)=>Cp a b x.r
@[reducible] noncomputable def stJ (x:RJ):Ob:=[(0,abH x)]
@[reducible] def af7 (y:RJ):TV→Ob→Nat→Prop:=RR (.tk 1) 2 [(0,abH (gR y)),(1,.arr 25 true (y.r.out.map bp))]
theorem jX {α:Type} {o:Option α} (h:o.isNone=true):o=none:=by cases o;rfl;cases h
theorem Jr {x:RJ} {m:Lr} (h:zA x m=true):VC E0 8 1 [.ptr 0 0,.agg (bp m)] (stJ x) (af7 (iX x m)):=by
 obtain⟨x,g⟩:=x;unfold zA at h;cases g with
 |none=>
  dsimp only at h;split at h
  ·rename_i hk;have et:iX ⟨x,none⟩ m=⟨jo (pW x m.seq m.data),none⟩:=if_pos hk;rw[et];simp only[af6,af5,Bool.and_eq_true,decide_eq_true_eq,Bool.not_eq_true',List.isEmpty_iff,List.all_eq_true]at h;obtain⟨⟨b0,b1,b2,b3,b4,b5,b6,b7,b8,b9⟩,h2,h3,h4,h5,h6,h7,h8,h9,Kv,Qw,JH,Vp,h14,h15,h16⟩:=h;have e:m=uB m.oI x.node x.ak.chain x.ak.aV 1 m.seq 0 m.data:=by
    obtain⟨m1,m2,m3,m4,m5,m6,m7,m8,m9,m10,m11,m12,m13⟩:=m;cases b0;cases b1;cases b2;cases b3;cases b4;cases b5;cases b6;cases b7;cases b8;cases b9;rfl
   rw[e];exact PZ x (jo (pW x m.seq m.data)) m.oI 1 m.seq 0 m.data h2 (jy h3) (jy h4) (by decide) Vp h5 (UC x m.oI x.node x.ak.chain x.ak.aV m.seq m.data (nd h6) om h8 h9 Kv Qw JH Vp h14 h15 h16)
  ·rename_i af8;split at h
   ·rename_i hk;have et:iX ⟨x,none⟩ m=⟨mw {Bw x m.seq with want:=0} (mW (au x.an) (BE x.st)) x.role.succ,some (au x.an,BE x.st)⟩:=by
     show(if m.kind=14 then _ else _)=_;rw[if_neg af8];exact if_pos hk
    rw[et];simp only[okM,Bool.and_eq_true,decide_eq_true_eq]at h;obtain⟨h1,h2,h3,h4⟩:=h;have A:=BF h1;rw[Gk]at h4 ⊢;rw[A.eq];exact PX (au x.an) (oL x.st) x _ m.oI m.num m.seq m.done m.slot A.right A.f A.n A.sl A.succ (XH x m.oI x.node x.ak.chain x.ak.aV m.num m.seq m.done m.slot (by have:=A.right.2.2.1;omega) A.an (by have:=A.out;omega) (jX h2) A.no A.nz (BA h3) h4)
   ·rename_i hk;have et:iX ⟨x,none⟩ m=⟨iu x m,none⟩:=by
     show(if m.kind=14 then _ else _)=_;rw[if_neg af8];exact if_neg hk
    rw[et];exact Ge h
 |some g=>
  obtain⟨a,b⟩:=g;dsimp only at h;split at h
  ·rename_i hk;have et:iX ⟨x,some (a,b)⟩ m=⟨tB x m.done m.us,some (a,b)⟩:=if_pos hk;rw[et];simp only[Zi,Bool.and_eq_true,decide_eq_true_eq,Bool.not_eq_true',List.all_eq_true,List.isEmpty_iff]at h;obtain⟨h1,h2,h3,h4,h5,h6,h7,h8,h9,Kv,Qw,JH,Vp,h14,h15,h16,h17,h18⟩:=h;rw[Nu hk h1];exact P0 a b x _ m.oI m.seq m.done m.us h2 (jy h3) (jy h4) h16 (List.all_eq_true.2 h5) h6 (LD a b x m.oI x.node x.ak.chain x.ak.aV m.seq m.done m.us (nd h7) (Gd h8) h9 Kv Qw JH Vp h14 h15 h16 (fun u hu=>⟨(h17 u hu).1,Gc (h17 u hu).2⟩) h18)
  rename_i af9;split at h
  ·rename_i hg;have et:iX ⟨x,some (a,b)⟩ m=⟨mw (Bw x m.seq) (mW a b) x.role.succ,some (a,b)⟩:=by
    show(if m.kind=12 then _ else _)=_;rw[if_neg af9];exact if_pos hg
   rw[et];simp only[Zh,Bool.and_eq_true,decide_eq_true_eq]at h;obtain⟨h1,h2,h3,h4,h5,h6⟩:=h;have A:=BF h1;rw[A.eq];exact PY a b x _ m.oI m.num m.seq m.done m.slot A.right A.f A.n A.sl A.succ (XJ a b x m.oI x.node x.ak.chain x.ak.aV m.num m.seq m.done m.slot (by have:=A.right.2.2.1;omega) A.an (by have:=A.out;omega) (jX h2) A.no A.nz h3 h4 h5 h6)
  ·rename_i hg;have et:iX ⟨x,some (a,b)⟩ m=⟨{Bw x m.seq with want:=0},none⟩:=by
    show(if m.kind=12 then _ else _)=_;rw[if_neg af9];exact if_neg hg
   rw[et];simp only[UI,Bool.and_eq_true,decide_eq_true_eq]at h;obtain⟨h1,⟨h2,U6⟩,h3,h4⟩:=h;have A:=BF h1;obtain⟨l,hl⟩:∃l,fm x.an (max x.bu m.seq) 0=some l:=by
    unfold gone at hg;cases hf:fm x.an (max x.bu m.seq) 0 with
    |none=>rw[hf]at hg;exact absurd rfl hg
    |some l=>exact⟨l,rfl⟩
   have e:m=kL m.oI x.node x.ak.chain x.ak.aV a m.seq m.done 0:=by have:=A.eq;rw[h2,U6]at this;exact this
   rw[e];exact LI a b x _ m.oI a m.seq m.done 0 A.right A.f A.n (by decide) A.succ (XI a b x m.oI x.node x.ak.chain x.ak.aV m.seq m.done (by have:=A.right.2.2.1;omega) A.an l hl A.no h3 h4)
@[reducible] def aga (x:RJ):TV→Ob→Nat→Prop:=fun r o c=>
 (nf x=x∧r= .sl 0 [] true∧c=1∧o=stJ x)∨(r= .tk 1∧c=2∧o=[(0,abH (gR (nf x))),(1,.arr 25 true ((nf x).r.out.map bp))])
theorem UJ {x:RJ} (h:Gl x=true):VC E0 17 1 [.ptr 0 0] (stJ x) (aga x):=by
 obtain⟨x,g⟩:=x;unfold Gl at h;cases g with
 |none=>
  refine VC.mono (Bz h) ?_;rintro r o c (⟨h0,h1,h2,h3⟩|⟨_,h1,h2,h3⟩)
  ·refine .inl ⟨?_,h1,h2,h3⟩;show(⟨cq x,none⟩:RJ)=_;unfold cq;rw[if_pos h0]
  ·exact .inr ⟨h1,h2,h3⟩
 |some g=>
  obtain⟨a,b⟩:=g;simp only[Bool.and_eq_true,decide_eq_true_eq]at h;obtain⟨h1,h2,h3,h4,h5,h6,h7,h8,h9⟩:=h;refine VC.mono (Uh a b x h1 (nd h2) om h4 h5 h6 (jX h7) h8 h9) ?_;rintro r o c ⟨h1,h2,h3⟩;exact .inr ⟨h1,h2,h3⟩
def tJ (n:Nat) (all:List RS) (i:Nat):Wd:=match all[0]? with
 |some x=>(all.set 0 (bE (iu x (nM (eU n) 1 1 i))),(iu x (nM (eU n) 1 1 i)).out,[])
 |none=>(all,[],[])
def UK (n:Nat) (all:List RS) (i:Nat):Bool:=match all[0]? with
 |some x=>xy x (nM (eU n) 1 1 i)
 |none=>false
def Gm (n:Nat):Nat→List RS
 |0=>FE n
 |i+1=>(l9 (tJ n (Gm n i) (i+1)) (2*n+2)).1
def okP (n:Nat) (all:List RS) (i:Nat):Bool:=decide (all.length=n)&&(UK n all i&&okN (tJ n all i) (2*n+2))
structure WJ where
 all:List RJ
 late:RS
 said:List Lr
def yF (n:Nat) (w:WJ) (m:Lr):WJ:=if m.to=(n:Int)+1 then⟨w.all,bE (iX ⟨w.late,none⟩ m).r,w.said++(iX ⟨w.late,none⟩ m).r.out⟩else match w.all[(m.to - 1).toNat]? with
 |some x=>⟨w.all.set (m.to - 1).toNat (gR (iX x m)),w.late,w.said++(iX x m).r.out⟩
 |none=>w
def pX (n:Nat) (w:WJ) (i:Nat):WJ:=if i=n then⟨w.all,bE (cq w.late),w.said++(cq w.late).out⟩else match w.all[i]? with
 |some x=>⟨w.all.set i (gR (nf x)),w.late,w.said++(nf x).r.out⟩
 |none=>w
def Gn (n:Nat) (w:WJ) (m:Lr):Bool:=decide (w.said.length≤1000)&&(decide (1≤m.to∧m.to≤(n:Int)+1)&&(if m.to=(n:Int)+1 then zA ⟨w.late,none⟩ m&&((iX ⟨w.late,none⟩ m).g.isNone&&decide ((iX ⟨w.late,none⟩ m).r.out.length≤1000))else match w.all[(m.to - 1).toNat]? with
 |some x=>zA x m&&decide ((iX x m).r.out.length≤1000)
 |none=>false))
def zB (n:Nat) (w:WJ) (i:Nat):Bool:=decide (w.said.length≤1000)&&(if i=n then By w.late&&(decide ((cq w.late).out.length≤1000)&&w.late.out.isEmpty)else match w.all[i]? with
 |some x=>Gl x&&(decide ((nf x).r.out.length≤1000)&&x.r.out.isEmpty)
 |none=>false)
def UL (n:Nat) (w:WJ):WJ:=w.said.foldl (yF n) ⟨w.all,w.late,[]⟩
def BG (n:Nat) (w:WJ):WJ:=(List.range (n+1)).foldl (pX n) (UL n w)
def me (n:Nat) (w:WJ):Bool:=decide (w.said.length≤1000)&&(uJ (yF n) (Gn n) w.said ⟨w.all,w.late,[]⟩&&uJ (pX n) (zB n) (List.range (n+1)) (UL n w))
def turns (n:Nat) (w:WJ):Nat→WJ
 |0=>w
 |r+1=>BG n (turns n w r)
theorem rO (n:Nat) (w:WJ):∀r,turns n w (r+1)=turns n (BG n w) r
 |0=>rfl
 |r+1=>by
  show BG n (turns n w (r+1))=BG n (turns n (BG n w) r);rw[rO n w r]
def Gp (x:RS):Bool:=x.out.isEmpty&&(decide (x.role.succ=0)||(x.known&&(!decide (x.bu<au x.an)&& !(decide (x.role.succ∈x.ak.nodes)&&(decide (0<l4 x.an)||x.ak.fresh)))))
theorem D5 {x:RS} (h:Gp x=true):cq x=x∧bE x=x∧x.out=[]:=by
 simp only[Gp,Bool.and_eq_true,List.isEmpty_iff,Bool.or_eq_true,decide_eq_true_eq,Bool.not_eq_true',decide_eq_false_iff_not,Bool.and_eq_false_iff,Bool.or_eq_false_iff]at h;obtain⟨h1,h2⟩:=h;refine⟨?_,by obtain⟨x1,x2,x3,x4,x5,x6,x7,x8,x9,xa,xb,xc⟩:=x;cases h1;rfl,h1⟩;unfold cq;rcases h2 with h2|⟨h2,h3,h4⟩
 ·rw[if_pos h2]
 ·by_cases h5:x.role.succ=0
  ·rw[if_pos h5]
  ·rw[if_neg h5,if_neg];rintro(q|q|⟨q1,q2|q2⟩)
   ·rw[h2]at q;cases q
   ·exact h3 q
   ·rcases h4 with h4|⟨h4,_⟩
    ·exact h4 q1
    ·exact h4 q2
   ·rcases h4 with h4|⟨_,h4⟩
    ·exact h4 q1
    ·rw[h4]at q2;cases q2
def xB (w:WJ):Bool:=w.said.isEmpty&&(w.all.all (fun x=>x.g.isNone&&Gp x.r)&&Gp w.late)
theorem LM {n:Nat} {w:WJ} (h:xB w=true) (i:Nat):pX n w i=w:=by
 obtain⟨all,late,said⟩:=w;simp only[xB,Bool.and_eq_true,List.isEmpty_iff,List.all_eq_true]at h;obtain⟨rfl,h2,h3⟩:=h;unfold pX;split
 ·obtain⟨q1,q2,q3⟩:=D5 h3;rw[q1,q2,q3];rfl
 ·dsimp only
  split
  ·rename_i x hx;obtain⟨hg,hq⟩:=h2 x (List.mem_of_getElem? hx);obtain⟨q1,q2,q3⟩:=D5 hq;obtain⟨r,g⟩:=x;have hg:g=none:=jX hg;subst hg;have e1:nf ⟨r,none⟩=⟨r,none⟩:=by show(⟨cq r,none⟩:RJ)=_;rw[q1]
   have e2:gR ⟨r,none⟩=⟨r,none⟩:=by show(⟨bE r,none⟩:RJ)=_;rw[q2]
   obtain⟨hj,hx⟩:=List.getElem?_eq_some_iff.1 hx;rw[e1,e2,q3,←hx,List.set_getElem_self hj];rfl
  ·rfl
theorem LN {n:Nat} {w:WJ} (h:xB w=true):BG n w=w:=by
 have key:∀l:List Nat,l.foldl (pX n) w=w:=by
  intro l
  induction l with
  |nil=>rfl
  |cons i l ih=>rw[List.foldl_cons,LM h,ih]
 obtain⟨all,late,said⟩:=w;have h1:said=[]:=by
  simp only[xB,Bool.and_eq_true,List.isEmpty_iff]at h;exact h.1
 subst h1;exact key _
theorem rP {n:Nat} {w:WJ} (h:xB w=true):∀r,turns n w r=w
 |0=>rfl
 |r+1=>by show BG n (turns n w r)=w;rw[rP h r,LN h]
def yG (n:Nat):Nat→WJ→WJ×Bool
 |0,w=>(w,true)
 |r+1,w=>if xB w=true then(w,me n w)else(match yG n r (BG n w)with|(w',b)=>(w',me n w&&b))
theorem BH {n:Nat}:∀{r:Nat} {w:WJ},(yG n r w).2=true→turns n w r=(yG n r w).1∧∀q,q<r→me n (turns n w q)=true
 |0,w,_=>⟨rfl,fun q h=>absurd h (Nat.not_lt_zero _)⟩
 |r+1,w,h=>by
  unfold yG at h ⊢;split at h
  ·rename_i hq;rw[if_pos hq];exact⟨rP hq _,fun q _=>by rw[rP hq];exact h⟩
  ·rename_i hq;rw[if_neg hq];simp only[Bool.and_eq_true]at h;obtain⟨h1,h2⟩:=BH h.2;refine⟨by rw[rO];exact h1,fun q bw=>?_⟩;cases q with
   |zero=>exact h.1
   |succ q=>rw[rO];exact h2 q om
def iY (n:Nat):CF:=⟨0,2,(eU n).nodes,false,(n:Int)+1⟩
def iZ (n:Nat):CF:=⟨0,3,(eU n).nodes++[(n:Int)+1],true,0⟩
def rQ (x:RS) (c:CF):Bool:=tH (vZ x c)&&((decide (x.ak.aV=0)&&((bh c x.node).Bm||(bh c x.node).jm))||(decide (x.ak.aV≠0)&&(decide (x.ak.chain=c.chain)&&decide (x.ak.aV<c.aV))))
theorem sQ {x:RS} {c:CF} (H:bV c) (h:rQ x c=true):VC E0 21 1 [.ptr 0 0,.agg (dm c)] (iz x) (RR (.cB [.tk 1,.s (.bool true)]) 2 [(0,ie (bE (gq x c))),(1,.arr 25 true ((gq x c).out.map bp))]):=by
 simp only[rQ,Bool.and_eq_true,Bool.or_eq_true,decide_eq_true_eq]at h;exact UH x c H (kq h.1) h.2
@[reducible] def NB (x:RJ) (c:CF):RJ:=⟨bE (gq x.r c),none⟩
def w2J (n:Nat) (all:List RS):WJ:=⟨all.map fun x=>NB ⟨x,none⟩ (iY n),bE (gq (X2 ((n:Int)+1)) (iY n)),[]⟩
def w3J (n:Nat) (w:WJ):WJ:=⟨w.all.map fun x=>NB x (iZ n),bE (gq w.late (iZ n)),[]⟩
def Gq (x:RS):Bool:=x.role.tail&&(decide (x.ak.join≠0)&&(x.known&&decide (x.bu=au x.an)))
def LO (x:RS):Bool:=Jk x&&decide ((BE x.st).length<1000000)
def mid (n v:Nat) (w:WJ):Bool:=decide (w.all.length=n)&&(w.all.all (fun x=>x.g.isNone&&rQ x.r (iZ n))&&(rQ w.late (iZ n)&&((match w.all[n - 1]? with
 |some t=>Gq t.r&&Bx t.r.an
 |none=>false)&&(decide (w.late.st.e=(v:Int))&& !w.late.dq))))
def agb (n v:Nat) (w:WJ):Bool:=decide (w.all.length=n)&&(w.late.dq&&(w.late.role.tail&&(decide (w.late.st.e=(v:Int))&&(match w.all[0]? with
 |some h=>h.g.isNone&&(LO w.late&&(LO h.r&&decide (BE w.late.st=BE h.r.st)))
 |none=>false))))
def abI (n v:Nat) (all:List RS):Bool:=decide (all.length=n)&&(all.all (fun x=>rQ x (iY n))&&(rQ (X2 ((n:Int)+1)) (iY n)&&(match yG n 60 (w2J n all)with
 |(w,b)=>b&&(mid n v w&&(match yG n 6 (w3J n w)with
  |(w',b')=>b'&&agb n v w')))))
set_option maxHeartbeats 4000000
@[reducible] noncomputable def ajT (x:RS) (k:Nat):TO:=.cells [.s (.int .i64 x.node),.s (.int .i64 x.ak.chain),.s (.int .u64 x.ak.aV),.sl 1 (x.ak.nodes.map fo) false,.s (.bool x.ak.fresh),.s (.int .i64 x.ak.join),
 .s (.bool x.role.Bm),.s (.bool x.role.jm),.s (.bool x.role.head),.s (.bool x.role.tail),.s (.bool x.role.waits),.s (.int .i64 x.role.place),.s (.int .i64 x.role.pred),.s (.int .i64 x.role.succ),
 .ptr k 0,.own (aa7 x.an),.s (.int .u64 x.base),.s (.bool x.dq),.s (.int .u64 x.bu),.s (.bool x.known),Ja,.s (.int .i64 x.want),.own (Vn x.comes),.own (.arr 25 true (x.out.map bp))]
theorem BI (x:RS):VC E0 14 1 [.ptr 0 0] (iz x) (RR (.ptr 1 0) 2 [(0,ajT x 1),(1,abb x.st)]):=by
 refine en L0 Tryz.f14 ?_
 repeat((first|(refine⟨fun h_=>?_,fun h_=>?_⟩)|(refine aU (fun h_=>?_) (fun h_=>?_))|(refine aT (fun h_=>?_) (fun h_=>?_)))<;>first|(exfalso;revert h_;decide;done)|(exact absurd rfl h_)|(have dw:=True.intro;clear dw;(conv=>whnf)))
 exact⟨[],[some 0,some 1],_,_,_,t3,rfl,rfl,rfl⟩
theorem NC (x:RS):VC E0 11 1 [.ptr 0 0] (iz x) (RR (.s (.int .u64 x.st.e)) 1 (iz x)):=by
 have bW:=I9 x.st;refine en L0 Tryz.f11 ?_;refine⟨[],[some 0],_,_,_,_,BI x,t3,cw ?_⟩;refine⟨[],[some 2],_,_,_,_,bW,t3,cw ?_⟩;exact⟨[],[some 0],_,_,_,t3,rfl,rfl,rfl⟩
theorem X4 (l:List Int) (hl:l.length<1000000):VC E0 13 0 [.sl 1 (bm l) false,.sl 1 (bm l) false] [] (RR (.s (.bool true)) 0 []):=by
 refine en L0 Tryz.f13 ?_;refine sp ?_ ?_<;>intro Zx
 ·exact absurd rfl Zx
 refine wh ?_;refine⟨fun k f o c=>∃i:Nat,i≤l.length∧k=l.length - i∧c=0∧f=[(0,.sl 1 (bm l) false),(1,.sl 1 (bm l) false),(5,.s (.int .i64 i))]∧o=[],⟨l.length,?_⟩,?_⟩
 ·exact⟨[],[],_,_,_,t3,⟨0,Nat.zero_le _,rfl,rfl,rfl,rfl⟩⟩
 ·rintro k f1 o1 c1 ⟨i,hi,rfl,rfl,rfl,rfl⟩;refine wh ?_;refine sp ?_ ?_<;>intro h
  ·have h:i<l.length:=Iq.1 h;refine wh ?_;refine oB h ?_;refine wh ?_;refine oB h ?_;refine wh ?_;refine sp ?_ ?_<;>intro hv
   ·exact absurd rfl hv
   ·refine wh ?_;have lM:IntKind.i64.wrap ((i:Int)+1)=((i+1:Nat):Int):=IntWalk.i64_in _ om;rw[lM];refine⟨l.length - (i+1),?_,om⟩;exact⟨[],[],_,_,_,t3,⟨i+1,h,rfl,rfl,rfl,rfl⟩⟩
  ·refine wh ?_;exact⟨[],[],_,_,_,t3,rfl,rfl,rfl⟩
theorem UM (n:Int) (_:0≤n∧n≤1000):IntKind.u8.wrap n=n % 256:=rfl
theorem UN (c:CF) (to ao num:Int) (hc:1≤ao∧ao≤6) (hn:0≤num∧num≤1000):VC E0 9 0 [.agg (dm c),.s (.int .i64 to),.s (.int .i64 ao),.s (.int .u64 num)] [] (RR (.agg (bp (nM c to ao num))) 0 []):=by
 have h1:num.tmod 5=num % 5:=Int.tmod_eq_emod_of_nonneg hn.1;have h2:IntKind.i64.wrap (200+ao)=200+ao:=IntWalk.i64_in _ om;refine en L0 Tryz.f9 ?_;rw[h1,h2,IntWalk.u32_in _ (show _ by omega),UM ao om,UM num om];exact⟨[4],[],_,_,_,t3,rfl,rfl,rfl⟩
@[reducible] def ndK (k:Nat):List Int:=(List.range k).map fun(i:Nat)=>(i:Int)+1
theorem UO (k:Nat):ndK (k+1)=ndK k++[(k:Int)+1]:=by unfold ndK;rw[List.range_succ,List.map_append];rfl
@[reducible] def X5 (n k:Nat):List RS:=(List.range k).map fun(i:Nat)=>Bo ((i:Int)+1) (eU n)
theorem Js (n k:Nat):X5 n (k+1)=X5 n k++[Bo ((k:Int)+1) (eU n)]:=by unfold X5;rw[List.range_succ,List.map_append];rfl
theorem X6 (n k:Nat):(X5 n k).length=k:=by simp[X5]
@[reducible] noncomputable def iN (x:RS):List TV:=[.own (ie x)]
@[reducible] noncomputable def Jt (l:List RS):TO:=.cF 1 (l.map iN) []
@[reducible] def agc (l:List Int):TO:=.cells [.s (.int .i64 0),.s (.int .u64 1),.own (.arr 1 true (l.map fo)),.s (.bool false),.s (.int .i64 0)]
theorem agd (n k:Nat) (y:List TV):(((X5 n k).map iN++[y]).set (((X5 n k).map iN).length+0) (iN (Bo ((k:Nat)+1) (eU n))))=(X5 n (k+1)).map iN:=by
 rw[Js,List.map_append,List.set_append_right _ _ (by simp)];simp
theorem okB:∀n∈[1,2,3,4,5],bV (eU n)∧∀i<n,(bh (eU n) ((i:Int)+1)).Bm=true:=by decide+kernel
@[reducible] def ajU:Nat→List Int→TV
 |0,l=>.own (.arr 1 true (l.map fo))
 |_+1,l=>.sl 1 (l.map fo) false
theorem UP (n:Nat) (hn:n∈[1,2,3,4,5]):VC E0 7 0 [.s (.int .i64 n)] [] (RR (.cB [.agg (dm (eU n)),.tk 0]) 1 [(0,Jt (FE n))]):=by
 have hn5:1≤n∧n≤5:=by simp at hn;omega
 obtain⟨hR,hI⟩:=okB n hn;refine en L0 Tryz.f7 ?_;refine⟨fun kk f o c=>∃k:Nat,k≤n∧kk=n - k∧c=2∧f=[(0,.s (.int .i64 n)),(2,.ptr 0 0),(4,.ptr 1 0),(5,.sl 0 [] true),(6,.s (.int .i64 ((k:Int)+1)))]∧o=[(0,.cells FZ),(1,agc (ndK k))],⟨n,?_⟩,?_⟩
 ·exact⟨[],[some 0,some 1],_,_,_,t3,⟨0,Nat.zero_le _,rfl,rfl,rfl,rfl⟩⟩
 rintro kk f1 o1 c1 ⟨k,hk,rfl,rfl,rfl,rfl⟩;refine wh ?_;refine sp ?_ ?_<;>intro bw
 ·have bw:(k:Int)+1≤n:=bw;have lM:IntKind.i64.wrap ((k:Int)+1+1)=((k+1:Nat):Int)+1:=IntWalk.i64_in _ om;refine wh ?_;refine⟨by simp<;>omega,?_⟩;refine wh ?_;rw[lM];refine⟨n - (k+1),?_,om⟩;refine⟨[],[some 0,some 1],?_⟩
  iterate 3 constructor
  refine⟨⟨?_,?_,?_⟩,⟨k+1,om,rfl,rfl,rfl,rfl⟩⟩
  all_goals(repeat' first|exact LF|constructor)
  all_goals exact Lz.of (by show _=(ndK (k+1)).map fo;rw[UO,List.map_append];rfl)
 have bw:¬(k:Int)+1≤n:=bw;obtain rfl:k=n:=by omega
 clear bw hk;refine wh ?_;refine⟨fun kk f o c=>∃j:Nat,j≤k∧kk=k - j∧c=3∧f=[(0,.s (.int .i64 k)),(2,.ptr 0 0),(4,.ptr 1 0),(5,.tk 2),(7,.s (.int .i64 ((j:Int)+1)))]∧o=[(0,.cells FZ),(1,.cells [.s (.int .i64 0),.s (.int .u64 1),ajU j (ndK k),.s (.bool false),.s (.int .i64 0)]),(2,Jt (X5 k j))],⟨k,?_⟩,?_⟩
 ·exact⟨[],[some 0,some 1,none],_,_,_,t3,⟨0,Nat.zero_le _,rfl,rfl,rfl,rfl⟩⟩
 rintro kk f1 o1 c1 ⟨j,hj,rfl,rfl,rfl,rfl⟩;have Qs:=fun bw:(j:Int)+1≤k=>X1 (eU k) ((j:Int)+1) hR om rfl (hI j om);have lM:IntKind.i64.wrap ((j:Int)+1+1)=((j+1:Nat):Int)+1:=IntWalk.i64_in _ om;have OM:=Js k j;have QF:=X6 k j;cases j with
 |zero=>
  refine wh ?_;refine sp ?_ ?_<;>intro bw
  ·refine wh ?_;refine⟨[3],[],_,_,_,_,Qs bw,t3,cw ?_⟩;refine⟨by simp<;>omega,?_⟩;refine wh ?_;rw[lM];refine⟨k - (0+1),?_,om⟩;refine⟨[],[some 0,some 1,some 6],_,_,_,⟨tq,.cons tq (.cons tq (.cons (.cF (oQ:=[(_,iN (Bo ((0:Nat)+1) (eU k)))]) .one (Lw.of (agd k 0 _)) (.q1 tq)) .nil)),by rfl⟩,⟨0+1,om,rfl,rfl,rfl,rfl⟩⟩
  ·exact absurd (show((0:Nat):Int)+1≤k from by omega) bw
 |succ j=>
  refine wh ?_;refine sp ?_ ?_<;>intro bw
  ·refine wh ?_;refine⟨[],[],_,_,_,_,Qs bw,t3,cw ?_⟩;refine⟨by simp<;>omega,?_⟩;refine wh ?_;rw[lM];refine⟨k - ((j+1)+1),?_,om⟩;refine⟨[],[some 0,some 1,some 5],_,_,_,⟨tq,.cons tq (.cons tq (.cons (.cF (oQ:=[(_,iN (Bo (((j+1):Nat)+1) (eU k)))]) .one (Lw.of (agd k (j+1) _)) (.q1 tq)) .nil)),by rfl⟩,⟨(j+1)+1,om,rfl,rfl,rfl,rfl⟩⟩
  have bw:¬((j+1:Nat):Int)+1≤k:=bw;obtain rfl:j+1=k:=by omega
  refine wh ?_;exact⟨[],[some 2],_,_,_,t3,rfl,rfl,rfl⟩
end Go.M
