/-
  Part 16 of the library that the proof leans on.
-/
import Derived.Test.YtjklkjjfnipcnaaGreatDoorL12
import Derived.Test.YtjklkjjfnipcnaaGreatDoorL13
import Derived.Test.YtjklkjjfnipcnaaGreatDoorL14
import Derived.Test.YtjklkjjfnipcnaaGreatDoorL15
import Derived.Sort.LotD3
import Derived.Sort.LotA
import Derived.Sort.LotB
noncomputable section
namespace Go.M
open Go Go.Proofs
set_option maxRecDepth 100000
set_option maxHeartbeats 4000000
open Go.Sort (ltInt PermIn SortedIn Below)
structure GG (a b:Nat) (d:Array Int) (a1 b1:Nat) (e:Array Int):Prop where
 lo:a≤a1
 md:a1≤b1
 hi:b1≤b
 sz:e.size=d.size
 bl:Below ltInt a1 b1 e
 fin:∀R,PermIn a1 b1 e R→SortedIn ltInt a1 b1 R→PermIn a b d R∧SortedIn ltInt a b R
theorem GG.perm {a b a1 b1:Nat} {d e e':Array Int} (H:GG a b d a1 b1 e) (hb:b≤d.size) (hp:PermIn a1 b1 e e'):GG a b d a1 b1 e':=
 ⟨H.lo,H.md,H.hi,hp.1.trans H.sz,H.bl.perm (by have:=H.sz;have:=H.hi;omega) hp,fun R h1 h2=>H.fin R (Sort.permIn_trans _ _ _ _ _ hp h1) h2⟩
theorem GG.eq {a b a1 b1 p mid:Nat} {d e e4:Array Int} (H:GG a b d a1 b1 e) (hb:b≤d.size) (h0:0<a1) (sV:a1≤p) (rG:p<b1) (hn:ltInt e[a1 - 1]! e[p]! =false) (hx:Sort.partitionEqual ltInt e a1 b1 p=(mid,e4)):a1<mid∧GG a b d mid b1 e4:=by
 have:=H.sz;have:=H.hi;have:=H.lo;obtain⟨q1,q2,q3,q4,q5⟩:=Sort.round_eq Sort.swo_ltInt (Sort.partitionEqual_holds _) h0 sV rG om H.bl hn hx;exact⟨q1,om,q2,H.hi,q3.trans H.sz,q4,fun R h1 h2=>let⟨r1,r2⟩:=q5 R h1 h2;H.fin R r1 r2⟩
theorem GG.part {a b a1 b1 p mid:Nat} {ap:Bool} {d e e4:Array Int} (H:GG a b d a1 b1 e) (hb:b≤d.size) (sV:a1≤p) (rG:p<b1) (hx:Sort.partition ltInt e a1 b1 p=(mid,ap,e4)):
 a1≤mid∧mid<b1∧e4.size=d.size∧Below ltInt a1 mid e4∧Below ltInt (mid+1) b1 e4∧(∀L,PermIn a1 mid e4 L→SortedIn ltInt a1 mid L→GG a b d (mid+1) b1 L)∧(∀L,PermIn (mid+1) b1 e4 L→SortedIn ltInt (mid+1) b1 L→GG a b d a1 mid L):=by
 have:=H.sz;have:=H.hi;have:=H.lo;obtain⟨q1,q2,q3,q4,q5,q6,q7⟩:=Sort.round_part Sort.swo_ltInt (Sort.partition_holds _) sV rG om H.bl hx;refine⟨q1,q2,q3.trans H.sz,q4,q5,fun L h1 h2=>?_,fun L h1 h2=>?_⟩
 ·obtain⟨r1,r2⟩:=q6 L h1 h2;exact⟨om,om,H.hi,h1.1.trans (q3.trans H.sz),r1,fun R h3 h4=>let⟨s1,s2⟩:=r2 R h3 h4;H.fin R s1 s2⟩
 ·obtain⟨r1,r2⟩:=q7 L h1 h2;exact⟨H.lo,q1,om,h1.1.trans (q3.trans H.sz),r1,fun R h3 h4=>let⟨s1,s2⟩:=r2 R h3 h4;H.fin R s1 s2⟩
theorem ID (d:Array Int) (a b:Nat) {x:Int} {p:Nat} (e:x=p) (ha:a<b) (hb:b≤d.size) (sV:a≤p) (rG:p<b) (hl:d.size<1000000):VC ES 132 1 [.tk 0,nI a,nI b,.s (.int .i64 x)] [(0,bD d)]
 (fun r o c=>∃mid e4,Sort.partitionEqual ltInt d a b p=(mid,e4)∧r=nI mid∧c=1∧o=[(0,bD e4)]):=by
 subst e;exact(FM d a b p ha hb sV rG hl).mono fun r o c ⟨h1,h2,h3⟩=>⟨_,_,rfl,h1,h2,h3⟩
theorem IE (d:Array Int) (a b:Nat) {x:Int} {p:Nat} (e:x=p) (ha:a<b) (hb:b≤d.size) (sV:a≤p) (rG:p<b) (hl:d.size<1000000):VC ES 133 1 [.tk 0,nI a,nI b,.s (.int .i64 x)] [(0,bD d)]
 (fun r o c=>∃mid ap e4,Sort.partition ltInt d a b p=(mid,ap,e4)∧r= .dH [nI mid,.s (.bool ap)]∧c=1∧o=[(0,bD e4)]):=by
 subst e;exact(KK d a b p ha hb sV rG hl).mono fun r o c ⟨h1,h2,h3⟩=>⟨_,_,_,rfl,h1,h2,h3⟩
@[reducible] def QQ (d:Array Int) (a b:Nat):TV→Ob→Nat→Prop:=fun r o c=>∃e,(PermIn a b d e∧SortedIn ltInt a b e)∧r= .dH []∧c=1∧o=[(0,bD e)]
theorem NO:∀(n:Nat) (d:Array Int) (a b:Nat) (KN:Int),b - a≤n→a≤b→b≤d.size→d.size<4096→Below ltInt a b d→
 VC ES 85 1 [.tk 0,nI a,nI b,.s (.int .i64 KN)] [(0,bD d)] (QQ d a b):=by
 intro n
 induction n using Nat.strongRecOn with
 |ind n Xm=>
  intro d a b KN hn Qr hb hl hB;have ih:∀(d:Array Int) (x y:Nat) (KN:Int),y - x<b - a→x≤y→y≤d.size→d.size<4096→Below ltInt x y d→VC ES 85 1 [.tk 0,nI x,nI y,.s (.int .i64 KN)] [(0,bD d)] (QQ d x y):=fun d x y KN h=>Xm (y - x) om d x y KN (Nat.le_refl _);refine VC.bo LS (show ES.func 85=some Tryz.f85 by kernel_rfl) (fun _ _=>rfl) rfl rfl [] ?_;refine wh ?_;refine⟨fun k f o c=>∃(a1 b1:Nat) (e:Array Int) (lm:Int) (wb wp:Bool),k=b1 - a1∧GG a b d a1 b1 e∧c=1∧f=[(0,.tk 0),(1,nI a1),(2,nI b1),(3,.s (.int .i64 lm)),(8,.s (.bool wb)),(9,.s (.bool wp))]∧o=[(0,bD e)],⟨b - a,?_⟩,?_⟩
  ·exact⟨[],[some 0],_,_,_,t3,⟨a,b,d,KN,true,true,rfl,⟨Nat.le_refl _,Qr,Nat.le_refl _,rfl,hB,fun R h1 h2=>⟨h1,h2⟩⟩,rfl,rfl,rfl⟩⟩
  rintro k f1 o1 c1 ⟨a1,b1,e,lm,wb,wp,rfl,hg,rfl,rfl,rfl⟩;have v7:=hg.lo;have Lt:=hg.md;have Gt:=hg.hi;have cI:=hg.sz;have kL:b1≤e.size:=by omega
  have hlen:IntKind.i64.wrap ((b1:Int) - (a1:Int))=((b1 - a1:Nat):Int):=wD om om;refine wh ?_;refine sp ?_ ?_<;>intro Iz
  ·have Iz:b1 - a1≤12:=by rw[hlen]at Iz;omega
   refine wh ?_;refine⟨[],[some 0],_,_,_,_,FL e a1 b1 om om om,t3,cw ?_⟩;exact⟨[],[some 0],_,_,_,t3,_,hg.fin _ (Sort.insertionSort_holds Sort.swo_ltInt e a1 b1 Lt kL).1 (Sort.insertionSort_holds Sort.swo_ltInt e a1 b1 Lt kL).2,rfl,rfl,rfl⟩
  ·have Iz:a1+12<b1:=by rw[hlen]at Iz;omega
   refine wh ?_;refine sp ?_ ?_<;>intro h0
   ·refine wh ?_;refine⟨[],[some 0],_,_,_,_,KJ e a1 b1 om om om,t3,cw ?_⟩;exact⟨[],[some 0],_,_,_,t3,_,hg.fin _ (Sort.heapSort_holds Sort.swo_ltInt e a1 b1 Lt kL).1 (Sort.heapSort_holds Sort.swo_ltInt e a1 b1 Lt kL).2,rfl,rfl,rfl⟩
   ·cases wb
    focus
     refine wh ?_;refine⟨[],[some 0],_,_,_,_,NN e a1 b1 Iz kL om,t3,?_⟩;rintro r o' c' ⟨d1,NP,rfl,rfl,rfl⟩
     replace hg:=hg.perm hb NP
     have cI:=hg.sz;refine wh ?_;refine⟨[],[some 0],_,_,_,_,vz d1 a1 b1 om om om,t3,?_⟩;rintro r o' c' ⟨p,h,sV,rG,Ln,Vo,rfl,rfl,rfl⟩;refine wh ?_;refine sp ?_ ?_<;>intro QR
     focus
      refine wh ?_;refine⟨[],[some 0],_,_,_,_,pc d1 a1 b1 om om om,t3,cw ?_⟩;have hv:IntKind.i64.wrap (IntKind.i64.wrap ((b1:Int) - 1) - IntKind.i64.wrap ((p:Int) - (a1:Int)))=(((b1 - 1) - (p - a1):Nat):Int):=by rw[wS om om,wD om om,wD om om]
      replace hg:=hg.perm hb (Sort.reverseRange_holds d1 a1 b1 om om)
      have sV:a1≤(b1 - 1) - (p - a1):=by omega
      have rG:(b1 - 1) - (p - a1)<b1:=by omega
      generalize (b1 - 1) - (p - a1)=p2 at*
      generalize Sort.reverseRange d1 a1 b1=d2 at*
     rotate_left
     focus
      have hv:(p:Int)=(p:Int):=rfl;obtain⟨p2,NP⟩:∃x,x=p:=⟨_,rfl⟩;subst NP;obtain⟨d2,Gy⟩:∃x,x=d1:=⟨_,rfl⟩;subst Gy;refine wh ?_
     rotate_left
    rotate_left;rotate_left
    focus
     obtain⟨d1,Gy⟩:∃x,x=e:=⟨_,rfl⟩;subst Gy;cases wp
     focus
      refine wh ?_;refine⟨[],[some 0],_,_,_,_,vz d1 a1 b1 om om om,t3,?_⟩;rintro r o' c' ⟨p,h,sV,rG,Ln,Vo,rfl,rfl,rfl⟩;refine wh ?_;refine sp ?_ ?_<;>intro QR
      focus
       refine wh ?_;refine⟨[],[some 0],_,_,_,_,pc d1 a1 b1 om om om,t3,cw ?_⟩;have hv:IntKind.i64.wrap (IntKind.i64.wrap ((b1:Int) - 1) - IntKind.i64.wrap ((p:Int) - (a1:Int)))=(((b1 - 1) - (p - a1):Nat):Int):=by rw[wS om om,wD om om,wD om om]
       replace hg:=hg.perm hb (Sort.reverseRange_holds d1 a1 b1 om om)
       have sV:a1≤(b1 - 1) - (p - a1):=by omega
       have rG:(b1 - 1) - (p - a1)<b1:=by omega
       generalize (b1 - 1) - (p - a1)=p2 at*
       generalize Sort.reverseRange d1 a1 b1=d2 at*
      rotate_left
      focus
       have hv:(p:Int)=(p:Int):=rfl;obtain⟨p2,NP⟩:∃x,x=p:=⟨_,rfl⟩;subst NP;obtain⟨d2,Gy⟩:∃x,x=d1:=⟨_,rfl⟩;subst Gy;refine wh ?_
      rotate_left
     rotate_left;rotate_left
     focus
      refine wh ?_;refine⟨[],[some 0],_,_,_,_,vz d1 a1 b1 om om om,t3,?_⟩;rintro r o' c' ⟨p,h,sV,rG,Ln,Vo,rfl,rfl,rfl⟩;refine wh ?_;refine sp ?_ ?_<;>intro QR
      focus
       refine wh ?_;refine⟨[],[some 0],_,_,_,_,pc d1 a1 b1 om om om,t3,cw ?_⟩;have hv:IntKind.i64.wrap (IntKind.i64.wrap ((b1:Int) - 1) - IntKind.i64.wrap ((p:Int) - (a1:Int)))=(((b1 - 1) - (p - a1):Nat):Int):=by rw[wS om om,wD om om,wD om om]
       replace hg:=hg.perm hb (Sort.reverseRange_holds d1 a1 b1 om om)
       have sV:a1≤(b1 - 1) - (p - a1):=by omega
       have rG:(b1 - 1) - (p - a1)<b1:=by omega
       generalize (b1 - 1) - (p - a1)=p2 at*
       generalize Sort.reverseRange d1 a1 b1=d2 at*
      rotate_left
      focus
       have hv:(p:Int)=(p:Int):=rfl;obtain⟨p2,NP⟩:∃x,x=p:=⟨_,rfl⟩;subst NP;obtain⟨d2,Gy⟩:∃x,x=d1:=⟨_,rfl⟩;subst Gy;refine wh ?_
      rotate_left
      focus
       repeat((first|(refine⟨fun h_=>?_,fun h_=>?_⟩)|(refine rD (fun h_=>?_) (fun h_=>?_))|(refine rC (fun h_=>?_) (fun h_=>?_)))<;>first|(exfalso;revert h_;decide;done)|(exact absurd rfl h_)|(have iU:=True.intro;clear iU;(conv=>whnf)))
       refine⟨[],[some 0],_,_,_,_,Ea d2 a1 b1 om (by have:=hg.sz;omega) (by have:=hg.sz;omega),t3,?_⟩;rintro r o' c' ⟨rfl,rfl,rfl⟩;have iU:=True.intro;clear iU;cases QS:(Sort.partialInsertionSort ltInt d2 a1 b1).2;rotate_left
       ·have QT:=Sort.partialInsertionSort_holds Sort.swo_ltInt d2 a1 b1 om (by have:=hg.sz;omega) hg.bl;refine wh ?_;exact⟨[],[some 0],_,_,_,t3,_,hg.fin _ QT.1 (QT.2 QS),rfl,rfl,rfl⟩
       replace hg:=hg.perm hb (Sort.partialInsertionSort_holds Sort.swo_ltInt d2 a1 b1 om (by have:=hg.sz;omega) hg.bl).1
       clear QS;generalize (Sort.partialInsertionSort ltInt d2 a1 b1).1=d3 at*
       obtain⟨d2,zI⟩:∃x,x=d3:=⟨_,rfl⟩;subst zI;refine wh ?_
      rotate_left
      focus
       refine sp ?_ ?_<;>intro hh
       focus
        refine wh ?_;refine⟨[],[some 0],_,_,_,_,Ea d2 a1 b1 om (by have:=hg.sz;omega) (by have:=hg.sz;omega),t3,?_⟩;rintro r o' c' ⟨rfl,rfl,rfl⟩;have iU:=True.intro;clear iU;cases QS:(Sort.partialInsertionSort ltInt d2 a1 b1).2;rotate_left
        ·have QT:=Sort.partialInsertionSort_holds Sort.swo_ltInt d2 a1 b1 om (by have:=hg.sz;omega) hg.bl;refine wh ?_;exact⟨[],[some 0],_,_,_,t3,_,hg.fin _ QT.1 (QT.2 QS),rfl,rfl,rfl⟩
        replace hg:=hg.perm hb (Sort.partialInsertionSort_holds Sort.swo_ltInt d2 a1 b1 om (by have:=hg.sz;omega) hg.bl).1
        clear QS;generalize (Sort.partialInsertionSort ltInt d2 a1 b1).1=d3 at*
        obtain⟨d2,zI⟩:∃x,x=d3:=⟨_,rfl⟩;subst zI;refine wh ?_
       rotate_left
       focus
        refine wh ?_
    all_goals
     have cI:=hg.sz;refine sp ?_ ?_<;>intro Vp
     focus
      have Vp:0<a1:=by omega
      refine wh ?_;refine di (a1 - 1) (wS om om) om ?_;refine wh ?_;refine di p2 hv om ?_;refine wh ?_;refine⟨[],[],_,_,_,_,dq d2[a1 - 1]! d2[p2]!,t3,?_⟩;rintro r o' c' ⟨rfl,rfl,rfl⟩;have iU:=True.intro;clear iU;cases zK:ltInt d2[a1 - 1]! d2[p2]!
      focus
       refine wh ?_;refine⟨[],[some 0],_,_,_,_,ID d2 a1 b1 hv om om sV rG om,t3,?_⟩;rintro r o' c' ⟨mid,e4,hx,rfl,rfl,rfl⟩;obtain⟨q1,q2⟩:=hg.eq hb Vp sV rG zK hx;refine wh ?_;refine⟨b1 - mid,?_,by have:=q2.md;omega⟩;exact⟨[],[some 0],_,_,_,t3,⟨mid,b1,e4,_,_,_,rfl,q2,rfl,rfl,rfl⟩⟩
     focus
      refine wh ?_;refine⟨[],[some 0],_,_,_,_,IE d2 a1 b1 hv om om sV rG om,t3,?_⟩
     rotate_left
     focus
      refine wh ?_;refine⟨[],[some 0],_,_,_,_,IE d2 a1 b1 hv om om sV rG om,t3,?_⟩
    all_goals
     rintro r o' c' ⟨mid,ap,e4,hx,rfl,rfl,rfl⟩;obtain⟨q1,q2,q3,q4,q5,q6,q7⟩:=hg.part hb sV rG hx;refine wh ?_;refine sp ?_ ?_<;>intro Yj
     focus
      refine wh ?_;refine sp ?_ ?_<;>intro T5
      all_goals
       refine wh ?_;refine⟨[],[some 0],_,_,_,_,ih e4 a1 mid _ om q1 om om q4,t3,?_⟩;rintro r o' c' ⟨e5,⟨T6,RS⟩,rfl,rfl,rfl⟩;have q8:=q6 e5 T6 RS;refine wh ?_;refine⟨b1 - (mid+1),?_,om⟩;exact⟨[],[some 0],_,_,_,⟨by((repeat' first|exact LF|constructor);all_goals(exact Lz.int (wA om))),by((repeat' first|exact LF|constructor);all_goals(exact Lz.int (wA om))),by rfl⟩,⟨mid+1,b1,e5,_,_,_,rfl,q8,rfl,rfl,rfl⟩⟩
     rotate_left
     focus
      refine wh ?_;refine sp ?_ ?_<;>intro T5
      all_goals
       refine wh ?_;refine⟨[],[some 0],_,_,_,_,ih e4 (mid+1) b1 _ om om om om q5,⟨by((repeat' first|exact LF|constructor);all_goals(exact Lz.int (wA om))),by((repeat' first|exact LF|constructor);all_goals(exact Lz.int (wA om))),by rfl⟩,?_⟩;rintro r o' c' ⟨e5,⟨T6,RS⟩,rfl,rfl,rfl⟩;have q8:=q7 e5 T6 RS;refine wh ?_;refine⟨mid - a1,?_,om⟩;exact⟨[],[some 0],_,_,_,t3,⟨a1,mid,e5,_,_,_,rfl,q8,rfl,rfl,rfl⟩⟩
theorem IF (d:Array Int) (hl:d.size<4096):VC ES 53 1 [.tk 0] [(0,bD d)] (QQ d 0 d.size):=by
 refine VC.bo LS (show ES.func 53=some Tryz.f53 by kernel_rfl) (fun _ _=>rfl) rfl rfl [] ?_;refine wh ?_;refine⟨[],[],_,_,_,_,IB (x:=IntKind.u64.wrap (((d.toList.map fH).length:Nat):Int)) (n:=d.size) (by rw[List.length_map,Array.length_toList];exact IntWalk.u64_in _ om) om,t3,?_⟩;rintro r o' c' ⟨rfl,rfl,rfl⟩;refine wh ?_
 refine⟨[],[some 0],_,_,_,_,NO (d.size - 0) d 0 d.size _ (Nat.le_refl _) (Nat.zero_le _) (Nat.le_refl _) hl (.inl rfl),⟨by((repeat' first|exact LF|constructor);all_goals(exact Lz.int (by simp))),by((repeat' first|exact LF|constructor);all_goals(exact Lz.int (by simp))),by rfl⟩,?_⟩;rintro r o' c' ⟨e,h,rfl,rfl,rfl⟩;refine wh ?_;exact⟨[],[some 0],_,_,_,t3,e,h,rfl,rfl,rfl⟩
end Go.M
end
