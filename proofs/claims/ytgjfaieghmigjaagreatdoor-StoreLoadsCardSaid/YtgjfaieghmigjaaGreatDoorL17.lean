/-
  Part 17 of the library that the proof leans on.
-/
import Derived.Test.YtgjfaieghmigjaaGreatDoorL14
import Derived.Test.YtgjfaieghmigjaaGreatDoorL15
import Derived.Test.YtgjfaieghmigjaaGreatDoorL16
import Derived.Sort.LotD3
import Derived.Sort.LotA
import Derived.Sort.LotB
namespace Go.M
open Go Go.Proofs
set_option maxRecDepth 100000
set_option maxHeartbeats 4000000
open Go.Sort (ltInt PermIn SortedIn Below)
structure GG (a b:Nat) (d:Array Int) (a1 b1:Nat) (e:Array Int):Prop where
 lo:a≤a1
 md:a1≤b1
 hi:b1≤b
 sz:e.size=d.size
 bl:Below ltInt a1 b1 e
 fin:∀R,PermIn a1 b1 e R→SortedIn ltInt a1 b1 R→PermIn a b d R∧SortedIn ltInt a b R
theorem GG.perm {a b a1 b1:Nat} {d e e':Array Int} (H:GG a b d a1 b1 e) (hb:b≤d.size) (hp:PermIn a1 b1 e e'):GG a b d a1 b1 e':=
 ⟨H.lo,H.md,H.hi,hp.1.trans H.sz,H.bl.perm (by have:=H.sz;have:=H.hi;omega) hp,fun R h1 h2=>H.fin R (Sort.permIn_trans _ _ _ _ _ hp h1) h2⟩
theorem GG.eq {a b a1 b1 p mid:Nat} {d e e4:Array Int} (H:GG a b d a1 b1 e) (hb:b≤d.size) (h0:0<a1) (hp1:a1≤p) (hp2:p<b1) (hn:ltInt e[a1 - 1]! e[p]! =false) (hx:Sort.partitionEqual ltInt e a1 b1 p=(mid,e4)):a1<mid∧GG a b d mid b1 e4:=by
 have:=H.sz;have:=H.hi;have:=H.lo
 obtain⟨q1,q2,q3,q4,q5⟩:=Sort.round_eq Sort.swo_ltInt (Sort.partitionEqual_holds _) h0 hp1 hp2 (by omega) H.bl hn hx
 exact⟨q1,by omega,q2,H.hi,q3.trans H.sz,q4,fun R h1 h2=>let⟨r1,r2⟩:=q5 R h1 h2;H.fin R r1 r2⟩
theorem GG.part {a b a1 b1 p mid:Nat} {ap:Bool} {d e e4:Array Int} (H:GG a b d a1 b1 e) (hb:b≤d.size) (hp1:a1≤p) (hp2:p<b1) (hx:Sort.partition ltInt e a1 b1 p=(mid,ap,e4)):
 a1≤mid∧mid<b1∧e4.size=d.size∧Below ltInt a1 mid e4∧Below ltInt (mid+1) b1 e4∧(∀L,PermIn a1 mid e4 L→SortedIn ltInt a1 mid L→GG a b d (mid+1) b1 L)∧(∀L,PermIn (mid+1) b1 e4 L→SortedIn ltInt (mid+1) b1 L→GG a b d a1 mid L):=by
 have:=H.sz;have:=H.hi;have:=H.lo
 obtain⟨q1,q2,q3,q4,q5,q6,q7⟩:=Sort.round_part Sort.swo_ltInt (Sort.partition_holds _) hp1 hp2 (by omega) H.bl hx
 refine⟨q1,q2,q3.trans H.sz,q4,q5,fun L h1 h2=>?_,fun L h1 h2=>?_⟩
 ·obtain⟨r1,r2⟩:=q6 L h1 h2
  exact⟨by omega,by omega,H.hi,h1.1.trans (q3.trans H.sz),r1,fun R h3 h4=>let⟨s1,s2⟩:=r2 R h3 h4;H.fin R s1 s2⟩
 ·obtain⟨r1,r2⟩:=q7 L h1 h2
  exact⟨H.lo,q1,by omega,h1.1.trans (q3.trans H.sz),r1,fun R h3 h4=>let⟨s1,s2⟩:=r2 R h3 h4;H.fin R s1 s2⟩
theorem partEq_i (d:Array Int) (a b:Nat) {x:Int} {p:Nat} (e:x=p) (ha:a<b) (hb:b≤d.size) (hp1:a≤p) (hp2:p<b) (hl:d.size<1000000):VC ES 167 1 [.tk 0,nI a,nI b,.s (.int .i64 x)] [(0,arrK d)]
 (fun r o c=>∃mid e4,Sort.partitionEqual ltInt d a b p=(mid,e4)∧r=nI mid∧c=1∧o=[(0,arrK e4)]):=by
 subst e
 exact(partEq_ok d a b p ha hb hp1 hp2 hl).mono fun r o c ⟨h1,h2,h3⟩=>⟨_,_,rfl,h1,h2,h3⟩
theorem part_i (d:Array Int) (a b:Nat) {x:Int} {p:Nat} (e:x=p) (ha:a<b) (hb:b≤d.size) (hp1:a≤p) (hp2:p<b) (hl:d.size<1000000):VC ES 168 1 [.tk 0,nI a,nI b,.s (.int .i64 x)] [(0,arrK d)]
 (fun r o c=>∃mid ap e4,Sort.partition ltInt d a b p=(mid,ap,e4)∧r= .tup [nI mid,.s (.bool ap)]∧c=1∧o=[(0,arrK e4)]):=by
 subst e
 exact(part_ok d a b p ha hb hp1 hp2 hl).mono fun r o c ⟨h1,h2,h3⟩=>⟨_,_,_,rfl,h1,h2,h3⟩
@[reducible] def QQ (d:Array Int) (a b:Nat):TV→Ob→Nat→Prop:=fun r o c=>∃e,(PermIn a b d e∧SortedIn ltInt a b e)∧r= .tup []∧c=1∧o=[(0,arrK e)]
theorem pdq_ok:∀(n:Nat) (d:Array Int) (a b:Nat) (lim:Int),b - a≤n→a≤b→b≤d.size→d.size<4096→Below ltInt a b d→
 VC ES 150 1 [.tk 0,nI a,nI b,.s (.int .i64 lim)] [(0,arrK d)] (QQ d a b):=by
 intro n
 induction n using Nat.strongRecOn with
 |ind n ih0=>
  intro d a b lim hn hab hb hl hB
  have ih:∀(d:Array Int) (x y:Nat) (lim:Int),y - x<b - a→x≤y→y≤d.size→d.size<4096→Below ltInt x y d→VC ES 150 1 [.tk 0,nI x,nI y,.s (.int .i64 lim)] [(0,arrK d)] (QQ d x y):=fun d x y lim h=>ih0 (y - x) (by omega) d x y lim (Nat.le_refl _)
  refine VC.enterR LS (show ES.func 150=some Tryz.f150 by kernel_rfl) (fun _ _=>rfl) rfl rfl [] ?_
  conv=>whnf
  refine⟨fun k f o c=>∃(a1 b1:Nat) (e:Array Int) (lm:Int) (wb wp:Bool),k=b1 - a1∧GG a b d a1 b1 e∧c=1∧f=[(0,.tk 0),(1,nI a1),(2,nI b1),(3,.s (.int .i64 lm)),(8,.s (.bool wb)),(9,.s (.bool wp))]∧o=[(0,arrK e)],⟨b - a,?_⟩,?_⟩
  ·exact⟨[],[some 0],_,_,_,t3,⟨a,b,d,lim,true,true,rfl,⟨Nat.le_refl _,hab,Nat.le_refl _,rfl,hB,fun R h1 h2=>⟨h1,h2⟩⟩,rfl,rfl,rfl⟩⟩
  rintro k f1 o1 c1 ⟨a1,b1,e,lm,wb,wp,rfl,hg,rfl,rfl,rfl⟩
  have hlo:=hg.lo
  have hmd:=hg.md
  have hhi:=hg.hi
  have hsz:=hg.sz
  have hb1:b1≤e.size:=by omega
  have hlen:IntKind.i64.wrap ((b1:Int) - (a1:Int))=((b1 - a1:Nat):Int):=wD (by omega) (by omega)
  conv=>whnf
  (first|refine⟨?_,?_⟩|refine nsplit ?_ ?_|refine bsplit ?_ ?_)<;>intro h12<;>have hz_:=True.intro<;>clear hz_
  ·have h12:b1 - a1≤12:=by rw[hlen]at h12;omega
   conv=>whnf
   refine⟨[],[some 0],_,_,_,_,insert_ok e a1 b1 (by omega) (by omega) (by omega),t3,cR ?_⟩
   conv=>whnf
   exact⟨[],[some 0],_,_,_,t3,_,hg.fin _ (Sort.insertionSort_holds Sort.swo_ltInt e a1 b1 hmd hb1).1 (Sort.insertionSort_holds Sort.swo_ltInt e a1 b1 hmd hb1).2,rfl,rfl,rfl⟩
  ·have h12:a1+12<b1:=by rw[hlen]at h12;omega
   conv=>whnf
   (first|refine⟨?_,?_⟩|refine nsplit ?_ ?_|refine bsplit ?_ ?_)<;>intro h0<;>have hz_:=True.intro<;>clear hz_
   ·conv=>whnf
    refine⟨[],[some 0],_,_,_,_,heap_ok e a1 b1 (by omega) (by omega) (by omega),t3,cR ?_⟩
    conv=>whnf
    exact⟨[],[some 0],_,_,_,t3,_,hg.fin _ (Sort.heapSort_holds Sort.swo_ltInt e a1 b1 hmd hb1).1 (Sort.heapSort_holds Sort.swo_ltInt e a1 b1 hmd hb1).2,rfl,rfl,rfl⟩
   ·cases wb
    focus
     conv=>whnf
     refine⟨[],[some 0],_,_,_,_,brk_ok e a1 b1 h12 hb1 (by omega),t3,?_⟩
     rintro r o' c' ⟨d1,hp0,rfl,rfl,rfl⟩
     replace hg:=hg.perm hb hp0
     have hsz:=hg.sz
     conv=>whnf
     refine⟨[],[some 0],_,_,_,_,pivot_ok d1 a1 b1 (by omega) (by omega) (by omega),t3,?_⟩
     rintro r o' c' ⟨p,h,hp1,hp2,hh0,hh1,rfl,rfl,rfl⟩
     conv=>whnf
     (first|refine⟨?_,?_⟩|refine nsplit ?_ ?_|refine bsplit ?_ ?_)<;>intro hdec<;>have hz_:=True.intro<;>clear hz_
     focus
      conv=>whnf
      refine⟨[],[some 0],_,_,_,_,reverse_ok d1 a1 b1 (by omega) (by omega) (by omega),t3,cR ?_⟩
      ((conv=>whnf)<;>repeat(with_reducible refine D1 ?_)<;>conv=>whnf)
      have hv:IntKind.i64.wrap (IntKind.i64.wrap ((b1:Int) - 1) - IntKind.i64.wrap ((p:Int) - (a1:Int)))=(((b1 - 1) - (p - a1):Nat):Int):=by rw[wS (by omega) (by omega),wD (by omega) (by omega),wD (by omega) (by omega)]
      replace hg:=hg.perm hb (Sort.reverseRange_holds d1 a1 b1 (by omega) (by omega))
      have hp1:a1≤(b1 - 1) - (p - a1):=by omega
      have hp2:(b1 - 1) - (p - a1)<b1:=by omega
      generalize (b1 - 1) - (p - a1)=p2 at*
      generalize Sort.reverseRange d1 a1 b1=d2 at*
     rotate_left
     focus
      have hv:(p:Int)=(p:Int):=rfl
      obtain⟨p2,hp0⟩:∃x,x=p:=⟨_,rfl⟩
      subst hp0
      obtain⟨d2,hd0⟩:∃x,x=d1:=⟨_,rfl⟩
      subst hd0
      ((conv=>whnf)<;>repeat(with_reducible refine D1 ?_)<;>conv=>whnf)
     rotate_left
    rotate_left
    rotate_left
    focus
     obtain⟨d1,hd0⟩:∃x,x=e:=⟨_,rfl⟩
     subst hd0
     cases wp
     focus
      conv=>whnf
      refine⟨[],[some 0],_,_,_,_,pivot_ok d1 a1 b1 (by omega) (by omega) (by omega),t3,?_⟩
      rintro r o' c' ⟨p,h,hp1,hp2,hh0,hh1,rfl,rfl,rfl⟩
      conv=>whnf
      (first|refine⟨?_,?_⟩|refine nsplit ?_ ?_|refine bsplit ?_ ?_)<;>intro hdec<;>have hz_:=True.intro<;>clear hz_
      focus
       conv=>whnf
       refine⟨[],[some 0],_,_,_,_,reverse_ok d1 a1 b1 (by omega) (by omega) (by omega),t3,cR ?_⟩
       ((conv=>whnf)<;>repeat(with_reducible refine D1 ?_)<;>conv=>whnf)
       have hv:IntKind.i64.wrap (IntKind.i64.wrap ((b1:Int) - 1) - IntKind.i64.wrap ((p:Int) - (a1:Int)))=(((b1 - 1) - (p - a1):Nat):Int):=by rw[wS (by omega) (by omega),wD (by omega) (by omega),wD (by omega) (by omega)]
       replace hg:=hg.perm hb (Sort.reverseRange_holds d1 a1 b1 (by omega) (by omega))
       have hp1:a1≤(b1 - 1) - (p - a1):=by omega
       have hp2:(b1 - 1) - (p - a1)<b1:=by omega
       generalize (b1 - 1) - (p - a1)=p2 at*
       generalize Sort.reverseRange d1 a1 b1=d2 at*
      rotate_left
      focus
       have hv:(p:Int)=(p:Int):=rfl
       obtain⟨p2,hp0⟩:∃x,x=p:=⟨_,rfl⟩
       subst hp0
       obtain⟨d2,hd0⟩:∃x,x=d1:=⟨_,rfl⟩
       subst hd0
       ((conv=>whnf)<;>repeat(with_reducible refine D1 ?_)<;>conv=>whnf)
      rotate_left
     rotate_left
     rotate_left
     focus
      conv=>whnf
      refine⟨[],[some 0],_,_,_,_,pivot_ok d1 a1 b1 (by omega) (by omega) (by omega),t3,?_⟩
      rintro r o' c' ⟨p,h,hp1,hp2,hh0,hh1,rfl,rfl,rfl⟩
      conv=>whnf
      (first|refine⟨?_,?_⟩|refine nsplit ?_ ?_|refine bsplit ?_ ?_)<;>intro hdec<;>have hz_:=True.intro<;>clear hz_
      focus
       conv=>whnf
       refine⟨[],[some 0],_,_,_,_,reverse_ok d1 a1 b1 (by omega) (by omega) (by omega),t3,cR ?_⟩
       conv=>whnf
       have hv:IntKind.i64.wrap (IntKind.i64.wrap ((b1:Int) - 1) - IntKind.i64.wrap ((p:Int) - (a1:Int)))=(((b1 - 1) - (p - a1):Nat):Int):=by rw[wS (by omega) (by omega),wD (by omega) (by omega),wD (by omega) (by omega)]
       replace hg:=hg.perm hb (Sort.reverseRange_holds d1 a1 b1 (by omega) (by omega))
       have hp1:a1≤(b1 - 1) - (p - a1):=by omega
       have hp2:(b1 - 1) - (p - a1)<b1:=by omega
       generalize (b1 - 1) - (p - a1)=p2 at*
       generalize Sort.reverseRange d1 a1 b1=d2 at*
      rotate_left
      focus
       have hv:(p:Int)=(p:Int):=rfl
       obtain⟨p2,hp0⟩:∃x,x=p:=⟨_,rfl⟩
       subst hp0
       obtain⟨d2,hd0⟩:∃x,x=d1:=⟨_,rfl⟩
       subst hd0
       conv=>whnf
      rotate_left
      focus
       repeat((first|(refine⟨fun h_=>?_,fun h_=>?_⟩)|(refine nsplit (fun h_=>?_) (fun h_=>?_))|(refine bsplit (fun h_=>?_) (fun h_=>?_)))<;>first|(exfalso;revert h_;decide;done)|(exact absurd rfl h_)|(have hz_:=True.intro;clear hz_;(conv=>whnf)))
       refine⟨[],[some 0],_,_,_,_,pins_ok d2 a1 b1 (by omega) (by have:=hg.sz;omega) (by have:=hg.sz;omega),t3,?_⟩
       rintro r o' c' ⟨rfl,rfl,rfl⟩
       have hz_:=True.intro
       clear hz_
       cases hpi:(Sort.partialInsertionSort ltInt d2 a1 b1).2
       rotate_left
       ·have hpp:=Sort.partialInsertionSort_holds Sort.swo_ltInt d2 a1 b1 (by omega) (by have:=hg.sz;omega) hg.bl
        conv=>whnf
        exact⟨[],[some 0],_,_,_,t3,_,hg.fin _ hpp.1 (hpp.2 hpi),rfl,rfl,rfl⟩
       replace hg:=hg.perm hb (Sort.partialInsertionSort_holds Sort.swo_ltInt d2 a1 b1 (by omega) (by have:=hg.sz;omega) hg.bl).1
       clear hpi
       generalize (Sort.partialInsertionSort ltInt d2 a1 b1).1=d3 at*
       obtain⟨d2,hd2⟩:∃x,x=d3:=⟨_,rfl⟩
       subst hd2
       ((conv=>whnf)<;>repeat(with_reducible refine D1 ?_)<;>conv=>whnf)
      rotate_left
      focus
       (first|refine⟨?_,?_⟩|refine nsplit ?_ ?_|refine bsplit ?_ ?_)<;>intro hh<;>have hz_:=True.intro<;>clear hz_
       focus
        conv=>whnf
        refine⟨[],[some 0],_,_,_,_,pins_ok d2 a1 b1 (by omega) (by have:=hg.sz;omega) (by have:=hg.sz;omega),t3,?_⟩
        rintro r o' c' ⟨rfl,rfl,rfl⟩
        have hz_:=True.intro
        clear hz_
        cases hpi:(Sort.partialInsertionSort ltInt d2 a1 b1).2
        rotate_left
        ·have hpp:=Sort.partialInsertionSort_holds Sort.swo_ltInt d2 a1 b1 (by omega) (by have:=hg.sz;omega) hg.bl
         conv=>whnf
         exact⟨[],[some 0],_,_,_,t3,_,hg.fin _ hpp.1 (hpp.2 hpi),rfl,rfl,rfl⟩
        replace hg:=hg.perm hb (Sort.partialInsertionSort_holds Sort.swo_ltInt d2 a1 b1 (by omega) (by have:=hg.sz;omega) hg.bl).1
        clear hpi
        generalize (Sort.partialInsertionSort ltInt d2 a1 b1).1=d3 at*
        obtain⟨d2,hd2⟩:∃x,x=d3:=⟨_,rfl⟩
        subst hd2
        ((conv=>whnf)<;>repeat(with_reducible refine D1 ?_)<;>conv=>whnf)
       rotate_left
       focus
        ((conv=>whnf)<;>repeat(with_reducible refine D1 ?_)<;>conv=>whnf)
    all_goals
     have hsz:=hg.sz
     (first|refine⟨?_,?_⟩|refine nsplit ?_ ?_|refine bsplit ?_ ?_)<;>intro ha0<;>have hz_:=True.intro<;>clear hz_
     focus
      have ha0:0<a1:=by omega
      conv=>whnf
      refine ldK (a1 - 1) (wS (by omega) (by omega)) (by omega) ?_
      conv=>whnf
      refine ldK p2 hv (by omega) ?_
      conv=>whnf
      refine⟨[],[],_,_,_,_,less_ok d2[a1 - 1]! d2[p2]!,t3,?_⟩
      rintro r o' c' ⟨rfl,rfl,rfl⟩
      have hz_:=True.intro
      clear hz_
      cases hls:ltInt d2[a1 - 1]! d2[p2]!
      focus
       ((conv=>whnf)<;>repeat(with_reducible refine D1 ?_)<;>conv=>whnf)
       refine⟨[],[some 0],_,_,_,_,partEq_i d2 a1 b1 hv (by omega) (by omega) hp1 hp2 (by omega),t3,?_⟩
       rintro r o' c' ⟨mid,e4,hx,rfl,rfl,rfl⟩
       obtain⟨q1,q2⟩:=hg.eq hb ha0 hp1 hp2 hls hx
       conv=>whnf
       refine⟨b1 - mid,?_,by have:=q2.md;omega⟩
       exact⟨[],[some 0],_,_,_,t3,⟨mid,b1,e4,_,_,_,rfl,q2,rfl,rfl,rfl⟩⟩
     focus
      ((conv=>whnf)<;>repeat(with_reducible refine D1 ?_)<;>conv=>whnf)
      refine⟨[],[some 0],_,_,_,_,part_i d2 a1 b1 hv (by omega) (by omega) hp1 hp2 (by omega),t3,?_⟩
     rotate_left
     focus
      ((conv=>whnf)<;>repeat(with_reducible refine D1 ?_)<;>conv=>whnf)
      refine⟨[],[some 0],_,_,_,_,part_i d2 a1 b1 hv (by omega) (by omega) hp1 hp2 (by omega),t3,?_⟩
    all_goals
     rintro r o' c' ⟨mid,ap,e4,hx,rfl,rfl,rfl⟩
     obtain⟨q1,q2,q3,q4,q5,q6,q7⟩:=hg.part hb hp1 hp2 hx
     conv=>whnf
     (first|refine⟨?_,?_⟩|refine nsplit ?_ ?_|refine bsplit ?_ ?_)<;>intro hlr<;>have hz_:=True.intro<;>clear hz_
     focus
      conv=>whnf
      (first|refine⟨?_,?_⟩|refine nsplit ?_ ?_|refine bsplit ?_ ?_)<;>intro hbal<;>have hz_:=True.intro<;>clear hz_
      all_goals
       conv=>whnf
       refine⟨[],[some 0],_,_,_,_,ih e4 a1 mid _ (by omega) q1 (by omega) (by omega) q4,t3,?_⟩
       rintro r o' c' ⟨e5,⟨hp5,hs5⟩,rfl,rfl,rfl⟩
       have q8:=q6 e5 hp5 hs5
       conv=>whnf
       refine⟨b1 - (mid+1),?_,by omega⟩
       exact⟨[],[some 0],_,_,_,⟨by((repeat' first|exact LF|constructor);all_goals(exact Lz.int (wA (by omega)))),by((repeat' first|exact LF|constructor);all_goals(exact Lz.int (wA (by omega)))),by rfl⟩,⟨mid+1,b1,e5,_,_,_,rfl,q8,rfl,rfl,rfl⟩⟩
     rotate_left
     focus
      conv=>whnf
      (first|refine⟨?_,?_⟩|refine nsplit ?_ ?_|refine bsplit ?_ ?_)<;>intro hbal<;>have hz_:=True.intro<;>clear hz_
      all_goals
       conv=>whnf
       refine⟨[],[some 0],_,_,_,_,ih e4 (mid+1) b1 _ (by omega) (by omega) (by omega) (by omega) q5,⟨by((repeat' first|exact LF|constructor);all_goals(exact Lz.int (wA (by omega)))),by((repeat' first|exact LF|constructor);all_goals(exact Lz.int (wA (by omega)))),by rfl⟩,?_⟩
       rintro r o' c' ⟨e5,⟨hp5,hs5⟩,rfl,rfl,rfl⟩
       have q8:=q7 e5 hp5 hs5
       conv=>whnf
       refine⟨mid - a1,?_,by omega⟩
       exact⟨[],[some 0],_,_,_,t3,⟨a1,mid,e5,_,_,_,rfl,q8,rfl,rfl,rfl⟩⟩
theorem sortU_ok (d:Array Int) (hl:d.size<4096):VC ES 119 1 [.tk 0] [(0,arrK d)] (QQ d 0 d.size):=by
 refine VC.enterR LS (show ES.func 119=some Tryz.f119 by kernel_rfl) (fun _ _=>rfl) rfl rfl [] ?_
 conv=>whnf
 refine⟨[],[],_,_,_,_,len_i (x:=IntKind.u64.wrap (((d.toList.map encK).length:Nat):Int)) (n:=d.size) (by rw[List.length_map,Array.length_toList];exact IntWalk.u64_in _ (by omega)) (by omega),t3,?_⟩
 rintro r o' c' ⟨rfl,rfl,rfl⟩
 conv=>whnf
 refine⟨[],[some 0],_,_,_,_,pdq_ok (d.size - 0) d 0 d.size _ (Nat.le_refl _) (Nat.zero_le _) (Nat.le_refl _) hl (.inl rfl),⟨by((repeat' first|exact LF|constructor);all_goals(exact Lz.int (by simp))),by((repeat' first|exact LF|constructor);all_goals(exact Lz.int (by simp))),by rfl⟩,?_⟩
 rintro r o' c' ⟨e,h,rfl,rfl,rfl⟩
 conv=>whnf
 exact⟨[],[some 0],_,_,_,t3,e,h,rfl,rfl,rfl⟩
end Go.M
