/-
  Part 14 of the library that the proof leans on.
-/
import Derived.Test.YtjeejiegdkojdaaGreatDoorL12
import Derived.Test.YtjeejiegdkojdaaGreatDoorProg
import Derived.Test.YtjeejiegdkojdaaGreatDoorL13
import Derived.Sort.Statements
import Derived.Sort.Lot0
import Derived.IntWalk
import Derived.Sort.LotD1
import Derived.Sort.LotA
import Derived.Sort.LotB
import Derived.Sort.LotD3
namespace Go.M
open Go Go.Proofs
noncomputable def ES:=mw Tryz.prog [] jJ
noncomputable def TS:=tE ES []
set_option maxRecDepth 100000
theorem LS:cm TS ES:=UO (fun t z h=>by
 simp only[ES,mw,ij,Option.bind_eq_some_iff,ai,Option.some.injEq]at h;obtain⟨i,h1,z',h2,h3,rfl⟩:=h;exact h3) rfl
@[reducible] def jQ (x:Int):List TV:=[.s (.int .u32 x)]
@[reducible] def qA (d:Array Int):TO:=.arr 1 true (d.toList.map jQ)
@[reducible] def nI (n:Nat):TV:=.s (.int .i64 n)
theorem ad5 {d:Array Int} {n:Nat} (h:n<d.size):(n:Int)<(((d.toList.map jQ).length:Nat):Int):=by simp;omega
theorem kix {d:Array Int} {n:Nat} (h:n<d.size):(d.toList.map jQ)[n]? =some (jQ d[n]!):=by
 simp[h]
theorem ldK {d:Array Int} {i:Int} {K:List TV→Prop} (n:Nat) (e:i=n) (h:n<d.size) (k:K (jQ d[n]!)):(0≤i∧i<(((d.toList.map jQ).length:Nat):Int))∧∃x,(d.toList.map jQ)[i.toNat]? =some x∧K x:=by
 subst e;exact⟨⟨om,ad5 h⟩,jQ d[n]!,by rw[Int.toNat_natCast];exact kix h,k⟩
theorem aaK {d:Array Int} {i:Int} {m:Nat} {y:List TV} {K:List TV→Prop} (n:Nat) (e:i=n) (h:n<d.size) (k:∀x,K (jQ x)) (hy:∃x,y=jQ x):(0≤i∧i<((((d.toList.map jQ).set m y).length:Nat):Int))∧∃x,((d.toList.map jQ).set m y)[i.toNat]? =some x∧K x:=by
 subst e;obtain⟨v,rfl⟩:=hy;refine⟨⟨om,by simp;omega⟩,?_⟩;rw[Int.toNat_natCast,List.getElem?_set];by_cases hm:m=n
 ·subst hm;exact⟨jQ v,by simp[h],k v⟩
 ·exact⟨jQ d[n]!,by simp[hm,h],k _⟩
theorem ad6 (d:Array Int) (i j:Nat):((d.toList.map jQ).set i (jQ d[j]!)).set j (jQ d[i]!)=(Sort.swp d i j).toList.map jQ:=by
 simp[Sort.swp,List.map_set]
theorem wS {n:Nat} (h0:1≤n) (h:n≤1099511627776):IntKind.i64.wrap ((n:Int) - 1)=((n - 1:Nat):Int):=by
 rw[IntWalk.i64_in _ om];omega
theorem wA {n:Nat} (h:n≤1099511627776):IntKind.i64.wrap ((n:Int)+1)=((n+1:Nat):Int):=by
 rw[IntWalk.i64_in _ om];omega
theorem O3 (x:Int):VC ES 292 0 [.s (.int .u32 x)] [] (RR (.s (.bool false)) 0 []):=by
 refine VC.bE LS (show ES.func 292=some Tryz.f292 by kernel_rfl) (fun _ _=>rfl) rfl rfl [] ?_;refine wh ?_
 repeat((first|(refine⟨fun h_=>?_,fun h_=>?_⟩)|(refine aA (fun h_=>?_) (fun h_=>?_))|(refine az (fun h_=>?_) (fun h_=>?_)))<;>first|(exfalso;revert h_;decide;done)|(exfalso;revert h_;simp;done)|(have bq:=True.intro;clear bq;(conv=>whnf)))
 exact⟨[],[],_,_,_,t3,rfl,rfl,rfl⟩
theorem Sg (x y:Int):VC ES 282 0 [.s (.int .u32 x),.s (.int .u32 y)] [] (RR (.s (.bool (Sort.ltInt x y))) 0 []):=by
 refine VC.bE LS (show ES.func 282=some Tryz.f282 by kernel_rfl) (fun _ _=>rfl) rfl rfl [] ?_;refine wh ?_;refine⟨[],[],_,_,_,_,O3 x,t3,cw ?_⟩;refine rn ?_;refine sp ?_ ?_<;>intro h
 ·refine wh ?_;refine⟨[],[],_,_,_,tx ?_,rfl,rfl,rfl⟩;exact Lz.of (aK (by unfold Sort.ltInt;simp at h ⊢;omega))
 ·refine wh ?_;refine⟨[],[],_,_,_,tx ?_,rfl,rfl,rfl⟩;exact Lz.of (aK (by unfold Sort.ltInt;simp at h ⊢;omega))
set_option maxRecDepth 100000
set_option maxHeartbeats 4000000
theorem Lm (d:Array Int) (a b:Nat) (hb:b≤d.size) (hl:d.size<1000000) (ha:a≤b):VC ES 276 1 [.tk 0,nI a,nI b] [(0,qA d)] (RR (.dF []) 1 [(0,qA (Sort.insertionSort Sort.ltInt d a b))]):=by
 refine VC.bE LS (show ES.func 276=some Tryz.f276 by kernel_rfl) (fun _ _=>rfl) rfl rfl [] ?_;refine wh ?_;refine⟨fun k f o c=>∃(i:Nat) (e:Array Int),a<i∧k=b - i∧e.size=d.size∧Sort.insOuter Sort.ltInt a b i e=Sort.insertionSort Sort.ltInt d a b∧c=1∧f=[(0,.tk 0),(1,nI a),(2,nI b),(6,nI i)]∧o=[(0,qA e)],⟨b - (a+1),?_⟩,?_⟩
 ·refine⟨[],[some 0],?_⟩
  iterate 3 constructor
  refine⟨⟨?_,?_,?_⟩,⟨a+1,d,om,rfl,rfl,rfl,rfl,rfl,rfl⟩⟩
  all_goals(repeat' first|exact LF|constructor)
  all_goals exact Lz.int (wA om)
 ·rintro k f1 o1 c1 ⟨i,e,hi,rfl,he,hr,rfl,rfl,rfl⟩;refine wh ?_;refine sp ?_ ?_<;>intro h
  ·have h:i<b:=by simpa using h
   refine wh ?_;refine⟨fun k f o c=>∃(j:Nat) (e1:Array Int),j≤i∧k=j∧e1.size=d.size∧Sort.insInner Sort.ltInt a j e1=Sort.insInner Sort.ltInt a i e∧c=1∧f=[(0,.tk 0),(1,nI a),(2,nI b),(6,nI i),(7,nI j)]∧o=[(0,qA e1)],⟨i,?_⟩,?_⟩
   ·exact⟨[],[some 0],_,_,_,t3,⟨i,e,om,rfl,he,rfl,rfl,rfl,rfl⟩⟩
   ·rintro k f1 o1 c1 ⟨j,e1,hj,rfl,he1,jX,rfl,rfl,rfl⟩;have fin:Sort.insInner Sort.ltInt a k e1=e1→Sort.insOuter Sort.ltInt a b (i+1) e1=Sort.insertionSort Sort.ltInt d a b:=by
     intro h0;rw[←hr,Sort.insOuter.eq_1 _ a b i e,if_pos h,←jX,h0]
    refine wh ?_;refine sp ?_ ?_<;>intro h2
    ·have h2:a<k:=by simpa using h2
     refine wh ?_;refine ldK k rfl om ?_;refine wh ?_;refine ldK (k - 1) (wS om om) om ?_;refine wh ?_;refine⟨[],[],_,_,_,_,Sg e1[k]! e1[k - 1]!,t3,?_⟩;rintro r o' c' ⟨rfl,rfl,rfl⟩;have bq:=True.intro;clear bq;cases h3:Sort.ltInt e1[k]! e1[k - 1]!
     ·refine wh ?_;refine⟨b - (i+1),?_,om⟩;refine⟨[],[some 0],?_⟩
      iterate 3 constructor
      refine⟨⟨?_,?_,?_⟩,⟨i+1,e1,om,rfl,he1,fin ?_,rfl,rfl,rfl⟩⟩
      all_goals(repeat' first|exact LF|constructor)
      all_goals first|exact Lz.int (wA om)|skip
      obtain⟨k,rfl⟩:∃m,k=m+1:=⟨k - 1,om⟩;unfold Sort.insInner;rw[if_neg];simp at h3 ⊢;intro _;exact h3
     ·refine wh ?_;refine ldK (k - 1) (wS om om) om ?_;refine wh ?_;refine ldK k rfl om ?_;refine wh ?_;refine ldK k rfl om ?_;refine wh ?_;refine aaK (k - 1) (wS om om) om (fun x=>?_) ⟨_,rfl⟩;refine wh ?_;refine⟨k - 1,?_,om⟩;refine⟨[],[some 0],?_⟩
      iterate 3 constructor
      refine⟨⟨?_,?_,?_⟩,⟨k - 1,Sort.swp e1 k (k - 1),om,rfl,by rw[Sort.size_swp,he1],?_,rfl,rfl,rfl⟩⟩
      all_goals(repeat' first|exact LF|constructor)
      all_goals first|exact Lz.int (wS om om)|(rw[wS om om];exact Lz.of (ad6 e1 k (k - 1)))|skip
      obtain⟨k,rfl⟩:∃m,k=m+1:=⟨k - 1,om⟩;rw[←jX]
      conv=>rhs;unfold Sort.insInner
      rw[if_pos]
      ·rfl
      ·simp at h3 ⊢;exact⟨om,h3⟩
    ·have h2:¬a<k:=by simpa using h2
     refine wh ?_;refine⟨b - (i+1),?_,om⟩;refine⟨[],[some 0],?_⟩
     iterate 3 constructor
     refine⟨⟨?_,?_,?_⟩,⟨i+1,e1,om,rfl,he1,fin ?_,rfl,rfl,rfl⟩⟩
     all_goals(repeat' first|exact LF|constructor)
     all_goals first|exact Lz.int (wA om)|skip
     match k,h2 with
     |0,_=>rfl
     |k+1,h2=>unfold Sort.insInner;rw[if_neg];simp;intro _;omega
  ·have h:¬i<b:=by simpa using h
   refine wh ?_;refine⟨[],[some 0],?_⟩
   iterate 3 constructor
   refine⟨⟨?_,?_,?_⟩,rfl,rfl,rfl⟩
   all_goals(repeat' first|exact LF|constructor)
   rw[Sort.insOuter,if_neg h]at hr;exact Lz.of (by rw[hr])
theorem aaL {s:List UInt8} {i:Int} {K:UInt8→Prop} (m:Nat) (e:i=m) (hm:m<256) (ht:∀m,m<256→s[m]? =some (UInt8.ofNat (Sort.bitsLen m))) (k:K (UInt8.ofNat (Sort.bitsLen m))):∃b,(0≤i∧s[i.toNat]? =some b)∧K b:=by
 subst e;exact⟨_,⟨om,by rw[Int.toNat_natCast];exact ht m hm⟩,k⟩
theorem UY:∀m,m<256→(UInt8.ofNat (Sort.bitsLen m)).toNat=Sort.bitsLen m∧Sort.bitsLen m≤8:=by decide+kernel
theorem Si:∀m,m<16→1≤m→∀r,r<256→Sort.bitsLen (256*m+r)=8+Sort.bitsLen m:=by decide+kernel
theorem Xa {n:Nat} (h:n<4096) (h2:256≤n):Sort.bitsLen n=8+Sort.bitsLen (n / 256):=by
 have:=Si (n / 256) om om (n % 256) om
 rwa [show 256*(n / 256)+n % 256=n by omega]at this
theorem f8 (n:Nat):(n:Int).fdiv (2 ^ min (Int.toNat 8) IntKind.u64.bits)=((n / 256:Nat):Int):=by
 show(n:Int).fdiv 256=_;rw[Int.fdiv_eq_ediv_of_nonneg _ om];rfl
theorem u8_in {m:Nat} (h:m<256):IntKind.u8.wrap (m:Int)=(m:Int):=by
 show(m:Int) % 256=m;omega
theorem O4 (n:Nat) (hn:n<4096):VC ES 286 0 [.s (.int .u64 n)] [] (RR (nI (Sort.bitsLen n)) 0 []):=by
 refine VC.bE LS (show ES.func 286=some Tryz.f286 by kernel_rfl) (fun _ _=>rfl) rfl rfl [] ?_;refine wh ?_;refine sp ?_ ?_<;>intro h1
 ·omega
 ·refine wh ?_;refine sp ?_ ?_<;>intro h2
  ·omega
  ·refine wh ?_;refine sp ?_ ?_<;>intro h3
   ·have h3:256≤n:=by omega
    refine wh ?_;refine aaL (n / 256) (by rw[f8,u8_in om]) om (by decide+kernel) ?_;refine wh ?_;refine⟨[],[],?_⟩
    iterate 3 constructor
    refine⟨⟨?_,?_,?_⟩,rfl,rfl,rfl⟩
    all_goals(repeat' first|exact LF|constructor)
    obtain⟨q1,q2⟩:=UY (n / 256) om;refine Lz.int ?_;rw[q1,Xa hn h3,IntWalk.i64_in ((Sort.bitsLen (n / 256):Nat):Int) om,show IntKind.i64.wrap (0+8)=8 from rfl,IntWalk.i64_in _ om];omega
   ·have h3:n<256:=by omega
    refine wh ?_;refine aaL n (u8_in h3) h3 (by decide+kernel) ?_;refine wh ?_;refine⟨[],[],?_⟩
    iterate 3 constructor
    refine⟨⟨?_,?_,?_⟩,rfl,rfl,rfl⟩
    all_goals(repeat' first|exact LF|constructor)
    obtain⟨q1,q2⟩:=UY n h3;refine Lz.int ?_;rw[q1,IntWalk.i64_in ((Sort.bitsLen n:Nat):Int) om,IntWalk.i64_in _ om];omega
theorem Xb (n:Nat) (hn:n<4096):VC ES 275 0 [.s (.int .u64 n)] [] (RR (nI (Sort.bitsLen n)) 0 []):=by
 refine VC.bE LS (show ES.func 275=some Tryz.f275 by kernel_rfl) (fun _ _=>rfl) rfl rfl [] ?_;refine wh ?_;refine⟨[],[],_,_,_,_,O4 n hn,t3,cw ?_⟩;exact⟨[],[],_,_,_,t3,rfl,rfl,rfl⟩
theorem UZ {x:Int} {n:Nat} (e:x=n) (hn:n<4096):VC ES 275 0 [.s (.int .u64 x)] [] (RR (nI (Sort.bitsLen n)) 0 []):=by
 subst e;exact Xb n hn
open Go.Sort (ltInt PermIn SortedIn)
@[reducible] def QQ (d:Array Int) (a b:Nat):TV→Ob→Nat→Prop:=fun r o c=>∃e,(PermIn a b d e∧SortedIn ltInt a b e)∧r= .dF []∧c=1∧o=[(0,qA e)]
theorem Xc (d:Array Int) (lim:Int) (hl:d.size<13):VC ES 274 1 [.tk 0,nI 0,nI d.size,.s (.int .i64 lim)] [(0,qA d)] (QQ d 0 d.size):=by
 have hlen:IntKind.i64.wrap ((d.size:Int) - ((0:Nat):Int))=((d.size:Nat):Int):=by rw[IntWalk.i64_in _ om];omega
 refine VC.bE LS (show ES.func 274=some Tryz.f274 by kernel_rfl) (fun _ _=>rfl) rfl rfl [] ?_;refine wh ?_;refine⟨fun k f o c=>∃(lm:Int) (wb wp:Bool),k=0∧c=1∧f=[(0,.tk 0),(1,nI 0),(2,nI d.size),(3,.s (.int .i64 lm)),(8,.s (.bool wb)),(9,.s (.bool wp))]∧o=[(0,qA d)],⟨0,?_⟩,?_⟩
 ·exact⟨[],[some 0],_,_,_,t3,⟨lim,true,true,rfl,rfl,rfl,rfl⟩⟩
 rintro k f1 o1 c1 ⟨lm,wb,wp,rfl,rfl,rfl,rfl⟩;refine wh ?_;refine sp ?_ ?_<;>intro h12
 ·refine wh ?_;refine⟨[],[some 0],_,_,_,_,Lm d 0 d.size (Nat.le_refl _) om (Nat.zero_le _),t3,cw ?_⟩;exact⟨[],[some 0],_,_,_,t3,_,Sort.insertionSort_holds Sort.swo_ltInt d 0 d.size (Nat.zero_le _) (Nat.le_refl _),rfl,rfl,rfl⟩
 ·exact absurd (by rw[hlen];omega) h12
theorem O5 (d:Array Int) (hl:d.size<13):VC ES 266 1 [.tk 0] [(0,qA d)] (QQ d 0 d.size):=by
 refine VC.bE LS (show ES.func 266=some Tryz.f266 by kernel_rfl) (fun _ _=>rfl) rfl rfl [] ?_;refine wh ?_;refine⟨[],[],_,_,_,_,UZ (x:=IntKind.u64.wrap (((d.toList.map jQ).length:Nat):Int)) (n:=d.size) (by rw[List.length_map,Array.length_toList];exact IntWalk.u64_in _ om) om,t3,?_⟩;rintro r o' c' ⟨rfl,rfl,rfl⟩;refine wh ?_;refine⟨[],[some 0],_,_,_,_,Xc d _ hl,⟨by((repeat' first|exact LF|constructor);all_goals(exact Lz.int (by simp))),by((repeat' first|exact LF|constructor);all_goals(exact Lz.int (by simp))),by rfl⟩,?_⟩;rintro r o' c' ⟨e,h,rfl,rfl,rfl⟩;refine wh ?_
 exact⟨[],[some 0],_,_,_,t3,e,h,rfl,rfl,rfl⟩
end Go.M
namespace Go.M
open Go Go.Proofs
set_option maxRecDepth 100000
set_option maxHeartbeats 4000000
@[reducible] def nS0:TV:=.sl 0 [] true
theorem HM:VC ES 276 0 [nS0,nI 0,nI 0] [] (RR (.dF []) 0 []):=by
 refine VC.bE LS (show ES.func 276=some Tryz.f276 by kernel_rfl) (fun _ _=>rfl) rfl rfl [999999] ?_;refine wh ?_;refine rn ?_;exact⟨[],[],_,_,_,t3,rfl,rfl,rfl⟩
theorem Sj (lim:Int):VC ES 274 0 [nS0,nI 0,nI 0,.s (.int .i64 lim)] [] (RR (.dF []) 0 []):=by
 refine VC.bE LS (show ES.func 274=some Tryz.f274 by kernel_rfl) (fun _ _=>rfl) rfl rfl [999999] ?_;refine wh ?_;refine rn ?_;refine⟨[],[],_,_,_,_,HM,t3,cw ?_⟩;exact⟨[],[],_,_,_,t3,rfl,rfl,rfl⟩
theorem O6:VC ES 266 0 [nS0] [] (RR (.dF []) 0 []):=by
 refine VC.bE LS (show ES.func 266=some Tryz.f266 by kernel_rfl) (fun _ _=>rfl) rfl rfl [] ?_;refine wh ?_;refine⟨[],[],_,_,_,_,UZ (x:=IntKind.u64.wrap ((0:Nat):Int)) (n:=0) rfl om,t3,?_⟩;rintro r o' c' ⟨rfl,rfl,rfl⟩;refine wh ?_;refine⟨[],[],_,_,_,_,Sj _,t3,cw ?_⟩;exact⟨[],[],_,_,_,t3,rfl,rfl,rfl⟩
end Go.M
