/-
  Part 14 of the library that the proof leans on.
-/
import Derived.Test.YtgjfaieghmigjaaGreatDoorL13
import Derived.Sort.Statements
import Derived.Sort.Lot0
import Derived.IntWalk
import Derived.Sort.LotC
namespace Go.M
open Go Go.Proofs
noncomputable def ES:=envT Tryz.prog [] noOrc
noncomputable def TS:=tE ES []
set_option maxRecDepth 100000
theorem LS:EnvLe TS ES:=tE_le (fun t z h=>by
 simp only[ES,envT,envOf,Option.bind_eq_some_iff,grd_some,Option.some.injEq]at h
 obtain⟨i,h1,z',h2,h3,rfl⟩:=h
 exact h3) rfl
@[reducible] def encK (x:Int):List TV:=[.s (.int .u32 x)]
@[reducible] def arrK (d:Array Int):TO:=.arr 1 true (d.toList.map encK)
@[reducible] def nI (n:Nat):TV:=.s (.int .i64 n)
theorem kbnd {d:Array Int} {n:Nat} (h:n<d.size):(n:Int)<(((d.toList.map encK).length:Nat):Int):=by simp;omega
theorem kix {d:Array Int} {n:Nat} (h:n<d.size):(d.toList.map encK)[n]? =some (encK d[n]!):=by
 simp[h]
theorem ldK {d:Array Int} {i:Int} {K:List TV→Prop} (n:Nat) (e:i=n) (h:n<d.size) (k:K (encK d[n]!)):(0≤i∧i<(((d.toList.map encK).length:Nat):Int))∧∃x,(d.toList.map encK)[i.toNat]? =some x∧K x:=by
 subst e
 exact⟨⟨by omega,kbnd h⟩,encK d[n]!,by rw[Int.toNat_natCast];exact kix h,k⟩
theorem lastK {d:Array Int} {i:Int} {m:Nat} {y:List TV} {K:List TV→Prop} (n:Nat) (e:i=n) (h:n<d.size) (k:∀x,K (encK x)) (hy:∃x,y=encK x):(0≤i∧i<((((d.toList.map encK).set m y).length:Nat):Int))∧∃x,((d.toList.map encK).set m y)[i.toNat]? =some x∧K x:=by
 subst e
 obtain⟨v,rfl⟩:=hy
 refine⟨⟨by omega,by simp;omega⟩,?_⟩
 rw[Int.toNat_natCast,List.getElem?_set]
 by_cases hm:m=n
 ·subst hm;exact⟨encK v,by simp[h],k v⟩
 ·exact⟨encK d[n]!,by simp[hm,h],k _⟩
theorem swpK (d:Array Int) (i j:Nat):((d.toList.map encK).set i (encK d[j]!)).set j (encK d[i]!)=(Sort.swp d i j).toList.map encK:=by
 simp[Sort.swp,List.map_set]
theorem wS {n:Nat} (h0:1≤n) (h:n≤1099511627776):IntKind.i64.wrap ((n:Int) - 1)=((n - 1:Nat):Int):=by
 rw[IntWalk.i64_in _ (by omega)];omega
theorem wA {n:Nat} (h:n≤1099511627776):IntKind.i64.wrap ((n:Int)+1)=((n+1:Nat):Int):=by
 rw[IntWalk.i64_in _ (by omega)];omega
theorem isNaN_ok (x:Int):VC ES 200 0 [.s (.int .u32 x)] [] (RR (.s (.bool false)) 0 []):=by
 refine VC.enterR LS (show ES.func 200=some Tryz.f200 by kernel_rfl) (fun _ _=>rfl) rfl rfl [] ?_
 conv=>whnf
 repeat((first|(refine⟨fun h_=>?_,fun h_=>?_⟩)|(refine nsplit (fun h_=>?_) (fun h_=>?_))|(refine bsplit (fun h_=>?_) (fun h_=>?_)))<;>first|(exfalso;revert h_;decide;done)|(exfalso;revert h_;simp;done)|(have hz_:=True.intro;clear hz_;(conv=>whnf)))
 exact⟨[],[],_,_,_,t3,rfl,rfl,rfl⟩
theorem less_ok (x y:Int):VC ES 166 0 [.s (.int .u32 x),.s (.int .u32 y)] [] (RR (.s (.bool (Sort.ltInt x y))) 0 []):=by
 refine VC.enterR LS (show ES.func 166=some Tryz.f166 by kernel_rfl) (fun _ _=>rfl) rfl rfl [] ?_
 conv=>whnf
 refine⟨[],[],_,_,_,_,isNaN_ok x,t3,cR ?_⟩
 conv=>whnf
 repeat(first|(refine⟨by first|decide+kernel|(dsimp only;decide+kernel),?_⟩;have hz_:=True.intro;clear hz_;(conv=>whnf))|(refine⟨_,rfl,?_⟩;have hz_:=True.intro;clear hz_;(conv=>whnf))|((try(first|rw[wr0]|rw[wr1]|rw[wr2]|rw[wr3]|rw[wr4]|rw[wr5]|rw[wr6]|rw[wr7]|rw[wr8]|rw[wr9]|rw[wrA]|rw[wrB]|rw[wrC]|rw[wrD]|rw[wrE]));first|(refine⟨fun h_=>?_,fun h_=>absurd (by first|decide+kernel|rfl |(dsimp only;decide+kernel)) h_⟩;clear h_;(conv=>whnf))|(refine⟨fun h_=>absurd h_ (by first|decide+kernel|(dsimp only;decide+kernel)),fun h_=>?_⟩;clear h_;(conv=>whnf))))
 (first|refine⟨?_,?_⟩|refine nsplit ?_ ?_|refine bsplit ?_ ?_)<;>intro h<;>have hz_:=True.intro<;>clear hz_
 ·conv=>whnf
  refine⟨[],[],?_⟩
  iterate 3 constructor
  refine⟨⟨?_,?_,?_⟩,rfl,rfl,rfl⟩
  all_goals(repeat' first|exact LF|constructor)
  exact Lz.of (bool_eq (by unfold Sort.ltInt;simp at h ⊢;omega))
 ·conv=>whnf
  refine⟨[],[],?_⟩
  iterate 3 constructor
  refine⟨⟨?_,?_,?_⟩,rfl,rfl,rfl⟩
  all_goals(repeat' first|exact LF|constructor)
  exact Lz.of (bool_eq (by unfold Sort.ltInt;simp at h ⊢;omega))
end Go.M
namespace Go.M
open Go Go.Proofs
set_option maxRecDepth 100000
set_option maxHeartbeats 4000000
theorem insert_ok (d:Array Int) (a b:Nat) (hb:b≤d.size) (hl:d.size<1000000) (ha:a≤b):VC ES 160 1 [.tk 0,nI a,nI b] [(0,arrK d)] (RR (.tup []) 1 [(0,arrK (Sort.insertionSort Sort.ltInt d a b))]):=by
 refine VC.enterR LS (show ES.func 160=some Tryz.f160 by kernel_rfl) (fun _ _=>rfl) rfl rfl [] ?_
 conv=>whnf
 refine⟨fun k f o c=>∃(i:Nat) (e:Array Int),a<i∧k=b - i∧e.size=d.size∧Sort.insOuter Sort.ltInt a b i e=Sort.insertionSort Sort.ltInt d a b∧c=1∧f=[(0,.tk 0),(1,nI a),(2,nI b),(6,nI i)]∧o=[(0,arrK e)],⟨b - (a+1),?_⟩,?_⟩
 ·refine⟨[],[some 0],?_⟩
  iterate 3 constructor
  refine⟨⟨?_,?_,?_⟩,⟨a+1,d,by omega,rfl,rfl,rfl,rfl,rfl,rfl⟩⟩
  all_goals(repeat' first|exact LF|constructor)
  all_goals exact Lz.int (wA (by omega))
 ·rintro k f1 o1 c1 ⟨i,e,hi,rfl,he,hr,rfl,rfl,rfl⟩
  conv=>whnf
  (first|refine⟨?_,?_⟩|refine nsplit ?_ ?_|refine bsplit ?_ ?_)<;>intro h<;>have hz_:=True.intro<;>clear hz_
  ·have h:i<b:=by simpa using h
   conv=>whnf
   refine⟨fun k f o c=>∃(j:Nat) (e1:Array Int),j≤i∧k=j∧e1.size=d.size∧Sort.insInner Sort.ltInt a j e1=Sort.insInner Sort.ltInt a i e∧c=1∧f=[(0,.tk 0),(1,nI a),(2,nI b),(6,nI i),(7,nI j)]∧o=[(0,arrK e1)],⟨i,?_⟩,?_⟩
   ·exact⟨[],[some 0],_,_,_,t3,⟨i,e,by omega,rfl,he,rfl,rfl,rfl,rfl⟩⟩
   ·rintro k f1 o1 c1 ⟨j,e1,hj,rfl,he1,hr1,rfl,rfl,rfl⟩
    have fin:Sort.insInner Sort.ltInt a k e1=e1→Sort.insOuter Sort.ltInt a b (i+1) e1=Sort.insertionSort Sort.ltInt d a b:=by
     intro h0
     rw[←hr,Sort.insOuter.eq_1 _ a b i e,if_pos h,←hr1,h0]
    ((conv=>whnf)<;>repeat(with_reducible refine D1 ?_)<;>conv=>whnf)
    (first|refine⟨?_,?_⟩|refine nsplit ?_ ?_|refine bsplit ?_ ?_)<;>intro h2<;>have hz_:=True.intro<;>clear hz_
    ·have h2:a<k:=by simpa using h2
     conv=>whnf
     refine ldK k rfl (by omega) ?_
     conv=>whnf
     refine ldK (k - 1) (wS (by omega) (by omega)) (by omega) ?_
     conv=>whnf
     refine⟨[],[],_,_,_,_,less_ok e1[k]! e1[k - 1]!,t3,?_⟩
     rintro r o' c' ⟨rfl,rfl,rfl⟩
     have hz_:=True.intro
     clear hz_
     cases h3:Sort.ltInt e1[k]! e1[k - 1]!
     ·((conv=>whnf)<;>repeat(with_reducible refine D1 ?_)<;>conv=>whnf)
      refine⟨b - (i+1),?_,by omega⟩
      refine⟨[],[some 0],?_⟩
      iterate 3 constructor
      refine⟨⟨?_,?_,?_⟩,⟨i+1,e1,by omega,rfl,he1,fin ?_,rfl,rfl,rfl⟩⟩
      all_goals(repeat' first|exact LF|constructor)
      all_goals first|exact Lz.int (wA (by omega))|skip
      obtain⟨k,rfl⟩:∃m,k=m+1:=⟨k - 1,by omega⟩
      unfold Sort.insInner
      rw[if_neg]
      simp at h3 ⊢;intro _;exact h3
     ·((conv=>whnf)<;>repeat(with_reducible refine D1 ?_)<;>conv=>whnf)
      refine ldK (k - 1) (wS (by omega) (by omega)) (by omega) ?_
      conv=>whnf
      refine ldK k rfl (by omega) ?_
      conv=>whnf
      refine ldK k rfl (by omega) ?_
      conv=>whnf
      refine lastK (k - 1) (wS (by omega) (by omega)) (by omega) (fun x=>?_) ⟨_,rfl⟩
      ((conv=>whnf)<;>repeat(with_reducible refine D1 ?_)<;>conv=>whnf)
      refine⟨k - 1,?_,by omega⟩
      refine⟨[],[some 0],?_⟩
      iterate 3 constructor
      refine⟨⟨?_,?_,?_⟩,⟨k - 1,Sort.swp e1 k (k - 1),by omega,rfl,by rw[Sort.size_swp,he1],?_,rfl,rfl,rfl⟩⟩
      all_goals(repeat' first|exact LF|constructor)
      all_goals first|exact Lz.int (wS (by omega) (by omega))|(rw[wS (by omega) (by omega)];exact Lz.of (swpK e1 k (k - 1)))|skip
      obtain⟨k,rfl⟩:∃m,k=m+1:=⟨k - 1,by omega⟩
      rw[←hr1]
      conv=>rhs;unfold Sort.insInner
      rw[if_pos]
      ·rfl
      ·simp at h3 ⊢;exact⟨by omega,h3⟩
    ·have h2:¬a<k:=by simpa using h2
     ((conv=>whnf)<;>repeat(with_reducible refine D1 ?_)<;>conv=>whnf)
     refine⟨b - (i+1),?_,by omega⟩
     refine⟨[],[some 0],?_⟩
     iterate 3 constructor
     refine⟨⟨?_,?_,?_⟩,⟨i+1,e1,by omega,rfl,he1,fin ?_,rfl,rfl,rfl⟩⟩
     all_goals(repeat' first|exact LF|constructor)
     all_goals first|exact Lz.int (wA (by omega))|skip
     match k,h2 with
     |0,_=>rfl
     |k+1,h2=>unfold Sort.insInner;rw[if_neg];simp;intro _;omega
  ·have h:¬i<b:=by simpa using h
   conv=>whnf
   refine⟨[],[some 0],?_⟩
   iterate 3 constructor
   refine⟨⟨?_,?_,?_⟩,rfl,rfl,rfl⟩
   all_goals(repeat' first|exact LF|constructor)
   rw[Sort.insOuter,if_neg h]at hr
   exact Lz.of (by rw[hr])
end Go.M
namespace Go.M
open Go Go.Proofs
set_option maxRecDepth 100000
set_option maxHeartbeats 4000000
theorem reverse_ok (d:Array Int) (a b:Nat) (hab:a<b) (hb:b≤d.size) (hl:d.size<1000000):VC ES 164 1 [.tk 0,nI a,nI b] [(0,arrK d)] (RR (.tup []) 1 [(0,arrK (Sort.reverseRange d a b))]):=by
 refine VC.enterR LS (show ES.func 164=some Tryz.f164 by kernel_rfl) (fun _ _=>rfl) rfl rfl [] ?_
 conv=>whnf
 refine⟨fun k f o c=>∃(i j:Nat) (e:Array Int),a≤i∧j<b∧k=j - i∧e.size=d.size∧Sort.reverseLoop i j e=Sort.reverseRange d a b∧c=1∧f=[(0,.tk 0),(6,nI i),(7,nI j)]∧o=[(0,arrK e)],⟨b - 1 - a,?_⟩,?_⟩
 ·refine⟨[],[some 0],?_⟩
  iterate 3 constructor
  refine⟨⟨?_,?_,?_⟩,⟨a,b - 1,d,Nat.le_refl _,by omega,rfl,rfl,rfl,rfl,rfl,rfl⟩⟩
  all_goals(repeat' first|exact LF|constructor)
  all_goals exact Lz.int (wS (by omega) (by omega))
 ·rintro k f1 o1 c1 ⟨i,j,e,hi,hj,rfl,he,hr,rfl,rfl,rfl⟩
  conv=>whnf
  (first|refine⟨?_,?_⟩|refine nsplit ?_ ?_|refine bsplit ?_ ?_)<;>intro h<;>have hz_:=True.intro<;>clear hz_
  ·have h:i<j:=by simpa using h
   ((conv=>whnf)<;>repeat(with_reducible refine D1 ?_)<;>conv=>whnf)
   refine ldK j rfl (by omega) ?_
   conv=>whnf
   refine ldK i rfl (by omega) ?_
   conv=>whnf
   refine ldK i rfl (by omega) ?_
   conv=>whnf
   refine lastK j rfl (by omega) (fun x=>?_) ⟨_,rfl⟩
   ((conv=>whnf)<;>repeat(with_reducible refine D1 ?_)<;>conv=>whnf)
   refine⟨j - 1 - (i+1),?_,by omega⟩
   refine⟨[],[some 0],?_⟩
   iterate 3 constructor
   refine⟨⟨?_,?_,?_⟩,⟨i+1,j - 1,Sort.swp e i j,by omega,by omega,rfl,by rw[Sort.size_swp,he],by rw[←hr,Sort.reverseLoop.eq_1 i j e,if_pos h],rfl,rfl,rfl⟩⟩
   all_goals(repeat' first|exact LF|constructor)
   all_goals first|exact Lz.int (wS (by omega) (by omega))|exact Lz.of (swpK e i j)
  ·have h:¬i<j:=by simpa using h
   conv=>whnf
   refine⟨[],[some 0],?_⟩
   iterate 3 constructor
   refine⟨⟨?_,?_,?_⟩,rfl,rfl,rfl⟩
   all_goals(repeat' first|exact LF|constructor)
   rw[Sort.reverseLoop,if_neg h]at hr
   exact Lz.of (by rw[hr])
end Go.M
namespace Go.M
open Go Go.Proofs
set_option maxRecDepth 100000
set_option maxHeartbeats 4000000
theorem wM {n:Nat} (h:n≤549755813888):IntKind.i64.wrap (2*(n:Int))=((2*n:Nat):Int):=by
 rw[IntWalk.i64_in _ (by omega)];omega
theorem wP {m n:Nat} (h:m+n≤1099511627776):IntKind.i64.wrap ((m:Int)+(n:Int))=((m+n:Nat):Int):=by
 rw[IntWalk.i64_in _ (by omega)];omega
theorem wD {m n:Nat} (h:n≤m) (h1:m≤1099511627776):IntKind.i64.wrap ((m:Int) - (n:Int))=((m - n:Nat):Int):=by
 rw[IntWalk.i64_in _ (by omega)];omega
theorem wQ {n:Nat} (h:n≤1099511627776):IntKind.i64.wrap ((n:Int).tdiv 2)=((n / 2:Nat):Int):=by
 rw[show(n:Int).tdiv 2=((n / 2:Nat):Int)from rfl,IntWalk.i64_in _ (by omega)]
theorem w4 {a n k:Nat} (h:a+n*4≤1000000) (hk:k≤4):IntKind.i64.wrap ((a:Int)+IntKind.i64.wrap (IntKind.i64.wrap ((n:Int).tdiv 4)*(k:Int)))=((a+n / 4*k:Nat):Int):=by
 rw[show(n:Int).tdiv 4=((n / 4:Nat):Int)from rfl,IntWalk.i64_in ((n / 4:Nat):Int) (by omega)]
 have h1:((n / 4:Nat):Int)*(k:Int)=((n / 4*k:Nat):Int):=by simp
 have h2:n / 4*k≤n / 4*4:=Nat.mul_le_mul_left _ hk
 rw[h1,IntWalk.i64_in ((n / 4*k:Nat):Int) (by omega),IntWalk.i64_in _ (by omega)]
 simp
theorem w4a {a n:Nat} (h:a+n*4≤1000000):IntKind.i64.wrap ((a:Int)+IntKind.i64.wrap (IntKind.i64.wrap ((n:Int).tdiv 4)*1))=((a+n / 4*1:Nat):Int):=w4 (k:=1) h (by omega)
theorem w4b {a n:Nat} (h:a+n*4≤1000000):IntKind.i64.wrap ((a:Int)+IntKind.i64.wrap (IntKind.i64.wrap ((n:Int).tdiv 4)*2))=((a+n / 4*2:Nat):Int):=w4 (k:=2) h (by omega)
theorem w4c {a n:Nat} (h:a+n*4≤1000000):IntKind.i64.wrap ((a:Int)+IntKind.i64.wrap (IntKind.i64.wrap ((n:Int).tdiv 4)*3))=((a+n / 4*3:Nat):Int):=w4 (k:=3) h (by omega)
theorem sift_size (hi first:Nat):∀(n root:Nat) (d:Array Int),hi - root≤n→(Sort.siftDown Sort.ltInt hi first root d).size=d.size:=by
 intro n
 induction n with
 |zero=>intro root d h;unfold Sort.siftDown;rw[dif_pos (by omega)]
 |succ n ih=>
  intro root d h
  unfold Sort.siftDown
  split
  ·rfl
  ·split
   ·split
    ·rfl
    ·split
     ·rw[ih _ _ (by omega),Sort.size_swp]
     ·rfl
   ·split
    ·rfl
    ·rw[ih _ _ (by omega),Sort.size_swp]
theorem sift_ok (d:Array Int) (lo hi first:Nat) (hb:first+hi≤d.size) (hl:d.size<1000000) (hlo:lo<1000000):VC ES 195 1 [.tk 0,nI lo,nI hi,nI first] [(0,arrK d)] (RR (.tup []) 1 [(0,arrK (Sort.siftDown Sort.ltInt hi first lo d))]):=by
 refine VC.enterR LS (show ES.func 195=some Tryz.f195 by kernel_rfl) (fun _ _=>rfl) rfl rfl [] ?_
 conv=>whnf
 refine⟨fun k f o c=>∃(root:Nat) (e:Array Int),k=hi - root∧e.size=d.size∧Sort.siftDown Sort.ltInt hi first root e=Sort.siftDown Sort.ltInt hi first lo d∧root<1000000∧c=1∧f=[(0,.tk 0),(2,nI hi),(3,nI first),(8,nI root)]∧o=[(0,arrK e)],⟨hi - lo,?_⟩,?_⟩
 ·exact⟨[],[some 0],_,_,_,t3,⟨lo,d,rfl,rfl,rfl,hlo,rfl,rfl,rfl⟩⟩
 ·rintro k f1 o1 c1 ⟨root,e,rfl,he,hr,hrt,rfl,rfl,rfl⟩
  have hc1:IntKind.i64.wrap (IntKind.i64.wrap (2*(root:Int))+1)=((2*root+1:Nat):Int):=by rw[wM (by omega),wA (by omega)]
  have hc2:IntKind.i64.wrap (IntKind.i64.wrap (IntKind.i64.wrap (2*(root:Int))+1)+1)=((2*root+2:Nat):Int):=by rw[hc1,wA (by omega)]
  conv=>whnf
  (first|refine⟨?_,?_⟩|refine nsplit ?_ ?_|refine bsplit ?_ ?_)<;>intro h<;>have hz_:=True.intro<;>clear hz_
  ·have h:2*root+1≥hi:=by rw[hc1]at h;omega
   conv=>whnf
   refine⟨[],[some 0],?_⟩
   iterate 3 constructor
   refine⟨⟨?_,?_,?_⟩,rfl,rfl,rfl⟩
   all_goals(repeat' first|exact LF|constructor)
   refine Lz.of ?_
   rw[←hr,Sort.siftDown.eq_1 _ hi first root e,dif_pos h]
  ·have h:¬2*root+1≥hi:=by rw[hc1]at h;omega
   ((conv=>whnf)<;>repeat(with_reducible refine D1 ?_)<;>conv=>whnf)
   (first|refine⟨?_,?_⟩|refine nsplit ?_ ?_|refine bsplit ?_ ?_)<;>intro h3<;>have hz_:=True.intro<;>clear hz_
   ·have h3:2*root+1+1<hi:=by rw[hc2]at h3;omega
    conv=>whnf
    refine ldK (first+(2*root+1)) (by rw[hc1,wP (by omega)]) (by omega) ?_
    conv=>whnf
    refine ldK (first+(2*root+1)+1) (by rw[hc1,wP (by omega),wA (by omega)]) (by omega) ?_
    conv=>whnf
    refine⟨[],[],_,_,_,_,less_ok e[first+(2*root+1)]! e[first+(2*root+1)+1]!,t3,?_⟩
    rintro r o' c' ⟨rfl,rfl,rfl⟩
    have hz_:=True.intro
    clear hz_
    cases h4:Sort.ltInt e[first+(2*root+1)]! e[first+(2*root+1)+1]!
    ·have side:(decide (2*root+1+1<hi)&&Sort.ltInt e[first+(2*root+1)]! e[first+(2*root+1)+1]!)=false:=by rw[h4];simp
     have hc:=hc1
     have hlt:2*root+1<hi:=by omega
     have hw:IntKind.i64.wrap ((first:Int)+IntKind.i64.wrap (IntKind.i64.wrap (2*(root:Int))+1))=((first+(2*root+1):Nat):Int):=by rw[hc1,wP (by omega)]
     ((conv=>whnf)<;>repeat(with_reducible refine D1 ?_)<;>conv=>whnf)
     refine ldK (first+root) (wP (by omega)) (by omega) ?_
     conv=>whnf
     refine ldK (first+(2*root+1)) hw (by omega) ?_
     conv=>whnf
     refine⟨[],[],_,_,_,_,less_ok e[first+root]! e[first+(2*root+1)]!,t3,?_⟩
     rintro r o' c' ⟨rfl,rfl,rfl⟩
     have hz_:=True.intro
     clear hz_
     cases h5:Sort.ltInt e[first+root]! e[first+(2*root+1)]!
     ·((conv=>whnf)<;>repeat(with_reducible refine D1 ?_)<;>conv=>whnf)
      refine⟨[],[some 0],?_⟩
      iterate 3 constructor
      refine⟨⟨?_,?_,?_⟩,rfl,rfl,rfl⟩
      all_goals(repeat' first|exact LF|constructor)
      refine Lz.of ?_
      rw[←hr]
      conv=>rhs;unfold Sort.siftDown
      rw[dif_neg h,side]
      simp only[h5,if_true,if_false,Bool.false_eq_true,Bool.not_false]
     ·((conv=>whnf)<;>repeat(with_reducible refine D1 ?_)<;>conv=>whnf)
      refine ldK (first+(2*root+1)) hw (by omega) ?_
      conv=>whnf
      refine ldK (first+root) (wP (by omega)) (by omega) ?_
      conv=>whnf
      refine ldK (first+root) (wP (by omega)) (by omega) ?_
      conv=>whnf
      refine lastK (first+(2*root+1)) hw (by omega) (fun x=>?_) ⟨_,rfl⟩
      ((conv=>whnf)<;>repeat(with_reducible refine D1 ?_)<;>conv=>whnf)
      refine⟨hi - (2*root+1),?_,by omega⟩
      refine⟨[],[some 0],?_⟩
      iterate 3 constructor
      refine⟨⟨?_,?_,?_⟩,⟨(2*root+1),Sort.swp e (first+root) (first+(2*root+1)),rfl,by rw[Sort.size_swp,he],?_,by omega,rfl,rfl,rfl⟩⟩
      all_goals(repeat' first|exact LF|constructor)
      all_goals first|exact Lz.int hc|(refine Lz.of ?_;rw[wP (by omega),hw];exact swpK e (first+root) (first+(2*root+1)))|skip
      rw[←hr]
      conv=>rhs;unfold Sort.siftDown
      rw[dif_neg h,side]
      simp only[h5,if_false,Bool.false_eq_true,Bool.not_true]
    ·have side:(decide (2*root+1+1<hi)&&Sort.ltInt e[first+(2*root+1)]! e[first+(2*root+1)+1]!)=true:=by rw[h4];simp[h3]
     have hc:=hc2
     have hlt:2*root+2<hi:=by omega
     have hw:IntKind.i64.wrap ((first:Int)+IntKind.i64.wrap (IntKind.i64.wrap (IntKind.i64.wrap (2*(root:Int))+1)+1))=((first+(2*root+2):Nat):Int):=by rw[hc2,wP (by omega)]
     ((conv=>whnf)<;>repeat(with_reducible refine D1 ?_)<;>conv=>whnf)
     refine ldK (first+root) (wP (by omega)) (by omega) ?_
     conv=>whnf
     refine ldK (first+(2*root+2)) hw (by omega) ?_
     conv=>whnf
     refine⟨[],[],_,_,_,_,less_ok e[first+root]! e[first+(2*root+2)]!,t3,?_⟩
     rintro r o' c' ⟨rfl,rfl,rfl⟩
     have hz_:=True.intro
     clear hz_
     cases h5:Sort.ltInt e[first+root]! e[first+(2*root+2)]!
     ·((conv=>whnf)<;>repeat(with_reducible refine D1 ?_)<;>conv=>whnf)
      refine⟨[],[some 0],?_⟩
      iterate 3 constructor
      refine⟨⟨?_,?_,?_⟩,rfl,rfl,rfl⟩
      all_goals(repeat' first|exact LF|constructor)
      refine Lz.of ?_
      rw[←hr]
      conv=>rhs;unfold Sort.siftDown
      rw[dif_neg h,side]
      simp only[h5,if_true,Bool.not_false]
     ·((conv=>whnf)<;>repeat(with_reducible refine D1 ?_)<;>conv=>whnf)
      refine ldK (first+(2*root+2)) hw (by omega) ?_
      conv=>whnf
      refine ldK (first+root) (wP (by omega)) (by omega) ?_
      conv=>whnf
      refine ldK (first+root) (wP (by omega)) (by omega) ?_
      conv=>whnf
      refine lastK (first+(2*root+2)) hw (by omega) (fun x=>?_) ⟨_,rfl⟩
      ((conv=>whnf)<;>repeat(with_reducible refine D1 ?_)<;>conv=>whnf)
      refine⟨hi - (2*root+2),?_,by omega⟩
      refine⟨[],[some 0],?_⟩
      iterate 3 constructor
      refine⟨⟨?_,?_,?_⟩,⟨(2*root+2),Sort.swp e (first+root) (first+(2*root+2)),rfl,by rw[Sort.size_swp,he],?_,by omega,rfl,rfl,rfl⟩⟩
      all_goals(repeat' first|exact LF|constructor)
      all_goals first|exact Lz.int hc|(refine Lz.of ?_;rw[wP (by omega),hw];exact swpK e (first+root) (first+(2*root+2)))|skip
      rw[←hr]
      conv=>rhs;unfold Sort.siftDown
      rw[dif_neg h,side]
      simp only[h5,if_true,if_false,Bool.false_eq_true,Bool.not_true,hlt,dite_true]
   ·have h3:¬2*root+1+1<hi:=by rw[hc2]at h3;omega
    have side:(decide (2*root+1+1<hi)&&Sort.ltInt e[first+(2*root+1)]! e[first+(2*root+1)+1]!)=false:=by simp[h3]
    have hc:=hc1
    have hlt:2*root+1<hi:=by omega
    have hw:IntKind.i64.wrap ((first:Int)+IntKind.i64.wrap (IntKind.i64.wrap (2*(root:Int))+1))=((first+(2*root+1):Nat):Int):=by rw[hc1,wP (by omega)]
    ((conv=>whnf)<;>repeat(with_reducible refine D1 ?_)<;>conv=>whnf)
    refine ldK (first+root) (wP (by omega)) (by omega) ?_
    conv=>whnf
    refine ldK (first+(2*root+1)) hw (by omega) ?_
    conv=>whnf
    refine⟨[],[],_,_,_,_,less_ok e[first+root]! e[first+(2*root+1)]!,t3,?_⟩
    rintro r o' c' ⟨rfl,rfl,rfl⟩
    have hz_:=True.intro
    clear hz_
    cases h5:Sort.ltInt e[first+root]! e[first+(2*root+1)]!
    ·((conv=>whnf)<;>repeat(with_reducible refine D1 ?_)<;>conv=>whnf)
     refine⟨[],[some 0],?_⟩
     iterate 3 constructor
     refine⟨⟨?_,?_,?_⟩,rfl,rfl,rfl⟩
     all_goals(repeat' first|exact LF|constructor)
     refine Lz.of ?_
     rw[←hr]
     conv=>rhs;unfold Sort.siftDown
     rw[dif_neg h,side]
     simp only[h5,if_true,if_false,Bool.false_eq_true,Bool.not_false]
    ·((conv=>whnf)<;>repeat(with_reducible refine D1 ?_)<;>conv=>whnf)
     refine ldK (first+(2*root+1)) hw (by omega) ?_
     conv=>whnf
     refine ldK (first+root) (wP (by omega)) (by omega) ?_
     conv=>whnf
     refine ldK (first+root) (wP (by omega)) (by omega) ?_
     conv=>whnf
     refine lastK (first+(2*root+1)) hw (by omega) (fun x=>?_) ⟨_,rfl⟩
     ((conv=>whnf)<;>repeat(with_reducible refine D1 ?_)<;>conv=>whnf)
     refine⟨hi - (2*root+1),?_,by omega⟩
     refine⟨[],[some 0],?_⟩
     iterate 3 constructor
     refine⟨⟨?_,?_,?_⟩,⟨(2*root+1),Sort.swp e (first+root) (first+(2*root+1)),rfl,by rw[Sort.size_swp,he],?_,by omega,rfl,rfl,rfl⟩⟩
     all_goals(repeat' first|exact LF|constructor)
     all_goals first|exact Lz.int hc|(refine Lz.of ?_;rw[wP (by omega),hw];exact swpK e (first+root) (first+(2*root+1)))|skip
     rw[←hr]
     conv=>rhs;unfold Sort.siftDown
     rw[dif_neg h,side]
     simp only[h5,if_false,Bool.false_eq_true,Bool.not_true]
theorem heap_ok (d:Array Int) (a b:Nat) (ha:a<b) (hb:b≤d.size) (hl:d.size<1000000):VC ES 161 1 [.tk 0,nI a,nI b] [(0,arrK d)] (RR (.tup []) 1 [(0,arrK (Sort.heapSort Sort.ltInt d a b))]):=by
 have e1:IntKind.i64.wrap ((b:Int) - (a:Int))=((b - a:Nat):Int):=wD (by omega) (by omega)
 have e2:IntKind.i64.wrap (((b - a:Nat):Int) - 1)=((b - a - 1:Nat):Int):=wS (by omega) (by omega)
 refine VC.enterR LS (show ES.func 161=some Tryz.f161 by kernel_rfl) (fun _ _=>rfl) rfl rfl [] ?_
 conv=>whnf
 refine⟨fun k f o c=>∃(i:Int) (e:Array Int),i+1=k∧(i<b - a)∧e.size=d.size∧Sort.heapBuild Sort.ltInt (b - a) a k e=Sort.heapBuild Sort.ltInt (b - a) a ((b - a - 1) / 2+1) d∧c=1∧f=[(0,.tk 0),(6,nI a),(7,nI 0),(8,nI (b - a)),(9,.s (.int .i64 i))]∧o=[(0,arrK e)],⟨(b - a - 1) / 2+1,?_⟩,?_⟩
 ·refine⟨[],[some 0],?_⟩
  iterate 3 constructor
  refine⟨⟨?_,?_,?_⟩,⟨(((b - a - 1) / 2:Nat):Int),d,by omega,by omega,rfl,rfl,rfl,rfl,rfl⟩⟩
  all_goals(repeat' first|exact LF|constructor)
  ·exact Lz.int e1
  ·refine Lz.int ?_
   rw[e1,e2]
   exact wQ (by omega)
 ·rintro k f1 o1 c1 ⟨i,e,hi,hik,he,hr,rfl,rfl,rfl⟩
  conv=>whnf
  (first|refine⟨?_,?_⟩|refine nsplit ?_ ?_|refine bsplit ?_ ?_)<;>intro h<;>have hz_:=True.intro<;>clear hz_
  ·have h:0≤i:=by simpa using h
   obtain⟨k,rfl⟩:∃m,k=m+1:=⟨k - 1,by omega⟩
   obtain rfl:i=(k:Int):=by omega
   conv=>whnf
   refine⟨[],[some 0],_,_,_,_,sift_ok e k (b - a) a (by omega) (by omega) (by omega),t3,cR ?_⟩
   conv=>whnf
   refine⟨k,?_,by omega⟩
   refine⟨[],[some 0],?_⟩
   iterate 3 constructor
   refine⟨⟨?_,?_,?_⟩,⟨(k:Int) - 1,_,by omega,by omega,(sift_size _ _ _ _ _ (Nat.le_refl _)).trans he,by rw[←hr];rfl,rfl,rfl,rfl⟩⟩
   all_goals(repeat' first|exact LF|constructor)
   all_goals exact Lz.int (by rw[IntWalk.i64_in _ (by omega)])
  ·have h:¬0≤i:=by simpa using h
   obtain rfl:k=0:=by omega
   conv=>whnf
   refine⟨fun k f o c=>∃(i:Int) (e1:Array Int),i+1=k∧(i<b - a)∧e1.size=d.size∧Sort.heapPop Sort.ltInt a k e1=Sort.heapPop Sort.ltInt a (b - a) e∧c=1∧f=[(0,.tk 0),(6,nI a),(7,nI 0),(8,nI (b - a)),(10,.s (.int .i64 i))]∧o=[(0,arrK e1)],⟨b - a,?_⟩,?_⟩
   ·refine⟨[],[some 0],?_⟩
    iterate 3 constructor
    refine⟨⟨?_,?_,?_⟩,⟨((b - a - 1:Nat):Int),e,by omega,by omega,he,rfl,rfl,rfl,rfl⟩⟩
    all_goals(repeat' first|exact LF|constructor)
    all_goals exact Lz.int e2
   ·rintro k f1 o1 c1 ⟨i,e1,hi,hik,he1,hr1,rfl,rfl,rfl⟩
    conv=>whnf
    (first|refine⟨?_,?_⟩|refine nsplit ?_ ?_|refine bsplit ?_ ?_)<;>intro h2<;>have hz_:=True.intro<;>clear hz_
    ·have h2:0≤i:=by simpa using h2
     obtain⟨k,rfl⟩:∃m,k=m+1:=⟨k - 1,by omega⟩
     obtain rfl:i=(k:Int):=by omega
     ((conv=>whnf)<;>repeat(with_reducible refine D1 ?_)<;>conv=>whnf)
     refine ldK (a+k) (wP (by omega)) (by omega) ?_
     conv=>whnf
     refine ldK a rfl (by omega) ?_
     conv=>whnf
     refine ldK a rfl (by omega) ?_
     conv=>whnf
     refine lastK (a+k) (wP (by omega)) (by omega) (fun x=>?_) ⟨_,rfl⟩
     ((conv=>whnf)<;>repeat(with_reducible refine D1 ?_)<;>conv=>whnf)
     refine⟨[],[some 0],_,_,_,_,sift_ok (Sort.swp e1 a (a+k)) 0 k a (by rw[Sort.size_swp];omega) (by rw[Sort.size_swp];omega) (by omega),⟨by((repeat' first|exact LF|constructor);all_goals(exact Lz.of (by rw[wP (by omega)];exact swpK e1 a (a+k)))),by((repeat' first|exact LF|constructor);all_goals(exact Lz.of (by rw[wP (by omega)];exact swpK e1 a (a+k)))),by rfl⟩,?_⟩
     rintro r o' c' ⟨rfl,rfl,rfl⟩
     conv=>whnf
     refine⟨k,?_,by omega⟩
     refine⟨[],[some 0],?_⟩
     iterate 3 constructor
     refine⟨⟨?_,?_,?_⟩,⟨(k:Int) - 1,_,by omega,by omega,(sift_size _ _ _ _ _ (Nat.le_refl _)).trans ((Sort.size_swp _ _ _).trans he1),by rw[←hr1];rfl,rfl,rfl,rfl⟩⟩
     all_goals(repeat' first|exact LF|constructor)
     all_goals exact Lz.int (by rw[IntWalk.i64_in _ (by omega)])
    ·have h2:¬0≤i:=by simpa using h2
     obtain rfl:k=0:=by omega
     conv=>whnf
     refine⟨[],[some 0],?_⟩
     iterate 3 constructor
     refine⟨⟨?_,?_,?_⟩,rfl,rfl,rfl⟩
     all_goals(repeat' first|exact LF|constructor)
     refine Lz.of ?_
     have:e1=Sort.heapSort Sort.ltInt d a b:=by
      unfold Sort.heapSort
      rw[←hr]
      exact hr1
     rw[this]
end Go.M
namespace Go.M
open Go Go.Proofs
set_option maxRecDepth 100000
set_option maxHeartbeats 4000000
theorem up_stop {p:Int→Bool} {d:Array Int} {j i:Nat} (h:¬(i≤j∧p d[i]! =true)):Sort.scanUp p d j i=i:=by
 rw[Sort.scanUp,if_neg];simp;intro h1;simpa using fun h2=>h ⟨h1,h2⟩
theorem up_go {p:Int→Bool} {d:Array Int} {j i:Nat} (h1:i≤j) (h2:p d[i]! =true):Sort.scanUp p d j i=Sort.scanUp p d j (i+1):=by
 rw[Sort.scanUp,if_pos];simp[h1,h2]
theorem dn_stop {p:Int→Bool} {d:Array Int} {i j:Nat} (_:1≤i) (h:¬(i≤j∧p d[j]! =true)):Sort.scanDown p d i j=j:=by
 match j with
 |0=>rfl
 |j+1=>rw[Sort.scanDown,if_neg];simp;intro h1;simpa using fun h2=>h ⟨h1,h2⟩
theorem dn_go {p:Int→Bool} {d:Array Int} {i j:Nat} (hi:1≤i) (h1:i≤j) (h2:p d[j]! =true):Sort.scanDown p d i j=Sort.scanDown p d i (j - 1):=by
 match j,h1 with
 |0,h1=>omega
 |j+1,h1=>rw[Sort.scanDown,if_pos];rfl;simp[h1,h2]
abbrev pU (e:Array Int) (a:Nat):Int→Bool:=fun x=>Sort.ltInt x e[a]!
abbrev pD (e:Array Int) (a:Nat):Int→Bool:=fun x=> !Sort.ltInt x e[a]!
abbrev qU (e:Array Int) (a:Nat):Int→Bool:=fun x=> !Sort.ltInt e[a]! x
abbrev qD (e:Array Int) (a:Nat):Int→Bool:=fun x=>Sort.ltInt e[a]! x
theorem swpE {d e:Array Int} {i j:Nat} (he:e=Sort.swp d i j):Lz (((d.toList.map encK).set (i:Int).toNat [.s (.int .u32 d[j]!)]).set (j:Int).toNat [.s (.int .u32 d[i]!)]) (e.toList.map encK):=by
 subst he;exact Lz.of (swpK d i j)
theorem part_ok (d:Array Int) (a b p:Nat) (ha:a<b) (hb:b≤d.size) (_:a≤p) (hp2:p<b) (hl:d.size<1000000):VC ES 168 1 [.tk 0,nI a,nI b,nI p] [(0,arrK d)]
 (RR (.tup [nI (Sort.partition Sort.ltInt d a b p).1,.s (.bool (Sort.partition Sort.ltInt d a b p).2.1)]) 1 [(0,arrK (Sort.partition Sort.ltInt d a b p).2.2)]):=by
 refine VC.enterR LS (show ES.func 168=some Tryz.f168 by kernel_rfl) (fun _ _=>rfl) rfl rfl [0,2,6,8] ?_
 ((conv=>whnf)<;>repeat(with_reducible refine D1 ?_)<;>conv=>whnf)
 refine ldK p rfl (by omega) ?_
 conv=>whnf
 refine ldK a rfl (by omega) ?_
 conv=>whnf
 refine ldK a rfl (by omega) ?_
 conv=>whnf
 refine lastK p rfl (by omega) (fun x=>?_) ⟨_,rfl⟩
 ((conv=>whnf)<;>repeat(with_reducible refine D1 ?_)<;>conv=>whnf)
 obtain⟨e,he⟩:∃e,e=Sort.swp d a p:=⟨_,rfl⟩
 have hes:e.size=d.size:=by rw[he,Sort.size_swp]
 obtain⟨ii,hii⟩:∃ii,ii=a+1:=⟨_,rfl⟩
 obtain⟨jj,hjj⟩:∃jj,jj=b - 1:=⟨_,rfl⟩
 refine⟨fun f o c=>∃i1:Nat,ii≤i1∧i1≤b∧Sort.scanUp (pU e a) e jj ii=i1∧c=1∧f=[(0,.tk 0),(1,nI a),(10,nI i1),(11,nI jj)]∧o=[(0,arrK e)],?_,?_⟩
 ·conv=>whnf
  refine⟨fun k f o c=>∃i1:Nat,ii≤i1∧i1≤b∧k=b - i1∧Sort.scanUp (pU e a) e jj i1=Sort.scanUp (pU e a) e jj ii∧c=1∧f=[(0,.tk 0),(1,nI a),(10,nI i1),(11,nI jj)]∧o=[(0,arrK e)],⟨b - ii,?_⟩,?_⟩
  ·refine⟨[],[some 0],?_⟩
   iterate 3 constructor
   refine⟨⟨?_,?_,?_⟩,⟨ii,Nat.le_refl _,by omega,rfl,rfl,rfl,rfl,rfl⟩⟩
   all_goals(repeat' first|exact LF|constructor)
   all_goals(first|exact swpE he|(subst hii;exact Lz.int (wA (by omega)))|(subst hjj;exact Lz.int (wS (by omega) (by omega))))
  rintro k f1 o1 c1 ⟨i1,hq1,hq2,rfl,hu,rfl,rfl,rfl⟩
  ((conv=>whnf)<;>repeat(with_reducible refine D1 ?_)<;>conv=>whnf)
  (first|refine⟨?_,?_⟩|refine nsplit ?_ ?_|refine bsplit ?_ ?_)<;>intro hu1<;>have hz_:=True.intro<;>clear hz_
  ·have hu1:i1≤jj:=by simpa using hu1
   conv=>whnf
   refine ldK (i1) rfl (by omega) ?_
   conv=>whnf
   refine ldK (a) rfl (by omega) ?_
   conv=>whnf
   refine⟨[],[],_,_,_,_,less_ok e[i1]! e[a]!,t3,?_⟩
   rintro r o' c' ⟨rfl,rfl,rfl⟩
   have hz_:=True.intro
   clear hz_
   cases hu2:Sort.ltInt e[i1]! e[a]!
   ·have hu3:Sort.scanUp (pU e a) e jj ii=i1:=hu.symm.trans (up_stop (fun h=>by have:=h.2;simp[pU,hu2]at this))
    ((conv=>whnf)<;>repeat(with_reducible refine D1 ?_)<;>conv=>whnf)
    exact⟨[],[some 0],_,_,_,t3,⟨i1,by omega,by omega,hu3,rfl,rfl,rfl⟩⟩
   ·((conv=>whnf)<;>repeat(with_reducible refine D1 ?_)<;>conv=>whnf)
    refine⟨b - (i1+1),?_,by omega⟩
    refine⟨[],[some 0],?_⟩
    iterate 3 constructor
    refine⟨⟨?_,?_,?_⟩,⟨i1+1,by omega,by omega,rfl,by rw[←hu];exact(up_go hu1 (by simp[pU,hu2])).symm,rfl,rfl,rfl⟩⟩
    all_goals(repeat' first|exact LF|constructor)
    all_goals exact Lz.int (wA (by omega))
  ·have hu1:¬i1≤jj:=by simpa using hu1
   have hu3:Sort.scanUp (pU e a) e jj ii=i1:=hu.symm.trans (up_stop (fun h=>hu1 h.1))
   ((conv=>whnf)<;>repeat(with_reducible refine D1 ?_)<;>conv=>whnf)
   exact⟨[],[some 0],_,_,_,t3,⟨i1,by omega,by omega,hu3,rfl,rfl,rfl⟩⟩
 rintro f1 o1 c1 ⟨i,hi1,hib,hu,rfl,rfl,rfl⟩
 conv=>whnf
 refine⟨fun f o c=>∃j1:Nat,j1≤jj∧j1<b∧Sort.scanDown (pD e a) e i jj=j1∧c=1∧f=[(0,.tk 0),(1,nI a),(10,nI i),(11,nI j1)]∧o=[(0,arrK e)],?_,?_⟩
 ·conv=>whnf
  refine⟨fun k f o c=>∃j1:Nat,j1≤jj∧j1<b∧j1=k∧Sort.scanDown (pD e a) e i j1=Sort.scanDown (pD e a) e i jj∧c=1∧f=[(0,.tk 0),(1,nI a),(10,nI i),(11,nI j1)]∧o=[(0,arrK e)],⟨jj,?_⟩,?_⟩
  ·refine⟨[],[some 0],?_⟩
   iterate 3 constructor
   refine⟨⟨?_,?_,?_⟩,⟨jj,Nat.le_refl _,by omega,rfl,rfl,rfl,rfl,rfl⟩⟩
   all_goals(repeat' first|exact LF|constructor)
   all_goals skip
  rintro k f1 o1 c1 ⟨j1,hq1,hq2,rfl,hu,rfl,rfl,rfl⟩
  ((conv=>whnf)<;>repeat(with_reducible refine D1 ?_)<;>conv=>whnf)
  (first|refine⟨?_,?_⟩|refine nsplit ?_ ?_|refine bsplit ?_ ?_)<;>intro hu1<;>have hz_:=True.intro<;>clear hz_
  ·have hu1:i≤j1:=by simpa using hu1
   conv=>whnf
   refine ldK (j1) rfl (by omega) ?_
   conv=>whnf
   refine ldK (a) rfl (by omega) ?_
   conv=>whnf
   refine⟨[],[],_,_,_,_,less_ok e[j1]! e[a]!,t3,?_⟩
   rintro r o' c' ⟨rfl,rfl,rfl⟩
   have hz_:=True.intro
   clear hz_
   cases hu2:Sort.ltInt e[j1]! e[a]!
   ·((conv=>whnf)<;>repeat(with_reducible refine D1 ?_)<;>conv=>whnf)
    refine⟨(j1 - 1),?_,by omega⟩
    refine⟨[],[some 0],?_⟩
    iterate 3 constructor
    refine⟨⟨?_,?_,?_⟩,⟨j1 - 1,by omega,by omega,rfl,by rw[←hu];exact(dn_go (by omega) hu1 (by simp[pD,hu2])).symm,rfl,rfl,rfl⟩⟩
    all_goals(repeat' first|exact LF|constructor)
    all_goals exact Lz.int (wS (by omega) (by omega))
   ·have hu3:Sort.scanDown (pD e a) e i jj=j1:=hu.symm.trans (dn_stop (by omega) (fun h=>by have:=h.2;simp[pD,hu2]at this))
    ((conv=>whnf)<;>repeat(with_reducible refine D1 ?_)<;>conv=>whnf)
    exact⟨[],[some 0],_,_,_,t3,⟨j1,by omega,by omega,hu3,rfl,rfl,rfl⟩⟩
  ·have hu1:¬i≤j1:=by simpa using hu1
   have hu3:Sort.scanDown (pD e a) e i jj=j1:=hu.symm.trans (dn_stop (by omega) (fun h=>hu1 h.1))
   ((conv=>whnf)<;>repeat(with_reducible refine D1 ?_)<;>conv=>whnf)
   exact⟨[],[some 0],_,_,_,t3,⟨j1,by omega,by omega,hu3,rfl,rfl,rfl⟩⟩
 rintro f1 o1 c1 ⟨j,hj1,hj2,hd,rfl,rfl,rfl⟩
 have hpt:Sort.partition Sort.ltInt d a b p=if i>j then(j,true,Sort.swp e j a)else((Sort.partLoop Sort.ltInt a (i+1) (j - 1) (Sort.swp e i j)).1,false,Sort.swp (Sort.partLoop Sort.ltInt a (i+1) (j - 1) (Sort.swp e i j)).2 (Sort.partLoop Sort.ltInt a (i+1) (j - 1) (Sort.swp e i j)).1 a):=by
  have hu':Sort.scanUp (fun x=>Sort.ltInt x e[a]!) e (b - 1) (a+1)=i:=by rw[←hii,←hjj];exact hu
  have hd':Sort.scanDown (fun x=> !Sort.ltInt x e[a]!) e i (b - 1)=j:=by rw[←hjj];exact hd
  unfold Sort.partition
  simp only[←he,hu',hd']
 conv=>whnf
 (first|refine⟨?_,?_⟩|refine nsplit ?_ ?_|refine bsplit ?_ ?_)<;>intro hij<;>have hz_:=True.intro<;>clear hz_
 ·have hij:i>j:=by simpa using hij
  rw[if_pos hij]at hpt
  ((conv=>whnf)<;>repeat(with_reducible refine D1 ?_)<;>conv=>whnf)
  refine ldK a rfl (by omega) ?_
  conv=>whnf
  refine ldK j rfl (by omega) ?_
  conv=>whnf
  refine ldK j rfl (by omega) ?_
  conv=>whnf
  refine lastK a rfl (by omega) (fun x=>?_) ⟨_,rfl⟩
  ((conv=>whnf)<;>repeat(with_reducible refine D1 ?_)<;>conv=>whnf)
  refine⟨[],[some 0],?_⟩
  iterate 3 constructor
  refine⟨⟨?_,?_,?_⟩,by rw[hpt],rfl,by rw[hpt]⟩
  all_goals(repeat' first|exact LF|constructor)
  exact Lz.of (swpK e j a)
 ·have hij:¬i>j:=by simpa using hij
  rw[if_neg hij]at hpt
  ((conv=>whnf)<;>repeat(with_reducible refine D1 ?_)<;>conv=>whnf)
  refine ldK j rfl (by omega) ?_
  conv=>whnf
  refine ldK i rfl (by omega) ?_
  conv=>whnf
  refine ldK i rfl (by omega) ?_
  conv=>whnf
  refine lastK j rfl (by omega) (fun x=>?_) ⟨_,rfl⟩
  ((conv=>whnf)<;>repeat(with_reducible refine D1 ?_)<;>conv=>whnf)
  refine⟨fun k f o c=>∃(i0 j0:Nat) (e1:Array Int),a<i0∧i0≤b∧j0<b∧k=j0+1 - i0∧e1.size=d.size∧Sort.partLoop Sort.ltInt a i0 j0 e1=Sort.partLoop Sort.ltInt a (i+1) (j - 1) (Sort.swp e i j)∧c=1∧f=[(0,.tk 0),(1,nI a),(10,nI i0),(11,nI j0)]∧o=[(0,arrK e1)],⟨j - 1+1 - (i+1),?_⟩,?_⟩
  ·refine⟨[],[some 0],?_⟩
   iterate 3 constructor
   refine⟨⟨?_,?_,?_⟩,⟨i+1,j - 1,Sort.swp e i j,by omega,by omega,by omega,rfl,by rw[Sort.size_swp,hes],rfl,rfl,rfl,rfl⟩⟩
   all_goals(repeat' first|exact LF|constructor)
   all_goals first|exact swpE rfl |exact Lz.int (wA (by omega))|exact Lz.int (wS (by omega) (by omega))
  rintro k f1 o1 c1 ⟨i0,j0,e1,h1,h2,h3,rfl,he1,hl1,rfl,rfl,rfl⟩
  conv=>whnf
  refine⟨fun f o c=>∃i1:Nat,i0≤i1∧i1≤b∧Sort.scanUp (pU e1 a) e1 j0 i0=i1∧c=1∧f=[(0,.tk 0),(1,nI a),(10,nI i1),(11,nI j0)]∧o=[(0,arrK e1)],?_,?_⟩
  ·conv=>whnf
   refine⟨fun k f o c=>∃i1:Nat,i0≤i1∧i1≤b∧k=b - i1∧Sort.scanUp (pU e1 a) e1 j0 i1=Sort.scanUp (pU e1 a) e1 j0 i0∧c=1∧f=[(0,.tk 0),(1,nI a),(10,nI i1),(11,nI j0)]∧o=[(0,arrK e1)],⟨b - i0,?_⟩,?_⟩
   ·refine⟨[],[some 0],?_⟩
    iterate 3 constructor
    refine⟨⟨?_,?_,?_⟩,⟨i0,Nat.le_refl _,by omega,rfl,rfl,rfl,rfl,rfl⟩⟩
    all_goals(repeat' first|exact LF|constructor)
    all_goals skip
   rintro k f1 o1 c1 ⟨i1,hq1,hq2,rfl,hu,rfl,rfl,rfl⟩
   ((conv=>whnf)<;>repeat(with_reducible refine D1 ?_)<;>conv=>whnf)
   (first|refine⟨?_,?_⟩|refine nsplit ?_ ?_|refine bsplit ?_ ?_)<;>intro hu1<;>have hz_:=True.intro<;>clear hz_
   ·have hu1:i1≤j0:=by simpa using hu1
    conv=>whnf
    refine ldK (i1) rfl (by omega) ?_
    conv=>whnf
    refine ldK (a) rfl (by omega) ?_
    conv=>whnf
    refine⟨[],[],_,_,_,_,less_ok e1[i1]! e1[a]!,t3,?_⟩
    rintro r o' c' ⟨rfl,rfl,rfl⟩
    have hz_:=True.intro
    clear hz_
    cases hu2:Sort.ltInt e1[i1]! e1[a]!
    ·have hu3:Sort.scanUp (pU e1 a) e1 j0 i0=i1:=hu.symm.trans (up_stop (fun h=>by have:=h.2;simp[pU,hu2]at this))
     ((conv=>whnf)<;>repeat(with_reducible refine D1 ?_)<;>conv=>whnf)
     exact⟨[],[some 0],_,_,_,t3,⟨i1,by omega,by omega,hu3,rfl,rfl,rfl⟩⟩
    ·((conv=>whnf)<;>repeat(with_reducible refine D1 ?_)<;>conv=>whnf)
     refine⟨b - (i1+1),?_,by omega⟩
     refine⟨[],[some 0],?_⟩
     iterate 3 constructor
     refine⟨⟨?_,?_,?_⟩,⟨i1+1,by omega,by omega,rfl,by rw[←hu];exact(up_go hu1 (by simp[pU,hu2])).symm,rfl,rfl,rfl⟩⟩
     all_goals(repeat' first|exact LF|constructor)
     all_goals exact Lz.int (wA (by omega))
   ·have hu1:¬i1≤j0:=by simpa using hu1
    have hu3:Sort.scanUp (pU e1 a) e1 j0 i0=i1:=hu.symm.trans (up_stop (fun h=>hu1 h.1))
    ((conv=>whnf)<;>repeat(with_reducible refine D1 ?_)<;>conv=>whnf)
    exact⟨[],[some 0],_,_,_,t3,⟨i1,by omega,by omega,hu3,rfl,rfl,rfl⟩⟩
  rintro f1 o1 c1 ⟨i2,hi2,hib2,hu2,rfl,rfl,rfl⟩
  conv=>whnf
  refine⟨fun f o c=>∃j1:Nat,j1≤j0∧j1<b∧Sort.scanDown (pD e1 a) e1 i2 j0=j1∧c=1∧f=[(0,.tk 0),(1,nI a),(10,nI i2),(11,nI j1)]∧o=[(0,arrK e1)],?_,?_⟩
  ·conv=>whnf
   refine⟨fun k f o c=>∃j1:Nat,j1≤j0∧j1<b∧j1=k∧Sort.scanDown (pD e1 a) e1 i2 j1=Sort.scanDown (pD e1 a) e1 i2 j0∧c=1∧f=[(0,.tk 0),(1,nI a),(10,nI i2),(11,nI j1)]∧o=[(0,arrK e1)],⟨j0,?_⟩,?_⟩
   ·refine⟨[],[some 0],?_⟩
    iterate 3 constructor
    refine⟨⟨?_,?_,?_⟩,⟨j0,Nat.le_refl _,by omega,rfl,rfl,rfl,rfl,rfl⟩⟩
    all_goals(repeat' first|exact LF|constructor)
    all_goals skip
   rintro k f1 o1 c1 ⟨j1,hq1,hq2,rfl,hu,rfl,rfl,rfl⟩
   ((conv=>whnf)<;>repeat(with_reducible refine D1 ?_)<;>conv=>whnf)
   (first|refine⟨?_,?_⟩|refine nsplit ?_ ?_|refine bsplit ?_ ?_)<;>intro hu1<;>have hz_:=True.intro<;>clear hz_
   ·have hu1:i2≤j1:=by simpa using hu1
    conv=>whnf
    refine ldK (j1) rfl (by omega) ?_
    conv=>whnf
    refine ldK (a) rfl (by omega) ?_
    conv=>whnf
    refine⟨[],[],_,_,_,_,less_ok e1[j1]! e1[a]!,t3,?_⟩
    rintro r o' c' ⟨rfl,rfl,rfl⟩
    have hz_:=True.intro
    clear hz_
    cases hu2:Sort.ltInt e1[j1]! e1[a]!
    ·((conv=>whnf)<;>repeat(with_reducible refine D1 ?_)<;>conv=>whnf)
     refine⟨(j1 - 1),?_,by omega⟩
     refine⟨[],[some 0],?_⟩
     iterate 3 constructor
     refine⟨⟨?_,?_,?_⟩,⟨j1 - 1,by omega,by omega,rfl,by rw[←hu];exact(dn_go (by omega) hu1 (by simp[pD,hu2])).symm,rfl,rfl,rfl⟩⟩
     all_goals(repeat' first|exact LF|constructor)
     all_goals exact Lz.int (wS (by omega) (by omega))
    ·have hu3:Sort.scanDown (pD e1 a) e1 i2 j0=j1:=hu.symm.trans (dn_stop (by omega) (fun h=>by have:=h.2;simp[pD,hu2]at this))
     ((conv=>whnf)<;>repeat(with_reducible refine D1 ?_)<;>conv=>whnf)
     exact⟨[],[some 0],_,_,_,t3,⟨j1,by omega,by omega,hu3,rfl,rfl,rfl⟩⟩
   ·have hu1:¬i2≤j1:=by simpa using hu1
    have hu3:Sort.scanDown (pD e1 a) e1 i2 j0=j1:=hu.symm.trans (dn_stop (by omega) (fun h=>hu1 h.1))
    ((conv=>whnf)<;>repeat(with_reducible refine D1 ?_)<;>conv=>whnf)
    exact⟨[],[some 0],_,_,_,t3,⟨j1,by omega,by omega,hu3,rfl,rfl,rfl⟩⟩
  rintro f1 o1 c1 ⟨j2,hj3,hj4,hd2,rfl,rfl,rfl⟩
  have hpl:=Sort.partLoop_eq Sort.ltInt a i0 j0 e1
  rw[show Sort.scanUp (fun x=>Sort.ltInt x e1[a]!) e1 j0 i0=i2 from hu2,show Sort.scanDown (fun x=> !Sort.ltInt x e1[a]!) e1 i2 j0=j2 from hd2,hl1]at hpl
  conv=>whnf
  (first|refine⟨?_,?_⟩|refine nsplit ?_ ?_|refine bsplit ?_ ?_)<;>intro hij2<;>have hz_:=True.intro<;>clear hz_
  ·have hij2:i2>j2:=by simpa using hij2
   rw[if_pos hij2]at hpl
   rw[hpl]at hpt
   ((conv=>whnf)<;>repeat(with_reducible refine D1 ?_)<;>conv=>whnf)
   refine ldK a rfl (by omega) ?_
   conv=>whnf
   refine ldK j2 rfl (by omega) ?_
   conv=>whnf
   refine ldK j2 rfl (by omega) ?_
   conv=>whnf
   refine lastK a rfl (by omega) (fun x=>?_) ⟨_,rfl⟩
   ((conv=>whnf)<;>repeat(with_reducible refine D1 ?_)<;>conv=>whnf)
   refine⟨[],[some 0],?_⟩
   iterate 3 constructor
   refine⟨⟨?_,?_,?_⟩,by rw[hpt],rfl,by rw[hpt]⟩
   all_goals(repeat' first|exact LF|constructor)
   exact Lz.of (swpK e1 j2 a)
  ·have hij2:¬i2>j2:=by simpa using hij2
   rw[if_neg hij2]at hpl
   ((conv=>whnf)<;>repeat(with_reducible refine D1 ?_)<;>conv=>whnf)
   refine ldK j2 rfl (by omega) ?_
   conv=>whnf
   refine ldK i2 rfl (by omega) ?_
   conv=>whnf
   refine ldK i2 rfl (by omega) ?_
   conv=>whnf
   refine lastK j2 rfl (by omega) (fun x=>?_) ⟨_,rfl⟩
   ((conv=>whnf)<;>repeat(with_reducible refine D1 ?_)<;>conv=>whnf)
   refine⟨j2 - 1+1 - (i2+1),?_,by omega⟩
   refine⟨[],[some 0],?_⟩
   iterate 3 constructor
   refine⟨⟨?_,?_,?_⟩,⟨i2+1,j2 - 1,Sort.swp e1 i2 j2,by omega,by omega,by omega,rfl,by rw[Sort.size_swp,he1],hpl.symm,rfl,rfl,rfl⟩⟩
   all_goals(repeat' first|exact LF|constructor)
   all_goals first|exact swpE rfl |exact Lz.int (wA (by omega))|exact Lz.int (wS (by omega) (by omega))
theorem partEq_ok (d:Array Int) (a b p:Nat) (ha:a<b) (hb:b≤d.size) (hp1:a≤p) (hp2:p<b) (hl:d.size<1000000):VC ES 167 1 [.tk 0,nI a,nI b,nI p] [(0,arrK d)]
 (RR (nI (Sort.partitionEqual Sort.ltInt d a b p).1) 1 [(0,arrK (Sort.partitionEqual Sort.ltInt d a b p).2)]):=by
 refine VC.enterR LS (show ES.func 167=some Tryz.f167 by kernel_rfl) (fun _ _=>rfl) rfl rfl [2,4] ?_
 ((conv=>whnf)<;>repeat(with_reducible refine D1 ?_)<;>conv=>whnf)
 refine ldK p rfl (by omega) ?_
 conv=>whnf
 refine ldK a rfl (by omega) ?_
 conv=>whnf
 refine ldK a rfl (by omega) ?_
 conv=>whnf
 refine lastK p rfl (by omega) (fun x=>?_) ⟨_,rfl⟩
 ((conv=>whnf)<;>repeat(with_reducible refine D1 ?_)<;>conv=>whnf)
 refine⟨fun k f o c=>∃(i0 j0:Nat) (e1:Array Int),a<i0∧i0≤b∧j0<b∧k=j0+1 - i0∧e1.size=d.size∧Sort.partEqLoop Sort.ltInt a i0 j0 e1=Sort.partitionEqual Sort.ltInt d a b p∧c=1∧f=[(0,.tk 0),(1,nI a),(9,nI i0),(10,nI j0)]∧o=[(0,arrK e1)],⟨b - 1+1 - (a+1),?_⟩,?_⟩
 ·refine⟨[],[some 0],?_⟩
  iterate 3 constructor
  refine⟨⟨?_,?_,?_⟩,⟨a+1,b - 1,Sort.swp d a p,by omega,by omega,by omega,rfl,by rw[Sort.size_swp],rfl,rfl,rfl,rfl⟩⟩
  all_goals(repeat' first|exact LF|constructor)
  all_goals first|exact swpE rfl |exact Lz.int (wA (by omega))|exact Lz.int (wS (by omega) (by omega))
 rintro k f1 o1 c1 ⟨i0,j0,e1,h1,h2,h3,rfl,he1,hl1,rfl,rfl,rfl⟩
 conv=>whnf
 refine⟨fun f o c=>∃i1:Nat,i0≤i1∧i1≤b∧Sort.scanUp (qU e1 a) e1 j0 i0=i1∧c=1∧f=[(0,.tk 0),(1,nI a),(9,nI i1),(10,nI j0)]∧o=[(0,arrK e1)],?_,?_⟩
 ·conv=>whnf
  refine⟨fun k f o c=>∃i1:Nat,i0≤i1∧i1≤b∧k=b - i1∧Sort.scanUp (qU e1 a) e1 j0 i1=Sort.scanUp (qU e1 a) e1 j0 i0∧c=1∧f=[(0,.tk 0),(1,nI a),(9,nI i1),(10,nI j0)]∧o=[(0,arrK e1)],⟨b - i0,?_⟩,?_⟩
  ·refine⟨[],[some 0],?_⟩
   iterate 3 constructor
   refine⟨⟨?_,?_,?_⟩,⟨i0,Nat.le_refl _,by omega,rfl,rfl,rfl,rfl,rfl⟩⟩
   all_goals(repeat' first|exact LF|constructor)
   all_goals skip
  rintro k f1 o1 c1 ⟨i1,hq1,hq2,rfl,hu,rfl,rfl,rfl⟩
  ((conv=>whnf)<;>repeat(with_reducible refine D1 ?_)<;>conv=>whnf)
  (first|refine⟨?_,?_⟩|refine nsplit ?_ ?_|refine bsplit ?_ ?_)<;>intro hu1<;>have hz_:=True.intro<;>clear hz_
  ·have hu1:i1≤j0:=by simpa using hu1
   conv=>whnf
   refine ldK (a) rfl (by omega) ?_
   conv=>whnf
   refine ldK (i1) rfl (by omega) ?_
   conv=>whnf
   refine⟨[],[],_,_,_,_,less_ok e1[a]! e1[i1]!,t3,?_⟩
   rintro r o' c' ⟨rfl,rfl,rfl⟩
   have hz_:=True.intro
   clear hz_
   cases hu2:Sort.ltInt e1[a]! e1[i1]!
   ·((conv=>whnf)<;>repeat(with_reducible refine D1 ?_)<;>conv=>whnf)
    refine⟨b - (i1+1),?_,by omega⟩
    refine⟨[],[some 0],?_⟩
    iterate 3 constructor
    refine⟨⟨?_,?_,?_⟩,⟨i1+1,by omega,by omega,rfl,by rw[←hu];exact(up_go hu1 (by simp[qU,hu2])).symm,rfl,rfl,rfl⟩⟩
    all_goals(repeat' first|exact LF|constructor)
    all_goals exact Lz.int (wA (by omega))
   ·have hu3:Sort.scanUp (qU e1 a) e1 j0 i0=i1:=hu.symm.trans (up_stop (fun h=>by have:=h.2;simp[qU,hu2]at this))
    ((conv=>whnf)<;>repeat(with_reducible refine D1 ?_)<;>conv=>whnf)
    exact⟨[],[some 0],_,_,_,t3,⟨i1,by omega,by omega,hu3,rfl,rfl,rfl⟩⟩
  ·have hu1:¬i1≤j0:=by simpa using hu1
   have hu3:Sort.scanUp (qU e1 a) e1 j0 i0=i1:=hu.symm.trans (up_stop (fun h=>hu1 h.1))
   ((conv=>whnf)<;>repeat(with_reducible refine D1 ?_)<;>conv=>whnf)
   exact⟨[],[some 0],_,_,_,t3,⟨i1,by omega,by omega,hu3,rfl,rfl,rfl⟩⟩
 rintro f1 o1 c1 ⟨i2,hi2,hib2,hu2,rfl,rfl,rfl⟩
 conv=>whnf
 refine⟨fun f o c=>∃j1:Nat,j1≤j0∧j1<b∧Sort.scanDown (qD e1 a) e1 i2 j0=j1∧c=1∧f=[(0,.tk 0),(1,nI a),(9,nI i2),(10,nI j1)]∧o=[(0,arrK e1)],?_,?_⟩
 ·conv=>whnf
  refine⟨fun k f o c=>∃j1:Nat,j1≤j0∧j1<b∧j1=k∧Sort.scanDown (qD e1 a) e1 i2 j1=Sort.scanDown (qD e1 a) e1 i2 j0∧c=1∧f=[(0,.tk 0),(1,nI a),(9,nI i2),(10,nI j1)]∧o=[(0,arrK e1)],⟨j0,?_⟩,?_⟩
  ·refine⟨[],[some 0],?_⟩
   iterate 3 constructor
   refine⟨⟨?_,?_,?_⟩,⟨j0,Nat.le_refl _,by omega,rfl,rfl,rfl,rfl,rfl⟩⟩
   all_goals(repeat' first|exact LF|constructor)
   all_goals skip
  rintro k f1 o1 c1 ⟨j1,hq1,hq2,rfl,hu,rfl,rfl,rfl⟩
  ((conv=>whnf)<;>repeat(with_reducible refine D1 ?_)<;>conv=>whnf)
  (first|refine⟨?_,?_⟩|refine nsplit ?_ ?_|refine bsplit ?_ ?_)<;>intro hu1<;>have hz_:=True.intro<;>clear hz_
  ·have hu1:i2≤j1:=by simpa using hu1
   conv=>whnf
   refine ldK (a) rfl (by omega) ?_
   conv=>whnf
   refine ldK (j1) rfl (by omega) ?_
   conv=>whnf
   refine⟨[],[],_,_,_,_,less_ok e1[a]! e1[j1]!,t3,?_⟩
   rintro r o' c' ⟨rfl,rfl,rfl⟩
   have hz_:=True.intro
   clear hz_
   cases hu2:Sort.ltInt e1[a]! e1[j1]!
   ·have hu3:Sort.scanDown (qD e1 a) e1 i2 j0=j1:=hu.symm.trans (dn_stop (by omega) (fun h=>by have:=h.2;simp[qD,hu2]at this))
    ((conv=>whnf)<;>repeat(with_reducible refine D1 ?_)<;>conv=>whnf)
    exact⟨[],[some 0],_,_,_,t3,⟨j1,by omega,by omega,hu3,rfl,rfl,rfl⟩⟩
   ·((conv=>whnf)<;>repeat(with_reducible refine D1 ?_)<;>conv=>whnf)
    refine⟨(j1 - 1),?_,by omega⟩
    refine⟨[],[some 0],?_⟩
    iterate 3 constructor
    refine⟨⟨?_,?_,?_⟩,⟨j1 - 1,by omega,by omega,rfl,by rw[←hu];exact(dn_go (by omega) hu1 (by simp[qD,hu2])).symm,rfl,rfl,rfl⟩⟩
    all_goals(repeat' first|exact LF|constructor)
    all_goals exact Lz.int (wS (by omega) (by omega))
  ·have hu1:¬i2≤j1:=by simpa using hu1
   have hu3:Sort.scanDown (qD e1 a) e1 i2 j0=j1:=hu.symm.trans (dn_stop (by omega) (fun h=>hu1 h.1))
   ((conv=>whnf)<;>repeat(with_reducible refine D1 ?_)<;>conv=>whnf)
   exact⟨[],[some 0],_,_,_,t3,⟨j1,by omega,by omega,hu3,rfl,rfl,rfl⟩⟩
 rintro f1 o1 c1 ⟨j2,hj3,hj4,hd2,rfl,rfl,rfl⟩
 have hpl:=Sort.partEqLoop_eq Sort.ltInt a i0 j0 e1
 rw[show Sort.scanUp (fun x=> !Sort.ltInt e1[a]! x) e1 j0 i0=i2 from hu2,show Sort.scanDown (fun x=>Sort.ltInt e1[a]! x) e1 i2 j0=j2 from hd2,hl1]at hpl
 conv=>whnf
 (first|refine⟨?_,?_⟩|refine nsplit ?_ ?_|refine bsplit ?_ ?_)<;>intro hij2<;>have hz_:=True.intro<;>clear hz_
 ·have hij2:i2>j2:=by simpa using hij2
  rw[if_pos hij2]at hpl
  conv=>whnf
  exact⟨[],[some 0],_,_,_,t3,(congrArg (fun q=>nI q.1) hpl).symm,rfl,(congrArg (fun q=>[(0,arrK q.2)]) hpl).symm⟩
 ·have hij2:¬i2>j2:=by simpa using hij2
  rw[if_neg hij2]at hpl
  ((conv=>whnf)<;>repeat(with_reducible refine D1 ?_)<;>conv=>whnf)
  refine ldK j2 rfl (by omega) ?_
  conv=>whnf
  refine ldK i2 rfl (by omega) ?_
  conv=>whnf
  refine ldK i2 rfl (by omega) ?_
  conv=>whnf
  refine lastK j2 rfl (by omega) (fun x=>?_) ⟨_,rfl⟩
  ((conv=>whnf)<;>repeat(with_reducible refine D1 ?_)<;>conv=>whnf)
  refine⟨j2 - 1+1 - (i2+1),?_,by omega⟩
  refine⟨[],[some 0],?_⟩
  iterate 3 constructor
  refine⟨⟨?_,?_,?_⟩,⟨i2+1,j2 - 1,Sort.swp e1 i2 j2,by omega,by omega,by omega,rfl,by rw[Sort.size_swp,he1],hpl.symm,rfl,rfl,rfl⟩⟩
  all_goals(repeat' first|exact LF|constructor)
  all_goals first|exact swpE rfl |exact Lz.int (wA (by omega))|exact Lz.int (wS (by omega) (by omega))
end Go.M
namespace Go.M
open Go Go.Proofs
set_option maxRecDepth 100000
set_option maxHeartbeats 4000000
theorem shiftDown_size:∀(j:Nat) (d:Array Int),(Sort.shiftDown Sort.ltInt j d).size=d.size
 |0,d=>rfl
 |j+1,d=>by
  unfold Sort.shiftDown
  split
  ·rfl
  ·rw[shiftDown_size j,Sort.size_swp]
theorem shiftUp_size (b:Nat):∀(n j:Nat) (d:Array Int),b - j≤n→(Sort.shiftUp Sort.ltInt b j d).size=d.size:=by
 intro n
 induction n with
 |zero=>intro j d h;unfold Sort.shiftUp;rw[if_neg (by omega)]
 |succ n ih=>
  intro j d h
  unfold Sort.shiftUp
  split
  ·split
   ·rfl
   ·rw[ih _ _ (by omega),Sort.size_swp]
  ·rfl
theorem sd_stop {j:Nat} {d:Array Int} (h:j=0∨Sort.ltInt d[j]! d[j - 1]! =false):Sort.shiftDown Sort.ltInt j d=d:=by
 match j,h with
 |0,_=>rfl
 |j+1,h=>unfold Sort.shiftDown;rw[if_pos];rcases h with h|h;omega;simpa using h
theorem sd_go {j:Nat} {d:Array Int} (h0:1≤j) (h:Sort.ltInt d[j]! d[j - 1]! =true):Sort.shiftDown Sort.ltInt j d=Sort.shiftDown Sort.ltInt (j - 1) (Sort.swp d j (j - 1)):=by
 match j,h0,h with
 |j+1,_,h=>conv=>lhs;unfold Sort.shiftDown
           rw[if_neg];rfl;simpa using h
theorem su_stop {b j:Nat} {d:Array Int} (h:¬j<b∨Sort.ltInt d[j]! d[j - 1]! =false):Sort.shiftUp Sort.ltInt b j d=d:=by
 unfold Sort.shiftUp
 rcases h with h|h
 ·rw[if_neg h]
 ·split
  ·rw[if_pos (by simp[h])]
  ·rfl
theorem su_go {b j:Nat} {d:Array Int} (h0:j<b) (h:Sort.ltInt d[j]! d[j - 1]! =true):Sort.shiftUp Sort.ltInt b j d=Sort.shiftUp Sort.ltInt b (j+1) (Sort.swp d j (j - 1)):=by
 conv=>lhs;unfold Sort.shiftUp
 rw[if_pos h0,if_neg (by simp[h])]
theorem ss_stop {b i:Nat} {d:Array Int} (h:¬i<b∨Sort.ltInt d[i]! d[i - 1]! =true):Sort.scanSorted Sort.ltInt d b i=i:=by
 rw[Sort.scanSorted,if_neg]
 rcases h with h|h
 ·simp[h]
 ·simp[h]
theorem ss_go {b i:Nat} {d:Array Int} (h0:i<b) (h:Sort.ltInt d[i]! d[i - 1]! =false):Sort.scanSorted Sort.ltInt d b i=Sort.scanSorted Sort.ltInt d b (i+1):=by
 rw[Sort.scanSorted,if_pos];simp[h,h0]
theorem swpF {d e:Array Int} {i j:Nat} {y:Int} (hy:y=j) (he:e=Sort.swp d i j):Lz (((d.toList.map encK).set (i:Int).toNat [.s (.int .u32 d[j]!)]).set y.toNat [.s (.int .u32 d[i]!)]) (e.toList.map encK):=by
 subst hy;subst he;exact Lz.of (swpK d i j)
theorem pins_ok (d:Array Int) (a b:Nat) (ha:a<b) (hb:b≤d.size) (hl:d.size<1000000):VC ES 165 1 [.tk 0,nI a,nI b] [(0,arrK d)]
 (RR (.s (.bool (Sort.partialInsertionSort Sort.ltInt d a b).2)) 1 [(0,arrK (Sort.partialInsertionSort Sort.ltInt d a b).1)]):=by
 refine VC.enterR LS (show ES.func 165=some Tryz.f165 by kernel_rfl) (fun _ _=>rfl) rfl rfl [2,4,6] ?_
 conv=>whnf
 refine⟨fun k f o c=>∃(i s8:Nat) (e:Array Int),a<i∧i≤b∧s8≤5∧e.size=d.size∧s8+k=5∧Sort.partialIns Sort.ltInt a b k i e=Sort.partialInsertionSort Sort.ltInt d a b∧c=1∧f=[(0,.tk 0),(1,nI a),(2,nI b),(7,nI i),(8,nI s8)]∧o=[(0,arrK e)],⟨5,?_⟩,?_⟩
 ·refine⟨[],[some 0],?_⟩
  iterate 3 constructor
  refine⟨⟨?_,?_,?_⟩,⟨a+1,0,d,by omega,by omega,by omega,rfl,rfl,rfl,rfl,rfl,rfl⟩⟩
  all_goals(repeat' first|exact LF|constructor)
  all_goals exact Lz.int (wA (by omega))
 rintro k f1 o1 c1 ⟨i,s8,e,hi1,hi2,hs5,he,hsk,hp,rfl,rfl,rfl⟩
 conv=>whnf
 (first|refine⟨?_,?_⟩|refine nsplit ?_ ?_|refine bsplit ?_ ?_)<;>intro h5<;>have hz_:=True.intro<;>clear hz_
 ·have h5:s8<5:=by omega
  obtain⟨s,rfl⟩:∃s,k=s+1:=⟨k - 1,by omega⟩
  conv=>whnf
  refine⟨fun f o c=>∃i1:Nat,i≤i1∧i1≤b∧Sort.scanSorted Sort.ltInt e b i=i1∧c=1∧f=[(0,.tk 0),(1,nI a),(2,nI b),(7,nI i1),(8,nI s8)]∧o=[(0,arrK e)],?_,?_⟩
  ·conv=>whnf
   refine⟨fun k f o c=>∃i1:Nat,i≤i1∧i1≤b∧k=b - i1∧Sort.scanSorted Sort.ltInt e b i1=Sort.scanSorted Sort.ltInt e b i∧c=1∧f=[(0,.tk 0),(1,nI a),(2,nI b),(7,nI i1),(8,nI s8)]∧o=[(0,arrK e)],⟨b - i,?_⟩,?_⟩
   ·exact⟨[],[some 0],_,_,_,t3,⟨i,Nat.le_refl _,hi2,rfl,rfl,rfl,rfl,rfl⟩⟩
   rintro k f1 o1 c1 ⟨i1,hq1,hq2,rfl,hu,rfl,rfl,rfl⟩
   ((conv=>whnf)<;>repeat(with_reducible refine D1 ?_)<;>conv=>whnf)
   (first|refine⟨?_,?_⟩|refine nsplit ?_ ?_|refine bsplit ?_ ?_)<;>intro hu1<;>have hz_:=True.intro<;>clear hz_
   ·have hu1:i1<b:=by simpa using hu1
    conv=>whnf
    refine ldK i1 rfl (by omega) ?_
    conv=>whnf
    refine ldK (i1 - 1) (wS (by omega) (by omega)) (by omega) ?_
    conv=>whnf
    refine⟨[],[],_,_,_,_,less_ok e[i1]! e[i1 - 1]!,t3,?_⟩
    rintro r o' c' ⟨rfl,rfl,rfl⟩
    have hz_:=True.intro
    clear hz_
    cases hu2:Sort.ltInt e[i1]! e[i1 - 1]!
    ·((conv=>whnf)<;>repeat(with_reducible refine D1 ?_)<;>conv=>whnf)
     refine⟨b - (i1+1),?_,by omega⟩
     refine⟨[],[some 0],?_⟩
     iterate 3 constructor
     refine⟨⟨?_,?_,?_⟩,⟨i1+1,by omega,by omega,rfl,by rw[←hu];exact(ss_go hu1 hu2).symm,rfl,rfl,rfl⟩⟩
     all_goals(repeat' first|exact LF|constructor)
     all_goals exact Lz.int (wA (by omega))
    ·((conv=>whnf)<;>repeat(with_reducible refine D1 ?_)<;>conv=>whnf)
     exact⟨[],[some 0],_,_,_,t3,⟨i1,hq1,hq2,hu.symm.trans (ss_stop (.inr hu2)),rfl,rfl,rfl⟩⟩
   ·have hu1:¬i1<b:=by simpa using hu1
    ((conv=>whnf)<;>repeat(with_reducible refine D1 ?_)<;>conv=>whnf)
    exact⟨[],[some 0],_,_,_,t3,⟨i1,hq1,hq2,hu.symm.trans (ss_stop (.inl hu1)),rfl,rfl,rfl⟩⟩
  rintro f1 o1 c1 ⟨i2,hi3,hi4,hss,rfl,rfl,rfl⟩
  have hstep:Sort.partialIns Sort.ltInt a b (s+1) i e=if i2=b then(e,true)else if b - a<50 then(e,false)else
   Sort.partialIns Sort.ltInt a b s i2 (if b - i2≥2 then Sort.shiftUp Sort.ltInt b (i2+1) (if i2 - a≥2 then Sort.shiftDown Sort.ltInt (i2 - 1) (Sort.swp e i2 (i2 - 1))else Sort.swp e i2 (i2 - 1))else(if i2 - a≥2 then Sort.shiftDown Sort.ltInt (i2 - 1) (Sort.swp e i2 (i2 - 1))else Sort.swp e i2 (i2 - 1))):=by
   conv=>lhs;unfold Sort.partialIns
   simp only[hss]
  conv=>whnf
  (first|refine⟨?_,?_⟩|refine nsplit ?_ ?_|refine bsplit ?_ ?_)<;>intro hib<;>have hz_:=True.intro<;>clear hz_
  ·have hib:i2=b:=Int.ofNat.inj hib
   rw[if_pos hib,hp]at hstep
   conv=>whnf
   exact⟨[],[some 0],_,_,_,t3,(congrArg (fun q=>TV.s (.bool q.2)) hstep).symm,rfl,(congrArg (fun q=>[(0,arrK q.1)]) hstep).symm⟩
  ·have hib:¬i2=b:=fun h=>hib (by rw[h])
   rw[if_neg hib]at hstep
   conv=>whnf
   (first|refine⟨?_,?_⟩|refine nsplit ?_ ?_|refine bsplit ?_ ?_)<;>intro h50<;>have hz_:=True.intro<;>clear hz_
   ·have h50:b - a<50:=by rw[wD (by omega) (by omega)]at h50;omega
    rw[if_pos h50,hp]at hstep
    conv=>whnf
    exact⟨[],[some 0],_,_,_,t3,(congrArg (fun q=>TV.s (.bool q.2)) hstep).symm,rfl,(congrArg (fun q=>[(0,arrK q.1)]) hstep).symm⟩
   ·have h50:¬b - a<50:=by rw[wD (by omega) (by omega)]at h50;omega
    rw[if_neg h50]at hstep
    ((conv=>whnf)<;>repeat(with_reducible refine D1 ?_)<;>conv=>whnf)
    refine ldK (i2 - 1) (wS (by omega) (by omega)) (by omega) ?_
    conv=>whnf
    refine ldK (i2) rfl (by omega) ?_
    conv=>whnf
    refine ldK (i2) rfl (by omega) ?_
    conv=>whnf
    refine lastK (i2 - 1) (wS (by omega) (by omega)) (by omega) (fun x=>?_) ⟨_,rfl⟩
    ((conv=>whnf)<;>repeat(with_reducible refine D1 ?_)<;>conv=>whnf)
    (first|refine⟨?_,?_⟩|refine nsplit ?_ ?_|refine bsplit ?_ ?_)<;>intro hia<;>have hz_:=True.intro<;>clear hz_
    ·have hia:i2 - a≥2:=by rw[wD (by omega) (by omega)]at hia;omega
     rw[if_pos hia]at hstep
     conv=>whnf
     obtain⟨e3,he30⟩:∃e3,e3=Sort.shiftDown Sort.ltInt (i2 - 1) (Sort.swp e i2 (i2 - 1)):=⟨_,rfl⟩
     rw[←he30]at hstep
     have he3:e3.size=d.size:=by rw[he30,shiftDown_size,Sort.size_swp,he]
     refine⟨fun f o c=>∃e5,e5=e3∧c=1∧f=[(0,.tk 0),(1,nI a),(2,nI b),(7,nI i2),(8,nI s8)]∧o=[(0,arrK e5)],?_,?_⟩
     ·conv=>whnf
      refine⟨fun k f o c=>∃(j:Nat) (e4:Array Int),j<b∧j=k∧e4.size=d.size∧Sort.shiftDown Sort.ltInt j e4=e3∧c=1∧f=[(0,.tk 0),(1,nI a),(2,nI b),(7,nI i2),(8,nI s8),(9,nI j)]∧o=[(0,arrK e4)],⟨i2 - 1,?_⟩,?_⟩
      ·refine⟨[],[some 0],?_⟩
       iterate 3 constructor
       refine⟨⟨?_,?_,?_⟩,⟨i2 - 1,Sort.swp e i2 (i2 - 1),by omega,rfl,by rw[Sort.size_swp,he],he30.symm,rfl,rfl,rfl⟩⟩
       all_goals(repeat' first|exact LF|constructor)
       all_goals first|exact Lz.int (wS (by omega) (by omega))|exact swpF (wS (by omega) (by omega)) rfl
      rintro k f1 o1 c1 ⟨j,e4,hj1,rfl,he4,hs,rfl,rfl,rfl⟩
      conv=>whnf
      (first|refine⟨?_,?_⟩|refine nsplit ?_ ?_|refine bsplit ?_ ?_)<;>intro hr1<;>have hz_:=True.intro<;>clear hz_
      ·have hr1:1≤j:=by simp at hr1;omega
       ((conv=>whnf)<;>repeat(with_reducible refine D1 ?_)<;>conv=>whnf)
       refine ldK j rfl (by omega) ?_
       conv=>whnf
       refine ldK (j - 1) (wS (by omega) (by omega)) (by omega) ?_
       conv=>whnf
       refine⟨[],[],_,_,_,_,less_ok e4[j]! e4[j - 1]!,t3,?_⟩
       rintro r o' c' ⟨rfl,rfl,rfl⟩
       have hz_:=True.intro
       clear hz_
       cases hr2:Sort.ltInt e4[j]! e4[j - 1]!
       ·((conv=>whnf)<;>repeat(with_reducible refine D1 ?_)<;>conv=>whnf)
        exact⟨[],[some 0],_,_,_,t3,⟨e4,by rw[←hs,sd_stop (.inr hr2)],rfl,rfl,rfl⟩⟩
       ·((conv=>whnf)<;>repeat(with_reducible refine D1 ?_)<;>conv=>whnf)
        refine ldK (j - 1) (wS (by omega) (by omega)) (by omega) ?_
        conv=>whnf
        refine ldK (j) rfl (by omega) ?_
        conv=>whnf
        refine ldK (j) rfl (by omega) ?_
        conv=>whnf
        refine lastK (j - 1) (wS (by omega) (by omega)) (by omega) (fun x=>?_) ⟨_,rfl⟩
        ((conv=>whnf)<;>repeat(with_reducible refine D1 ?_)<;>conv=>whnf)
        refine⟨j - 1,?_,by omega⟩
        refine⟨[],[some 0],?_⟩
        iterate 3 constructor
        refine⟨⟨?_,?_,?_⟩,⟨j - 1,Sort.swp e4 j (j - 1),by omega,rfl,by rw[Sort.size_swp,he4],by rw[←hs];exact(sd_go hr1 hr2).symm,rfl,rfl,rfl⟩⟩
        all_goals(repeat' first|exact LF|constructor)
        all_goals first|exact Lz.int (wS (by omega) (by omega))|exact swpF (wS (by omega) (by omega)) rfl
      ·have hr1:j=0:=by simp at hr1;omega
       conv=>whnf
       exact⟨[],[some 0],_,_,_,t3,⟨e4,by rw[←hs,sd_stop (.inl hr1)],rfl,rfl,rfl⟩⟩
     rintro f1 o1 c1 ⟨e6,he6,rfl,rfl,rfl⟩
     subst he6
     conv=>whnf
     (first|refine⟨?_,?_⟩|refine nsplit ?_ ?_|refine bsplit ?_ ?_)<;>intro hq<;>have hz_:=True.intro<;>clear hz_
     ·have hq:b - i2≥2:=by rw[wD (by omega) (by omega)]at hq;omega
      conv=>whnf
      refine⟨fun f o c=>∃e5,e5=Sort.shiftUp Sort.ltInt b (i2+1) e6∧c=1∧f=[(0,.tk 0),(1,nI a),(2,nI b),(7,nI i2),(8,nI s8)]∧o=[(0,arrK e5)],?_,?_⟩
      ·conv=>whnf
       refine⟨fun k f o c=>∃(j:Nat) (e4:Array Int),j≤b∧1≤j∧k=b - j∧e4.size=d.size∧Sort.shiftUp Sort.ltInt b j e4=Sort.shiftUp Sort.ltInt b (i2+1) e6∧c=1∧f=[(0,.tk 0),(1,nI a),(2,nI b),(7,nI i2),(8,nI s8),(10,nI j)]∧o=[(0,arrK e4)],⟨b - (i2+1),?_⟩,?_⟩
       ·refine⟨[],[some 0],?_⟩
        iterate 3 constructor
        refine⟨⟨?_,?_,?_⟩,⟨i2+1,e6,by omega,by omega,rfl,he3,rfl,rfl,rfl,rfl⟩⟩
        all_goals(repeat' first|exact LF|constructor)
        all_goals first|exact Lz.int (wA (by omega))|exact swpF (wS (by omega) (by omega)) rfl
       rintro k f1 o1 c1 ⟨j,e4,hj1,hj2,rfl,he4,hs,rfl,rfl,rfl⟩
       conv=>whnf
       (first|refine⟨?_,?_⟩|refine nsplit ?_ ?_|refine bsplit ?_ ?_)<;>intro hr1<;>have hz_:=True.intro<;>clear hz_
       ·have hr1:j<b:=by simpa using hr1
        ((conv=>whnf)<;>repeat(with_reducible refine D1 ?_)<;>conv=>whnf)
        refine ldK j rfl (by omega) ?_
        conv=>whnf
        refine ldK (j - 1) (wS (by omega) (by omega)) (by omega) ?_
        conv=>whnf
        refine⟨[],[],_,_,_,_,less_ok e4[j]! e4[j - 1]!,t3,?_⟩
        rintro r o' c' ⟨rfl,rfl,rfl⟩
        have hz_:=True.intro
        clear hz_
        cases hr2:Sort.ltInt e4[j]! e4[j - 1]!
        ·((conv=>whnf)<;>repeat(with_reducible refine D1 ?_)<;>conv=>whnf)
         exact⟨[],[some 0],_,_,_,t3,⟨e4,by rw[←hs,su_stop (.inr hr2)],rfl,rfl,rfl⟩⟩
        ·((conv=>whnf)<;>repeat(with_reducible refine D1 ?_)<;>conv=>whnf)
         refine ldK (j - 1) (wS (by omega) (by omega)) (by omega) ?_
         conv=>whnf
         refine ldK (j) rfl (by omega) ?_
         conv=>whnf
         refine ldK (j) rfl (by omega) ?_
         conv=>whnf
         refine lastK (j - 1) (wS (by omega) (by omega)) (by omega) (fun x=>?_) ⟨_,rfl⟩
         ((conv=>whnf)<;>repeat(with_reducible refine D1 ?_)<;>conv=>whnf)
         refine⟨b - (j+1),?_,by omega⟩
         refine⟨[],[some 0],?_⟩
         iterate 3 constructor
         refine⟨⟨?_,?_,?_⟩,⟨j+1,Sort.swp e4 j (j - 1),by omega,by omega,rfl,by rw[Sort.size_swp,he4],by rw[←hs];exact(su_go hr1 hr2).symm,rfl,rfl,rfl⟩⟩
         all_goals(repeat' first|exact LF|constructor)
         all_goals first|exact Lz.int (wA (by omega))|exact swpF (wS (by omega) (by omega)) rfl
       ·have hr1:¬j<b:=by simpa using hr1
        conv=>whnf
        exact⟨[],[some 0],_,_,_,t3,⟨e4,by rw[←hs,su_stop (.inl hr1)],rfl,rfl,rfl⟩⟩
      rintro f1 o1 c1 ⟨e5,he5,rfl,rfl,rfl⟩
      conv=>whnf
      refine⟨s,?_,by omega⟩
      refine⟨[],[some 0],?_⟩
      iterate 3 constructor
      refine⟨⟨?_,?_,?_⟩,⟨i2,s8+1,e5,by omega,by omega,by omega,by rw[he5];exact(shiftUp_size b _ _ _ (Nat.le_refl _)).trans he3,by omega,?_,rfl,rfl,rfl⟩⟩
      all_goals(repeat' first|exact LF|constructor)
      all_goals first|exact Lz.int (wA (by omega))|skip
      rw[←hp,hstep,if_pos hq,he5]
     ·have hq:¬b - i2≥2:=by rw[wD (by omega) (by omega)]at hq;omega
      conv=>whnf
      refine⟨s,?_,by omega⟩
      refine⟨[],[some 0],?_⟩
      iterate 3 constructor
      refine⟨⟨?_,?_,?_⟩,⟨i2,s8+1,e6,by omega,by omega,by omega,he3,by omega,?_,rfl,rfl,rfl⟩⟩
      all_goals(repeat' first|exact LF|constructor)
      all_goals first|exact Lz.int (wA (by omega))|exact swpF (wS (by omega) (by omega)) rfl |skip
      rw[←hp,hstep,if_neg hq]
    ·have hia:¬i2 - a≥2:=by rw[wD (by omega) (by omega)]at hia;omega
     rw[if_neg hia]at hstep
     have he3:(Sort.swp e i2 (i2 - 1)).size=d.size:=by rw[Sort.size_swp,he]
     conv=>whnf
     (first|refine⟨?_,?_⟩|refine nsplit ?_ ?_|refine bsplit ?_ ?_)<;>intro hq<;>have hz_:=True.intro<;>clear hz_
     ·have hq:b - i2≥2:=by rw[wD (by omega) (by omega)]at hq;omega
      conv=>whnf
      refine⟨fun f o c=>∃e5,e5=Sort.shiftUp Sort.ltInt b (i2+1) (Sort.swp e i2 (i2 - 1))∧c=1∧f=[(0,.tk 0),(1,nI a),(2,nI b),(7,nI i2),(8,nI s8)]∧o=[(0,arrK e5)],?_,?_⟩
      ·conv=>whnf
       refine⟨fun k f o c=>∃(j:Nat) (e4:Array Int),j≤b∧1≤j∧k=b - j∧e4.size=d.size∧Sort.shiftUp Sort.ltInt b j e4=Sort.shiftUp Sort.ltInt b (i2+1) (Sort.swp e i2 (i2 - 1))∧c=1∧f=[(0,.tk 0),(1,nI a),(2,nI b),(7,nI i2),(8,nI s8),(10,nI j)]∧o=[(0,arrK e4)],⟨b - (i2+1),?_⟩,?_⟩
       ·refine⟨[],[some 0],?_⟩
        iterate 3 constructor
        refine⟨⟨?_,?_,?_⟩,⟨i2+1,(Sort.swp e i2 (i2 - 1)),by omega,by omega,rfl,he3,rfl,rfl,rfl,rfl⟩⟩
        all_goals(repeat' first|exact LF|constructor)
        all_goals first|exact Lz.int (wA (by omega))|exact swpF (wS (by omega) (by omega)) rfl
       rintro k f1 o1 c1 ⟨j,e4,hj1,hj2,rfl,he4,hs,rfl,rfl,rfl⟩
       conv=>whnf
       (first|refine⟨?_,?_⟩|refine nsplit ?_ ?_|refine bsplit ?_ ?_)<;>intro hr1<;>have hz_:=True.intro<;>clear hz_
       ·have hr1:j<b:=by simpa using hr1
        ((conv=>whnf)<;>repeat(with_reducible refine D1 ?_)<;>conv=>whnf)
        refine ldK j rfl (by omega) ?_
        conv=>whnf
        refine ldK (j - 1) (wS (by omega) (by omega)) (by omega) ?_
        conv=>whnf
        refine⟨[],[],_,_,_,_,less_ok e4[j]! e4[j - 1]!,t3,?_⟩
        rintro r o' c' ⟨rfl,rfl,rfl⟩
        have hz_:=True.intro
        clear hz_
        cases hr2:Sort.ltInt e4[j]! e4[j - 1]!
        ·((conv=>whnf)<;>repeat(with_reducible refine D1 ?_)<;>conv=>whnf)
         exact⟨[],[some 0],_,_,_,t3,⟨e4,by rw[←hs,su_stop (.inr hr2)],rfl,rfl,rfl⟩⟩
        ·((conv=>whnf)<;>repeat(with_reducible refine D1 ?_)<;>conv=>whnf)
         refine ldK (j - 1) (wS (by omega) (by omega)) (by omega) ?_
         conv=>whnf
         refine ldK (j) rfl (by omega) ?_
         conv=>whnf
         refine ldK (j) rfl (by omega) ?_
         conv=>whnf
         refine lastK (j - 1) (wS (by omega) (by omega)) (by omega) (fun x=>?_) ⟨_,rfl⟩
         ((conv=>whnf)<;>repeat(with_reducible refine D1 ?_)<;>conv=>whnf)
         refine⟨b - (j+1),?_,by omega⟩
         refine⟨[],[some 0],?_⟩
         iterate 3 constructor
         refine⟨⟨?_,?_,?_⟩,⟨j+1,Sort.swp e4 j (j - 1),by omega,by omega,rfl,by rw[Sort.size_swp,he4],by rw[←hs];exact(su_go hr1 hr2).symm,rfl,rfl,rfl⟩⟩
         all_goals(repeat' first|exact LF|constructor)
         all_goals first|exact Lz.int (wA (by omega))|exact swpF (wS (by omega) (by omega)) rfl
       ·have hr1:¬j<b:=by simpa using hr1
        conv=>whnf
        exact⟨[],[some 0],_,_,_,t3,⟨e4,by rw[←hs,su_stop (.inl hr1)],rfl,rfl,rfl⟩⟩
      rintro f1 o1 c1 ⟨e5,he5,rfl,rfl,rfl⟩
      conv=>whnf
      refine⟨s,?_,by omega⟩
      refine⟨[],[some 0],?_⟩
      iterate 3 constructor
      refine⟨⟨?_,?_,?_⟩,⟨i2,s8+1,e5,by omega,by omega,by omega,by rw[he5];exact(shiftUp_size b _ _ _ (Nat.le_refl _)).trans he3,by omega,?_,rfl,rfl,rfl⟩⟩
      all_goals(repeat' first|exact LF|constructor)
      all_goals first|exact Lz.int (wA (by omega))|skip
      rw[←hp,hstep,if_pos hq,he5]
     ·have hq:¬b - i2≥2:=by rw[wD (by omega) (by omega)]at hq;omega
      conv=>whnf
      refine⟨s,?_,by omega⟩
      refine⟨[],[some 0],?_⟩
      iterate 3 constructor
      refine⟨⟨?_,?_,?_⟩,⟨i2,s8+1,(Sort.swp e i2 (i2 - 1)),by omega,by omega,by omega,he3,by omega,?_,rfl,rfl,rfl⟩⟩
      all_goals(repeat' first|exact LF|constructor)
      all_goals first|exact Lz.int (wA (by omega))|exact swpF (wS (by omega) (by omega)) rfl |skip
      rw[←hp,hstep,if_neg hq]
 ·have h5:¬s8<5:=by omega
  obtain rfl:k=0:=by omega
  have hp:(e,false)=Sort.partialInsertionSort Sort.ltInt d a b:=hp
  conv=>whnf
  exact⟨[],[some 0],_,_,_,t3,congrArg (fun q=>TV.s (.bool q.2)) hp,rfl,congrArg (fun q=>[(0,arrK q.1)]) hp⟩
end Go.M
