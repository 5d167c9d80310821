/-
  Part 13 of the library that the proof leans on.
-/
import Derived.Test.YtjklkjjfnipcnaaGreatDoorL12
import Derived.Test.YtjklkjjfnipcnaaGreatDoorChecked
import Derived.Sort.Statements
import Derived.Sort.Lot0
import Derived.IntWalk
import Derived.Sort.LotC
noncomputable section
namespace Go.M
open Go Go.Proofs
noncomputable def ES:=iV Tryz.prog [] mO
noncomputable def TS:=tE ES []
set_option maxRecDepth 100000
theorem LS:bV TS ES:=LR (fun t z h=>by
 simp only[ES,iV,iz,Option.bind_eq_some_iff,ae,Option.some.injEq]at h;obtain⟨i,h1,z',h2,h3,rfl⟩:=h;exact h3) rfl
@[reducible] def fH (x:Int):List TV:=[.s (.int .u32 x)]
@[reducible] def bD (d:Array Int):TO:=.arr 1 true (d.toList.map fH)
@[reducible] def nI (n:Nat):TV:=.s (.int .i64 n)
theorem TW {d:Array Int} {n:Nat} (h:n<d.size):(n:Int)<(((d.toList.map fH).length:Nat):Int):=by simp;omega
theorem Xf {d:Array Int} {n:Nat} (h:n<d.size):(d.toList.map fH)[n]? =some (fH d[n]!):=by
 simp[h]
theorem di {d:Array Int} {i:Int} {K:List TV→Prop} (n:Nat) (e:i=n) (h:n<d.size) (k:K (fH d[n]!)):(0≤i∧i<(((d.toList.map fH).length:Nat):Int))∧∃x,(d.toList.map fH)[i.toNat]? =some x∧K x:=by
 subst e;exact⟨⟨om,TW h⟩,fH d[n]!,by rw[Int.toNat_natCast];exact Xf h,k⟩
theorem gq {d:Array Int} {i:Int} {m:Nat} {y:List TV} {K:List TV→Prop} (n:Nat) (e:i=n) (h:n<d.size) (k:∀x,K (fH x)) (hy:∃x,y=fH x):(0≤i∧i<((((d.toList.map fH).set m y).length:Nat):Int))∧∃x,((d.toList.map fH).set m y)[i.toNat]? =some x∧K x:=by
 subst e;obtain⟨v,rfl⟩:=hy;refine⟨⟨om,by simp;omega⟩,?_⟩;rw[Int.toNat_natCast,List.getElem?_set];by_cases hm:m=n
 ·subst hm;exact⟨fH v,by simp[h],k v⟩
 ·exact⟨fH d[n]!,by simp[hm,h],k _⟩
theorem s7 (d:Array Int) (i j:Nat):((d.toList.map fH).set i (fH d[j]!)).set j (fH d[i]!)=(Sort.swp d i j).toList.map fH:=by
 simp[Sort.swp,List.map_set]
theorem wS {n:Nat} (h0:1≤n) (h:n≤1099511627776):IntKind.i64.wrap ((n:Int) - 1)=((n - 1:Nat):Int):=by
 rw[IntWalk.i64_in _ om];omega
theorem wA {n:Nat} (h:n≤1099511627776):IntKind.i64.wrap ((n:Int)+1)=((n+1:Nat):Int):=by
 rw[IntWalk.i64_in _ om];omega
theorem Iu (x:Int):VC ES 177 0 [.s (.int .u32 x)] [] (RR (.s (.bool false)) 0 []):=by
 refine VC.bo LS (show ES.func 177=some Tryz.f177 by kernel_rfl) (fun _ _=>rfl) rfl rfl [] ?_;refine wh ?_
 repeat((first|(refine⟨fun h_=>?_,fun h_=>?_⟩)|(refine rD (fun h_=>?_) (fun h_=>?_))|(refine rC (fun h_=>?_) (fun h_=>?_)))<;>first|(exfalso;revert h_;decide;done)|(exfalso;revert h_;simp;done)|(have iU:=True.intro;clear iU;(conv=>whnf)))
 exact⟨[],[],_,_,_,t3,rfl,rfl,rfl⟩
theorem dq (x y:Int):VC ES 131 0 [.s (.int .u32 x),.s (.int .u32 y)] [] (RR (.s (.bool (Sort.ltInt x y))) 0 []):=by
 refine VC.bo LS (show ES.func 131=some Tryz.f131 by kernel_rfl) (fun _ _=>rfl) rfl rfl [] ?_;refine wh ?_;refine⟨[],[],_,_,_,_,Iu x,t3,cw ?_⟩;refine rn ?_;refine sp ?_ ?_<;>intro h
 ·refine wh ?_;refine⟨[],[],_,_,_,tx ?_,rfl,rfl,rfl⟩;exact Lz.of (D6 (by unfold Sort.ltInt;simp at h ⊢;omega))
 ·refine wh ?_;refine⟨[],[],_,_,_,tx ?_,rfl,rfl,rfl⟩;exact Lz.of (D6 (by unfold Sort.ltInt;simp at h ⊢;omega))
set_option maxRecDepth 100000
set_option maxHeartbeats 4000000
theorem FL (d:Array Int) (a b:Nat) (hb:b≤d.size) (hl:d.size<1000000) (ha:a≤b):VC ES 125 1 [.tk 0,nI a,nI b] [(0,bD d)] (RR (.dH []) 1 [(0,bD (Sort.insertionSort Sort.ltInt d a b))]):=by
 refine VC.bo LS (show ES.func 125=some Tryz.f125 by kernel_rfl) (fun _ _=>rfl) rfl rfl [] ?_;refine wh ?_;refine⟨fun k f o c=>∃(i:Nat) (e:Array Int),a<i∧k=b - i∧e.size=d.size∧Sort.insOuter Sort.ltInt a b i e=Sort.insertionSort Sort.ltInt d a b∧c=1∧f=[(0,.tk 0),(1,nI a),(2,nI b),(6,nI i)]∧o=[(0,bD e)],⟨b - (a+1),?_⟩,?_⟩
 ·refine⟨[],[some 0],?_⟩
  iterate 3 constructor
  refine⟨⟨?_,?_,?_⟩,⟨a+1,d,om,rfl,rfl,rfl,rfl,rfl,rfl⟩⟩
  all_goals(repeat' first|exact LF|constructor)
  all_goals exact Lz.int (wA om)
 ·rintro k f1 o1 c1 ⟨i,e,hi,rfl,he,hr,rfl,rfl,rfl⟩;refine wh ?_;refine sp ?_ ?_<;>intro h
  ·have h:i<b:=by simpa using h
   refine wh ?_;refine⟨fun k f o c=>∃(j:Nat) (e1:Array Int),j≤i∧k=j∧e1.size=d.size∧Sort.insInner Sort.ltInt a j e1=Sort.insInner Sort.ltInt a i e∧c=1∧f=[(0,.tk 0),(1,nI a),(2,nI b),(6,nI i),(7,nI j)]∧o=[(0,bD e1)],⟨i,?_⟩,?_⟩
   ·exact⟨[],[some 0],_,_,_,t3,⟨i,e,om,rfl,he,rfl,rfl,rfl,rfl⟩⟩
   ·rintro k f1 o1 c1 ⟨j,e1,hj,rfl,Gx,gG,rfl,rfl,rfl⟩;have fin:Sort.insInner Sort.ltInt a k e1=e1→Sort.insOuter Sort.ltInt a b (i+1) e1=Sort.insertionSort Sort.ltInt d a b:=by
     intro h0;rw[←hr,Sort.insOuter.eq_1 _ a b i e,if_pos h,←gG,h0]
    refine wh ?_;refine sp ?_ ?_<;>intro h2
    ·have h2:a<k:=by simpa using h2
     refine wh ?_;refine di k rfl om ?_;refine wh ?_;refine di (k - 1) (wS om om) om ?_;refine wh ?_;refine⟨[],[],_,_,_,_,dq e1[k]! e1[k - 1]!,t3,?_⟩;rintro r o' c' ⟨rfl,rfl,rfl⟩;have iU:=True.intro;clear iU;cases h3:Sort.ltInt e1[k]! e1[k - 1]!
     ·refine wh ?_;refine⟨b - (i+1),?_,om⟩;refine⟨[],[some 0],?_⟩
      iterate 3 constructor
      refine⟨⟨?_,?_,?_⟩,⟨i+1,e1,om,rfl,Gx,fin ?_,rfl,rfl,rfl⟩⟩
      all_goals(repeat' first|exact LF|constructor)
      all_goals first|exact Lz.int (wA om)|skip
      obtain⟨k,rfl⟩:∃m,k=m+1:=⟨k - 1,om⟩;unfold Sort.insInner;rw[if_neg];simp at h3 ⊢;intro _;exact h3
     ·refine wh ?_;refine di (k - 1) (wS om om) om ?_;refine wh ?_;refine di k rfl om ?_;refine wh ?_;refine di k rfl om ?_;refine wh ?_;refine gq (k - 1) (wS om om) om (fun x=>?_) ⟨_,rfl⟩;refine wh ?_;refine⟨k - 1,?_,om⟩;refine⟨[],[some 0],?_⟩
      iterate 3 constructor
      refine⟨⟨?_,?_,?_⟩,⟨k - 1,Sort.swp e1 k (k - 1),om,rfl,by rw[Sort.size_swp,Gx],?_,rfl,rfl,rfl⟩⟩
      all_goals(repeat' first|exact LF|constructor)
      all_goals first|exact Lz.int (wS om om)|(rw[wS om om];exact Lz.of (s7 e1 k (k - 1)))|skip
      obtain⟨k,rfl⟩:∃m,k=m+1:=⟨k - 1,om⟩;rw[←gG]
      conv=>rhs;unfold Sort.insInner
      rw[if_pos]
      ·rfl
      ·simp at h3 ⊢;exact⟨om,h3⟩
    ·have h2:¬a<k:=by simpa using h2
     refine wh ?_;refine⟨b - (i+1),?_,om⟩;refine⟨[],[some 0],?_⟩
     iterate 3 constructor
     refine⟨⟨?_,?_,?_⟩,⟨i+1,e1,om,rfl,Gx,fin ?_,rfl,rfl,rfl⟩⟩
     all_goals(repeat' first|exact LF|constructor)
     all_goals first|exact Lz.int (wA om)|skip
     match k,h2 with
     |0,_=>rfl
     |k+1,h2=>unfold Sort.insInner;rw[if_neg];simp;intro _;omega
  ·have h:¬i<b:=by simpa using h
   refine wh ?_;refine⟨[],[some 0],?_⟩
   iterate 3 constructor
   refine⟨⟨?_,?_,?_⟩,rfl,rfl,rfl⟩
   all_goals(repeat' first|exact LF|constructor)
   rw[Sort.insOuter,if_neg h]at hr;exact Lz.of (by rw[hr])
theorem pc (d:Array Int) (a b:Nat) (Qr:a<b) (hb:b≤d.size) (hl:d.size<1000000):VC ES 129 1 [.tk 0,nI a,nI b] [(0,bD d)] (RR (.dH []) 1 [(0,bD (Sort.reverseRange d a b))]):=by
 refine VC.bo LS (show ES.func 129=some Tryz.f129 by kernel_rfl) (fun _ _=>rfl) rfl rfl [] ?_;refine wh ?_;refine⟨fun k f o c=>∃(i j:Nat) (e:Array Int),a≤i∧j<b∧k=j - i∧e.size=d.size∧Sort.reverseLoop i j e=Sort.reverseRange d a b∧c=1∧f=[(0,.tk 0),(6,nI i),(7,nI j)]∧o=[(0,bD e)],⟨b - 1 - a,?_⟩,?_⟩
 ·refine⟨[],[some 0],?_⟩
  iterate 3 constructor
  refine⟨⟨?_,?_,?_⟩,⟨a,b - 1,d,Nat.le_refl _,om,rfl,rfl,rfl,rfl,rfl,rfl⟩⟩
  all_goals(repeat' first|exact LF|constructor)
  all_goals exact Lz.int (wS om om)
 ·rintro k f1 o1 c1 ⟨i,j,e,hi,hj,rfl,he,hr,rfl,rfl,rfl⟩;refine wh ?_;refine sp ?_ ?_<;>intro h
  ·have h:i<j:=by simpa using h
   refine wh ?_;refine di j rfl om ?_;refine wh ?_;refine di i rfl om ?_;refine wh ?_;refine di i rfl om ?_;refine wh ?_;refine gq j rfl om (fun x=>?_) ⟨_,rfl⟩;refine wh ?_;refine⟨j - 1 - (i+1),?_,om⟩;refine⟨[],[some 0],?_⟩
   iterate 3 constructor
   refine⟨⟨?_,?_,?_⟩,⟨i+1,j - 1,Sort.swp e i j,om,by omega,rfl,by rw[Sort.size_swp,he],by rw[←hr,Sort.reverseLoop.eq_1 i j e,if_pos h],rfl,rfl,rfl⟩⟩
   all_goals(repeat' first|exact LF|constructor)
   all_goals first|exact Lz.int (wS om om)|exact Lz.of (s7 e i j)
  ·have h:¬i<j:=by simpa using h
   refine wh ?_;refine⟨[],[some 0],?_⟩
   iterate 3 constructor
   refine⟨⟨?_,?_,?_⟩,rfl,rfl,rfl⟩
   all_goals(repeat' first|exact LF|constructor)
   rw[Sort.reverseLoop,if_neg h]at hr;exact Lz.of (by rw[hr])
theorem wM {n:Nat} (h:n≤549755813888):IntKind.i64.wrap (2*(n:Int))=((2*n:Nat):Int):=by
 rw[IntWalk.i64_in _ om];omega
theorem wP {m n:Nat} (h:m+n≤1099511627776):IntKind.i64.wrap ((m:Int)+(n:Int))=((m+n:Nat):Int):=by
 rw[IntWalk.i64_in _ om];omega
theorem wD {m n:Nat} (h:n≤m) (h1:m≤1099511627776):IntKind.i64.wrap ((m:Int) - (n:Int))=((m - n:Nat):Int):=by
 rw[IntWalk.i64_in _ om];omega
theorem wQ {n:Nat} (h:n≤1099511627776):IntKind.i64.wrap ((n:Int).tdiv 2)=((n / 2:Nat):Int):=by
 rw[show(n:Int).tdiv 2=((n / 2:Nat):Int)from rfl,IntWalk.i64_in _ om]
theorem w4 {a n k:Nat} (h:a+n*4≤1000000) (hk:k≤4):IntKind.i64.wrap ((a:Int)+IntKind.i64.wrap (IntKind.i64.wrap ((n:Int).tdiv 4)*(k:Int)))=((a+n / 4*k:Nat):Int):=by
 rw[show(n:Int).tdiv 4=((n / 4:Nat):Int)from rfl,IntWalk.i64_in ((n / 4:Nat):Int) om];have h1:((n / 4:Nat):Int)*(k:Int)=((n / 4*k:Nat):Int):=by simp
 have h2:n / 4*k≤n / 4*4:=Nat.mul_le_mul_left _ hk;rw[h1,IntWalk.i64_in ((n / 4*k:Nat):Int) om,IntWalk.i64_in _ om];simp
theorem Xg {a n:Nat} (h:a+n*4≤1000000):IntKind.i64.wrap ((a:Int)+IntKind.i64.wrap (IntKind.i64.wrap ((n:Int).tdiv 4)*1))=((a+n / 4*1:Nat):Int):=w4 (k:=1) h om
theorem TX {a n:Nat} (h:a+n*4≤1000000):IntKind.i64.wrap ((a:Int)+IntKind.i64.wrap (IntKind.i64.wrap ((n:Int).tdiv 4)*2))=((a+n / 4*2:Nat):Int):=w4 (k:=2) h om
theorem Xh {a n:Nat} (h:a+n*4≤1000000):IntKind.i64.wrap ((a:Int)+IntKind.i64.wrap (IntKind.i64.wrap ((n:Int).tdiv 4)*3))=((a+n / 4*3:Nat):Int):=w4 (k:=3) h om
theorem xN (hi first:Nat):∀(n root:Nat) (d:Array Int),hi - root≤n→(Sort.siftDown Sort.ltInt hi first root d).size=d.size:=by
 intro n
 induction n with
 |zero=>intro root d h;unfold Sort.siftDown;rw[dif_pos om]
 |succ n ih=>
  intro root d h;unfold Sort.siftDown;split
  ·rfl
  ·split
   ·split
    ·rfl
    ·split
     ·rw[ih _ _ om,Sort.size_swp]
     ·rfl
   ·split
    ·rfl
    ·rw[ih _ _ om,Sort.size_swp]
theorem D7 (d:Array Int) (lo hi first:Nat) (hb:first+hi≤d.size) (hl:d.size<1000000) (v7:lo<1000000):VC ES 172 1 [.tk 0,nI lo,nI hi,nI first] [(0,bD d)] (RR (.dH []) 1 [(0,bD (Sort.siftDown Sort.ltInt hi first lo d))]):=by
 refine VC.bo LS (show ES.func 172=some Tryz.f172 by kernel_rfl) (fun _ _=>rfl) rfl rfl [] ?_;refine wh ?_;refine⟨fun k f o c=>∃(root:Nat) (e:Array Int),k=hi - root∧e.size=d.size∧Sort.siftDown Sort.ltInt hi first root e=Sort.siftDown Sort.ltInt hi first lo d∧root<1000000∧c=1∧f=[(0,.tk 0),(2,nI hi),(3,nI first),(8,nI root)]∧o=[(0,bD e)],⟨hi - lo,?_⟩,?_⟩
 ·exact⟨[],[some 0],_,_,_,t3,⟨lo,d,rfl,rfl,rfl,v7,rfl,rfl,rfl⟩⟩
 ·rintro k f1 o1 c1 ⟨root,e,rfl,he,hr,Pc,rfl,rfl,rfl⟩;have l5:IntKind.i64.wrap (IntKind.i64.wrap (2*(root:Int))+1)=((2*root+1:Nat):Int):=by rw[wM om,wA om]
  have Eu:IntKind.i64.wrap (IntKind.i64.wrap (IntKind.i64.wrap (2*(root:Int))+1)+1)=((2*root+2:Nat):Int):=by rw[l5,wA om]
  refine wh ?_;refine sp ?_ ?_<;>intro h
  ·have h:2*root+1≥hi:=by rw[l5]at h;omega
   refine wh ?_;refine⟨[],[some 0],?_⟩
   iterate 3 constructor
   refine⟨⟨?_,?_,?_⟩,rfl,rfl,rfl⟩
   all_goals(repeat' first|exact LF|constructor)
   refine Lz.of ?_;rw[←hr,Sort.siftDown.eq_1 _ hi first root e,dif_pos h]
  ·have h:¬2*root+1≥hi:=by rw[l5]at h;omega
   refine wh ?_;refine sp ?_ ?_<;>intro h3
   ·have h3:2*root+1+1<hi:=by rw[Eu]at h3;omega
    refine wh ?_;refine di (first+(2*root+1)) (by rw[l5,wP om]) om ?_;refine wh ?_;refine di (first+(2*root+1)+1) (by rw[l5,wP om,wA om]) om ?_;refine wh ?_;refine⟨[],[],_,_,_,_,dq e[first+(2*root+1)]! e[first+(2*root+1)+1]!,t3,?_⟩;rintro r o' c' ⟨rfl,rfl,rfl⟩;have iU:=True.intro;clear iU;cases h4:Sort.ltInt e[first+(2*root+1)]! e[first+(2*root+1)+1]!
    ·have side:(decide (2*root+1+1<hi)&&Sort.ltInt e[first+(2*root+1)]! e[first+(2*root+1)+1]!)=false:=by rw[h4];simp
     have hc:=l5;have bO:2*root+1<hi:=by omega
     have hw:IntKind.i64.wrap ((first:Int)+IntKind.i64.wrap (IntKind.i64.wrap (2*(root:Int))+1))=((first+(2*root+1):Nat):Int):=by rw[l5,wP om]
     refine wh ?_;refine di (first+root) (wP om) om ?_;refine wh ?_;refine di (first+(2*root+1)) hw om ?_;refine wh ?_;refine⟨[],[],_,_,_,_,dq e[first+root]! e[first+(2*root+1)]!,t3,?_⟩;rintro r o' c' ⟨rfl,rfl,rfl⟩;have iU:=True.intro;clear iU;cases h5:Sort.ltInt e[first+root]! e[first+(2*root+1)]!
     ·refine wh ?_;refine⟨[],[some 0],?_⟩
      iterate 3 constructor
      refine⟨⟨?_,?_,?_⟩,rfl,rfl,rfl⟩
      all_goals(repeat' first|exact LF|constructor)
      refine Lz.of ?_;rw[←hr]
      conv=>rhs;unfold Sort.siftDown
      rw[dif_neg h,side];simp only[h5,if_true,if_false,Bool.false_eq_true,Bool.not_false]
     ·refine wh ?_;refine di (first+(2*root+1)) hw om ?_;refine wh ?_;refine di (first+root) (wP om) om ?_;refine wh ?_;refine di (first+root) (wP om) om ?_;refine wh ?_;refine gq (first+(2*root+1)) hw om (fun x=>?_) ⟨_,rfl⟩;refine wh ?_;refine⟨hi - (2*root+1),?_,om⟩;refine⟨[],[some 0],?_⟩
      iterate 3 constructor
      refine⟨⟨?_,?_,?_⟩,⟨(2*root+1),Sort.swp e (first+root) (first+(2*root+1)),rfl,by rw[Sort.size_swp,he],?_,om,rfl,rfl,rfl⟩⟩
      all_goals(repeat' first|exact LF|constructor)
      all_goals first|exact Lz.int hc|(refine Lz.of ?_;rw[wP om,hw];exact s7 e (first+root) (first+(2*root+1)))|skip
      rw[←hr]
      conv=>rhs;unfold Sort.siftDown
      rw[dif_neg h,side];simp only[h5,if_false,Bool.false_eq_true,Bool.not_true]
    ·have side:(decide (2*root+1+1<hi)&&Sort.ltInt e[first+(2*root+1)]! e[first+(2*root+1)+1]!)=true:=by rw[h4];simp[h3]
     have hc:=Eu;have bO:2*root+2<hi:=by omega
     have hw:IntKind.i64.wrap ((first:Int)+IntKind.i64.wrap (IntKind.i64.wrap (IntKind.i64.wrap (2*(root:Int))+1)+1))=((first+(2*root+2):Nat):Int):=by rw[Eu,wP om]
     refine wh ?_;refine di (first+root) (wP om) om ?_;refine wh ?_;refine di (first+(2*root+2)) hw om ?_;refine wh ?_;refine⟨[],[],_,_,_,_,dq e[first+root]! e[first+(2*root+2)]!,t3,?_⟩;rintro r o' c' ⟨rfl,rfl,rfl⟩;have iU:=True.intro;clear iU;cases h5:Sort.ltInt e[first+root]! e[first+(2*root+2)]!
     ·refine wh ?_;refine⟨[],[some 0],?_⟩
      iterate 3 constructor
      refine⟨⟨?_,?_,?_⟩,rfl,rfl,rfl⟩
      all_goals(repeat' first|exact LF|constructor)
      refine Lz.of ?_;rw[←hr]
      conv=>rhs;unfold Sort.siftDown
      rw[dif_neg h,side];simp only[h5,if_true,Bool.not_false]
     ·refine wh ?_;refine di (first+(2*root+2)) hw om ?_;refine wh ?_;refine di (first+root) (wP om) om ?_;refine wh ?_;refine di (first+root) (wP om) om ?_;refine wh ?_;refine gq (first+(2*root+2)) hw om (fun x=>?_) ⟨_,rfl⟩;refine wh ?_;refine⟨hi - (2*root+2),?_,om⟩;refine⟨[],[some 0],?_⟩
      iterate 3 constructor
      refine⟨⟨?_,?_,?_⟩,⟨(2*root+2),Sort.swp e (first+root) (first+(2*root+2)),rfl,by rw[Sort.size_swp,he],?_,om,rfl,rfl,rfl⟩⟩
      all_goals(repeat' first|exact LF|constructor)
      all_goals first|exact Lz.int hc|(refine Lz.of ?_;rw[wP om,hw];exact s7 e (first+root) (first+(2*root+2)))|skip
      rw[←hr]
      conv=>rhs;unfold Sort.siftDown
      rw[dif_neg h,side];simp only[h5,if_true,if_false,Bool.false_eq_true,Bool.not_true,bO,dite_true]
   ·have h3:¬2*root+1+1<hi:=by rw[Eu]at h3;omega
    have side:(decide (2*root+1+1<hi)&&Sort.ltInt e[first+(2*root+1)]! e[first+(2*root+1)+1]!)=false:=by simp[h3]
    have hc:=l5;have bO:2*root+1<hi:=by omega
    have hw:IntKind.i64.wrap ((first:Int)+IntKind.i64.wrap (IntKind.i64.wrap (2*(root:Int))+1))=((first+(2*root+1):Nat):Int):=by rw[l5,wP om]
    refine wh ?_;refine di (first+root) (wP om) om ?_;refine wh ?_;refine di (first+(2*root+1)) hw om ?_;refine wh ?_;refine⟨[],[],_,_,_,_,dq e[first+root]! e[first+(2*root+1)]!,t3,?_⟩;rintro r o' c' ⟨rfl,rfl,rfl⟩;have iU:=True.intro;clear iU;cases h5:Sort.ltInt e[first+root]! e[first+(2*root+1)]!
    ·refine wh ?_;refine⟨[],[some 0],?_⟩
     iterate 3 constructor
     refine⟨⟨?_,?_,?_⟩,rfl,rfl,rfl⟩
     all_goals(repeat' first|exact LF|constructor)
     refine Lz.of ?_;rw[←hr]
     conv=>rhs;unfold Sort.siftDown
     rw[dif_neg h,side];simp only[h5,if_true,if_false,Bool.false_eq_true,Bool.not_false]
    ·refine wh ?_;refine di (first+(2*root+1)) hw om ?_;refine wh ?_;refine di (first+root) (wP om) om ?_;refine wh ?_;refine di (first+root) (wP om) om ?_;refine wh ?_;refine gq (first+(2*root+1)) hw om (fun x=>?_) ⟨_,rfl⟩;refine wh ?_;refine⟨hi - (2*root+1),?_,om⟩;refine⟨[],[some 0],?_⟩
     iterate 3 constructor
     refine⟨⟨?_,?_,?_⟩,⟨(2*root+1),Sort.swp e (first+root) (first+(2*root+1)),rfl,by rw[Sort.size_swp,he],?_,om,rfl,rfl,rfl⟩⟩
     all_goals(repeat' first|exact LF|constructor)
     all_goals first|exact Lz.int hc|(refine Lz.of ?_;rw[wP om,hw];exact s7 e (first+root) (first+(2*root+1)))|skip
     rw[←hr]
     conv=>rhs;unfold Sort.siftDown
     rw[dif_neg h,side];simp only[h5,if_false,Bool.false_eq_true,Bool.not_true]
theorem KJ (d:Array Int) (a b:Nat) (ha:a<b) (hb:b≤d.size) (hl:d.size<1000000):VC ES 126 1 [.tk 0,nI a,nI b] [(0,bD d)] (RR (.dH []) 1 [(0,bD (Sort.heapSort Sort.ltInt d a b))]):=by
 have e1:IntKind.i64.wrap ((b:Int) - (a:Int))=((b - a:Nat):Int):=wD om om;have e2:IntKind.i64.wrap (((b - a:Nat):Int) - 1)=((b - a - 1:Nat):Int):=wS om om;refine VC.bo LS (show ES.func 126=some Tryz.f126 by kernel_rfl) (fun _ _=>rfl) rfl rfl [] ?_;refine wh ?_;refine⟨fun k f o c=>∃(i:Int) (e:Array Int),i+1=k∧(i<b - a)∧e.size=d.size∧Sort.heapBuild Sort.ltInt (b - a) a k e=Sort.heapBuild Sort.ltInt (b - a) a ((b - a - 1) / 2+1) d∧c=1∧f=[(0,.tk 0),(6,nI a),(7,nI 0),(8,nI (b - a)),(9,.s (.int .i64 i))]∧o=[(0,bD e)],⟨(b - a - 1) / 2+1,?_⟩,?_⟩
 ·refine⟨[],[some 0],?_⟩
  iterate 3 constructor
  refine⟨⟨?_,?_,?_⟩,⟨(((b - a - 1) / 2:Nat):Int),d,om,by omega,rfl,rfl,rfl,rfl,rfl⟩⟩
  all_goals(repeat' first|exact LF|constructor)
  ·exact Lz.int e1
  ·refine Lz.int ?_;rw[e1,e2];exact wQ om
 ·rintro k f1 o1 c1 ⟨i,e,hi,PT,he,hr,rfl,rfl,rfl⟩;refine wh ?_;refine sp ?_ ?_<;>intro h
  ·have h:0≤i:=by simpa using h
   obtain⟨k,rfl⟩:∃m,k=m+1:=⟨k - 1,om⟩;obtain rfl:i=(k:Int):=by omega
   refine wh ?_;refine⟨[],[some 0],_,_,_,_,D7 e k (b - a) a om om om,t3,cw ?_⟩;refine⟨k,?_,om⟩;refine⟨[],[some 0],?_⟩
   iterate 3 constructor
   refine⟨⟨?_,?_,?_⟩,⟨(k:Int) - 1,_,om,by omega,(xN _ _ _ _ _ (Nat.le_refl _)).trans he,by rw[←hr];rfl,rfl,rfl,rfl⟩⟩
   all_goals(repeat' first|exact LF|constructor)
   all_goals exact Lz.int (by rw[IntWalk.i64_in _ om])
  ·have h:¬0≤i:=by simpa using h
   obtain rfl:k=0:=by omega
   refine wh ?_;refine⟨fun k f o c=>∃(i:Int) (e1:Array Int),i+1=k∧(i<b - a)∧e1.size=d.size∧Sort.heapPop Sort.ltInt a k e1=Sort.heapPop Sort.ltInt a (b - a) e∧c=1∧f=[(0,.tk 0),(6,nI a),(7,nI 0),(8,nI (b - a)),(10,.s (.int .i64 i))]∧o=[(0,bD e1)],⟨b - a,?_⟩,?_⟩
   ·refine⟨[],[some 0],?_⟩
    iterate 3 constructor
    refine⟨⟨?_,?_,?_⟩,⟨((b - a - 1:Nat):Int),e,om,by omega,he,rfl,rfl,rfl,rfl⟩⟩
    all_goals(repeat' first|exact LF|constructor)
    all_goals exact Lz.int e2
   ·rintro k f1 o1 c1 ⟨i,e1,hi,PT,Gx,gG,rfl,rfl,rfl⟩;refine wh ?_;refine sp ?_ ?_<;>intro h2
    ·have h2:0≤i:=by simpa using h2
     obtain⟨k,rfl⟩:∃m,k=m+1:=⟨k - 1,om⟩;obtain rfl:i=(k:Int):=by omega
     refine wh ?_;refine di (a+k) (wP om) om ?_;refine wh ?_;refine di a rfl om ?_;refine wh ?_;refine di a rfl om ?_;refine wh ?_;refine gq (a+k) (wP om) om (fun x=>?_) ⟨_,rfl⟩;refine wh ?_;refine⟨[],[some 0],_,_,_,_,D7 (Sort.swp e1 a (a+k)) 0 k a (by rw[Sort.size_swp];omega) (by rw[Sort.size_swp];omega) om,⟨by((repeat' first|exact LF|constructor);all_goals(exact Lz.of (by rw[wP om];exact s7 e1 a (a+k)))),by((repeat' first|exact LF|constructor);all_goals(exact Lz.of (by rw[wP om];exact s7 e1 a (a+k)))),by rfl⟩,?_⟩;rintro r o' c' ⟨rfl,rfl,rfl⟩;refine wh ?_;refine⟨k,?_,om⟩
     refine⟨[],[some 0],?_⟩
     iterate 3 constructor
     refine⟨⟨?_,?_,?_⟩,⟨(k:Int) - 1,_,om,by omega,(xN _ _ _ _ _ (Nat.le_refl _)).trans ((Sort.size_swp _ _ _).trans Gx),by rw[←gG];rfl,rfl,rfl,rfl⟩⟩
     all_goals(repeat' first|exact LF|constructor)
     all_goals exact Lz.int (by rw[IntWalk.i64_in _ om])
    ·have h2:¬0≤i:=by simpa using h2
     obtain rfl:k=0:=by omega
     refine wh ?_;refine⟨[],[some 0],?_⟩
     iterate 3 constructor
     refine⟨⟨?_,?_,?_⟩,rfl,rfl,rfl⟩
     all_goals(repeat' first|exact LF|constructor)
     refine Lz.of ?_;have:e1=Sort.heapSort Sort.ltInt d a b:=by
      unfold Sort.heapSort;rw[←hr];exact gG
     rw[this]
theorem nT {p:Int→Bool} {d:Array Int} {j i:Nat} (h:¬(i≤j∧p d[i]! =true)):Sort.scanUp p d j i=i:=by
 rw[Sort.scanUp,if_neg];simp;intro h1;simpa using fun h2=>h ⟨h1,h2⟩
theorem Iv {p:Int→Bool} {d:Array Int} {j i:Nat} (h1:i≤j) (h2:p d[i]! =true):Sort.scanUp p d j i=Sort.scanUp p d j (i+1):=by
 rw[Sort.scanUp,if_pos];simp[h1,h2]
theorem nU {p:Int→Bool} {d:Array Int} {i j:Nat} (_:1≤i) (h:¬(i≤j∧p d[j]! =true)):Sort.scanDown p d i j=j:=by
 match j with
 |0=>rfl
 |j+1=>rw[Sort.scanDown,if_neg];simp;intro h1;simpa using fun h2=>h ⟨h1,h2⟩
theorem Iw {p:Int→Bool} {d:Array Int} {i j:Nat} (hi:1≤i) (h1:i≤j) (h2:p d[j]! =true):Sort.scanDown p d i j=Sort.scanDown p d i (j - 1):=by
 match j,h1 with
 |0,h1=>omega
 |j+1,h1=>rw[Sort.scanDown,if_pos];rfl;simp[h1,h2]
abbrev pU (e:Array Int) (a:Nat):Int→Bool:=fun x=>Sort.ltInt x e[a]!
abbrev pD (e:Array Int) (a:Nat):Int→Bool:=fun x=> !Sort.ltInt x e[a]!
abbrev qU (e:Array Int) (a:Nat):Int→Bool:=fun x=> !Sort.ltInt e[a]! x
abbrev qD (e:Array Int) (a:Nat):Int→Bool:=fun x=>Sort.ltInt e[a]! x
theorem Ix {d e:Array Int} {i j:Nat} (he:e=Sort.swp d i j):Lz (((d.toList.map fH).set (i:Int).toNat [.s (.int .u32 d[j]!)]).set (j:Int).toNat [.s (.int .u32 d[i]!)]) (e.toList.map fH):=by
 subst he;exact Lz.of (s7 d i j)
theorem KK (d:Array Int) (a b p:Nat) (ha:a<b) (hb:b≤d.size) (_:a≤p) (rG:p<b) (hl:d.size<1000000):VC ES 133 1 [.tk 0,nI a,nI b,nI p] [(0,bD d)]
 (RR (.dH [nI (Sort.partition Sort.ltInt d a b p).1,.s (.bool (Sort.partition Sort.ltInt d a b p).2.1)]) 1 [(0,bD (Sort.partition Sort.ltInt d a b p).2.2)]):=by
 refine VC.bo LS (show ES.func 133=some Tryz.f133 by kernel_rfl) (fun _ _=>rfl) rfl rfl [0,2,6,8] ?_;refine wh ?_;refine di p rfl om ?_;refine wh ?_;refine di a rfl om ?_;refine wh ?_;refine di a rfl om ?_;refine wh ?_;refine gq p rfl om (fun x=>?_) ⟨_,rfl⟩;refine wh ?_;obtain⟨e,he⟩:∃e,e=Sort.swp d a p:=⟨_,rfl⟩;have zO:e.size=d.size:=by rw[he,Sort.size_swp]
 obtain⟨ii,Vk⟩:∃ii,ii=a+1:=⟨_,rfl⟩;obtain⟨jj,TY⟩:∃jj,jj=b - 1:=⟨_,rfl⟩;refine⟨fun f o c=>∃i1:Nat,ii≤i1∧i1≤b∧Sort.scanUp (pU e a) e jj ii=i1∧c=1∧f=[(0,.tk 0),(1,nI a),(10,nI i1),(11,nI jj)]∧o=[(0,bD e)],?_,?_⟩
 ·refine wh ?_;refine⟨fun k f o c=>∃i1:Nat,ii≤i1∧i1≤b∧k=b - i1∧Sort.scanUp (pU e a) e jj i1=Sort.scanUp (pU e a) e jj ii∧c=1∧f=[(0,.tk 0),(1,nI a),(10,nI i1),(11,nI jj)]∧o=[(0,bD e)],⟨b - ii,?_⟩,?_⟩
  ·refine⟨[],[some 0],?_⟩
   iterate 3 constructor
   refine⟨⟨?_,?_,?_⟩,⟨ii,Nat.le_refl _,om,rfl,rfl,rfl,rfl,rfl⟩⟩
   all_goals(repeat' first|exact LF|constructor)
   all_goals(first|exact Ix he|(subst Vk;exact Lz.int (wA om))|(subst TY;exact Lz.int (wS om om)))
  rintro k f1 o1 c1 ⟨i1,JN,JO,rfl,hu,rfl,rfl,rfl⟩;refine wh ?_;refine sp ?_ ?_<;>intro jq
  ·have jq:i1≤jj:=by simpa using jq
   refine wh ?_;refine di (i1) rfl om ?_;refine wh ?_;refine di (a) rfl om ?_;refine wh ?_;refine⟨[],[],_,_,_,_,dq e[i1]! e[a]!,t3,?_⟩;rintro r o' c' ⟨rfl,rfl,rfl⟩;have iU:=True.intro;clear iU;cases tJ:Sort.ltInt e[i1]! e[a]!
   ·have vy:Sort.scanUp (pU e a) e jj ii=i1:=hu.symm.trans (nT (fun h=>by have:=h.2;simp[pU,tJ]at this));refine wh ?_;exact⟨[],[some 0],_,_,_,t3,⟨i1,om,by omega,vy,rfl,rfl,rfl⟩⟩
   ·refine wh ?_;refine⟨b - (i1+1),?_,om⟩;refine⟨[],[some 0],?_⟩
    iterate 3 constructor
    refine⟨⟨?_,?_,?_⟩,⟨i1+1,om,by omega,rfl,by rw[←hu];exact(Iv jq (by simp[pU,tJ])).symm,rfl,rfl,rfl⟩⟩
    all_goals(repeat' first|exact LF|constructor)
    all_goals exact Lz.int (wA om)
  ·have jq:¬i1≤jj:=by simpa using jq
   have vy:Sort.scanUp (pU e a) e jj ii=i1:=hu.symm.trans (nT (fun h=>jq h.1));refine wh ?_;exact⟨[],[some 0],_,_,_,t3,⟨i1,om,by omega,vy,rfl,rfl,rfl⟩⟩
 rintro f1 o1 c1 ⟨i,Pz,ND,hu,rfl,rfl,rfl⟩;refine wh ?_;refine⟨fun f o c=>∃j1:Nat,j1≤jj∧j1<b∧Sort.scanDown (pD e a) e i jj=j1∧c=1∧f=[(0,.tk 0),(1,nI a),(10,nI i),(11,nI j1)]∧o=[(0,bD e)],?_,?_⟩
 ·refine wh ?_;refine⟨fun k f o c=>∃j1:Nat,j1≤jj∧j1<b∧j1=k∧Sort.scanDown (pD e a) e i j1=Sort.scanDown (pD e a) e i jj∧c=1∧f=[(0,.tk 0),(1,nI a),(10,nI i),(11,nI j1)]∧o=[(0,bD e)],⟨jj,?_⟩,?_⟩
  ·refine⟨[],[some 0],?_⟩
   iterate 3 constructor
   refine⟨⟨?_,?_,?_⟩,⟨jj,Nat.le_refl _,om,rfl,rfl,rfl,rfl,rfl⟩⟩
   all_goals(repeat' first|exact LF|constructor)
   all_goals skip
  rintro k f1 o1 c1 ⟨j1,JN,JO,rfl,hu,rfl,rfl,rfl⟩;refine wh ?_;refine sp ?_ ?_<;>intro jq
  ·have jq:i≤j1:=by simpa using jq
   refine wh ?_;refine di (j1) rfl om ?_;refine wh ?_;refine di (a) rfl om ?_;refine wh ?_;refine⟨[],[],_,_,_,_,dq e[j1]! e[a]!,t3,?_⟩;rintro r o' c' ⟨rfl,rfl,rfl⟩;have iU:=True.intro;clear iU;cases tJ:Sort.ltInt e[j1]! e[a]!
   ·refine wh ?_;refine⟨(j1 - 1),?_,om⟩;refine⟨[],[some 0],?_⟩
    iterate 3 constructor
    refine⟨⟨?_,?_,?_⟩,⟨j1 - 1,om,by omega,rfl,by rw[←hu];exact(Iw om jq (by simp[pD,tJ])).symm,rfl,rfl,rfl⟩⟩
    all_goals(repeat' first|exact LF|constructor)
    all_goals exact Lz.int (wS om om)
   ·have vy:Sort.scanDown (pD e a) e i jj=j1:=hu.symm.trans (nU om (fun h=>by have:=h.2;simp[pD,tJ]at this));refine wh ?_;exact⟨[],[some 0],_,_,_,t3,⟨j1,om,by omega,vy,rfl,rfl,rfl⟩⟩
  ·have jq:¬i≤j1:=by simpa using jq
   have vy:Sort.scanDown (pD e a) e i jj=j1:=hu.symm.trans (nU om (fun h=>jq h.1));refine wh ?_;exact⟨[],[some 0],_,_,_,t3,⟨j1,om,by omega,vy,rfl,rfl,rfl⟩⟩
 rintro f1 o1 c1 ⟨j,J2,EG,hd,rfl,rfl,rfl⟩;have NF:Sort.partition Sort.ltInt d a b p=if i>j then(j,true,Sort.swp e j a)else((Sort.partLoop Sort.ltInt a (i+1) (j - 1) (Sort.swp e i j)).1,false,Sort.swp (Sort.partLoop Sort.ltInt a (i+1) (j - 1) (Sort.swp e i j)).2 (Sort.partLoop Sort.ltInt a (i+1) (j - 1) (Sort.swp e i j)).1 a):=by
  have Gk:Sort.scanUp (fun x=>Sort.ltInt x e[a]!) e (b - 1) (a+1)=i:=by rw[←Vk,←TY];exact hu
  have Sw:Sort.scanDown (fun x=> !Sort.ltInt x e[a]!) e i (b - 1)=j:=by rw[←TY];exact hd
  unfold Sort.partition;simp only[←he,Gk,Sw]
 refine wh ?_;refine sp ?_ ?_<;>intro EK
 ·have EK:i>j:=by simpa using EK
  rw[if_pos EK]at NF;refine wh ?_;refine di a rfl om ?_;refine wh ?_;refine di j rfl om ?_;refine wh ?_;refine di j rfl om ?_;refine wh ?_;refine gq a rfl om (fun x=>?_) ⟨_,rfl⟩;refine wh ?_;refine⟨[],[some 0],?_⟩
  iterate 3 constructor
  refine⟨⟨?_,?_,?_⟩,by rw[NF],rfl,by rw[NF]⟩
  all_goals(repeat' first|exact LF|constructor)
  exact Lz.of (s7 e j a)
 ·have EK:¬i>j:=by simpa using EK
  rw[if_neg EK]at NF;refine wh ?_;refine di j rfl om ?_;refine wh ?_;refine di i rfl om ?_;refine wh ?_;refine di i rfl om ?_;refine wh ?_;refine gq j rfl om (fun x=>?_) ⟨_,rfl⟩;refine wh ?_;refine⟨fun k f o c=>∃(i0 j0:Nat) (e1:Array Int),a<i0∧i0≤b∧j0<b∧k=j0+1 - i0∧e1.size=d.size∧Sort.partLoop Sort.ltInt a i0 j0 e1=Sort.partLoop Sort.ltInt a (i+1) (j - 1) (Sort.swp e i j)∧c=1∧f=[(0,.tk 0),(1,nI a),(10,nI i0),(11,nI j0)]∧o=[(0,bD e1)],⟨j - 1+1 - (i+1),?_⟩,?_⟩
  ·refine⟨[],[some 0],?_⟩
   iterate 3 constructor
   refine⟨⟨?_,?_,?_⟩,⟨i+1,j - 1,Sort.swp e i j,om,by omega,om,rfl,by rw[Sort.size_swp,zO],rfl,rfl,rfl,rfl⟩⟩
   all_goals(repeat' first|exact LF|constructor)
   all_goals first|exact Ix rfl |exact Lz.int (wA om)|exact Lz.int (wS om om)
  rintro k f1 o1 c1 ⟨i0,j0,e1,h1,h2,h3,rfl,Gx,wu,rfl,rfl,rfl⟩;refine wh ?_;refine⟨fun f o c=>∃i1:Nat,i0≤i1∧i1≤b∧Sort.scanUp (pU e1 a) e1 j0 i0=i1∧c=1∧f=[(0,.tk 0),(1,nI a),(10,nI i1),(11,nI j0)]∧o=[(0,bD e1)],?_,?_⟩
  ·refine wh ?_;refine⟨fun k f o c=>∃i1:Nat,i0≤i1∧i1≤b∧k=b - i1∧Sort.scanUp (pU e1 a) e1 j0 i1=Sort.scanUp (pU e1 a) e1 j0 i0∧c=1∧f=[(0,.tk 0),(1,nI a),(10,nI i1),(11,nI j0)]∧o=[(0,bD e1)],⟨b - i0,?_⟩,?_⟩
   ·refine⟨[],[some 0],?_⟩
    iterate 3 constructor
    refine⟨⟨?_,?_,?_⟩,⟨i0,Nat.le_refl _,om,rfl,rfl,rfl,rfl,rfl⟩⟩
    all_goals(repeat' first|exact LF|constructor)
    all_goals skip
   rintro k f1 o1 c1 ⟨i1,JN,JO,rfl,hu,rfl,rfl,rfl⟩;refine wh ?_;refine sp ?_ ?_<;>intro jq
   ·have jq:i1≤j0:=by simpa using jq
    refine wh ?_;refine di (i1) rfl om ?_;refine wh ?_;refine di (a) rfl om ?_;refine wh ?_;refine⟨[],[],_,_,_,_,dq e1[i1]! e1[a]!,t3,?_⟩;rintro r o' c' ⟨rfl,rfl,rfl⟩;have iU:=True.intro;clear iU;cases tJ:Sort.ltInt e1[i1]! e1[a]!
    ·have vy:Sort.scanUp (pU e1 a) e1 j0 i0=i1:=hu.symm.trans (nT (fun h=>by have:=h.2;simp[pU,tJ]at this));refine wh ?_;exact⟨[],[some 0],_,_,_,t3,⟨i1,om,by omega,vy,rfl,rfl,rfl⟩⟩
    ·refine wh ?_;refine⟨b - (i1+1),?_,om⟩;refine⟨[],[some 0],?_⟩
     iterate 3 constructor
     refine⟨⟨?_,?_,?_⟩,⟨i1+1,om,by omega,rfl,by rw[←hu];exact(Iv jq (by simp[pU,tJ])).symm,rfl,rfl,rfl⟩⟩
     all_goals(repeat' first|exact LF|constructor)
     all_goals exact Lz.int (wA om)
   ·have jq:¬i1≤j0:=by simpa using jq
    have vy:Sort.scanUp (pU e1 a) e1 j0 i0=i1:=hu.symm.trans (nT (fun h=>jq h.1));refine wh ?_;exact⟨[],[some 0],_,_,_,t3,⟨i1,om,by omega,vy,rfl,rfl,rfl⟩⟩
  rintro f1 o1 c1 ⟨i2,Ms,TZ,tJ,rfl,rfl,rfl⟩;refine wh ?_;refine⟨fun f o c=>∃j1:Nat,j1≤j0∧j1<b∧Sort.scanDown (pD e1 a) e1 i2 j0=j1∧c=1∧f=[(0,.tk 0),(1,nI a),(10,nI i2),(11,nI j1)]∧o=[(0,bD e1)],?_,?_⟩
  ·refine wh ?_;refine⟨fun k f o c=>∃j1:Nat,j1≤j0∧j1<b∧j1=k∧Sort.scanDown (pD e1 a) e1 i2 j1=Sort.scanDown (pD e1 a) e1 i2 j0∧c=1∧f=[(0,.tk 0),(1,nI a),(10,nI i2),(11,nI j1)]∧o=[(0,bD e1)],⟨j0,?_⟩,?_⟩
   ·refine⟨[],[some 0],?_⟩
    iterate 3 constructor
    refine⟨⟨?_,?_,?_⟩,⟨j0,Nat.le_refl _,om,rfl,rfl,rfl,rfl,rfl⟩⟩
    all_goals(repeat' first|exact LF|constructor)
    all_goals skip
   rintro k f1 o1 c1 ⟨j1,JN,JO,rfl,hu,rfl,rfl,rfl⟩;refine wh ?_;refine sp ?_ ?_<;>intro jq
   ·have jq:i2≤j1:=by simpa using jq
    refine wh ?_;refine di (j1) rfl om ?_;refine wh ?_;refine di (a) rfl om ?_;refine wh ?_;refine⟨[],[],_,_,_,_,dq e1[j1]! e1[a]!,t3,?_⟩;rintro r o' c' ⟨rfl,rfl,rfl⟩;have iU:=True.intro;clear iU;cases tJ:Sort.ltInt e1[j1]! e1[a]!
    ·refine wh ?_;refine⟨(j1 - 1),?_,om⟩;refine⟨[],[some 0],?_⟩
     iterate 3 constructor
     refine⟨⟨?_,?_,?_⟩,⟨j1 - 1,om,by omega,rfl,by rw[←hu];exact(Iw om jq (by simp[pD,tJ])).symm,rfl,rfl,rfl⟩⟩
     all_goals(repeat' first|exact LF|constructor)
     all_goals exact Lz.int (wS om om)
    ·have vy:Sort.scanDown (pD e1 a) e1 i2 j0=j1:=hu.symm.trans (nU om (fun h=>by have:=h.2;simp[pD,tJ]at this));refine wh ?_;exact⟨[],[some 0],_,_,_,t3,⟨j1,om,by omega,vy,rfl,rfl,rfl⟩⟩
   ·have jq:¬i2≤j1:=by simpa using jq
    have vy:Sort.scanDown (pD e1 a) e1 i2 j0=j1:=hu.symm.trans (nU om (fun h=>jq h.1));refine wh ?_;exact⟨[],[some 0],_,_,_,t3,⟨j1,om,by omega,vy,rfl,rfl,rfl⟩⟩
  rintro f1 o1 c1 ⟨j2,Xi,Xj,zI,rfl,rfl,rfl⟩;have gJ:=Sort.partLoop_eq Sort.ltInt a i0 j0 e1;rw[show Sort.scanUp (fun x=>Sort.ltInt x e1[a]!) e1 j0 i0=i2 from tJ,show Sort.scanDown (fun x=> !Sort.ltInt x e1[a]!) e1 i2 j0=j2 from zI,wu]at gJ;refine wh ?_;refine sp ?_ ?_<;>intro rH
  ·have rH:i2>j2:=by simpa using rH
   rw[if_pos rH]at gJ;rw[gJ]at NF;refine wh ?_;refine di a rfl om ?_;refine wh ?_;refine di j2 rfl om ?_;refine wh ?_;refine di j2 rfl om ?_;refine wh ?_;refine gq a rfl om (fun x=>?_) ⟨_,rfl⟩;refine wh ?_;refine⟨[],[some 0],?_⟩
   iterate 3 constructor
   refine⟨⟨?_,?_,?_⟩,by rw[NF],rfl,by rw[NF]⟩
   all_goals(repeat' first|exact LF|constructor)
   exact Lz.of (s7 e1 j2 a)
  ·have rH:¬i2>j2:=by simpa using rH
   rw[if_neg rH]at gJ;refine wh ?_;refine di j2 rfl om ?_;refine wh ?_;refine di i2 rfl om ?_;refine wh ?_;refine di i2 rfl om ?_;refine wh ?_;refine gq j2 rfl om (fun x=>?_) ⟨_,rfl⟩;refine wh ?_;refine⟨j2 - 1+1 - (i2+1),?_,om⟩;refine⟨[],[some 0],?_⟩
   iterate 3 constructor
   refine⟨⟨?_,?_,?_⟩,⟨i2+1,j2 - 1,Sort.swp e1 i2 j2,om,by omega,om,rfl,by rw[Sort.size_swp,Gx],gJ.symm,rfl,rfl,rfl⟩⟩
   all_goals(repeat' first|exact LF|constructor)
   all_goals first|exact Ix rfl |exact Lz.int (wA om)|exact Lz.int (wS om om)
theorem FM (d:Array Int) (a b p:Nat) (ha:a<b) (hb:b≤d.size) (sV:a≤p) (rG:p<b) (hl:d.size<1000000):VC ES 132 1 [.tk 0,nI a,nI b,nI p] [(0,bD d)]
 (RR (nI (Sort.partitionEqual Sort.ltInt d a b p).1) 1 [(0,bD (Sort.partitionEqual Sort.ltInt d a b p).2)]):=by
 refine VC.bo LS (show ES.func 132=some Tryz.f132 by kernel_rfl) (fun _ _=>rfl) rfl rfl [2,4] ?_;refine wh ?_;refine di p rfl om ?_;refine wh ?_;refine di a rfl om ?_;refine wh ?_;refine di a rfl om ?_;refine wh ?_;refine gq p rfl om (fun x=>?_) ⟨_,rfl⟩;refine wh ?_;refine⟨fun k f o c=>∃(i0 j0:Nat) (e1:Array Int),a<i0∧i0≤b∧j0<b∧k=j0+1 - i0∧e1.size=d.size∧Sort.partEqLoop Sort.ltInt a i0 j0 e1=Sort.partitionEqual Sort.ltInt d a b p∧c=1∧f=[(0,.tk 0),(1,nI a),(9,nI i0),(10,nI j0)]∧o=[(0,bD e1)],⟨b - 1+1 - (a+1),?_⟩,?_⟩
 ·refine⟨[],[some 0],?_⟩
  iterate 3 constructor
  refine⟨⟨?_,?_,?_⟩,⟨a+1,b - 1,Sort.swp d a p,om,by omega,om,rfl,by rw[Sort.size_swp],rfl,rfl,rfl,rfl⟩⟩
  all_goals(repeat' first|exact LF|constructor)
  all_goals first|exact Ix rfl |exact Lz.int (wA om)|exact Lz.int (wS om om)
 rintro k f1 o1 c1 ⟨i0,j0,e1,h1,h2,h3,rfl,Gx,wu,rfl,rfl,rfl⟩;refine wh ?_;refine⟨fun f o c=>∃i1:Nat,i0≤i1∧i1≤b∧Sort.scanUp (qU e1 a) e1 j0 i0=i1∧c=1∧f=[(0,.tk 0),(1,nI a),(9,nI i1),(10,nI j0)]∧o=[(0,bD e1)],?_,?_⟩
 ·refine wh ?_;refine⟨fun k f o c=>∃i1:Nat,i0≤i1∧i1≤b∧k=b - i1∧Sort.scanUp (qU e1 a) e1 j0 i1=Sort.scanUp (qU e1 a) e1 j0 i0∧c=1∧f=[(0,.tk 0),(1,nI a),(9,nI i1),(10,nI j0)]∧o=[(0,bD e1)],⟨b - i0,?_⟩,?_⟩
  ·refine⟨[],[some 0],?_⟩
   iterate 3 constructor
   refine⟨⟨?_,?_,?_⟩,⟨i0,Nat.le_refl _,om,rfl,rfl,rfl,rfl,rfl⟩⟩
   all_goals(repeat' first|exact LF|constructor)
   all_goals skip
  rintro k f1 o1 c1 ⟨i1,JN,JO,rfl,hu,rfl,rfl,rfl⟩;refine wh ?_;refine sp ?_ ?_<;>intro jq
  ·have jq:i1≤j0:=by simpa using jq
   refine wh ?_;refine di (a) rfl om ?_;refine wh ?_;refine di (i1) rfl om ?_;refine wh ?_;refine⟨[],[],_,_,_,_,dq e1[a]! e1[i1]!,t3,?_⟩;rintro r o' c' ⟨rfl,rfl,rfl⟩;have iU:=True.intro;clear iU;cases tJ:Sort.ltInt e1[a]! e1[i1]!
   ·refine wh ?_;refine⟨b - (i1+1),?_,om⟩;refine⟨[],[some 0],?_⟩
    iterate 3 constructor
    refine⟨⟨?_,?_,?_⟩,⟨i1+1,om,by omega,rfl,by rw[←hu];exact(Iv jq (by simp[qU,tJ])).symm,rfl,rfl,rfl⟩⟩
    all_goals(repeat' first|exact LF|constructor)
    all_goals exact Lz.int (wA om)
   ·have vy:Sort.scanUp (qU e1 a) e1 j0 i0=i1:=hu.symm.trans (nT (fun h=>by have:=h.2;simp[qU,tJ]at this));refine wh ?_;exact⟨[],[some 0],_,_,_,t3,⟨i1,om,by omega,vy,rfl,rfl,rfl⟩⟩
  ·have jq:¬i1≤j0:=by simpa using jq
   have vy:Sort.scanUp (qU e1 a) e1 j0 i0=i1:=hu.symm.trans (nT (fun h=>jq h.1));refine wh ?_;exact⟨[],[some 0],_,_,_,t3,⟨i1,om,by omega,vy,rfl,rfl,rfl⟩⟩
 rintro f1 o1 c1 ⟨i2,Ms,TZ,tJ,rfl,rfl,rfl⟩;refine wh ?_;refine⟨fun f o c=>∃j1:Nat,j1≤j0∧j1<b∧Sort.scanDown (qD e1 a) e1 i2 j0=j1∧c=1∧f=[(0,.tk 0),(1,nI a),(9,nI i2),(10,nI j1)]∧o=[(0,bD e1)],?_,?_⟩
 ·refine wh ?_;refine⟨fun k f o c=>∃j1:Nat,j1≤j0∧j1<b∧j1=k∧Sort.scanDown (qD e1 a) e1 i2 j1=Sort.scanDown (qD e1 a) e1 i2 j0∧c=1∧f=[(0,.tk 0),(1,nI a),(9,nI i2),(10,nI j1)]∧o=[(0,bD e1)],⟨j0,?_⟩,?_⟩
  ·refine⟨[],[some 0],?_⟩
   iterate 3 constructor
   refine⟨⟨?_,?_,?_⟩,⟨j0,Nat.le_refl _,om,rfl,rfl,rfl,rfl,rfl⟩⟩
   all_goals(repeat' first|exact LF|constructor)
   all_goals skip
  rintro k f1 o1 c1 ⟨j1,JN,JO,rfl,hu,rfl,rfl,rfl⟩;refine wh ?_;refine sp ?_ ?_<;>intro jq
  ·have jq:i2≤j1:=by simpa using jq
   refine wh ?_;refine di (a) rfl om ?_;refine wh ?_;refine di (j1) rfl om ?_;refine wh ?_;refine⟨[],[],_,_,_,_,dq e1[a]! e1[j1]!,t3,?_⟩;rintro r o' c' ⟨rfl,rfl,rfl⟩;have iU:=True.intro;clear iU;cases tJ:Sort.ltInt e1[a]! e1[j1]!
   ·have vy:Sort.scanDown (qD e1 a) e1 i2 j0=j1:=hu.symm.trans (nU om (fun h=>by have:=h.2;simp[qD,tJ]at this));refine wh ?_;exact⟨[],[some 0],_,_,_,t3,⟨j1,om,by omega,vy,rfl,rfl,rfl⟩⟩
   ·refine wh ?_;refine⟨(j1 - 1),?_,om⟩;refine⟨[],[some 0],?_⟩
    iterate 3 constructor
    refine⟨⟨?_,?_,?_⟩,⟨j1 - 1,om,by omega,rfl,by rw[←hu];exact(Iw om jq (by simp[qD,tJ])).symm,rfl,rfl,rfl⟩⟩
    all_goals(repeat' first|exact LF|constructor)
    all_goals exact Lz.int (wS om om)
  ·have jq:¬i2≤j1:=by simpa using jq
   have vy:Sort.scanDown (qD e1 a) e1 i2 j0=j1:=hu.symm.trans (nU om (fun h=>jq h.1));refine wh ?_;exact⟨[],[some 0],_,_,_,t3,⟨j1,om,by omega,vy,rfl,rfl,rfl⟩⟩
 rintro f1 o1 c1 ⟨j2,Xi,Xj,zI,rfl,rfl,rfl⟩;have gJ:=Sort.partEqLoop_eq Sort.ltInt a i0 j0 e1;rw[show Sort.scanUp (fun x=> !Sort.ltInt e1[a]! x) e1 j0 i0=i2 from tJ,show Sort.scanDown (fun x=>Sort.ltInt e1[a]! x) e1 i2 j0=j2 from zI,wu]at gJ;refine wh ?_;refine sp ?_ ?_<;>intro rH
 ·have rH:i2>j2:=by simpa using rH
  rw[if_pos rH]at gJ;refine wh ?_;exact⟨[],[some 0],_,_,_,t3,(congrArg (fun q=>nI q.1) gJ).symm,rfl,(congrArg (fun q=>[(0,bD q.2)]) gJ).symm⟩
 ·have rH:¬i2>j2:=by simpa using rH
  rw[if_neg rH]at gJ;refine wh ?_;refine di j2 rfl om ?_;refine wh ?_;refine di i2 rfl om ?_;refine wh ?_;refine di i2 rfl om ?_;refine wh ?_;refine gq j2 rfl om (fun x=>?_) ⟨_,rfl⟩;refine wh ?_;refine⟨j2 - 1+1 - (i2+1),?_,om⟩;refine⟨[],[some 0],?_⟩
  iterate 3 constructor
  refine⟨⟨?_,?_,?_⟩,⟨i2+1,j2 - 1,Sort.swp e1 i2 j2,om,by omega,om,rfl,by rw[Sort.size_swp,Gx],gJ.symm,rfl,rfl,rfl⟩⟩
  all_goals(repeat' first|exact LF|constructor)
  all_goals first|exact Ix rfl |exact Lz.int (wA om)|exact Lz.int (wS om om)
theorem nf:∀(j:Nat) (d:Array Int),(Sort.shiftDown Sort.ltInt j d).size=d.size
 |0,d=>rfl
 |j+1,d=>by
  unfold Sort.shiftDown;split
  ·rfl
  ·rw[nf j,Sort.size_swp]
theorem qn (b:Nat):∀(n j:Nat) (d:Array Int),b - j≤n→(Sort.shiftUp Sort.ltInt b j d).size=d.size:=by
 intro n
 induction n with
 |zero=>intro j d h;unfold Sort.shiftUp;rw[if_neg om]
 |succ n ih=>
  intro j d h;unfold Sort.shiftUp;split
  ·split
   ·rfl
   ·rw[ih _ _ om,Sort.size_swp]
  ·rfl
theorem D8 {j:Nat} {d:Array Int} (h:j=0∨Sort.ltInt d[j]! d[j - 1]! =false):Sort.shiftDown Sort.ltInt j d=d:=by
 match j,h with
 |0,_=>rfl
 |j+1,h=>unfold Sort.shiftDown;rw[if_pos];rcases h with h|h;omega;simpa using h
theorem QJ {j:Nat} {d:Array Int} (h0:1≤j) (h:Sort.ltInt d[j]! d[j - 1]! =true):Sort.shiftDown Sort.ltInt j d=Sort.shiftDown Sort.ltInt (j - 1) (Sort.swp d j (j - 1)):=by
 match j,h0,h with
 |j+1,_,h=>conv=>lhs;unfold Sort.shiftDown
           rw[if_neg];rfl;simpa using h
theorem tK {b j:Nat} {d:Array Int} (h:¬j<b∨Sort.ltInt d[j]! d[j - 1]! =false):Sort.shiftUp Sort.ltInt b j d=d:=by
 unfold Sort.shiftUp;rcases h with h|h
 ·rw[if_neg h]
 ·split
  ·rw[if_pos (by simp[h])]
  ·rfl
theorem LZ {b j:Nat} {d:Array Int} (h0:j<b) (h:Sort.ltInt d[j]! d[j - 1]! =true):Sort.shiftUp Sort.ltInt b j d=Sort.shiftUp Sort.ltInt b (j+1) (Sort.swp d j (j - 1)):=by
 conv=>lhs;unfold Sort.shiftUp
 rw[if_pos h0,if_neg (by simp[h])]
theorem D9 {b i:Nat} {d:Array Int} (h:¬i<b∨Sort.ltInt d[i]! d[i - 1]! =true):Sort.scanSorted Sort.ltInt d b i=i:=by
 rw[Sort.scanSorted,if_neg];rcases h with h|h
 ·simp[h]
 ·simp[h]
theorem QK {b i:Nat} {d:Array Int} (h0:i<b) (h:Sort.ltInt d[i]! d[i - 1]! =false):Sort.scanSorted Sort.ltInt d b i=Sort.scanSorted Sort.ltInt d b (i+1):=by
 rw[Sort.scanSorted,if_pos];simp[h,h0]
theorem Bl {d e:Array Int} {i j:Nat} {y:Int} (hy:y=j) (he:e=Sort.swp d i j):Lz (((d.toList.map fH).set (i:Int).toNat [.s (.int .u32 d[j]!)]).set y.toNat [.s (.int .u32 d[i]!)]) (e.toList.map fH):=by
 subst hy;subst he;exact Lz.of (s7 d i j)
theorem Ea (d:Array Int) (a b:Nat) (ha:a<b) (hb:b≤d.size) (hl:d.size<1000000):VC ES 130 1 [.tk 0,nI a,nI b] [(0,bD d)]
 (RR (.s (.bool (Sort.partialInsertionSort Sort.ltInt d a b).2)) 1 [(0,bD (Sort.partialInsertionSort Sort.ltInt d a b).1)]):=by
 refine VC.bo LS (show ES.func 130=some Tryz.f130 by kernel_rfl) (fun _ _=>rfl) rfl rfl [2,4,6] ?_;refine wh ?_;refine⟨fun k f o c=>∃(i s8:Nat) (e:Array Int),a<i∧i≤b∧s8≤5∧e.size=d.size∧s8+k=5∧Sort.partialIns Sort.ltInt a b k i e=Sort.partialInsertionSort Sort.ltInt d a b∧c=1∧f=[(0,.tk 0),(1,nI a),(2,nI b),(7,nI i),(8,nI s8)]∧o=[(0,bD e)],⟨5,?_⟩,?_⟩
 ·refine⟨[],[some 0],?_⟩
  iterate 3 constructor
  refine⟨⟨?_,?_,?_⟩,⟨a+1,0,d,om,by omega,om,rfl,rfl,rfl,rfl,rfl,rfl⟩⟩
  all_goals(repeat' first|exact LF|constructor)
  all_goals exact Lz.int (wA om)
 rintro k f1 o1 c1 ⟨i,s8,e,Pz,Ms,RS,he,Yg,hp,rfl,rfl,rfl⟩;refine wh ?_;refine sp ?_ ?_<;>intro h5
 ·have h5:s8<5:=by omega
  obtain⟨s,rfl⟩:∃s,k=s+1:=⟨k - 1,om⟩;refine wh ?_;refine⟨fun f o c=>∃i1:Nat,i≤i1∧i1≤b∧Sort.scanSorted Sort.ltInt e b i=i1∧c=1∧f=[(0,.tk 0),(1,nI a),(2,nI b),(7,nI i1),(8,nI s8)]∧o=[(0,bD e)],?_,?_⟩
  ·refine wh ?_;refine⟨fun k f o c=>∃i1:Nat,i≤i1∧i1≤b∧k=b - i1∧Sort.scanSorted Sort.ltInt e b i1=Sort.scanSorted Sort.ltInt e b i∧c=1∧f=[(0,.tk 0),(1,nI a),(2,nI b),(7,nI i1),(8,nI s8)]∧o=[(0,bD e)],⟨b - i,?_⟩,?_⟩
   ·exact⟨[],[some 0],_,_,_,t3,⟨i,Nat.le_refl _,Ms,rfl,rfl,rfl,rfl,rfl⟩⟩
   rintro k f1 o1 c1 ⟨i1,JN,JO,rfl,hu,rfl,rfl,rfl⟩;refine wh ?_;refine sp ?_ ?_<;>intro jq
   ·have jq:i1<b:=by simpa using jq
    refine wh ?_;refine di i1 rfl om ?_;refine wh ?_;refine di (i1 - 1) (wS om om) om ?_;refine wh ?_;refine⟨[],[],_,_,_,_,dq e[i1]! e[i1 - 1]!,t3,?_⟩;rintro r o' c' ⟨rfl,rfl,rfl⟩;have iU:=True.intro;clear iU;cases tJ:Sort.ltInt e[i1]! e[i1 - 1]!
    ·refine wh ?_;refine⟨b - (i1+1),?_,om⟩;refine⟨[],[some 0],?_⟩
     iterate 3 constructor
     refine⟨⟨?_,?_,?_⟩,⟨i1+1,om,by omega,rfl,by rw[←hu];exact(QK jq tJ).symm,rfl,rfl,rfl⟩⟩
     all_goals(repeat' first|exact LF|constructor)
     all_goals exact Lz.int (wA om)
    ·refine wh ?_;exact⟨[],[some 0],_,_,_,t3,⟨i1,JN,JO,hu.symm.trans (D9 (.inr tJ)),rfl,rfl,rfl⟩⟩
   ·have jq:¬i1<b:=by simpa using jq
    refine wh ?_;exact⟨[],[some 0],_,_,_,t3,⟨i1,JN,JO,hu.symm.trans (D9 (.inl jq)),rfl,rfl,rfl⟩⟩
  rintro f1 o1 c1 ⟨i2,Xk,Yh,QL,rfl,rfl,rfl⟩
  have iE:Sort.partialIns Sort.ltInt a b (s+1) i e=if i2=b then(e,true)else if b - a<50 then(e,false)else
   Sort.partialIns Sort.ltInt a b s i2 (if b - i2≥2 then Sort.shiftUp Sort.ltInt b (i2+1) (if i2 - a≥2 then Sort.shiftDown Sort.ltInt (i2 - 1) (Sort.swp e i2 (i2 - 1))else Sort.swp e i2 (i2 - 1))else(if i2 - a≥2 then Sort.shiftDown Sort.ltInt (i2 - 1) (Sort.swp e i2 (i2 - 1))else Sort.swp e i2 (i2 - 1))):=by
   conv=>lhs;unfold Sort.partialIns
   simp only[QL]
  refine wh ?_;refine sp ?_ ?_<;>intro ND
  ·have ND:i2=b:=Int.ofNat.inj ND;rw[if_pos ND,hp]at iE;refine wh ?_;exact⟨[],[some 0],_,_,_,t3,(congrArg (fun q=>TV.s (.bool q.2)) iE).symm,rfl,(congrArg (fun q=>[(0,bD q.1)]) iE).symm⟩
  ·have ND:¬i2=b:=fun h=>ND (by rw[h]);rw[if_neg ND]at iE;refine wh ?_;refine sp ?_ ?_<;>intro NG
   ·have NG:b - a<50:=by rw[wD om om]at NG;omega
    rw[if_pos NG,hp]at iE;refine wh ?_;exact⟨[],[some 0],_,_,_,t3,(congrArg (fun q=>TV.s (.bool q.2)) iE).symm,rfl,(congrArg (fun q=>[(0,bD q.1)]) iE).symm⟩
   ·have NG:¬b - a<50:=by rw[wD om om]at NG;omega
    rw[if_neg NG]at iE;refine wh ?_;refine di (i2 - 1) (wS om om) om ?_;refine wh ?_;refine di (i2) rfl om ?_;refine wh ?_;refine di (i2) rfl om ?_;refine wh ?_;refine gq (i2 - 1) (wS om om) om (fun x=>?_) ⟨_,rfl⟩;refine wh ?_;refine sp ?_ ?_<;>intro Gp
    ·have Gp:i2 - a≥2:=by rw[wD om om]at Gp;omega
     rw[if_pos Gp]at iE;refine wh ?_;obtain⟨e3,NH⟩:∃e3,e3=Sort.shiftDown Sort.ltInt (i2 - 1) (Sort.swp e i2 (i2 - 1)):=⟨_,rfl⟩;rw[←NH]at iE;have NI:e3.size=d.size:=by rw[NH,nf,Sort.size_swp,he]
     refine⟨fun f o c=>∃e5,e5=e3∧c=1∧f=[(0,.tk 0),(1,nI a),(2,nI b),(7,nI i2),(8,nI s8)]∧o=[(0,bD e5)],?_,?_⟩
     ·refine wh ?_;refine⟨fun k f o c=>∃(j:Nat) (e4:Array Int),j<b∧j=k∧e4.size=d.size∧Sort.shiftDown Sort.ltInt j e4=e3∧c=1∧f=[(0,.tk 0),(1,nI a),(2,nI b),(7,nI i2),(8,nI s8),(9,nI j)]∧o=[(0,bD e4)],⟨i2 - 1,?_⟩,?_⟩
      ·refine⟨[],[some 0],?_⟩
       iterate 3 constructor
       refine⟨⟨?_,?_,?_⟩,⟨i2 - 1,Sort.swp e i2 (i2 - 1),om,rfl,by rw[Sort.size_swp,he],NH.symm,rfl,rfl,rfl⟩⟩
       all_goals(repeat' first|exact LF|constructor)
       all_goals first|exact Lz.int (wS om om)|exact Bl (wS om om) rfl
      rintro k f1 o1 c1 ⟨j,e4,J2,rfl,QM,hs,rfl,rfl,rfl⟩;refine wh ?_;refine sp ?_ ?_<;>intro gG
      ·have gG:1≤j:=by simp at gG;omega
       refine wh ?_;refine di j rfl om ?_;refine wh ?_;refine di (j - 1) (wS om om) om ?_;refine wh ?_;refine⟨[],[],_,_,_,_,dq e4[j]! e4[j - 1]!,t3,?_⟩;rintro r o' c' ⟨rfl,rfl,rfl⟩;have iU:=True.intro;clear iU;cases qC:Sort.ltInt e4[j]! e4[j - 1]!
       ·refine wh ?_;exact⟨[],[some 0],_,_,_,t3,⟨e4,by rw[←hs,D8 (.inr qC)],rfl,rfl,rfl⟩⟩
       ·refine wh ?_;refine di (j - 1) (wS om om) om ?_;refine wh ?_;refine di (j) rfl om ?_;refine wh ?_;refine di (j) rfl om ?_;refine wh ?_;refine gq (j - 1) (wS om om) om (fun x=>?_) ⟨_,rfl⟩;refine wh ?_;refine⟨j - 1,?_,om⟩;refine⟨[],[some 0],?_⟩
        iterate 3 constructor
        refine⟨⟨?_,?_,?_⟩,⟨j - 1,Sort.swp e4 j (j - 1),om,rfl,by rw[Sort.size_swp,QM],by rw[←hs];exact(QJ gG qC).symm,rfl,rfl,rfl⟩⟩
        all_goals(repeat' first|exact LF|constructor)
        all_goals first|exact Lz.int (wS om om)|exact Bl (wS om om) rfl
      ·have gG:j=0:=by simp at gG;omega
       refine wh ?_;exact⟨[],[some 0],_,_,_,t3,⟨e4,by rw[←hs,D8 (.inl gG)],rfl,rfl,rfl⟩⟩
     rintro f1 o1 c1 ⟨e6,Xl,rfl,rfl,rfl⟩;subst Xl;refine wh ?_;refine sp ?_ ?_<;>intro hq
     ·have hq:b - i2≥2:=by rw[wD om om]at hq;omega
      refine wh ?_;refine⟨fun f o c=>∃e5,e5=Sort.shiftUp Sort.ltInt b (i2+1) e6∧c=1∧f=[(0,.tk 0),(1,nI a),(2,nI b),(7,nI i2),(8,nI s8)]∧o=[(0,bD e5)],?_,?_⟩
      ·refine wh ?_;refine⟨fun k f o c=>∃(j:Nat) (e4:Array Int),j≤b∧1≤j∧k=b - j∧e4.size=d.size∧Sort.shiftUp Sort.ltInt b j e4=Sort.shiftUp Sort.ltInt b (i2+1) e6∧c=1∧f=[(0,.tk 0),(1,nI a),(2,nI b),(7,nI i2),(8,nI s8),(10,nI j)]∧o=[(0,bD e4)],⟨b - (i2+1),?_⟩,?_⟩
       ·refine⟨[],[some 0],?_⟩
        iterate 3 constructor
        refine⟨⟨?_,?_,?_⟩,⟨i2+1,e6,om,by omega,rfl,NI,rfl,rfl,rfl,rfl⟩⟩
        all_goals(repeat' first|exact LF|constructor)
        all_goals first|exact Lz.int (wA om)|exact Bl (wS om om) rfl
       rintro k f1 o1 c1 ⟨j,e4,J2,EG,rfl,QM,hs,rfl,rfl,rfl⟩;refine wh ?_;refine sp ?_ ?_<;>intro gG
       ·have gG:j<b:=by simpa using gG
        refine wh ?_;refine di j rfl om ?_;refine wh ?_;refine di (j - 1) (wS om om) om ?_;refine wh ?_;refine⟨[],[],_,_,_,_,dq e4[j]! e4[j - 1]!,t3,?_⟩;rintro r o' c' ⟨rfl,rfl,rfl⟩;have iU:=True.intro;clear iU;cases qC:Sort.ltInt e4[j]! e4[j - 1]!
        ·refine wh ?_;exact⟨[],[some 0],_,_,_,t3,⟨e4,by rw[←hs,tK (.inr qC)],rfl,rfl,rfl⟩⟩
        ·refine wh ?_;refine di (j - 1) (wS om om) om ?_;refine wh ?_;refine di (j) rfl om ?_;refine wh ?_;refine di (j) rfl om ?_;refine wh ?_;refine gq (j - 1) (wS om om) om (fun x=>?_) ⟨_,rfl⟩;refine wh ?_;refine⟨b - (j+1),?_,om⟩;refine⟨[],[some 0],?_⟩
         iterate 3 constructor
         refine⟨⟨?_,?_,?_⟩,⟨j+1,Sort.swp e4 j (j - 1),om,by omega,rfl,by rw[Sort.size_swp,QM],by rw[←hs];exact(LZ gG qC).symm,rfl,rfl,rfl⟩⟩
         all_goals(repeat' first|exact LF|constructor)
         all_goals first|exact Lz.int (wA om)|exact Bl (wS om om) rfl
       ·have gG:¬j<b:=by simpa using gG
        refine wh ?_;exact⟨[],[some 0],_,_,_,t3,⟨e4,by rw[←hs,tK (.inl gG)],rfl,rfl,rfl⟩⟩
      rintro f1 o1 c1 ⟨e5,QN,rfl,rfl,rfl⟩;refine wh ?_;refine⟨s,?_,om⟩;refine⟨[],[some 0],?_⟩
      iterate 3 constructor
      refine⟨⟨?_,?_,?_⟩,⟨i2,s8+1,e5,om,by omega,om,by rw[QN];exact(qn b _ _ _ (Nat.le_refl _)).trans NI,om,?_,rfl,rfl,rfl⟩⟩
      all_goals(repeat' first|exact LF|constructor)
      all_goals first|exact Lz.int (wA om)|skip
      rw[←hp,iE,if_pos hq,QN]
     ·have hq:¬b - i2≥2:=by rw[wD om om]at hq;omega
      refine wh ?_;refine⟨s,?_,om⟩;refine⟨[],[some 0],?_⟩
      iterate 3 constructor
      refine⟨⟨?_,?_,?_⟩,⟨i2,s8+1,e6,om,by omega,om,NI,om,?_,rfl,rfl,rfl⟩⟩
      all_goals(repeat' first|exact LF|constructor)
      all_goals first|exact Lz.int (wA om)|exact Bl (wS om om) rfl |skip
      rw[←hp,iE,if_neg hq]
    ·have Gp:¬i2 - a≥2:=by rw[wD om om]at Gp;omega
     rw[if_neg Gp]at iE;have NI:(Sort.swp e i2 (i2 - 1)).size=d.size:=by rw[Sort.size_swp,he]
     refine wh ?_;refine sp ?_ ?_<;>intro hq
     ·have hq:b - i2≥2:=by rw[wD om om]at hq;omega
      refine wh ?_;refine⟨fun f o c=>∃e5,e5=Sort.shiftUp Sort.ltInt b (i2+1) (Sort.swp e i2 (i2 - 1))∧c=1∧f=[(0,.tk 0),(1,nI a),(2,nI b),(7,nI i2),(8,nI s8)]∧o=[(0,bD e5)],?_,?_⟩
      ·refine wh ?_;refine⟨fun k f o c=>∃(j:Nat) (e4:Array Int),j≤b∧1≤j∧k=b - j∧e4.size=d.size∧Sort.shiftUp Sort.ltInt b j e4=Sort.shiftUp Sort.ltInt b (i2+1) (Sort.swp e i2 (i2 - 1))∧c=1∧f=[(0,.tk 0),(1,nI a),(2,nI b),(7,nI i2),(8,nI s8),(10,nI j)]∧o=[(0,bD e4)],⟨b - (i2+1),?_⟩,?_⟩
       ·refine⟨[],[some 0],?_⟩
        iterate 3 constructor
        refine⟨⟨?_,?_,?_⟩,⟨i2+1,(Sort.swp e i2 (i2 - 1)),om,by omega,rfl,NI,rfl,rfl,rfl,rfl⟩⟩
        all_goals(repeat' first|exact LF|constructor)
        all_goals first|exact Lz.int (wA om)|exact Bl (wS om om) rfl
       rintro k f1 o1 c1 ⟨j,e4,J2,EG,rfl,QM,hs,rfl,rfl,rfl⟩;refine wh ?_;refine sp ?_ ?_<;>intro gG
       ·have gG:j<b:=by simpa using gG
        refine wh ?_;refine di j rfl om ?_;refine wh ?_;refine di (j - 1) (wS om om) om ?_;refine wh ?_;refine⟨[],[],_,_,_,_,dq e4[j]! e4[j - 1]!,t3,?_⟩;rintro r o' c' ⟨rfl,rfl,rfl⟩;have iU:=True.intro;clear iU;cases qC:Sort.ltInt e4[j]! e4[j - 1]!
        ·refine wh ?_;exact⟨[],[some 0],_,_,_,t3,⟨e4,by rw[←hs,tK (.inr qC)],rfl,rfl,rfl⟩⟩
        ·refine wh ?_;refine di (j - 1) (wS om om) om ?_;refine wh ?_;refine di (j) rfl om ?_;refine wh ?_;refine di (j) rfl om ?_;refine wh ?_;refine gq (j - 1) (wS om om) om (fun x=>?_) ⟨_,rfl⟩;refine wh ?_;refine⟨b - (j+1),?_,om⟩;refine⟨[],[some 0],?_⟩
         iterate 3 constructor
         refine⟨⟨?_,?_,?_⟩,⟨j+1,Sort.swp e4 j (j - 1),om,by omega,rfl,by rw[Sort.size_swp,QM],by rw[←hs];exact(LZ gG qC).symm,rfl,rfl,rfl⟩⟩
         all_goals(repeat' first|exact LF|constructor)
         all_goals first|exact Lz.int (wA om)|exact Bl (wS om om) rfl
       ·have gG:¬j<b:=by simpa using gG
        refine wh ?_;exact⟨[],[some 0],_,_,_,t3,⟨e4,by rw[←hs,tK (.inl gG)],rfl,rfl,rfl⟩⟩
      rintro f1 o1 c1 ⟨e5,QN,rfl,rfl,rfl⟩;refine wh ?_;refine⟨s,?_,om⟩;refine⟨[],[some 0],?_⟩
      iterate 3 constructor
      refine⟨⟨?_,?_,?_⟩,⟨i2,s8+1,e5,om,by omega,om,by rw[QN];exact(qn b _ _ _ (Nat.le_refl _)).trans NI,om,?_,rfl,rfl,rfl⟩⟩
      all_goals(repeat' first|exact LF|constructor)
      all_goals first|exact Lz.int (wA om)|skip
      rw[←hp,iE,if_pos hq,QN]
     ·have hq:¬b - i2≥2:=by rw[wD om om]at hq;omega
      refine wh ?_;refine⟨s,?_,om⟩;refine⟨[],[some 0],?_⟩
      iterate 3 constructor
      refine⟨⟨?_,?_,?_⟩,⟨i2,s8+1,(Sort.swp e i2 (i2 - 1)),om,by omega,om,NI,om,?_,rfl,rfl,rfl⟩⟩
      all_goals(repeat' first|exact LF|constructor)
      all_goals first|exact Lz.int (wA om)|exact Bl (wS om om) rfl |skip
      rw[←hp,iE,if_neg hq]
 ·have h5:¬s8<5:=by omega
  obtain rfl:k=0:=by omega
  have hp:(e,false)=Sort.partialInsertionSort Sort.ltInt d a b:=hp;refine wh ?_;exact⟨[],[some 0],_,_,_,t3,congrArg (fun q=>TV.s (.bool q.2)) hp,rfl,congrArg (fun q=>[(0,bD q.1)]) hp⟩
end Go.M
end
