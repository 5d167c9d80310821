/-
  Part 15 of the library that the proof leans on.
-/
import Derived.Test.YtjklkjjfnipcnaaGreatDoorL12
import Derived.Test.YtjklkjjfnipcnaaGreatDoorL13
import Derived.Sort.LotD1
noncomputable section
namespace Go.M
open Go Go.Proofs
set_option maxRecDepth 100000
set_option maxHeartbeats 4000000
theorem QO {s:List UInt8} {i:Int} {K:UInt8→Prop} (m:Nat) (e:i=m) (hm:m<256) (ht:∀m,m<256→s[m]? =some (UInt8.ofNat (Sort.bitsLen m))) (k:K (UInt8.ofNat (Sort.bitsLen m))):∃b,(0≤i∧s[i.toNat]? =some b)∧K b:=by
 subst e;exact⟨_,⟨om,by rw[Int.toNat_natCast];exact ht m hm⟩,k⟩
theorem L1:∀m,m<256→(UInt8.ofNat (Sort.bitsLen m)).toNat=Sort.bitsLen m∧Sort.bitsLen m≤8:=by decide+kernel
theorem KL:∀m,m<16→1≤m→∀r,r<256→Sort.bitsLen (256*m+r)=8+Sort.bitsLen m:=by decide+kernel
theorem NJ {n:Nat} (h:n<4096) (h2:256≤n):Sort.bitsLen n=8+Sort.bitsLen (n / 256):=by
 have:=KL (n / 256) om om (n % 256) om
 rwa [show 256*(n / 256)+n % 256=n by omega]at this
theorem f8 (n:Nat):(n:Int).fdiv (2 ^ min (Int.toNat 8) IntKind.u64.bits)=((n / 256:Nat):Int):=by
 show(n:Int).fdiv 256=_;rw[Int.fdiv_eq_ediv_of_nonneg _ om];rfl
theorem u8_in {m:Nat} (h:m<256):IntKind.u8.wrap (m:Int)=(m:Int):=by
 show(m:Int) % 256=m;omega
theorem IA (n:Nat) (hn:n<4096):VC ES 135 0 [.s (.int .u64 n)] [] (RR (nI (Sort.bitsLen n)) 0 []):=by
 refine VC.bo LS (show ES.func 135=some Tryz.f135 by kernel_rfl) (fun _ _=>rfl) rfl rfl [] ?_;refine wh ?_;refine sp ?_ ?_<;>intro h1
 ·omega
 ·refine wh ?_;refine sp ?_ ?_<;>intro h2
  ·omega
  ·refine wh ?_;refine sp ?_ ?_<;>intro h3
   ·have h3:256≤n:=by omega
    refine wh ?_;refine QO (n / 256) (by rw[f8,u8_in om]) om (by decide+kernel) ?_;refine wh ?_;refine⟨[],[],?_⟩
    iterate 3 constructor
    refine⟨⟨?_,?_,?_⟩,rfl,rfl,rfl⟩
    all_goals(repeat' first|exact LF|constructor)
    obtain⟨q1,q2⟩:=L1 (n / 256) om;refine Lz.int ?_;rw[q1,NJ hn h3,IntWalk.i64_in ((Sort.bitsLen (n / 256):Nat):Int) om,show IntKind.i64.wrap (0+8)=8 from rfl,IntWalk.i64_in _ om];omega
   ·have h3:n<256:=by omega
    refine wh ?_;refine QO n (u8_in h3) h3 (by decide+kernel) ?_;refine wh ?_;refine⟨[],[],?_⟩
    iterate 3 constructor
    refine⟨⟨?_,?_,?_⟩,rfl,rfl,rfl⟩
    all_goals(repeat' first|exact LF|constructor)
    obtain⟨q1,q2⟩:=L1 n h3;refine Lz.int ?_;rw[q1,IntWalk.i64_in ((Sort.bitsLen n:Nat):Int) om,IntWalk.i64_in _ om];omega
theorem NK (n:Nat) (hn:n<4096):VC ES 86 0 [.s (.int .u64 n)] [] (RR (nI (Sort.bitsLen n)) 0 []):=by
 refine VC.bo LS (show ES.func 86=some Tryz.f86 by kernel_rfl) (fun _ _=>rfl) rfl rfl [] ?_;refine wh ?_;refine⟨[],[],_,_,_,_,IA n hn,t3,cw ?_⟩;exact⟨[],[],_,_,_,t3,rfl,rfl,rfl⟩
theorem IB {x:Int} {n:Nat} (e:x=n) (hn:n<4096):VC ES 86 0 [.s (.int .u64 x)] [] (RR (nI (Sort.bitsLen n)) 0 []):=by
 subst e;exact NK n hn
theorem IC (n:Nat) (hn:n<4096):VC ES 173 0 [nI n] [] (RR (.s (.int .u64 ((2 ^ Sort.bitsLen n:Nat):Int))) 0 []):=by
 refine VC.bo LS (show ES.func 173=some Tryz.f173 by kernel_rfl) (fun _ _=>rfl) rfl rfl [] ?_;refine wh ?_;refine⟨[],[],_,_,_,_,IB (n:=n) (IntWalk.u64_in _ om) hn,t3,cw ?_⟩;refine⟨[],[],?_⟩
 iterate 3 constructor
 refine⟨⟨?_,?_,?_⟩,rfl,rfl,rfl⟩
 all_goals(repeat' first|exact LF|constructor)
 have hb:Sort.bitsLen n≤12:=(Sort.bitsLen_le_iff n 12).2 om;refine Lz.int ?_;rw[Int.toNat_natCast,Nat.min_eq_left (show Sort.bitsLen n≤IntKind.u64.bits by show _≤64;omega)];have h2:2 ^ Sort.bitsLen n≤2 ^ 12:=Nat.pow_le_pow_right om hb;rw[show(1:Int)*2 ^ Sort.bitsLen n=((2 ^ Sort.bitsLen n:Nat):Int) by simp];generalize 2 ^ Sort.bitsLen n=m at*
 rw[IntWalk.u64_in _ om]
theorem NL (x:Int):VC ES 174 1 [.ptr 0 0] [(0,.cells [.s (.int .u64 x)])] (fun r o c=>∃y:Int,r= .s (.int .u64 y)∧c=1∧o=[(0,.cells [.s (.int .u64 y)])]):=by
 refine VC.bo LS (show ES.func 174=some Tryz.f174 by kernel_rfl) (fun _ _=>rfl) rfl rfl [] ?_;refine wh ?_;exact⟨[],[some 0],_,_,_,t3,_,rfl,rfl,rfl⟩
theorem KM {x:Int} {n:Nat} (e:x=n) (hn:n<4096):VC ES 173 0 [.s (.int .i64 x)] [] (RR (.s (.int .u64 ((2 ^ Sort.bitsLen n:Nat):Int))) 0 []):=by
 subst e;exact IC n hn
theorem NM (y:Int) (m:Nat) (hm:m<18446744073709551616):(BitVec.ofInt IntKind.u64.bits y&&& BitVec.ofInt IntKind.u64.bits (m:Int)).toNat≤m:=by
 rw[BitVec.toNat_and];refine Nat.le_trans Nat.and_le_right ?_;rw[BitVec.toNat_ofInt];show((m:Int) % ((2 ^ 64:Nat):Int)).toNat≤m;omega
theorem QP {d e:Array Int} {i j:Nat} {y:Int} (hy:y=j) (he:e=Sort.swp d i j):Lz (((d.toList.map fH).set (i:Int).toNat [.s (.int .u32 d[j]!)]).set y.toNat [.s (.int .u32 d[i]!)]) (e.toList.map fH):=by
 subst hy;subst he;exact Lz.of (s7 d i j)
theorem NN (d:Array Int) (a b:Nat) (Iz:a+12<b) (hb:b≤d.size) (hl:d.size<4096):VC ES 127 1 [.tk 0,nI a,nI b] [(0,bD d)]
 (fun r o c=>∃e,Sort.PermIn a b d e∧r= .dH []∧c=1∧o=[(0,bD e)]):=by
 have e1:IntKind.i64.wrap ((b:Int) - (a:Int))=((b - a:Nat):Int):=wD om om;obtain⟨l,qB⟩:∃l,l=b - a:=⟨_,rfl⟩;rw[←qB]at e1;refine VC.bo LS (show ES.func 127=some Tryz.f127 by kernel_rfl) (fun _ _=>rfl) rfl rfl [] ?_;refine wh ?_;refine sp ?_ ?_<;>intro h8
 ·refine wh ?_;refine⟨[],[],_,_,_,_,KM (n:=l) e1 om,t3,cw ?_⟩;have Vm:IntKind.i64.wrap (IntKind.i64.wrap ((a:Int)+IntKind.i64.wrap (IntKind.i64.wrap ((IntKind.i64.wrap ((b:Int) - (a:Int))).tdiv 4)*2)) - 1)=((a+l / 4*2 - 1:Nat):Int):=by rw[e1,TX om,wS om om]
  have Vn:IntKind.i64.wrap (IntKind.i64.wrap ((a:Int)+IntKind.i64.wrap (IntKind.i64.wrap ((l:Int).tdiv 4)*2))+1)=((a+l / 4*2+1:Nat):Int):=by rw[TX om,wA om]
  obtain⟨q,hq⟩:∃q,q=l / 4:=⟨_,rfl⟩;rw[←hq]at Vm Vn;have JN:4*q≤l:=by omega
  have JO:3≤q:=by omega
  have hm:=Sort.two_pow_bitsLen_le (n:=l) om;have BV:0<2 ^ Sort.bitsLen l:=Nat.two_pow_pos _;generalize 2 ^ Sort.bitsLen l=m at*
  refine⟨fun k f o c=>∃(i:Nat) (e:Array Int) (y:Int),a≤i∧i≤a+q*2+2∧k=a+q*2+2 - i∧Sort.PermIn a b d e∧c=2∧f=[(0,.tk 0),(1,nI a),(6,nI l),(7,.ptr 1 0),(8,.s (.int .u64 m)),(9,nI i)]∧o=[(0,bD e),(1,.cells [.s (.int .u64 y)])],⟨a+q*2+2 - (a+q*2 - 1),?_⟩,?_⟩
  ·refine⟨[],[some 0,some 1],?_⟩
   iterate 3 constructor
   refine⟨⟨?_,?_,?_⟩,⟨a+q*2 - 1,d,IntKind.u64.wrap (IntKind.i64.wrap ((b:Int) - (a:Int))),om,by omega,rfl,Sort.permIn_refl _ _ _,rfl,rfl,rfl⟩⟩
   all_goals(repeat' first|exact LF|constructor)
   all_goals first|exact Lz.int e1|exact Lz.int Vm
  rintro k f1 o1 c1 ⟨i,e,y,Pz,Ms,rfl,hp,rfl,rfl,rfl⟩;have cI:e.size=d.size:=hp.1;refine wh ?_;refine sp ?_ ?_<;>intro hc
  ·have hc:i≤a+q*2+1:=by rw[Vn]at hc;omega
   refine wh ?_;refine⟨[],[some 1],_,_,_,_,NL y,t3,?_⟩;rintro r o' c' ⟨y2,rfl,rfl,rfl⟩;obtain⟨x,hx,Yi⟩:∃x:Nat,IntKind.i64.wrap (IntKind.u64.wrap ((BitVec.ofInt IntKind.u64.bits y2&&& BitVec.ofInt IntKind.u64.bits (IntKind.u64.wrap ((m:Int) - 1))).toNat:Int))=(x:Int)∧x≤m - 1:=by
    have hw:IntKind.u64.wrap ((m:Int) - 1)=((m - 1:Nat):Int):=by rw[IntWalk.u64_in _ om];omega
    rw[hw];have:=NM y2 (m - 1) om;refine⟨_,?_,this⟩;rw[IntWalk.u64_in _ om,IntWalk.i64_in _ om]
   refine wh ?_;refine sp ?_ ?_<;>intro ho
   ·have ho:x≥l:=by rw[hx]at ho;omega
    refine wh ?_;refine di (a+(x-l)) (by rw[hx,wD om om,wP om]) om ?_;refine wh ?_;refine di i rfl om ?_;refine wh ?_;refine di i rfl om ?_;refine wh ?_;refine gq (a+(x-l)) (by rw[hx,wD om om,wP om]) om (fun _=>?_) ⟨_,rfl⟩;refine wh ?_;refine⟨a+q*2+2 - (i+1),?_,om⟩;refine⟨[],[some 0,some 1],?_⟩
    iterate 3 constructor
    refine⟨⟨?_,?_,?_⟩,⟨i+1,Sort.swp e i (a+(x-l)),y2,om,by omega,rfl,Sort.permIn_trans _ _ _ _ _ hp (Sort.swp_permIn _ _ _ _ _ om om om om om),rfl,rfl,rfl⟩⟩
    all_goals(repeat' first|exact LF|constructor)
    all_goals first|exact Lz.int (wA om)|exact QP (by rw[hx,wD om om,wP om]) rfl
   ·have ho:¬x≥l:=by rw[hx]at ho;omega
    refine wh ?_;refine di (a+x) (by rw[hx,wP om]) om ?_;refine wh ?_;refine di i rfl om ?_;refine wh ?_;refine di i rfl om ?_;refine wh ?_;refine gq (a+x) (by rw[hx,wP om]) om (fun _=>?_) ⟨_,rfl⟩;refine wh ?_;refine⟨a+q*2+2 - (i+1),?_,om⟩;refine⟨[],[some 0,some 1],?_⟩
    iterate 3 constructor
    refine⟨⟨?_,?_,?_⟩,⟨i+1,Sort.swp e i (a+x),y2,om,by omega,rfl,Sort.permIn_trans _ _ _ _ _ hp (Sort.swp_permIn _ _ _ _ _ om om om om om),rfl,rfl,rfl⟩⟩
    all_goals(repeat' first|exact LF|constructor)
    all_goals first|exact Lz.int (wA om)|exact QP (by rw[hx,wP om]) rfl
  ·refine wh ?_;exact⟨[],[some 0],_,_,_,t3,e,hp,rfl,rfl,rfl⟩
 ·rw[e1]at h8;exact absurd (show(l:Int)≥8 by omega) h8
end Go.M
end
