/-
  Part 16 of the library that the proof leans on.
-/
import Derived.Test.YtgjfaieghmigjaaGreatDoorL14
import Derived.Sort.LotD1
namespace Go.M
open Go Go.Proofs
set_option maxRecDepth 100000
set_option maxHeartbeats 4000000
theorem tab8 {s:List UInt8} {i:Int} {K:UInt8→Prop} (m:Nat) (e:i=m) (hm:m<256) (ht:∀m,m<256→s[m]? =some (UInt8.ofNat (Sort.bitsLen m))) (k:K (UInt8.ofNat (Sort.bitsLen m))):∃b,(0≤i∧s[i.toNat]? =some b)∧K b:=by
 subst e
 exact⟨_,⟨by omega,by rw[Int.toNat_natCast];exact ht m hm⟩,k⟩
theorem bits8:∀m,m<256→(UInt8.ofNat (Sort.bitsLen m)).toNat=Sort.bitsLen m∧Sort.bitsLen m≤8:=by decide+kernel
theorem bits256:∀m,m<16→1≤m→∀r,r<256→Sort.bitsLen (256*m+r)=8+Sort.bitsLen m:=by decide+kernel
theorem bitsHi {n:Nat} (h:n<4096) (h2:256≤n):Sort.bitsLen n=8+Sort.bitsLen (n / 256):=by
 have:=bits256 (n / 256) (by omega) (by omega) (n % 256) (by omega)
 rwa [show 256*(n / 256)+n % 256=n by omega]at this
theorem f8 (n:Nat):(n:Int).fdiv (2 ^ min (Int.toNat 8) IntKind.u64.bits)=((n / 256:Nat):Int):=by
 show(n:Int).fdiv 256=_
 rw[Int.fdiv_eq_ediv_of_nonneg _ (by omega)];rfl
theorem u8_in {m:Nat} (h:m<256):IntKind.u8.wrap (m:Int)=(m:Int):=by
 show(m:Int) % 256=m
 omega
theorem len64_ok (n:Nat) (hn:n<4096):VC ES 170 0 [.s (.int .u64 n)] [] (RR (nI (Sort.bitsLen n)) 0 []):=by
 refine VC.enterR LS (show ES.func 170=some Tryz.f170 by kernel_rfl) (fun _ _=>rfl) rfl rfl [] ?_
 conv=>whnf
 (first|refine⟨?_,?_⟩|refine nsplit ?_ ?_|refine bsplit ?_ ?_)<;>intro h1<;>have hz_:=True.intro<;>clear hz_
 ·omega
 ·conv=>whnf
  (first|refine⟨?_,?_⟩|refine nsplit ?_ ?_|refine bsplit ?_ ?_)<;>intro h2<;>have hz_:=True.intro<;>clear hz_
  ·omega
  ·conv=>whnf
   (first|refine⟨?_,?_⟩|refine nsplit ?_ ?_|refine bsplit ?_ ?_)<;>intro h3<;>have hz_:=True.intro<;>clear hz_
   ·have h3:256≤n:=by omega
    conv=>whnf
    refine tab8 (n / 256) (by rw[f8,u8_in (by omega)]) (by omega) (by decide+kernel) ?_
    conv=>whnf
    refine⟨[],[],?_⟩
    iterate 3 constructor
    refine⟨⟨?_,?_,?_⟩,rfl,rfl,rfl⟩
    all_goals(repeat' first|exact LF|constructor)
    obtain⟨q1,q2⟩:=bits8 (n / 256) (by omega)
    refine Lz.int ?_
    rw[q1,bitsHi hn h3,IntWalk.i64_in ((Sort.bitsLen (n / 256):Nat):Int) (by omega),show IntKind.i64.wrap (0+8)=8 from rfl,IntWalk.i64_in _ (by omega)]
    omega
   ·have h3:n<256:=by omega
    conv=>whnf
    refine tab8 n (u8_in h3) h3 (by decide+kernel) ?_
    conv=>whnf
    refine⟨[],[],?_⟩
    iterate 3 constructor
    refine⟨⟨?_,?_,?_⟩,rfl,rfl,rfl⟩
    all_goals(repeat' first|exact LF|constructor)
    obtain⟨q1,q2⟩:=bits8 n h3
    refine Lz.int ?_
    rw[q1,IntWalk.i64_in ((Sort.bitsLen n:Nat):Int) (by omega),IntWalk.i64_in _ (by omega)]
    omega
theorem len_ok (n:Nat) (hn:n<4096):VC ES 151 0 [.s (.int .u64 n)] [] (RR (nI (Sort.bitsLen n)) 0 []):=by
 refine VC.enterR LS (show ES.func 151=some Tryz.f151 by kernel_rfl) (fun _ _=>rfl) rfl rfl [] ?_
 conv=>whnf
 refine⟨[],[],_,_,_,_,len64_ok n hn,t3,cR ?_⟩
 conv=>whnf
 exact⟨[],[],_,_,_,t3,rfl,rfl,rfl⟩
theorem len_i {x:Int} {n:Nat} (e:x=n) (hn:n<4096):VC ES 151 0 [.s (.int .u64 x)] [] (RR (nI (Sort.bitsLen n)) 0 []):=by
 subst e;exact len_ok n hn
theorem next2_ok (n:Nat) (hn:n<4096):VC ES 196 0 [nI n] [] (RR (.s (.int .u64 ((2 ^ Sort.bitsLen n:Nat):Int))) 0 []):=by
 refine VC.enterR LS (show ES.func 196=some Tryz.f196 by kernel_rfl) (fun _ _=>rfl) rfl rfl [] ?_
 conv=>whnf
 refine⟨[],[],_,_,_,_,len_i (n:=n) (IntWalk.u64_in _ (by omega)) hn,t3,cR ?_⟩
 conv=>whnf
 refine⟨[],[],?_⟩
 iterate 3 constructor
 refine⟨⟨?_,?_,?_⟩,rfl,rfl,rfl⟩
 all_goals(repeat' first|exact LF|constructor)
 have hb:Sort.bitsLen n≤12:=(Sort.bitsLen_le_iff n 12).2 (by omega)
 refine Lz.int ?_
 rw[Int.toNat_natCast,Nat.min_eq_left (show Sort.bitsLen n≤IntKind.u64.bits by show _≤64;omega)]
 have h2:2 ^ Sort.bitsLen n≤2 ^ 12:=Nat.pow_le_pow_right (by omega) hb
 rw[show(1:Int)*2 ^ Sort.bitsLen n=((2 ^ Sort.bitsLen n:Nat):Int) by simp]
 generalize 2 ^ Sort.bitsLen n=m at*
 rw[IntWalk.u64_in _ (by omega)]
theorem xor_ok (x:Int):VC ES 197 1 [.ptr 0 0] [(0,.cells [.s (.int .u64 x)])] (fun r o c=>∃y:Int,r= .s (.int .u64 y)∧c=1∧o=[(0,.cells [.s (.int .u64 y)])]):=by
 refine VC.enterR LS (show ES.func 197=some Tryz.f197 by kernel_rfl) (fun _ _=>rfl) rfl rfl [] ?_
 ((conv=>whnf)<;>repeat(with_reducible refine D1 ?_)<;>conv=>whnf)
 exact⟨[],[some 0],_,_,_,t3,_,rfl,rfl,rfl⟩
theorem next2_i {x:Int} {n:Nat} (e:x=n) (hn:n<4096):VC ES 196 0 [.s (.int .i64 x)] [] (RR (.s (.int .u64 ((2 ^ Sort.bitsLen n:Nat):Int))) 0 []):=by
 subst e;exact next2_ok n hn
theorem and_le (y:Int) (m:Nat) (hm:m<18446744073709551616):(BitVec.ofInt IntKind.u64.bits y&&& BitVec.ofInt IntKind.u64.bits (m:Int)).toNat≤m:=by
 rw[BitVec.toNat_and]
 refine Nat.le_trans Nat.and_le_right ?_
 rw[BitVec.toNat_ofInt]
 show((m:Int) % ((2 ^ 64:Nat):Int)).toNat≤m
 omega
theorem swpG {d e:Array Int} {i j:Nat} {y:Int} (hy:y=j) (he:e=Sort.swp d i j):Lz (((d.toList.map encK).set (i:Int).toNat [.s (.int .u32 d[j]!)]).set y.toNat [.s (.int .u32 d[i]!)]) (e.toList.map encK):=by
 subst hy;subst he;exact Lz.of (swpK d i j)
theorem brk_ok (d:Array Int) (a b:Nat) (h12:a+12<b) (hb:b≤d.size) (hl:d.size<4096):VC ES 162 1 [.tk 0,nI a,nI b] [(0,arrK d)]
 (fun r o c=>∃e,Sort.PermIn a b d e∧r= .tup []∧c=1∧o=[(0,arrK e)]):=by
 have e1:IntKind.i64.wrap ((b:Int) - (a:Int))=((b - a:Nat):Int):=wD (by omega) (by omega)
 obtain⟨l,hl0⟩:∃l,l=b - a:=⟨_,rfl⟩
 rw[←hl0]at e1
 refine VC.enterR LS (show ES.func 162=some Tryz.f162 by kernel_rfl) (fun _ _=>rfl) rfl rfl [] ?_
 conv=>whnf
 (first|refine⟨?_,?_⟩|refine nsplit ?_ ?_|refine bsplit ?_ ?_)<;>intro h8<;>have hz_:=True.intro<;>clear hz_
 ·conv=>whnf
  refine⟨[],[],_,_,_,_,next2_i (n:=l) e1 (by omega),t3,cR ?_⟩
  conv=>whnf
  have eq0:IntKind.i64.wrap (IntKind.i64.wrap ((a:Int)+IntKind.i64.wrap (IntKind.i64.wrap ((IntKind.i64.wrap ((b:Int) - (a:Int))).tdiv 4)*2)) - 1)=((a+l / 4*2 - 1:Nat):Int):=by rw[e1,w4b (by omega),wS (by omega) (by omega)]
  have eq1:IntKind.i64.wrap (IntKind.i64.wrap ((a:Int)+IntKind.i64.wrap (IntKind.i64.wrap ((l:Int).tdiv 4)*2))+1)=((a+l / 4*2+1:Nat):Int):=by rw[w4b (by omega),wA (by omega)]
  obtain⟨q,hq⟩:∃q,q=l / 4:=⟨_,rfl⟩
  rw[←hq]at eq0 eq1
  have hq1:4*q≤l:=by omega
  have hq2:3≤q:=by omega
  have hm:=Sort.two_pow_bitsLen_le (n:=l) (by omega)
  have hm1:0<2 ^ Sort.bitsLen l:=Nat.two_pow_pos _
  generalize 2 ^ Sort.bitsLen l=m at*
  refine⟨fun k f o c=>∃(i:Nat) (e:Array Int) (y:Int),a≤i∧i≤a+q*2+2∧k=a+q*2+2 - i∧Sort.PermIn a b d e∧c=2∧f=[(0,.tk 0),(1,nI a),(6,nI l),(7,.ptr 1 0),(8,.s (.int .u64 m)),(9,nI i)]∧o=[(0,arrK e),(1,.cells [.s (.int .u64 y)])],⟨a+q*2+2 - (a+q*2 - 1),?_⟩,?_⟩
  ·refine⟨[],[some 0,some 1],?_⟩
   iterate 3 constructor
   refine⟨⟨?_,?_,?_⟩,⟨a+q*2 - 1,d,IntKind.u64.wrap (IntKind.i64.wrap ((b:Int) - (a:Int))),by omega,by omega,rfl,Sort.permIn_refl _ _ _,rfl,rfl,rfl⟩⟩
   all_goals(repeat' first|exact LF|constructor)
   all_goals first|exact Lz.int e1|exact Lz.int eq0
  rintro k f1 o1 c1 ⟨i,e,y,hi1,hi2,rfl,hp,rfl,rfl,rfl⟩
  have hsz:e.size=d.size:=hp.1
  conv=>whnf
  (first|refine⟨?_,?_⟩|refine nsplit ?_ ?_|refine bsplit ?_ ?_)<;>intro hc<;>have hz_:=True.intro<;>clear hz_
  ·have hc:i≤a+q*2+1:=by rw[eq1]at hc;omega
   conv=>whnf
   refine⟨[],[some 1],_,_,_,_,xor_ok y,t3,?_⟩
   rintro r o' c' ⟨y2,rfl,rfl,rfl⟩
   obtain⟨x,hx,hxm⟩:∃x:Nat,IntKind.i64.wrap (IntKind.u64.wrap ((BitVec.ofInt IntKind.u64.bits y2&&& BitVec.ofInt IntKind.u64.bits (IntKind.u64.wrap ((m:Int) - 1))).toNat:Int))=(x:Int)∧x≤m - 1:=by
    have hw:IntKind.u64.wrap ((m:Int) - 1)=((m - 1:Nat):Int):=by rw[IntWalk.u64_in _ (by omega)];omega
    rw[hw]
    have:=and_le y2 (m - 1) (by omega)
    refine⟨_,?_,this⟩
    rw[IntWalk.u64_in _ (by omega),IntWalk.i64_in _ (by omega)]
   conv=>whnf
   (first|refine⟨?_,?_⟩|refine nsplit ?_ ?_|refine bsplit ?_ ?_)<;>intro ho<;>have hz_:=True.intro<;>clear hz_
   ·have ho:x≥l:=by rw[hx]at ho;omega
    ((conv=>whnf)<;>repeat(with_reducible refine D1 ?_)<;>conv=>whnf)
    refine ldK (a+(x-l)) (by rw[hx,wD (by omega) (by omega),wP (by omega)]) (by omega) ?_
    conv=>whnf
    refine ldK i rfl (by omega) ?_
    conv=>whnf
    refine ldK i rfl (by omega) ?_
    conv=>whnf
    refine lastK (a+(x-l)) (by rw[hx,wD (by omega) (by omega),wP (by omega)]) (by omega) (fun _=>?_) ⟨_,rfl⟩
    ((conv=>whnf)<;>repeat(with_reducible refine D1 ?_)<;>conv=>whnf)
    refine⟨a+q*2+2 - (i+1),?_,by omega⟩
    refine⟨[],[some 0,some 1],?_⟩
    iterate 3 constructor
    refine⟨⟨?_,?_,?_⟩,⟨i+1,Sort.swp e i (a+(x-l)),y2,by omega,by omega,rfl,Sort.permIn_trans _ _ _ _ _ hp (Sort.swp_permIn _ _ _ _ _ (by omega) (by omega) (by omega) (by omega) (by omega)),rfl,rfl,rfl⟩⟩
    all_goals(repeat' first|exact LF|constructor)
    all_goals first|exact Lz.int (wA (by omega))|exact swpG (by rw[hx,wD (by omega) (by omega),wP (by omega)]) rfl
   ·have ho:¬x≥l:=by rw[hx]at ho;omega
    ((conv=>whnf)<;>repeat(with_reducible refine D1 ?_)<;>conv=>whnf)
    refine ldK (a+x) (by rw[hx,wP (by omega)]) (by omega) ?_
    conv=>whnf
    refine ldK i rfl (by omega) ?_
    conv=>whnf
    refine ldK i rfl (by omega) ?_
    conv=>whnf
    refine lastK (a+x) (by rw[hx,wP (by omega)]) (by omega) (fun _=>?_) ⟨_,rfl⟩
    ((conv=>whnf)<;>repeat(with_reducible refine D1 ?_)<;>conv=>whnf)
    refine⟨a+q*2+2 - (i+1),?_,by omega⟩
    refine⟨[],[some 0,some 1],?_⟩
    iterate 3 constructor
    refine⟨⟨?_,?_,?_⟩,⟨i+1,Sort.swp e i (a+x),y2,by omega,by omega,rfl,Sort.permIn_trans _ _ _ _ _ hp (Sort.swp_permIn _ _ _ _ _ (by omega) (by omega) (by omega) (by omega) (by omega)),rfl,rfl,rfl⟩⟩
    all_goals(repeat' first|exact LF|constructor)
    all_goals first|exact Lz.int (wA (by omega))|exact swpG (by rw[hx,wP (by omega)]) rfl
  ·conv=>whnf
   exact⟨[],[some 0],_,_,_,t3,e,hp,rfl,rfl,rfl⟩
 ·rw[e1]at h8
  exact absurd (show(l:Int)≥8 by omega) h8
end Go.M
