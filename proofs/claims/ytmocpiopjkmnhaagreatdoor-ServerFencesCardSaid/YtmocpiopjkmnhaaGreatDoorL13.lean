/-
  Part 13 of the library that the proof leans on.
-/
import Derived.Test.YtmocpiopjkmnhaaGreatDoorChecked
import Derived.Test.YtmocpiopjkmnhaaGreatDoorL12
import Derived.Sort.Statements
import Derived.Sort.Lot0
import Derived.IntWalk
import Derived.Sort.LotD1
namespace Go.M
open Go Go.Proofs
noncomputable def ES:=envT Tryz.prog [] noOrc
noncomputable def TS:=tE ES []
set_option maxRecDepth 100000
theorem LS:EnvLe TS ES:=tE_le (fun t z h=>by
 simp only[ES,envT,envOf,Option.bind_eq_some_iff,grd_some,Option.some.injEq]at h
 obtain⟨i,h1,z',h2,h3,rfl⟩:=h
 exact h3) rfl
@[reducible] def encK (x:Int):List TV:=[.s (.int .u32 x)]
@[reducible] def nI (n:Nat):TV:=.s (.int .i64 n)
end Go.M
namespace Go.M
open Go Go.Proofs
set_option maxRecDepth 100000
set_option maxHeartbeats 4000000
theorem tab8 {s:List UInt8} {i:Int} {K:UInt8→Prop} (m:Nat) (e:i=m) (hm:m<256) (ht:∀m,m<256→s[m]? =some (UInt8.ofNat (Sort.bitsLen m))) (k:K (UInt8.ofNat (Sort.bitsLen m))):∃b,(0≤i∧s[i.toNat]? =some b)∧K b:=by
 subst e
 exact⟨_,⟨by omega,by rw[Int.toNat_natCast];exact ht m hm⟩,k⟩
theorem bits8:∀m,m<256→(UInt8.ofNat (Sort.bitsLen m)).toNat=Sort.bitsLen m∧Sort.bitsLen m≤8:=by decide+kernel
theorem bits256:∀m,m<16→1≤m→∀r,r<256→Sort.bitsLen (256*m+r)=8+Sort.bitsLen m:=by decide+kernel
theorem bitsHi {n:Nat} (h:n<4096) (h2:256≤n):Sort.bitsLen n=8+Sort.bitsLen (n / 256):=by
 have:=bits256 (n / 256) (by omega) (by omega) (n % 256) (by omega)
 rwa [show 256*(n / 256)+n % 256=n by omega]at this
theorem f8 (n:Nat):(n:Int).fdiv (2 ^ min (Int.toNat 8) IntKind.u64.bits)=((n / 256:Nat):Int):=by
 show(n:Int).fdiv 256=_
 rw[Int.fdiv_eq_ediv_of_nonneg _ (by omega)];rfl
theorem u8_in {m:Nat} (h:m<256):IntKind.u8.wrap (m:Int)=(m:Int):=by
 show(m:Int) % 256=m
 omega
theorem len64_ok (n:Nat) (hn:n<4096):VC ES 207 0 [.s (.int .u64 n)] [] (RR (nI (Sort.bitsLen n)) 0 []):=by
 refine VC.enterR LS (show ES.func 207=some Tryz.f207 by kernel_rfl) (fun _ _=>rfl) rfl rfl [] ?_
 conv=>whnf
 (first|refine⟨?_,?_⟩|refine nsplit ?_ ?_|refine bsplit ?_ ?_)<;>intro h1<;>have hz_:=True.intro<;>clear hz_
 ·omega
 ·conv=>whnf
  (first|refine⟨?_,?_⟩|refine nsplit ?_ ?_|refine bsplit ?_ ?_)<;>intro h2<;>have hz_:=True.intro<;>clear hz_
  ·omega
  ·conv=>whnf
   (first|refine⟨?_,?_⟩|refine nsplit ?_ ?_|refine bsplit ?_ ?_)<;>intro h3<;>have hz_:=True.intro<;>clear hz_
   ·have h3:256≤n:=by omega
    conv=>whnf
    refine tab8 (n / 256) (by rw[f8,u8_in (by omega)]) (by omega) (by decide+kernel) ?_
    conv=>whnf
    refine⟨[],[],?_⟩
    iterate 3 constructor
    refine⟨⟨?_,?_,?_⟩,rfl,rfl,rfl⟩
    all_goals(repeat' first|exact LF|constructor)
    obtain⟨q1,q2⟩:=bits8 (n / 256) (by omega)
    refine Lz.int ?_
    rw[q1,bitsHi hn h3,IntWalk.i64_in ((Sort.bitsLen (n / 256):Nat):Int) (by omega),show IntKind.i64.wrap (0+8)=8 from rfl,IntWalk.i64_in _ (by omega)]
    omega
   ·have h3:n<256:=by omega
    conv=>whnf
    refine tab8 n (u8_in h3) h3 (by decide+kernel) ?_
    conv=>whnf
    refine⟨[],[],?_⟩
    iterate 3 constructor
    refine⟨⟨?_,?_,?_⟩,rfl,rfl,rfl⟩
    all_goals(repeat' first|exact LF|constructor)
    obtain⟨q1,q2⟩:=bits8 n h3
    refine Lz.int ?_
    rw[q1,IntWalk.i64_in ((Sort.bitsLen n:Nat):Int) (by omega),IntWalk.i64_in _ (by omega)]
    omega
theorem len_ok (n:Nat) (hn:n<4096):VC ES 159 0 [.s (.int .u64 n)] [] (RR (nI (Sort.bitsLen n)) 0 []):=by
 refine VC.enterR LS (show ES.func 159=some Tryz.f159 by kernel_rfl) (fun _ _=>rfl) rfl rfl [] ?_
 conv=>whnf
 refine⟨[],[],_,_,_,_,len64_ok n hn,t3,cR ?_⟩
 conv=>whnf
 exact⟨[],[],_,_,_,t3,rfl,rfl,rfl⟩
theorem len_i {x:Int} {n:Nat} (e:x=n) (hn:n<4096):VC ES 159 0 [.s (.int .u64 x)] [] (RR (nI (Sort.bitsLen n)) 0 []):=by
 subst e;exact len_ok n hn
end Go.M
namespace Go.M
open Go Go.Proofs
set_option maxRecDepth 100000
set_option maxHeartbeats 4000000
@[reducible] def nS0:TV:=.sl 0 [] true
theorem insertN_ok:VC ES 197 0 [nS0,nI 0,nI 0] [] (RR (.tup []) 0 []):=by
 refine VC.enterR LS (show ES.func 197=some Tryz.f197 by kernel_rfl) (fun _ _=>rfl) rfl rfl [999999] ?_
 conv=>whnf
 repeat(first|(refine⟨by first|decide+kernel|(dsimp only;decide+kernel),?_⟩;have hz_:=True.intro;clear hz_;(conv=>whnf))|(refine⟨_,rfl,?_⟩;have hz_:=True.intro;clear hz_;(conv=>whnf))|((try(first|rw[wr0]|rw[wr1]|rw[wr2]|rw[wr3]|rw[wr4]|rw[wr5]|rw[wr6]|rw[wr7]|rw[wr8]|rw[wr9]|rw[wrA]|rw[wrB]|rw[wrC]|rw[wrD]|rw[wrE]));first|(refine⟨fun h_=>?_,fun h_=>absurd (by first|decide+kernel|rfl |(dsimp only;decide+kernel)) h_⟩;clear h_;(conv=>whnf))|(refine⟨fun h_=>absurd h_ (by first|decide+kernel|(dsimp only;decide+kernel)),fun h_=>?_⟩;clear h_;(conv=>whnf))))
 exact⟨[],[],_,_,_,t3,rfl,rfl,rfl⟩
theorem pdqN_ok (lim:Int):VC ES 158 0 [nS0,nI 0,nI 0,.s (.int .i64 lim)] [] (RR (.tup []) 0 []):=by
 refine VC.enterR LS (show ES.func 158=some Tryz.f158 by kernel_rfl) (fun _ _=>rfl) rfl rfl [999999] ?_
 conv=>whnf
 repeat(first|(refine⟨by first|decide+kernel|(dsimp only;decide+kernel),?_⟩;have hz_:=True.intro;clear hz_;(conv=>whnf))|(refine⟨_,rfl,?_⟩;have hz_:=True.intro;clear hz_;(conv=>whnf))|((try(first|rw[wr0]|rw[wr1]|rw[wr2]|rw[wr3]|rw[wr4]|rw[wr5]|rw[wr6]|rw[wr7]|rw[wr8]|rw[wr9]|rw[wrA]|rw[wrB]|rw[wrC]|rw[wrD]|rw[wrE]));first|(refine⟨fun h_=>?_,fun h_=>absurd (by first|decide+kernel|rfl |(dsimp only;decide+kernel)) h_⟩;clear h_;(conv=>whnf))|(refine⟨fun h_=>absurd h_ (by first|decide+kernel|(dsimp only;decide+kernel)),fun h_=>?_⟩;clear h_;(conv=>whnf))))
 refine⟨[],[],_,_,_,_,insertN_ok,t3,cR ?_⟩
 conv=>whnf
 exact⟨[],[],_,_,_,t3,rfl,rfl,rfl⟩
theorem sortN_ok:VC ES 99 0 [nS0] [] (RR (.tup []) 0 []):=by
 refine VC.enterR LS (show ES.func 99=some Tryz.f99 by kernel_rfl) (fun _ _=>rfl) rfl rfl [] ?_
 conv=>whnf
 refine⟨[],[],_,_,_,_,len_i (x:=IntKind.u64.wrap ((0:Nat):Int)) (n:=0) rfl (by omega),t3,?_⟩
 rintro r o' c' ⟨rfl,rfl,rfl⟩
 conv=>whnf
 refine⟨[],[],_,_,_,_,pdqN_ok _,t3,cR ?_⟩
 conv=>whnf
 exact⟨[],[],_,_,_,t3,rfl,rfl,rfl⟩
end Go.M
