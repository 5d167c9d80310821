/-
  Part 30 of the library that the proof leans on.
-/
import Derived.Test.YtgjfaieghmigjaaGreatDoorL28
import Derived.Test.YtgjfaieghmigjaaGreatDoorL29
import Derived.Test.YtgjfaieghmigjaaGreatDoorL21
import Derived.Test.YtgjfaieghmigjaaGreatDoorL26
import Derived.Test.YtgjfaieghmigjaaGreatDoorL12
namespace Go.M
open Go Go.Proofs
set_option maxRecDepth 100000
set_option maxHeartbeats 4000000
theorem cloneB_ok (l:List Int) (hl:l.length<1000000):VC EZ 125 0 [.sl 1 (l.map encU1) false] [] (RR (.sl 1 (l.map encU1) false) 0 []):=by
 refine VC.enterR LZ (show EZ.func 125=some Tryz.f125 by kernel_rfl) (fun _ _=>rfl) rfl rfl [] ?_
 conv=>whnf
 refine⟨fun h=>?_,?_⟩
 ·have h:l=[]:=by simpa using h
  subst h
  conv=>whnf
  exact⟨[],[],_,_,_,t3,rfl,rfl,rfl⟩
 ·conv=>whnf
  refine⟨by simp;omega,?_⟩
  conv=>whnf
  exact⟨[1],[],_,_,_,t3,rfl,rfl,rfl⟩
theorem known_ok (w:Nat) (h1:1≤w) (h8:w≤8):VC EZ 129 0 [.s (.int .i64 w)] [] (RR (.s (.bool true)) 0 []):=by
 refine VC.enterR LZ (show EZ.func 129=some Tryz.f129 by kernel_rfl) (fun _ _=>rfl) rfl rfl [] ?_
 conv=>whnf
 (first|refine⟨?_,?_⟩|refine nsplit ?_ ?_|refine bsplit ?_ ?_)<;>intro h<;>have hz_:=True.intro<;>clear hz_
 ·conv=>whnf
  (first|refine⟨?_,?_⟩|refine nsplit ?_ ?_|refine bsplit ?_ ?_)<;>intro h'<;>have hz_:=True.intro<;>clear hz_
  ·conv=>whnf
   exact⟨[],[],_,_,_,t3,rfl,rfl,rfl⟩
  ·exact absurd (show(w:Int)≤8 by omega) h'
 ·exact absurd (show(w:Int)≥1 by omega) h
theorem laid_set (w i n:Nat) (h:i<w):((List.replicate (w - i) (0:Int)++bigL i n).map encU1).set (w - 1 - i) (encU1 ((n / 256 ^ i % 256:Nat):Int))=(List.replicate (w - (i+1)) (0:Int)++bigL (i+1) n).map encU1:=by
 have e:w - i=(w - (i+1))+1:=by omega
 rw[←List.map_set,e,List.replicate_succ',List.append_assoc,List.set_append_right _ _ (by simp;omega),bigL_cons]
 congr 2
 rw[List.length_replicate,show w - 1 - i - (w - (i+1))=0 by omega]
 rfl
theorem laid_get (w i n:Nat) (h:i<w):((List.replicate (w - i) (0:Int)++bigL i n).map encU1)[w - 1 - i]? =some (encU1 0):=by
 have e:w - i=(w - (i+1))+1:=by omega
 rw[e,List.replicate_succ',List.append_assoc,List.map_append,List.getElem?_append_right (by simp;omega)]
 simp
 rw[show w - 1 - i - (w - (i+1))=0 by omega]
 rfl
theorem laid_ok (n:Nat) (w:Nat) (h1:1≤w) (h8:w≤8):VC EZ 137 0 [.s (.int .u64 n),.s (.int .i64 w)] [] (RR (.tk 0) 1 [(0,.arr 1 true ((bigL w n).map encU1))]):=by
 refine VC.enterR LZ (show EZ.func 137=some Tryz.f137 by kernel_rfl) (fun _ _=>rfl) rfl rfl [] ?_
 conv=>whnf
 refine⟨⟨by omega,by omega,by omega⟩,?_⟩
 conv=>whnf
 refine⟨fun k f o c=>∃i:Nat,i≤w∧k=w - i∧c=1∧f=[(0,.s (.int .u64 n)),(1,.s (.int .i64 w)),(5,.tk 0),(10,.s (.int .i64 w)),(11,.s (.int .i64 i))]∧o=[(0,.arr 1 true ((List.replicate (w - i) 0++bigL i n).map encU1))],⟨w,?_⟩,?_⟩
 ·refine⟨[],[some 0],?_⟩
  iterate 3 constructor
  refine⟨⟨?_,?_,?_⟩,⟨0,Nat.zero_le _,rfl,rfl,rfl,rfl⟩⟩
  all_goals(repeat' first|exact LF|constructor)
  all_goals first|exact Lz.int (by simp)|exact Lz.of (by simp[bigL];exact .inr rfl)|trace_state
 ·rintro k f1 o1 c1 ⟨i,hi,rfl,rfl,rfl,rfl⟩
  conv=>whnf
  (first|refine⟨?_,?_⟩|refine nsplit ?_ ?_|refine bsplit ?_ ?_)<;>intro h<;>have hz_:=True.intro<;>clear hz_
  ·have h:i<w:=by have:(i:Int)<w:=h
                  omega
   conv=>whnf
   rw[shr_eq n i (by omega)]
   conv=>whnf
   have hw:IntKind.i64.wrap (IntKind.i64.wrap ((w:Int) - 1) - (i:Int))=((w - 1 - i:Nat):Int):=by
    rw[IntWalk.i64_in _ (by rw[IntWalk.i64_in _ (by omega)];omega),IntWalk.i64_in _ (by omega)];omega
   refine⟨by rw[hw];simp[bigL_len];omega,?_⟩
   conv=>whnf
   refine⟨encU1 0,by rw[hw,Int.toNat_natCast];exact laid_get w i n h,?_⟩
   conv=>whnf
   refine⟨w - (i+1),?_,by omega⟩
   refine⟨[],[some 0],?_⟩
   iterate 3 constructor
   refine⟨⟨?_,?_,?_⟩,⟨i+1,h,rfl,rfl,rfl,rfl⟩⟩
   all_goals(repeat' first|exact LF|constructor)
   all_goals first|exact Lw.of (by rw[hw,Int.toNat_natCast,←laid_set w i n h,IntKind.wrap_u8];simp)|exact Lz.of (by rw[hw,Int.toNat_natCast,←laid_set w i n h,IntKind.wrap_u8];simp)|trace_state
  ·have hi':i=w:=by have:¬(i:Int)<w:=h
                    omega
   subst hi'
   rw[Nat.sub_self]
   conv=>whnf
   exact⟨[],[some 0],_,_,_,t3,rfl,rfl,rfl⟩
theorem fits_ok (n:Nat) (w:Nat) (h1:1≤w) (h8:w≤8) (hn:n<18446744073709551616):VC EZ 135 0 [.s (.int .u64 n),.s (.int .i64 w)] [] (RR (.s (.bool (decide (n<256 ^ w)))) 0 []):=by
 refine VC.enterR LZ (show EZ.func 135=some Tryz.f135 by kernel_rfl) (fun _ _=>rfl) rfl rfl [] ?_
 conv=>whnf
 (first|refine⟨?_,?_⟩|refine nsplit ?_ ?_|refine bsplit ?_ ?_)<;>intro h<;>have hz_:=True.intro<;>clear hz_
 ·have h:w=8:=by have:(w:Int)=8:=h
                 omega
  subst h
  conv=>whnf
  refine⟨[],[],?_⟩
  iterate 3 constructor
  refine⟨⟨?_,?_,?_⟩,rfl,rfl,rfl⟩
  all_goals(repeat' first|exact LF|constructor)
  exact Lz.of (bool_eq (decide_eq_true (show n<256 ^ 8 by omega)).symm)
 ·conv=>whnf
  rw[shr_eq n w (by omega)]
  conv=>whnf
  (first|refine⟨?_,?_⟩|refine nsplit ?_ ?_|refine bsplit ?_ ?_)<;>intro h0<;>have hz_:=True.intro<;>clear hz_
  ·have h0:((n / 256 ^ w:Nat):Int)=0:=h0
   conv=>whnf
   refine⟨[],[],?_⟩
   iterate 3 constructor
   refine⟨⟨?_,?_,?_⟩,rfl,rfl,rfl⟩
   all_goals(repeat' first|exact LF|constructor)
   exact Lz.of (bool_eq (decide_eq_true (show n<256 ^ w from(Nat.div_eq_zero_iff_lt (Nat.pow_pos (by decide))).1 (by omega))).symm)
  ·have h0:¬((n / 256 ^ w:Nat):Int)=0:=h0
   conv=>whnf
   refine⟨[],[],?_⟩
   iterate 3 constructor
   refine⟨⟨?_,?_,?_⟩,rfl,rfl,rfl⟩
   all_goals(repeat' first|exact LF|constructor)
   exact Lz.of (bool_eq (decide_eq_false (fun q=>h0 (by rw[(Nat.div_eq_zero_iff_lt (Nat.pow_pos (by decide))).2 q];rfl))).symm)
structure OutS where
 b:List Int
 most:Int
 e:Int
def OutS.fail (s:OutS) (e:Int):OutS:=if s.e=0 then⟨s.b,s.most,e⟩else s
def OutS.put (s:OutS) (x:List Int):OutS:=if s.e≠0 then s else if(x.length:Int)>s.most - s.b.length then⟨s.b,s.most,6⟩else⟨s.b++x,s.most,0⟩
def OutS.num (s:OutS) (n w:Nat):OutS:=if n<256 ^ w then s.put (bigL w n)else s.fail 4
structure OutS.ok (s:OutS):Prop where
 m:0≤s.most∧s.most≤1048576
 l:(s.b.length:Int)≤s.most
@[reducible] def OutO (s:OutS):TO:=.cells [.own (.arr 1 true (s.b.map encU1)),.s (.int .i64 s.most),.s (.int .i64 s.e)]
theorem new_ok (m:Nat):VC EZ 91 0 [.s (.int .i64 m)] [] (RR (.ptr 0 0) 1 [(0,OutO ⟨[],m,0⟩)]):=by
 refine VC.enterR LZ (show EZ.func 91=some Tryz.f91 by kernel_rfl) (fun _ _=>rfl) rfl rfl [] ?_
 conv=>whnf
 refine⟨[],[some 0],?_⟩
 iterate 3 constructor
 refine⟨⟨?_,?_,?_⟩,rfl,rfl,rfl⟩
 all_goals(repeat' first|exact LF|constructor)
 all_goals exact Lz.int (if_neg (by omega))
theorem outFail_ok (s:OutS) (e:Int):VC EZ 134 1 [.ptr 0 0,.s (.int .i64 e)] [(0,OutO s)] (RR (.tup []) 1 [(0,OutO (s.fail e))]):=by
 refine VC.enterR LZ (show EZ.func 134=some Tryz.f134 by kernel_rfl) (fun _ _=>rfl) rfl rfl [] ?_
 conv=>whnf
 (first|refine⟨?_,?_⟩|refine nsplit ?_ ?_|refine bsplit ?_ ?_)<;>intro h<;>have hz_:=True.intro<;>clear hz_
 ·have h:s.e=0:=h
  rw[show s.fail e=⟨s.b,s.most,e⟩from if_pos h]
  conv=>whnf
  exact⟨[],[some 0],_,_,_,t3,rfl,rfl,rfl⟩
 ·have h:¬s.e=0:=h
  rw[show s.fail e=s from if_neg h]
  conv=>whnf
  exact⟨[],[some 0],_,_,_,t3,rfl,rfl,rfl⟩
theorem put_ok (s:OutS) (x:List Int) (hs:s.ok) (hx:s.b.length+x.length≤1000000):VC EZ 136 1 [.ptr 0 0,.sl 1 (x.map encU1) false] [(0,OutO s)] (RR (.tup []) 1 [(0,OutO (s.put x))]):=by
 obtain⟨⟨m0,m1⟩,hl⟩:=hs
 refine VC.enterR LZ (show EZ.func 136=some Tryz.f136 by kernel_rfl) (fun _ _=>rfl) rfl rfl [] ?_
 conv=>whnf
 (first|refine⟨?_,?_⟩|refine nsplit ?_ ?_|refine bsplit ?_ ?_)<;>intro h<;>have hz_:=True.intro<;>clear hz_
 ·have h:s.e≠0:=h
  rw[show s.put x=s from if_pos h]
  conv=>whnf
  exact⟨[],[some 0],_,_,_,t3,rfl,rfl,rfl⟩
 ·have h:¬s.e≠0:=h
  have h0:s.e=0:=by omega
  ((conv=>whnf)<;>repeat(with_reducible refine D1 ?_)<;>conv=>whnf)
  (first|refine⟨?_,?_⟩|refine nsplit ?_ ?_|refine bsplit ?_ ?_)<;>intro h2<;>have hz_:=True.intro<;>clear hz_
  ·have h2:(x.length:Int)>s.most - s.b.length:=by
    have:(((x.map encU1).length:Nat):Int)>IntKind.i64.wrap (s.most - (((s.b.map encU1).length:Nat):Int)):=h2
    rw[List.length_map,List.length_map,IntWalk.i64_in _ (by omega)]at this
    exact this
   rw[show s.put x=s.fail 6 from by unfold OutS.put OutS.fail;rw[if_neg h,if_pos h2,if_pos h0]]
   ((conv=>whnf)<;>repeat(with_reducible refine D1 ?_)<;>conv=>whnf)
   refine⟨[],[some 0],_,_,_,_,outFail_ok s 6,t3,cR ?_⟩
   conv=>whnf
   exact⟨[],[some 0],_,_,_,t3,rfl,rfl,rfl⟩
  ·have h2:¬(x.length:Int)>s.most - s.b.length:=by
    have:¬(((x.map encU1).length:Nat):Int)>IntKind.i64.wrap (s.most - (((s.b.map encU1).length:Nat):Int)):=h2
    rw[List.length_map,List.length_map,IntWalk.i64_in _ (by omega)]at this
    exact this
   rw[show s.put x=⟨s.b++x,s.most,0⟩from by unfold OutS.put;rw[if_neg h,if_neg h2]]
   ((conv=>whnf)<;>repeat(with_reducible refine D1 ?_)<;>conv=>whnf)
   refine⟨by simp;omega,?_⟩
   conv=>whnf
   refine⟨[],[some 0],?_⟩
   iterate 3 constructor
   refine⟨⟨?_,?_,?_⟩,rfl,rfl,rfl⟩
   all_goals(repeat' first|exact LF|constructor)
   all_goals first|exact Lz.int h0|exact Lw.of (by simp)|exact Lz.of (by simp)|trace_state
theorem num_ok (s:OutS) (n w:Nat) (hs:s.ok) (hx:s.b.length≤900000) (h1:1≤w) (h8:w≤8) (hn:n<18446744073709551616):VC EZ 92 1 [.ptr 0 0,.s (.int .u64 n),.s (.int .i64 w)] [(0,OutO s)] (RR (.tup []) 1 [(0,OutO (s.num n w))]):=by
 have hf:=fits_ok n w h1 h8 hn
 refine VC.enterR LZ (show EZ.func 92=some Tryz.f92 by kernel_rfl) (fun _ _=>rfl) rfl rfl [] ?_
 conv=>whnf
 refine⟨[],[],_,_,_,_,known_ok w h1 h8,t3,cR ?_⟩
 conv=>whnf
 by_cases h:n<256 ^ w
 ·rw[show s.num n w=s.put (bigL w n)from if_pos h]
  rw[decide_eq_true h]at hf
  refine⟨[],[],_,_,_,_,hf,t3,cR ?_⟩
  conv=>whnf
  refine⟨[],[],_,_,_,_,laid_ok n w h1 h8,t3,cR ?_⟩
  conv=>whnf
  refine⟨[1],[some 0],_,_,_,_,put_ok s (bigL w n) hs (by rw[bigL_len];omega),t3,cR ?_⟩
  conv=>whnf
  exact⟨[],[some 0],_,_,_,t3,rfl,rfl,rfl⟩
 ·rw[show s.num n w=s.fail 4 from if_neg h]
  rw[decide_eq_false h]at hf
  refine⟨[],[],_,_,_,_,hf,t3,cR ?_⟩
  conv=>whnf
  refine⟨[],[some 0],_,_,_,_,outFail_ok s 4,t3,cR ?_⟩
  conv=>whnf
  exact⟨[],[some 0],_,_,_,t3,rfl,rfl,rfl⟩
def boolN (b:Bool):Nat:=if b then 1 else 0
theorem done_ok (s:OutS) (hs:s.ok) (hx:s.b.length≤900000):VC EZ 95 1 [.ptr 0 0] [(0,OutO s)] (RR (.tup [.sl 1 ((if s.e=0 then s.b else []).map encU1) false,.s (.int .i64 s.e)]) 1 []):=by
 obtain⟨⟨m0,m1⟩,hl⟩:=hs
 refine VC.enterR LZ (show EZ.func 95=some Tryz.f95 by kernel_rfl) (fun _ _=>rfl) rfl rfl [] ?_
 conv=>whnf
 (first|refine⟨?_,?_⟩|refine nsplit ?_ ?_|refine bsplit ?_ ?_)<;>intro h<;>have hz_:=True.intro<;>clear hz_
 ·have h:s.e≠0:=h
  rw[if_neg h]
  ((conv=>whnf)<;>repeat(with_reducible refine D1 ?_)<;>conv=>whnf)
  exact⟨[],[some 0],_,_,_,t3,rfl,rfl,rfl⟩
 ·have h:s.e=0:=Classical.not_not.1 h
  rw[if_pos h]
  conv=>whnf
  refine⟨[1],[],_,_,_,_,cloneB_ok s.b (by omega),t3,cR ?_⟩
  conv=>whnf
  refine⟨[],[some 0],?_⟩
  iterate 3 constructor
  refine⟨⟨?_,?_,?_⟩,rfl,rfl,rfl⟩
  all_goals(repeat' first|exact LF|constructor)
  all_goals exact Lz.int h.symm
end Go.M
namespace Go.M
open Go Go.Proofs
set_option maxRecDepth 100000
set_option maxHeartbeats 4000000
@[reducible] def InO (s:InS):TO:=.cells [.sl 1 (s.b.map encU1) false,.s (.int .i64 s.e)]
end Go.M
namespace Go.M
open Go Go.Proofs
set_option maxRecDepth 100000
set_option maxHeartbeats 4000000
@[reducible] def InA (s:InS):TV:=.agg [.sl 1 (s.b.map encU1) false,.s (.int .i64 s.e)]
end Go.M
namespace Go.M
open Go Go.Proofs
set_option maxRecDepth 100000
set_option maxHeartbeats 4000000
end Go.M
namespace Go.M
open Go Go.Proofs
set_option maxRecDepth 100000
set_option maxHeartbeats 4000000
theorem encU8_len (l:List Int):(encU8 l).length=l.length:=by unfold encU8;rw[List.length_map]
theorem encU8_app (a b:List Int):encU8 a++encU8 b=encU8 (a++b):=by unfold encU8;rw[List.map_append]
theorem encU8_nil {l:List Int} (h:encU8 l=[]):l=[]:=by unfold encU8 at h;simpa using h
structure Room (s:OutS) (k:Nat):Prop where
 e:s.e=0
 m:s.most=1048576
 l:s.b.length+k≤800000
@[reducible] def OutS.add (s:OutS) (x:List Int):OutS:=⟨s.b++x,s.most,0⟩
theorem Room.ok {s:OutS} {k:Nat} (h:Room s k):s.ok:=⟨by rw[h.m];decide,by have:=h.l;rw[h.m];omega⟩
theorem Room.add {s:OutS} {k:Nat} (h:Room s k) {x:List Int} {j:Nat} (hx:x.length+j≤k):Room (s.add x) j:=⟨rfl,h.m,by have:=h.l;show(s.b++x).length+j≤_;rw[List.length_append];omega⟩
theorem Room.put {s:OutS} {k:Nat} (h:Room s k) {x:List Int} (hx:x.length≤k):s.put x=s.add x:=by
 have:=h.l
 unfold OutS.put
 rw[if_neg (not_not_intro h.e),if_neg (by rw[h.m];omega)]
theorem Room.num {s:OutS} {k:Nat} (h:Room s k) {n w:Nat} (hn:n<256 ^ w) (hw:w≤k):s.num n w=s.add (bigL w n):=by
 unfold OutS.num
 rw[if_pos hn,h.put (by rw[bigL_len];exact hw)]
theorem numI_ok (s:OutS) (n:Int) (w k:Nat) (h:Room s k) (hw:w≤k) (h1:1≤w) (h8:w≤8) (h0:0≤n) (hm:n≤18446744073709551615) (hn:n.toNat<256 ^ w):VC EZ 92 1 [.ptr 0 0,.s (.int .u64 n),.s (.int .i64 w)] [(0,OutO s)] (RR (.tup []) 1 [(0,OutO (s.add (bigL w n.toNat)))]):=by
 have:=num_ok s n.toNat w h.ok (by have:=h.l;omega) h1 h8 (by omega)
 rw[h.num hn hw,Int.toNat_of_nonneg h0]at this
 exact this
theorem laidF_ok (n:Nat) (w:Nat) (h1:1≤w) (h8:w≤8):VC EZ 137 0 [.s (.int .u64 n),.s (.int .i64 w)] [] (RR (.sl 1 (encU8 (bigL w n)) false) 0 []):=by
 refine VC.told (laid_ok n w h1 h8) ?_
 rintro r o' c' ⟨rfl,rfl,rfl⟩
 exact⟨[0],[],_,_,_,t3,rfl,rfl,rfl⟩
theorem grow_ok (n:Nat) (h0:0<n) (hn:n<1000000):VC EZ 154 0 [.sl 0 [] true,.s (.int .i64 n)] [] (RR (.pv 0 0) 1 [(0,.arr 1 true (encU8 (List.replicate n 0)))]):=by
 refine VC.enterR LZ (show EZ.func 154=some Tryz.f154 by kernel_rfl) (fun _ _=>rfl) rfl rfl [] ?_
 conv=>whnf
 (first|refine⟨?_,?_⟩|refine nsplit ?_ ?_|refine bsplit ?_ ?_)<;>intro h<;>have hz_:=True.intro<;>clear hz_
 ·have h:(n:Int)<0:=h
  omega
 ·conv=>whnf
  have hw:IntKind.i64.wrap ((n:Int) - IntKind.i64.wrap (0 - ((([]:List (List TV)).length:Nat):Int)))=(n:Int):=by
   rw[show IntKind.i64.wrap (0 - ((([]:List (List TV)).length:Nat):Int))=0 from rfl,IntWalk.i64_in _ (by omega)];omega
  rw[hw]
  (first|refine⟨?_,?_⟩|refine nsplit ?_ ?_|refine bsplit ?_ ?_)<;>intro h2<;>have hz_:=True.intro<;>clear hz_
  ·conv=>whnf
   refine⟨by decide,?_⟩
   conv=>whnf
   refine⟨by omega,?_⟩
   conv=>whnf
   refine⟨⟨by simp,by simp,by simp⟩,.inr ?_⟩
   conv=>whnf
   refine⟨[],[some 0],?_⟩
   iterate 3 constructor
   refine⟨⟨?_,?_,?_⟩,rfl,rfl,rfl⟩
   all_goals(repeat' first|exact LF|constructor)
   all_goals first|exact Lz.of rfl |exact Lz.of (by simp[encU8,cT1])|trace_state
  ·exact absurd (show(0:Int)<(n:Int) by omega) h2
theorem concat_ok (a b:List Int) (ha:a≠[]) (hn:a.length+b.length<1000000):VC EZ 139 0 [.sl 1 [[.sl 1 (encU8 a) false],[.sl 1 (encU8 b) false]] false] [] (RR (.sl 1 (encU8 (a++b)) false) 0 []):=by
 have la:=encU8_len a
 have lb:=encU8_len b
 have ha0:0<a.length:=List.length_pos_iff.2 ha
 refine VC.enterR LZ (show EZ.func 139=some Tryz.f139 by kernel_rfl) (fun _ _=>rfl) rfl rfl [999999] ?_
 conv=>whnf
 (first|refine⟨?_,?_⟩|refine nsplit ?_ ?_|refine bsplit ?_ ?_)<;>intro t0<;>have hz_:=True.intro<;>clear hz_
 ·conv=>whnf
  refine⟨_,⟨by decide,rfl⟩,?_⟩
  conv=>whnf
  rw[show IntKind.i64.wrap (0+(((encU8 a).length:Nat):Int))=(a.length:Int)from by rw[la,IntWalk.i64_in _ (by omega)];omega]
  (first|refine⟨?_,?_⟩|refine nsplit ?_ ?_|refine bsplit ?_ ?_)<;>intro n0<;>have hz_:=True.intro<;>clear hz_
  ·have n0:(a.length:Int)<0:=n0
   omega
  ·conv=>whnf
   (first|refine⟨?_,?_⟩|refine nsplit ?_ ?_|refine bsplit ?_ ?_)<;>intro t1<;>have hz_:=True.intro<;>clear hz_
   ·conv=>whnf
    refine⟨_,⟨by decide,rfl⟩,?_⟩
    conv=>whnf
    rw[show IntKind.i64.wrap ((a.length:Int)+(((encU8 b).length:Nat):Int))=((a.length+b.length:Nat):Int)from by rw[lb,IntWalk.i64_in _ (by omega)];omega]
    (first|refine⟨?_,?_⟩|refine nsplit ?_ ?_|refine bsplit ?_ ?_)<;>intro n1<;>have hz_:=True.intro<;>clear hz_
    ·have n1:((a.length+b.length:Nat):Int)<0:=n1
     omega
    ·conv=>whnf
     (first|refine⟨?_,?_⟩|refine nsplit ?_ ?_|refine bsplit ?_ ?_)<;>intro t2<;>have hz_:=True.intro<;>clear hz_
     ·exact absurd t2 (show¬(IntKind.i64.wrap (IntKind.i64.wrap (0+1)+1)<(2:Int)) by decide)
     ·conv=>whnf
      refine⟨[],[],_,_,_,_,grow_ok (a.length+b.length) (by omega) (by omega),t3,cR ?_⟩
      conv=>whnf
      (first|refine⟨?_,?_⟩|refine nsplit ?_ ?_|refine bsplit ?_ ?_)<;>intro u0<;>have hz_:=True.intro<;>clear hz_
      ·conv=>whnf
       refine⟨_,⟨by decide,rfl⟩,?_⟩
       conv=>whnf
       refine⟨⟨Nat.zero_le _,by rw[la];omega,fun e=>ha (encU8_nil e)⟩,?_⟩
       conv=>whnf
       (first|refine⟨?_,?_⟩|refine nsplit ?_ ?_|refine bsplit ?_ ?_)<;>intro u1<;>have hz_:=True.intro<;>clear hz_
       ·conv=>whnf
        refine⟨_,⟨by decide,rfl⟩,?_⟩
        conv=>whnf
        refine⟨by rw[List.take_zero,List.nil_append,la,lb];omega,?_⟩
        conv=>whnf
        (first|refine⟨?_,?_⟩|refine nsplit ?_ ?_|refine bsplit ?_ ?_)<;>intro u2<;>have hz_:=True.intro<;>clear hz_
        ·exact absurd u2 (show¬(IntKind.i64.wrap (IntKind.i64.wrap (0+1)+1)<(2:Int)) by decide)
        ·conv=>whnf
         refine⟨[2],[],?_⟩
         iterate 3 constructor
         refine⟨⟨?_,?_,?_⟩,rfl,rfl,rfl⟩
         all_goals(repeat' first|exact LF|constructor)
         all_goals exact Lz.of (by rw[List.take_zero,List.nil_append,encU8_app])
       ·exact absurd (show IntKind.i64.wrap (0+1)<(2:Int) by decide) u1
      ·exact absurd (show(0:Int)<(2:Int) by decide) u0
   ·exact absurd (show IntKind.i64.wrap (0+1)<(2:Int) by decide) t1
 ·exact absurd (show(0:Int)<(2:Int) by decide) t0
theorem outText_ok (s:OutS) (d:List Int) (k:Nat) (h:Room s k) (hd:d.length+2≤k) (h2:d.length≤65535):VC EZ 94 1 [.ptr 0 0,.sl 1 (encU8 d) false] [(0,OutO s)] (RR (.tup []) 1 [(0,OutO (s.add (bigL 2 d.length++d)))]):=by
 have hl:=encU8_len d
 have hp:=put_ok s (bigL 2 d.length++d) h.ok (by have:=h.l;rw[List.length_append,bigL_len];omega)
 rw[h.put (by rw[List.length_append,bigL_len];omega)]at hp
 refine VC.enterR LZ (show EZ.func 94=some Tryz.f94 by kernel_rfl) (fun _ _=>rfl) rfl rfl [] ?_
 conv=>whnf
 (first|refine⟨?_,?_⟩|refine nsplit ?_ ?_|refine bsplit ?_ ?_)<;>intro h0<;>have hz_:=True.intro<;>clear hz_
 ·have h0:(65535:Int)<(((encU8 d).length:Nat):Int):=h0
  rw[hl]at h0;omega
 ·conv=>whnf
  rw[hl,show IntKind.u64.wrap ((d.length:Nat):Int)=((d.length:Nat):Int)from IntWalk.u64_in _ (by omega)]
  refine⟨[],[],_,_,_,_,laidF_ok d.length 2 (by decide) (by decide),t3,cR ?_⟩
  conv=>whnf
  refine⟨[1],[],_,_,_,_,concat_ok (bigL 2 d.length) d (fun e=>by have:=congrArg List.length e;rw[bigL_len]at this;cases this) (by rw[bigL_len];omega),t3,cR ?_⟩
  conv=>whnf
  refine⟨[],[some 0],_,_,_,_,hp,t3,cR ?_⟩
  conv=>whnf
  exact⟨[],[some 0],_,_,_,t3,rfl,rfl,rfl⟩
end Go.M
namespace Go.M
open Go Go.Proofs
set_option maxRecDepth 100000
set_option maxHeartbeats 4000000
theorem rowsT_len (t:TabS):(rowsT t).length≤6:=List.length_filter_le nz (lstT t)
theorem all_ok (t:TabS):VC EZ 127 1 [.ptr 0 0] (stTab t) (RR (.sl 5 ((rowsT t).map encR) false) 1 (stTab t)):=by
 refine VC.enterR LZ (show EZ.func 127=some Tryz.f127 by kernel_rfl) (fun _ _=>rfl) rfl rfl [] ?_
 conv=>whnf
 refine⟨fun k f o c=>∃i:Nat,i≤6∧k=6 - i∧c=2∧f=[(0,.ptr 0 0),(3,.tk 1),(7,.s (.int .i64 i))]∧o=[(0,tabT t),(1,.arr 5 true ((((lstT t).take i).filter nz).map encR))],⟨6,?_⟩,?_⟩
 ·exact⟨[],[some 0,none],_,_,_,t3,⟨0,by decide,rfl,rfl,rfl,rfl⟩⟩
 ·rintro k f1 o1 c1 ⟨i,hi,rfl,rfl,rfl,rfl⟩
  conv=>whnf
  (first|refine⟨?_,?_⟩|refine nsplit ?_ ?_|refine bsplit ?_ ?_)<;>intro h<;>have hz_:=True.intro<;>clear hz_
  ·have h:i<6:=by have h:(i:Int)<6:=h
                  omega
   have hg:=sget_ok t ((i+1:Nat):Int)
   rw[getC_lst t h]at hg
   have hnx:=lst_next t h
   have hfl:(((lstT t).take i).filter nz).length≤i:=Nat.le_trans (List.length_filter_le ..) (List.length_take_le ..)
   generalize (lstT t).getD i zeroR=r at hg hnx
   conv=>whnf
   rw[wrap_small i (by omega)]
   by_cases hz:r.num=0
   ·rw[if_pos hz]at hg
    refine⟨[],[some 0],_,_,_,_,hg,t3,cR ?_⟩
    conv=>whnf
    refine⟨6 - (i+1),?_,by omega⟩
    refine⟨[],[some 0,some 1],?_⟩
    iterate 3 constructor
    refine⟨⟨?_,?_,?_⟩,⟨i+1,h,rfl,rfl,rfl,rfl⟩⟩
    all_goals(repeat' first|exact LF|constructor)
    all_goals exact Lz.of (by rw[hnx,List.filter_append,List.filter_cons_of_neg (by simpa using hz),List.filter_nil,List.append_nil])
   ·rw[if_neg hz]at hg
    refine⟨[],[some 0],_,_,_,_,hg,t3,cR ?_⟩
    conv=>whnf
    refine⟨by simp only[List.length_map];simp;omega,?_⟩
    conv=>whnf
    refine⟨6 - (i+1),?_,by omega⟩
    refine⟨[],[some 0,some 5],?_⟩
    iterate 3 constructor
    refine⟨⟨?_,?_,?_⟩,⟨i+1,h,rfl,rfl,rfl,rfl⟩⟩
    all_goals(repeat' first|exact LF|constructor)
    all_goals exact Lz.of (by rw[hnx,List.filter_append,List.filter_cons_of_pos (by simpa using hz),List.filter_nil,List.map_append];rfl)
  ·obtain rfl:i=6:=by have h:¬(i:Int)<6:=h;omega
   rw[show(lstT t).take 6=lstT t from rfl]
   conv=>whnf
   exact⟨[1],[some 0],_,_,_,t3,rfl,rfl,rfl⟩
theorem slen_ok (t:TabS):VC EZ 138 1 [.ptr 0 0] (stTab t) (RR (.s (.int .i64 ((rowsT t).length:Nat))) 1 (stTab t)):=by
 refine VC.enterR LZ (show EZ.func 138=some Tryz.f138 by kernel_rfl) (fun _ _=>rfl) rfl rfl [] ?_
 conv=>whnf
 refine⟨[],[some 0],_,_,_,_,all_ok t,t3,cR ?_⟩
 conv=>whnf
 refine⟨[],[some 0],?_⟩
 iterate 3 constructor
 refine⟨⟨?_,?_,?_⟩,rfl,rfl,rfl⟩
 all_goals(repeat' first|exact LF|constructor)
 all_goals exact Lz.int (by rw[List.length_map])
@[reducible] def rowB (r:RowS):List Int:=bigL 1 r.client.toNat++bigL 8 r.num.toNat++bigL 8 r.seq.toNat++bigL 1 r.code.toNat++bigL 8 r.ver.toNat
@[reducible] def rowsB (l:List RowS):List Int:=bigL 1 l.length++l.flatMap rowB
structure RowOk (r:RowS):Prop where
 client:0≤r.client∧r.client≤6
 num:0≤r.num∧r.num≤18446744073709551615
 seq:0≤r.seq∧r.seq≤18446744073709551615
 code:0≤r.code∧r.code≤255
 ver:0≤r.ver∧r.ver≤18446744073709551615
theorem rowB_len (r:RowS):(rowB r).length=26:=by simp[rowB,bigL_len]
theorem flat_next {α:Type} (f:α→List Int) {l:List α} {i:Nat} (h:i<l.length):(l.take (i+1)).flatMap f=(l.take i).flatMap f++f l[i]:=by
 rw[List.take_succ_eq_append_getElem h,List.flatMap_append];simp
theorem flat_len26 (l:List RowS):(l.flatMap rowB).length=l.length*26:=by
 induction l with
 |nil=>rfl
 |cons r l ih=>rw[List.flatMap_cons,List.length_append,rowB_len,ih,List.length_cons];omega
@[reducible] def stPut (t:TabS) (s:OutS):Ob:=[(0,tabT t),(1,OutO s)]
theorem sput_ok (t:TabS) (s:OutS) (k:Nat) (hR:Room s k) (hk:157≤k) (hr:∀r∈rowsT t,RowOk r):VC EZ 93 2 [.ptr 0 0,.ptr 1 0] (stPut t s) (RR (.tup []) 2 (stPut t (s.add (rowsB (rowsT t))))):=by
 have hl:=rowsT_len t
 have h256:(2:Nat)≤256:=by decide
 refine VC.enterR LZ (show EZ.func 93=some Tryz.f93 by kernel_rfl) (fun _ _=>rfl) rfl rfl [] ?_
 conv=>whnf
 refine⟨[],[some 0],_,_,_,_,slen_ok t,t3,cR ?_⟩
 conv=>whnf
 rw[show IntKind.u64.wrap (((rowsT t).length:Nat):Int)=(((rowsT t).length:Nat):Int)from IntWalk.u64_in _ (by omega)]
 refine⟨[],[some 1],_,_,_,_,numI_ok s ((rowsT t).length:Nat) 1 k hR (by omega) (by decide) (by decide) (by omega) (by omega) (by rw[Int.toNat_natCast];omega),t3,cR ?_⟩
 conv=>whnf
 rw[Int.toNat_natCast]
 refine⟨[],[some 0],_,_,_,_,all_ok t,t3,cR ?_⟩
 conv=>whnf
 have hR1:Room (s.add (bigL 1 (rowsT t).length)) (k - 1):=hR.add (by rw[bigL_len];omega)
 generalize hrs:rowsT t=rs at hl hr hR1
 refine⟨fun q f o c=>∃i:Nat,i≤rs.length∧q=rs.length - i∧c=2∧f=[(1,.ptr 1 0),(14,.sl 5 (rs.map encR) false),(15,.s (.int .i64 rs.length)),(16,.s (.int .i64 i))]∧o=stPut t ((s.add (bigL 1 rs.length)).add ((rs.take i).flatMap rowB)),⟨rs.length,?_⟩,?_⟩
 ·refine⟨[],[some 0,some 1],?_⟩
  iterate 3 constructor
  refine⟨⟨?_,?_,?_⟩,⟨0,Nat.zero_le _,rfl,rfl,rfl,rfl⟩⟩
  all_goals(repeat' first|exact LF|constructor)
  ·exact Lz.int (by rw[List.length_map])
  ·exact Lz.of (by simp)
 ·rintro q f1 o1 c1 ⟨i,hi,rfl,rfl,rfl,rfl⟩
  conv=>whnf
  (first|refine⟨?_,?_⟩|refine nsplit ?_ ?_|refine bsplit ?_ ?_)<;>intro h<;>have hz_:=True.intro<;>clear hz_
  ·have h:i<rs.length:=by have h:(i:Int)<rs.length:=h
                          omega
   have hx:=hr _ (List.getElem_mem h)
   have hfl:=flat_len26 (rs.take i)
   rw[List.length_take,Nat.min_eq_left hi]at hfl
   have hR2:Room ((s.add (bigL 1 rs.length)).add ((rs.take i).flatMap rowB)) (k - 1 - i*26):=hR1.add (by rw[hfl];omega)
   conv=>whnf
   refine idxI h ?_
   conv=>whnf
   rw[show IntKind.u64.wrap rs[i].client=rs[i].client from IntWalk.u64_in _ (by have:=hx.client;omega)]
   refine⟨[],[some 1],_,_,_,_,numI_ok _ rs[i].client 1 _ hR2 (by omega) (by decide) (by decide) hx.client.1 (by have:=hx.client;omega) (by have:=hx.client;omega),t3,cR ?_⟩
   conv=>whnf
   have hR3:=hR2.add (x:=bigL 1 rs[i].client.toNat) (j:=k - 1 - i*26 - 1) (by rw[bigL_len];omega)
   refine⟨[],[some 1],_,_,_,_,numI_ok _ rs[i].num 8 _ hR3 (by omega) (by decide) (by decide) hx.num.1 hx.num.2 (by have:=hx.num;omega),t3,cR ?_⟩
   conv=>whnf
   have hR4:=hR3.add (x:=bigL 8 rs[i].num.toNat) (j:=k - 1 - i*26 - 9) (by rw[bigL_len];omega)
   refine⟨[],[some 1],_,_,_,_,numI_ok _ rs[i].seq 8 _ hR4 (by omega) (by decide) (by decide) hx.seq.1 hx.seq.2 (by have:=hx.seq;omega),t3,cR ?_⟩
   conv=>whnf
   have hR5:=hR4.add (x:=bigL 8 rs[i].seq.toNat) (j:=k - 1 - i*26 - 17) (by rw[bigL_len];omega)
   rw[show IntKind.u64.wrap rs[i].code=rs[i].code from IntWalk.u64_in _ (by have:=hx.code;omega)]
   refine⟨[],[some 1],_,_,_,_,numI_ok _ rs[i].code 1 _ hR5 (by omega) (by decide) (by decide) hx.code.1 (by have:=hx.code;omega) (by have:=hx.code;omega),t3,cR ?_⟩
   conv=>whnf
   have hR6:=hR5.add (x:=bigL 1 rs[i].code.toNat) (j:=k - 1 - i*26 - 18) (by rw[bigL_len];omega)
   refine⟨[],[some 1],_,_,_,_,numI_ok _ rs[i].ver 8 _ hR6 (by omega) (by decide) (by decide) hx.ver.1 hx.ver.2 (by have:=hx.ver;omega),t3,cR ?_⟩
   conv=>whnf
   refine⟨rs.length - (i+1),?_,by omega⟩
   refine⟨[],[some 0,some 1],?_⟩
   iterate 3 constructor
   refine⟨⟨?_,?_,?_⟩,⟨i+1,h,rfl,rfl,rfl,rfl⟩⟩
   all_goals(repeat' first|exact LF|constructor)
   all_goals exact Lz.of (congrArg (fun x=>TO.arr 1 true (encU8 x)) (by simp only[rowB,flat_next rowB h,List.append_assoc]))
  ·obtain rfl:i=rs.length:=by have h:¬(i:Int)<rs.length:=h;omega
   rw[List.take_length]
   conv=>whnf
   refine⟨[],[some 0,some 1],?_⟩
   iterate 3 constructor
   refine⟨⟨?_,?_,?_⟩,rfl,rfl,rfl⟩
   all_goals(repeat' first|exact LF|constructor)
   all_goals exact Lz.of (congrArg (fun x=>TO.arr 1 true (encU8 x)) (by simp only[rowsB,List.append_assoc]))
end Go.M
namespace Go.M
open Go Go.Proofs
set_option maxRecDepth 100000
set_option maxHeartbeats 4000000
@[reducible] def roomS (s:StS):Bool:=decide (s.bs.length<192)
@[reducible] def outS (s:StS) (u:UpR):Int×Int×Bool:=outC u (lastV (ofK s u.key)).ver (roomS s)
@[reducible] def rowS (s:StS) (u:UpR):RowS:=⟨u.client,u.num,u.seq,(outS s u).1,(outS s u).2.1⟩
@[reducible] def wrote (s:StS) (u:UpR):StS:=if(outS s u).2.2=true then putS {s with e:=u.seq} u.key ⟨(outS s u).2.1,u.seq,u.data⟩else {s with e:=u.seq}
def applyS (s:StS) (u:UpR):(RowS×Int)×StS:=
 if chkU u≠0 then((zeroR,chkU u),s)
 else if u.seq - 1≠s.e then((zeroR,12),s)
 else if judgeC s.t u.client u.num≠0 then((zeroR,0),{s with e:=u.seq})
 else((rowS s u,setC s.t (rowS s u)),{wrote s u with t:=setT s.t (rowS s u)})
@[reducible] def encH (q:RowS×Int):TV:=.tup [.agg (encR q.1),.s (.int .i64 q.2)]
theorem okU_seq {u:UpR} (h:chkU u=0):u.seq≠0∧u.data.length≤2048:=by
 unfold chkU okU at h
 split at h
 ·split at h
  ·omega
  ·split at h
   ·rename_i h2;simp at h2;omega
   ·omega
 ·omega
theorem outC_range {u:UpR} {ver:Int} {b:Bool} (h:0≤ver∧ver≤18446744073709551615):0≤(outC u ver b).2.1∧(outC u ver b).2.1≤18446744073709551615:=by
 unfold outC
 split
 ·split
  ·exact h
  ·split
   ·exact h
   ·simp;omega
 ·exact h
theorem lastV_range {vs:List Vs} (hv:∀v∈vs,VOk v):0≤(lastV vs).ver∧(lastV vs).ver≤18446744073709551615:=by
 rcases two_ends vs with rfl |⟨ws,w,rfl⟩
 ·exact⟨by decide,by decide⟩
 ·rw[lastV_end];exact(hv w (by simp)).ver
theorem ofK_ok {s:StS} (H:SOk s) (k:Int):(∀v∈ofK s k,VOk v)∧(ofK s k).length<100000:=by
 cases h:lookA s.bs k with
 |none=>rw[ofK_none h];exact⟨by simp,by decide⟩
 |some vs=>rw[ofK_some h];exact H.v k vs h
theorem room_t {s:StS} (h:(((s.bs.map (encA .u32 blkV)).length:Nat):Int)<192):roomS s=true:=decide_eq_true (by rw[List.length_map]at h;omega)
theorem room_i {s:StS} (h:roomS s=true):(((s.bs.map (encA .u32 blkV)).length:Nat):Int)<192:=by
 have:s.bs.length<192:=of_decide_eq_true h
 rw[List.length_map];omega
theorem apply_ok (s:StS) (u:UpR) (H:SOk s) (hu:UOk u):VC EZ 23 2 [.ptr 0 0,.agg (encU u)] (stO s) (RR (encH (applyS s u).1) 2 (stO (applyS s u).2)):=by
 have hs:=hu.seq
 unfold applyS
 by_cases h0:chkU u=0
 ·rw[if_neg (not_not_intro h0)]
  have hc:=check_ok u
  rw[h0]at hc
  obtain⟨hs1,hdl⟩:=okU_seq h0
  have hw:IntKind.u64.wrap (u.seq - 1)=u.seq - 1:=IntWalk.u64_in _ (by omega)
  by_cases h1:u.seq - 1=s.e
  ·rw[if_neg (not_not_intro h1)]
   have hj:=sjudgeV s.t u.client u.num
   have hl:=last_ok {s with e:=u.seq} u.key ⟨H.v⟩
   have hlr:=lastV_range (ofK_ok H u.key).1
   have ho:=outcome_ok u (lastV (ofK s u.key)).ver (roomS s) hlr
   refine VC.enterR LZ (show EZ.func 23=some Tryz.f23 by kernel_rfl) (fun _ _=>rfl) rfl rfl [] ?_
   conv=>whnf
   refine⟨[],[],_,_,_,_,hc,t3,cR ?_⟩
   conv=>whnf
   (first|refine⟨?_,?_⟩|refine nsplit ?_ ?_|refine bsplit ?_ ?_)<;>intro h2<;>have hz_:=True.intro<;>clear hz_
   ·exact absurd rfl h2
   ·((conv=>whnf)<;>repeat(with_reducible refine D1 ?_)<;>conv=>whnf)
    (first|refine⟨?_,?_⟩|refine nsplit ?_ ?_|refine bsplit ?_ ?_)<;>intro h3<;>have hz_:=True.intro<;>clear hz_
    ·have h3:IntKind.u64.wrap (u.seq - 1)≠s.e:=h3
     rw[hw]at h3
     exact absurd h1 h3
    ·((conv=>whnf)<;>repeat(with_reducible refine D1 ?_)<;>conv=>whnf)
     refine⟨[],[some 4],_,_,_,_,hj,t3,cR ?_⟩
     conv=>whnf
     (first|refine⟨?_,?_⟩|refine nsplit ?_ ?_|refine bsplit ?_ ?_)<;>intro h4<;>have hz_:=True.intro<;>clear hz_
     ·have h4:judgeC s.t u.client u.num≠0:=h4
      rw[if_pos h4]
      ((conv=>whnf)<;>repeat(with_reducible refine D1 ?_)<;>conv=>whnf)
      exact⟨[],[some 0,some 1],_,_,_,t3,rfl,rfl,rfl⟩
     ·have h4:¬judgeC s.t u.client u.num≠0:=h4
      rw[if_neg h4]
      ((conv=>whnf)<;>repeat(with_reducible refine D1 ?_)<;>conv=>whnf)
      refine⟨[],[some 0,some 1],_,_,_,_,hl,t3,cR ?_⟩
      conv=>whnf
      rcases hq:outS s u with⟨qc,qv,qb⟩
      rw[show outC u (lastV (ofK s u.key)).ver (roomS s)=(qc,qv,qb)from hq]at ho
      have hqv:0≤qv∧qv≤18446744073709551615:=by
       have:=outC_range (u:=u) (b:=roomS s) hlr
       rw[show outC u (lastV (ofK s u.key)).ver (roomS s)=(qc,qv,qb)from hq]at this
       exact this
      have hrow:rowS s u=⟨u.client,u.num,u.seq,qc,qv⟩:=by unfold rowS;rw[hq]
      have hwr:wrote s u=if qb=true then putS {s with e:=u.seq} u.key ⟨qv,u.seq,u.data⟩else {s with e:=u.seq}:=by unfold wrote;rw[hq]
      rw[hrow,hwr]
      cases qb
      ·rw[if_neg Bool.false_ne_true]
       cases hr:roomS s
       ·rw[hr]at ho
        (first|refine⟨?_,?_⟩|refine nsplit ?_ ?_|refine bsplit ?_ ?_)<;>intro h5<;>have hz_:=True.intro<;>clear hz_
        ·exact absurd ((room_t h5).symm.trans hr) (by decide)
        ·conv=>whnf
         refine⟨[],[],_,_,_,_,ho,t3,cR ?_⟩
         ((conv=>whnf)<;>repeat(with_reducible refine D1 ?_)<;>conv=>whnf)
         refine⟨[],[some 9],_,_,_,_,sset_ok s.t ⟨u.client,u.num,u.seq,qc,qv⟩,t3,cR ?_⟩
         ((conv=>whnf)<;>repeat(with_reducible refine D1 ?_)<;>conv=>whnf)
         exact⟨[],[some 0,some 1],_,_,_,t3,rfl,rfl,rfl⟩
       ·rw[hr]at ho
        (first|refine⟨?_,?_⟩|refine nsplit ?_ ?_|refine bsplit ?_ ?_)<;>intro h5<;>have hz_:=True.intro<;>clear hz_
        ·conv=>whnf
         refine⟨[],[],_,_,_,_,ho,t3,cR ?_⟩
         ((conv=>whnf)<;>repeat(with_reducible refine D1 ?_)<;>conv=>whnf)
         refine⟨[],[some 9],_,_,_,_,sset_ok s.t ⟨u.client,u.num,u.seq,qc,qv⟩,t3,cR ?_⟩
         ((conv=>whnf)<;>repeat(with_reducible refine D1 ?_)<;>conv=>whnf)
         exact⟨[],[some 0,some 1],_,_,_,t3,rfl,rfl,rfl⟩
        ·exact absurd (room_i hr) h5
      ·rw[if_pos rfl]
       cases hr:roomS s
       ·rw[hr]at ho
        (first|refine⟨?_,?_⟩|refine nsplit ?_ ?_|refine bsplit ?_ ?_)<;>intro h5<;>have hz_:=True.intro<;>clear hz_
        ·exact absurd ((room_t h5).symm.trans hr) (by decide)
        ·conv=>whnf
         refine⟨[],[],_,_,_,_,ho,t3,cR ?_⟩
         ((conv=>whnf)<;>repeat(with_reducible refine D1 ?_)<;>conv=>whnf)
         refine⟨[],[],_,_,_,_,made_ok u qv (by omega),t3,cR ?_⟩
         conv=>whnf
         refine⟨[],[some 0,some 1],_,_,_,_,kput_ok {s with e:=u.seq} u.key ⟨qv,u.seq,u.data⟩ hqv ⟨H.v⟩,t3,cR ?_⟩
         ((conv=>whnf)<;>repeat(with_reducible refine D1 ?_)<;>conv=>whnf)
         refine⟨[],[some 11],_,_,_,_,sset_ok s.t ⟨u.client,u.num,u.seq,qc,qv⟩,t3,cR ?_⟩
         ((conv=>whnf)<;>repeat(with_reducible refine D1 ?_)<;>conv=>whnf)
         exact⟨[],[some 0,some 1],_,_,_,t3,rfl,rfl,rfl⟩
       ·rw[hr]at ho
        (first|refine⟨?_,?_⟩|refine nsplit ?_ ?_|refine bsplit ?_ ?_)<;>intro h5<;>have hz_:=True.intro<;>clear hz_
        ·conv=>whnf
         refine⟨[],[],_,_,_,_,ho,t3,cR ?_⟩
         ((conv=>whnf)<;>repeat(with_reducible refine D1 ?_)<;>conv=>whnf)
         refine⟨[],[],_,_,_,_,made_ok u qv (by omega),t3,cR ?_⟩
         conv=>whnf
         refine⟨[],[some 0,some 1],_,_,_,_,kput_ok {s with e:=u.seq} u.key ⟨qv,u.seq,u.data⟩ hqv ⟨H.v⟩,t3,cR ?_⟩
         ((conv=>whnf)<;>repeat(with_reducible refine D1 ?_)<;>conv=>whnf)
         refine⟨[],[some 11],_,_,_,_,sset_ok s.t ⟨u.client,u.num,u.seq,qc,qv⟩,t3,cR ?_⟩
         ((conv=>whnf)<;>repeat(with_reducible refine D1 ?_)<;>conv=>whnf)
         exact⟨[],[some 0,some 1],_,_,_,t3,rfl,rfl,rfl⟩
        ·exact absurd (room_i hr) h5
  ·rw[if_pos h1]
   refine VC.enterR LZ (show EZ.func 23=some Tryz.f23 by kernel_rfl) (fun _ _=>rfl) rfl rfl [] ?_
   conv=>whnf
   refine⟨[],[],_,_,_,_,hc,t3,cR ?_⟩
   conv=>whnf
   (first|refine⟨?_,?_⟩|refine nsplit ?_ ?_|refine bsplit ?_ ?_)<;>intro h2<;>have hz_:=True.intro<;>clear hz_
   ·exact absurd rfl h2
   ·((conv=>whnf)<;>repeat(with_reducible refine D1 ?_)<;>conv=>whnf)
    (first|refine⟨?_,?_⟩|refine nsplit ?_ ?_|refine bsplit ?_ ?_)<;>intro h3<;>have hz_:=True.intro<;>clear hz_
    ·((conv=>whnf)<;>repeat(with_reducible refine D1 ?_)<;>conv=>whnf)
     exact⟨[],[some 0,some 1],_,_,_,t3,rfl,rfl,rfl⟩
    ·have h3:¬IntKind.u64.wrap (u.seq - 1)≠s.e:=h3
     rw[hw]at h3
     exact absurd h1 h3
 ·rw[if_pos h0]
  have hc:=check_ok u
  refine VC.enterR LZ (show EZ.func 23=some Tryz.f23 by kernel_rfl) (fun _ _=>rfl) rfl rfl [] ?_
  conv=>whnf
  refine⟨[],[],_,_,_,_,hc,t3,cR ?_⟩
  conv=>whnf
  (first|refine⟨?_,?_⟩|refine nsplit ?_ ?_|refine bsplit ?_ ?_)<;>intro h2<;>have hz_:=True.intro<;>clear hz_
  ·conv=>whnf
   exact⟨[],[some 0,some 1],_,_,_,t3,rfl,rfl,rfl⟩
  ·exact absurd h0 h2
end Go.M
namespace Go.M
open Go Go.Proofs
set_option maxRecDepth 100000
set_option maxHeartbeats 4000000
def trim1 (s:StS) (d k:Int):StS:=match lookA s.bs k with
 |some vs=>{s with bs:=putA s.bs k (vs.drop (trimN vs d))}
 |none=>s
def trimStep (d:Int) (r:StS×Nat) (k:Int):StS×Nat:=(trim1 r.1 d k,r.2+trimN (ofK r.1 k) d)
def trimA (d:Int) (r:StS×Nat) (ks:List Int):StS×Nat:=ks.foldl (trimStep d) r
theorem trimA_next (d:Int) (r:StS×Nat) (ks:List Int) (i:Nat) (h:i<ks.length):trimA d r (ks.take (i+1))=trimStep d (trimA d r (ks.take i)) ks[i]:=by
 unfold trimA
 rw[List.take_succ_eq_append_getElem h,List.foldl_append];rfl
theorem SOk.put {s:StS} (H:SOk s) {k:Int} {vs:List Vs} (hv:∀v∈vs,VOk v) (hn:vs.length<100000):SOk {s with bs:=putA s.bs k vs}:=⟨fun k' ws h=>by
 rw[lookA_put]at h
 split at h
 ·cases h;exact⟨hv,hn⟩
 ·exact H.v k' ws h⟩
theorem SOk.trim1 {s:StS} (H:SOk s) (d k:Int):SOk (trim1 s d k):=by
 unfold Go.M.trim1
 split
 ·rename_i vs h
  obtain⟨hv,hn⟩:=H.v k vs h
  exact H.put (fun v m=>hv v (List.mem_of_mem_drop m)) (by rw[List.length_drop];omega)
 ·exact H
theorem trimN_nil (d:Int):trimN [] d=0:=by
 show(cleanI [] d).toNat=0
 unfold cleanI;rw[srch_n (by decide)];rfl
theorem trimN_le (vs:List Vs) (d:Int):trimN vs d≤vs.length:=by
 have hle:=srch_le (fun k=>decide (d<(vs.getD k zeroVs).seq)) 0 vs.length (Nat.zero_le _)
 unfold trimN cleanI;omega
theorem trimA_ok {s:StS} (H:SOk s) (d:Int) (ks:List Int):∀i,i≤ks.length→SOk (trimA d (s,0) (ks.take i)).1∧(trimA d (s,0) (ks.take i)).2≤i*100000
 |0,_=>⟨H,Nat.le_refl _⟩
 |i+1,hi=>by
  obtain⟨h1,h2⟩:=trimA_ok H d ks i (by omega)
  rw[trimA_next d _ ks i (by omega)]
  refine⟨h1.trim1 d _,?_⟩
  show _+trimN _ d≤_
  have:=trimN_le (ofK (trimA d (s,0) (ks.take i)).1 ks[i]) d
  have:=(ofK_ok h1 ks[i]).2
  omega
theorem ktrim_ok (s:StS) (d:Int) (H:SOk s) (hn:s.bs.length<4096):VC EZ 28 2 [.ptr 0 0,.s (.int .u64 d)] (stO s)
 (RR (.s (.int .i64 (trimA d (s,0) (sortZ (keysA s.bs))).2)) 2 (stO (trimA d (s,0) (sortZ (keysA s.bs))).1)):=by
 have hk:=kkeys_ok s hn
 have hlen:(sortZ (keysA s.bs)).length<4096:=by unfold sortZ;rw[List.length_mergeSort,List.length_map];exact hn
 generalize sortZ (keysA s.bs)=ks at hk hlen
 have hall:=trimA_ok H d ks
 refine VC.enterR LZ (show EZ.func 28=some Tryz.f28 by kernel_rfl) (fun _ _=>rfl) rfl rfl [] ?_
 conv=>whnf
 refine⟨[],[some 0,some 1],_,_,_,_,hk,t3,cR ?_⟩
 conv=>whnf
 refine⟨fun k f o c=>∃(i:Nat) (r:StS) (n:Nat),trimA d (s,0) (ks.take i)=(r,n)∧i≤ks.length∧k=ks.length - i∧c=2∧f=[(0,.ptr 0 0),(1,.s (.int .u64 d)),(5,.s (.int .i64 n)),(9,.sl 1 (ks.map encK) false),(10,.s (.int .i64 ks.length)),(11,.s (.int .i64 i))]∧o=stO r,⟨ks.length,?_⟩,?_⟩
 ·refine⟨[],[some 0,some 1],?_⟩
  iterate 3 constructor
  refine⟨⟨?_,?_,?_⟩,⟨0,s,0,rfl,Nat.zero_le _,rfl,rfl,rfl,rfl⟩⟩
  all_goals(repeat' first|exact LF|constructor)
  all_goals exact Lz.int (by simp)
 ·rintro k f1 o1 c1 ⟨i,r,n,hr,hi,rfl,rfl,rfl,rfl⟩
  obtain⟨hs,hb⟩:=hall i hi
  rw[hr]at hs hb
  have hs:SOk r:=hs
  have hb:n≤i*100000:=hb
  conv=>whnf
  (first|refine⟨?_,?_⟩|refine nsplit ?_ ?_|refine bsplit ?_ ?_)<;>intro hlt<;>have hz_:=True.intro<;>clear hz_
  ·have hlt:i<ks.length:=by exact Int.ofNat_lt.1 hlt
   have hnx:=trimA_next d (s,0) ks i hlt
   rw[hr]at hnx
   conv=>whnf
   refine⟨encK ks[i],⟨by omega,by simp[hlt]⟩,?_⟩
   conv=>whnf
   cases h:lookA r.bs ks[i]with
   |none=>
    refine⟨[],[some 0,some 1],_,_,_,_,block_no r ks[i] h,t3,cR ?_⟩
    conv=>whnf
    refine⟨[],[],_,_,_,_,btrim_nil d,t3,cR ?_⟩
    conv=>whnf
    refine⟨ks.length - (i+1),?_,by omega⟩
    rw[show trimStep d (r,n) ks[i]=(r,n)from by unfold trimStep;rw[show trim1 r d ks[i]=r from by unfold trim1;rw[h]];rw[ofK_none h,trimN_nil];rfl]at hnx
    rw[show IntKind.i64.wrap ((n:Int)+0)=(n:Int)from by rw[IntWalk.i64_in _ (by omega)];omega]
    exact⟨[],[some 0,some 1],_,_,_,t3,⟨i+1,r,n,hnx,by omega,rfl,rfl,rfl,rfl⟩⟩
   |some vs=>
    obtain⟨hv,hvn⟩:=hs.v _ vs h
    have hm:=trimN_le vs d
    refine⟨[],[some 0,some 1],_,_,_,_,block_is r ks[i] vs h,t3,cR ?_⟩
    conv=>whnf
    refine⟨[],[some 4],_,_,_,_,btrim_ok vs d (by omega),t3,cR ?_⟩
    conv=>whnf
    refine⟨ks.length - (i+1),?_,by omega⟩
    have hst:trimStep d (r,n) ks[i]=({r with bs:=putA r.bs ks[i] (vs.drop (trimN vs d))},n+trimN vs d):=by
     unfold trimStep;rw[show trim1 r d ks[i]={r with bs:=putA r.bs ks[i] (vs.drop (trimN vs d))}from by unfold trim1;rw[h]];rw[ofK_some h]
    rw[hst]at hnx
    rw[show IntKind.i64.wrap ((n:Int)+((trimN vs d:Nat):Int))=((n+trimN vs d:Nat):Int)from by rw[IntWalk.i64_in _ (by omega)];omega]
    rw[show IntKind.i64.wrap ((i:Int)+1)=((i+1:Nat):Int)from by rw[IntWalk.i64_in _ (by omega)];omega]
    refine⟨[],[some 0,some 1],_,_,_,⟨by(repeat' first|exact LF|constructor),.cons (.cells (by(repeat' first|exact LF|constructor))) (.cons (.maq (opc:=[(_,blkV (vs.drop (trimN vs d)))]) .one (Lw.of (put_bs r.bs ks[i] _)) (.m1 (by rfl) (by(repeat' first|exact LF|constructor)))) .nil),by rfl⟩,⟨i+1,{r with bs:=putA r.bs ks[i] (vs.drop (trimN vs d))},n+trimN vs d,hnx,by omega,rfl,rfl,rfl,rfl⟩⟩
  ·have hlt:¬i<ks.length:=fun q=>hlt (Int.ofNat_lt.2 q)
   have:i=ks.length:=by omega
   subst this
   rw[List.take_length]at hr
   rw[hr]
   conv=>whnf
   exact⟨[],[some 0,some 1],_,_,_,t3,rfl,rfl,rfl⟩
end Go.M
namespace Go.M
open Go Go.Proofs
set_option maxHeartbeats 1000000
structure Good (e:Int) (vs:List Vs):Prop where
 up:vs.Pairwise (fun a b=>a.ver<b.ver∧a.seq<b.seq)
 v:∀v∈vs,(1≤v.ver∧v.ver≤18446744073709551615)∧(1≤v.seq∧v.seq≤e)∧v.data.length≤2048
theorem Good.nil (e:Int):Good e []:=⟨.nil,by simp⟩
theorem Good.mono {e e':Int} {vs:List Vs} (h:Good e vs) (he:e≤e'):Good e' vs:=⟨h.up,fun v m=>by have:=h.v v m;omega⟩
theorem Good.drop {e:Int} {vs:List Vs} (h:Good e vs) (n:Nat):Good e (vs.drop n):=⟨h.up.sublist (List.drop_sublist ..),fun v m=>h.v v (List.mem_of_mem_drop m)⟩
theorem Good.vok {e:Int} {vs:List Vs} (h:Good e vs) (he:e≤18446744073709551615):∀v∈vs,VOk v:=fun v m=>by
 have:=h.v v m
 exact⟨by omega,by omega,this.2.2⟩
theorem lastV_nil:lastV []=zeroVs:=atV_nil _
theorem Good.new {e:Int} {vs:List Vs} (h:Good e vs) {d:List Int} (hd:d.length≤2048) (he:0≤e) (hv:(lastV vs).ver<18446744073709551615):Good (e+1) (vs++[⟨(lastV vs).ver+1,e+1,d⟩]):=by
 rcases two_ends vs with rfl |⟨ws,w,rfl⟩
 ·rw[lastV_nil]
  exact⟨by simp,by simp;omega⟩
 ·rw[lastV_end]at hv ⊢
  have hw:=h.v w (by simp)
  have hu:=h.up
  rw[List.pairwise_append]at hu
  refine⟨?_,fun v m=>?_⟩
  ·rw[List.pairwise_append]
   refine⟨h.up,by simp,fun a ha b hb=>?_⟩
   simp only[List.mem_singleton]at hb
   subst hb
   have ha':=h.v a ha
   show a.ver<w.ver+1∧a.seq<e+1
   rcases List.mem_append.1 ha with q|q
   ·have:=hu.2.2 a q w (by simp);omega
   ·simp only[List.mem_singleton]at q;subst q;omega
  ·rcases List.mem_append.1 m with q|q
   ·have:=h.v v q;omega
   ·simp only[List.mem_singleton]at q;subst q
    exact⟨⟨by show 1≤w.ver+1;omega,by show w.ver+1≤_;omega⟩,⟨by show 1≤e+1;omega,Int.le_refl _⟩,hd⟩
theorem Good.last {e:Int} {vs:List Vs} (h:Good e vs) (he:0≤e):0≤(lastV vs).ver∧(lastV vs).ver≤18446744073709551615∧(lastV vs).seq≤e:=by
 rcases two_ends vs with rfl |⟨ws,w,rfl⟩
 ·rw[lastV_nil];exact⟨by decide,by decide,he⟩
 ·rw[lastV_end];have:=h.v w (by simp);omega
theorem putB_new {e:Int} {vs:List Vs} (h:Good e vs) (he:0≤e) {d:List Int} (hd:d.length≤2048):putB vs ⟨(lastV vs).ver+1,e+1,d⟩=vs++[⟨(lastV vs).ver+1,e+1,d⟩]:=by
 have hl:=h.last he
 unfold putB
 rw[if_pos]
 unfold putE
 rw[if_neg (by show¬2048<d.length;omega),if_neg (by show¬((lastV vs).ver+1=0∨e+1=0);omega),if_neg]
 show¬(0<vs.length∧((lastV vs).ver+1 - 1≠(lastV vs).ver∨e+1≤(lastV vs).seq))
 omega
theorem outC_made {u:UpR} {ver:Int} {b:Bool} (h:(outC u ver b).2.2=true):(outC u ver b).2.1=ver+1∧ver≠18446744073709551615∧(b=true∨ver≠0):=by
 unfold outC at h ⊢
 split
 ·rename_i hk
  rw[if_pos hk]at h
  split
  ·rename_i h2;rw[if_pos h2]at h;cases h
  ·rename_i h2;rw[if_neg h2]at h
   split
   ·rename_i h3;rw[if_pos h3]at h;cases h
   ·rename_i h3
    refine⟨rfl,fun q=>h3 (.inr q),?_⟩
    cases b
    ·exact .inr fun q=>h3 (.inl ⟨q,rfl⟩)
    ·exact .inl rfl
 ·rename_i hk;rw[if_neg hk]at h;cases h
structure SInv (s:StS) (n:Nat):Prop where
 e:0≤s.e∧s.e≤18446744073709551615
 nd:(keysA s.bs).Nodup
 len:s.bs.length≤n+192
 g:∀k,Good s.e (ofK s k)
 gl:∀k,(ofK s k).length≤n+1
theorem SInv.ok {s:StS} {n:Nat} (H:SInv s n) (hn:n<90000):SOk s:=⟨fun k vs h=>by
 have g:=H.g k
 have gl:=H.gl k
 rw[ofK_some h]at g gl
 exact⟨g.vok H.e.2,by omega⟩⟩
theorem SInv.zero:SInv ⟨0,[],zeroTab⟩ 0:=⟨⟨by decide,by decide⟩,.nil,by decide,fun k=>.nil _,fun k=>Nat.zero_le _⟩
theorem ofK_put {s:StS} {k k':Int} {vs:List Vs}:ofK {s with bs:=putA s.bs k vs} k'=if k'=k then vs else ofK s k':=by
 unfold ofK
 rw[lookA_put]
 split<;>rfl
theorem applyS_cases (s:StS) (u:UpR) (H:∀k,Good s.e (ofK s k)) (he:0≤s.e):
 (applyS s u).2=s∨(u.seq=s.e+1∧((∃t,(applyS s u).2={s with e:=u.seq,t:=t})∨
  ∃t,u.data.length≤2048∧(lastV (ofK s u.key)).ver≠18446744073709551615∧(s.bs.length<192∨(lastV (ofK s u.key)).ver≠0)∧(applyS s u).2={e:=u.seq,t:=t,bs:=putA s.bs u.key (ofK s u.key++[⟨(lastV (ofK s u.key)).ver+1,u.seq,u.data⟩])})):=by
 unfold applyS
 split
 ·exact .inl rfl
 ·rename_i h0
  have h0:chkU u=0:=Decidable.not_not.1 h0
  split
  ·exact .inl rfl
  ·rename_i h1
   have h1:u.seq=s.e+1:=by have:=Decidable.not_not.1 h1;omega
   refine .inr ⟨h1,?_⟩
   split
   ·exact .inl ⟨s.t,rfl⟩
   ·by_cases hm:(outS s u).2.2=true
    ·obtain⟨hv,hx,hr⟩:=outC_made hm
     refine .inr ⟨setT s.t (rowS s u),(okU_seq h0).2,hx,?_,?_⟩
     ·rcases hr with hr|hr
      ·exact .inl (of_decide_eq_true hr)
      ·exact .inr hr
     ·show {wrote s u with t:=setT s.t (rowS s u)}=_
      unfold wrote
      rw[if_pos hm]
      have:(outS s u).2.1=(lastV (ofK s u.key)).ver+1:=hv
      rw[this]
      have hp:=putB_new (H u.key) he (okU_seq h0).2
      rw[←h1]at hp
      show(⟨u.seq,putA s.bs u.key (putB (ofK s u.key) ⟨(lastV (ofK s u.key)).ver+1,u.seq,u.data⟩),_⟩:StS)=_
      rw[hp]
    ·refine .inl ⟨setT s.t (rowS s u),?_⟩
     show {wrote s u with t:=setT s.t (rowS s u)}=_
     unfold wrote
     rw[if_neg hm]
theorem SInv.apply {s:StS} {n:Nat} (H:SInv s n) (u:UpR) (hu:UOk u):SInv (applyS s u).2 (n+1):=by
 have hl:=H.len
 rcases applyS_cases s u H.g H.e.1 with h|⟨h1,⟨t,h⟩|⟨t,hd,hm,_,h⟩⟩
 ·rw[h];exact⟨H.e,H.nd,by omega,H.g,fun k=>Nat.le_succ_of_le (H.gl k)⟩
 ·rw[h]
  exact⟨hu.seq,H.nd,by show s.bs.length≤_;omega,fun k=>(H.g k).mono (by show _≤u.seq;omega),fun k=>Nat.le_succ_of_le (H.gl k)⟩
 ·have hof:∀k',ofK (⟨u.seq,putA s.bs u.key (ofK s u.key++[⟨(lastV (ofK s u.key)).ver+1,u.seq,u.data⟩]),t⟩:StS) k'=if k'=u.key then ofK s u.key++[⟨(lastV (ofK s u.key)).ver+1,u.seq,u.data⟩]else ofK s k':=fun k'=>ofK_put (s:=s)
  rw[h]
  refine⟨hu.seq,putA_nodup H.nd,?_,fun k=>?_,fun k=>?_⟩
  ·have:=putA_len s.bs u.key (ofK s u.key++[⟨(lastV (ofK s u.key)).ver+1,u.seq,u.data⟩])
   show(putA _ _ _).length≤_
   omega
  ·rw[hof]
   split
   ·rw[h1];exact(H.g _).new hd H.e.1 (by have:=(H.g u.key).last H.e.1;omega)
   ·exact(H.g k).mono (by show _≤u.seq;omega)
  ·rw[hof]
   split
   ·have:=H.gl u.key;rw[List.length_append];show _+1≤_;omega
   ·exact Nat.le_succ_of_le (H.gl k)
structure Ext (s t:StS):Prop where
 e:s.e≤t.e
 b:∀k,∃ws,ofK t k=ofK s k++ws∧∀w∈ws,s.e<w.seq
theorem Ext.trans {s t r:StS} (h:Ext s t) (k:Ext t r):Ext s r:=⟨Int.le_trans h.e k.e,fun n=>by
 obtain⟨a,h1,h2⟩:=h.b n
 obtain⟨b,k1,k2⟩:=k.b n
 refine⟨a++b,by rw[k1,h1,List.append_assoc],fun w m=>?_⟩
 rcases List.mem_append.1 m with q|q
 ·exact h2 w q
 ·have:=k2 w q;have:=h.e;omega⟩
theorem getD_app {A B:List Vs} (k:Nat):(A++B).getD k zeroVs=if k<A.length then A.getD k zeroVs else B.getD (k - A.length) zeroVs:=by
 simp only[List.getD,List.getElem?_append]
 split<;>rfl
theorem getD_mem {A:List Vs} {k:Nat} (h:k<A.length):A.getD k zeroVs∈A:=by simp[List.getD,h]
theorem srch_app (p:Vs→Bool) {A B:List Vs} (hA:∀a∈A,p a=false) (hB:∀b∈B,p b=true):srch (fun k=>p ((A++B).getD k zeroVs)) 0 (A++B).length=A.length:=by
 refine srch_eq _ (A++B).length A.length (fun k hk=>?_) (fun k h1 h2=>?_) 0 _ (Nat.zero_le _) (by simp) (Nat.le_refl _)
 ·rw[getD_app,if_pos hk];exact hA _ (getD_mem hk)
 ·rw[getD_app,if_neg (by omega)];rw[List.length_append]at h2;exact hB _ (getD_mem (by omega))
theorem clean_app {A B:List Vs} {d:Int} (hA:∀a∈A,a.seq≤d) (hB:∀b∈B,d<b.seq):cleanI (A++B) d=(A.length:Int) - 1:=by
 unfold cleanI
 rw[srch_app (fun v=>decide (d<v.seq)) (fun a m=>decide_eq_false (by have:=hA a m;omega)) (fun b m=>decide_eq_true (hB b m))]
theorem pick_app {A B:List Vs} {v:Int} (hA:∀a∈A,a.ver<v) (hB:∀b∈B,v≤b.ver):pickI (A++B) v=A.length:=by
 unfold pickI
 rw[srch_app (fun x=>decide (v≤x.ver)) (fun a m=>decide_eq_false (by have:=hA a m;omega)) (fun b m=>decide_eq_true (hB b m))]
theorem atV_last {A B:List Vs}:atV (A++B) ((A.length:Int) - 1)=lastV A:=by
 rcases two_ends A with rfl |⟨ws,w,rfl⟩
 ·rw[lastV_nil];exact atV_out (.inl (by decide))
 ·rw[lastV_end]
  rw[show(((ws++[w]).length:Nat):Int) - 1=((ws.length:Nat):Int)from by simp,atV_in (by simp)]
  simp
theorem atV_mid {A B:List Vs}:atV (A++B) (A.length:Nat)=B.headD zeroVs:=by
 cases B with
 |nil=>rw[List.append_nil];exact atV_out (.inr (Int.le_refl _))
 |cons b B=>rw[atV_in (by simp)];simp
theorem Good.split_seq {e:Int} {vs:List Vs} (h:Good e vs) (d:Int):∃A B,vs=A++B∧(∀a∈A,a.seq≤d)∧∀b∈B,d<b.seq:=by
 obtain⟨hu,_⟩:=h
 induction vs with
 |nil=>exact⟨[],[],rfl,by simp,by simp⟩
 |cons v vs ih=>
  rw[List.pairwise_cons]at hu
  by_cases hv:v.seq≤d
  ·obtain⟨A,B,rfl,h1,h2⟩:=ih hu.2 (fun x m=>by rename_i q;exact q x (List.mem_cons_of_mem _ m))
   exact⟨v::A,B,rfl,by simpa using⟨hv,h1⟩,h2⟩
  ·exact⟨[],v::vs,rfl,by simp,fun b m=>by
    rcases List.mem_cons.1 m with rfl |m
    ·omega
    ·have:=hu.1 b m;omega⟩
theorem Good.split_ver {e:Int} {vs:List Vs} (h:Good e vs) (d:Int):∃A B,vs=A++B∧(∀a∈A,a.ver<d)∧∀b∈B,d≤b.ver:=by
 obtain⟨hu,_⟩:=h
 induction vs with
 |nil=>exact⟨[],[],rfl,by simp,by simp⟩
 |cons v vs ih=>
  rw[List.pairwise_cons]at hu
  by_cases hv:v.ver<d
  ·obtain⟨A,B,rfl,h1,h2⟩:=ih hu.2 (fun x m=>by rename_i q;exact q x (List.mem_cons_of_mem _ m))
   exact⟨v::A,B,rfl,by simpa using⟨hv,h1⟩,h2⟩
  ·exact⟨[],v::vs,rfl,by simp,fun b m=>by
    rcases List.mem_cons.1 m with rfl |m
    ·omega
    ·have:=hu.1 b m;omega⟩
theorem ofK_trim1 (s:StS) (d k k':Int):ofK (trim1 s d k) k'=if k'=k then(ofK s k).drop (trimN (ofK s k) d)else ofK s k':=by
 unfold trim1
 split
 ·rename_i vs h
  rw[ofK_put,ofK_some h]
 ·rename_i h
  split
  ·rename_i hk;rw[hk,ofK_none h];simp
  ·rfl
theorem trim1_e (s:StS) (d k:Int):(trim1 s d k).e=s.e∧(trim1 s d k).t=s.t:=by unfold trim1;split<;>exact⟨rfl,rfl⟩
theorem trim1_keys (s:StS) (d k:Int):keysA (trim1 s d k).bs=keysA s.bs:=by
 unfold trim1
 split
 ·rename_i vs h
  show keysA (putA _ _ _)=_
  rw[putA_keys,if_pos]
  have:=mt (lookA_none (n:=k) (es:=s.bs)).2
  refine Decidable.not_not.1 fun q=>?_
  rw[lookA_none.2 q]at h;cases h
 ·rfl
theorem trimA_keys (d:Int):∀(ks:List Int) (r:StS×Nat),keysA (trimA d r ks).1.bs=keysA r.1.bs∧(trimA d r ks).1.e=r.1.e∧(trimA d r ks).1.t=r.1.t
 |[],r=>⟨rfl,rfl,rfl⟩
 |k::ks,r=>by
  obtain⟨h1,h2,h3⟩:=trimA_keys d ks (trimStep d r k)
  refine⟨h1.trans (trim1_keys ..),h2.trans (trim1_e ..).1,h3.trans (trim1_e ..).2⟩
theorem trimA_of (d:Int):∀(ks:List Int) (r:StS×Nat),ks.Nodup→∀k,ofK (trimA d r ks).1 k=if k∈ks then(ofK r.1 k).drop (trimN (ofK r.1 k) d)else ofK r.1 k
 |[],r,_,k=>by simp[trimA]
 |k0::ks,r,hn,k=>by
  rw[List.nodup_cons]at hn
  have ih:=trimA_of d ks (trimStep d r k0) hn.2 k
  rw[show trimA d r (k0::ks)=trimA d (trimStep d r k0) ks from rfl,ih]
  have h1:ofK (trimStep d r k0).1 k=if k=k0 then(ofK r.1 k0).drop (trimN (ofK r.1 k0) d)else ofK r.1 k:=ofK_trim1 ..
  rw[h1]
  by_cases hk:k=k0
  ·subst hk;simp[hn.1]
  ·simp[hk]
theorem sortZ_mem {l:List Int} {k:Int}:k∈sortZ l↔k∈l:=by unfold sortZ;exact List.mem_mergeSort
theorem sortZ_nodup {l:List Int} (h:l.Nodup):(sortZ l).Nodup:=by unfold sortZ;exact(List.mergeSort_perm l _).nodup_iff.2 h
def trimS (s:StS) (d:Int):StS:=(trimA d (s,0) (sortZ (keysA s.bs))).1
theorem trimS_of {s:StS} (hn:(keysA s.bs).Nodup) (d k:Int):ofK (trimS s d) k=(ofK s k).drop (trimN (ofK s k) d):=by
 unfold trimS
 rw[trimA_of d _ _ (sortZ_nodup hn)]
 split
 ·rfl
 ·rename_i h
  rw[sortZ_mem]at h
  rw[ofK_none (lookA_none.2 h)];simp
theorem SInv.trim {s:StS} {n:Nat} (H:SInv s n) (d:Int):SInv (trimS s d) n:=by
 obtain⟨h1,h2,h3⟩:=trimA_keys d (sortZ (keysA s.bs)) (s,0)
 have h1:keysA (trimS s d).bs=keysA s.bs:=h1
 have h2:(trimS s d).e=s.e:=h2
 refine⟨by rw[h2];exact H.e,by rw[h1];exact H.nd,?_,fun k=>?_,fun k=>?_⟩
 ·have:=congrArg List.length h1
  simp only[keysA,List.length_map]at this
  rw[this];exact H.len
 ·rw[trimS_of H.nd,h2];exact(H.g k).drop _
 ·rw[trimS_of H.nd,List.length_drop];have:=H.gl k;omega
end Go.M
namespace Go.M
open Go Go.Proofs
set_option maxRecDepth 100000
set_option maxHeartbeats 4000000
structure RfS where
 e:Int
 bs:List (Int×List Vs)
 rows:List RowS
@[reducible] def vsL (vs:List Vs):TV:=.sl 3 (vs.map encV) false
@[reducible] def encBl (b:Int×List Vs):List TV:=[.s (.int .u32 b.1),vsL b.2]
@[reducible] def encRf (r:RfS):List TV:=[.s (.int .u64 r.e),.sl 2 (r.bs.map encBl) false,.sl 5 (r.rows.map encR) false]
theorem lookA_at {α:Type} {l:List (Int×α)} {k:Int} {i:Nat} (h:i<l.length) (h0:∀b∈l.take i,b.1≠k) (hk:l[i].1=k):lookA l k=some l[i].2:=by
 induction l generalizing i with
 |nil=>simp at h
 |cons b l ih=>
  unfold lookA
  cases i with
  |zero=>rw[if_pos (by simpa using hk.symm)];rfl
  |succ i=>
   rw[if_neg (by have:=h0 b (by simp);exact fun q=>this q.symm)]
   exact ih (by simpa using h) (fun b' m=>h0 b' (by simp[m])) (by simpa using hk)
theorem lookA_no {α:Type} {l:List (Int×α)} {k:Int} (h0:∀b∈l,b.1≠k):lookA l k=none:=by
 induction l with
 |nil=>rfl
 |cons b l ih=>unfold lookA;rw[if_neg (fun q=>h0 b (by simp) q.symm),ih fun b' m=>h0 b' (by simp[m])]
theorem take_all {α:Type} {l:List α} {P:α→Prop} {i:Nat} (h:i<l.length) (h0:∀b∈l.take i,P b) (hk:P l[i]):∀b∈l.take (i+1),P b:=by
 rw[List.take_succ_eq_append_getElem h]
 intro b m
 rcases List.mem_append.1 m with m|m
 ·exact h0 b m
 ·simp only[List.mem_singleton]at m;subst m;exact hk
@[reducible] def ofR (r:RfS) (k:Int):List Vs:=(lookA r.bs k).getD []
theorem rof_ok (r:RfS) (k:Int) (hn:r.bs.length<1000000):VC EZ 70 0 [.agg (encRf r),.s (.int .u32 k)] [] (RR (vsL (ofR r k)) 0 []):=by
 refine VC.enterR LZ (show EZ.func 70=some Tryz.f70 by kernel_rfl) (fun _ _=>rfl) rfl rfl [] ?_
 conv=>whnf
 refine⟨fun k' f o c=>∃i:Nat,i≤r.bs.length∧k'=r.bs.length - i∧(∀b∈r.bs.take i,b.1≠k)∧c=1∧f=[(1,.s (.int .u32 k)),(2,.ptr 0 0),(5,.s (.int .i64 i))]∧o=[(0,.cells (encRf r))],⟨r.bs.length,?_⟩,?_⟩
 ·exact⟨[],[some 0],_,_,_,t3,⟨0,Nat.zero_le _,rfl,by simp,rfl,rfl,rfl⟩⟩
 ·rintro k' f1 o1 c1 ⟨i,hi,rfl,h0,rfl,rfl,rfl⟩
  conv=>whnf
  (first|refine⟨?_,?_⟩|refine nsplit ?_ ?_|refine bsplit ?_ ?_)<;>intro h<;>have hz_:=True.intro<;>clear hz_
  ·have h:i<r.bs.length:=lenlt.1 h
   conv=>whnf
   refine idxI h ?_
   conv=>whnf
   (first|refine⟨?_,?_⟩|refine nsplit ?_ ?_|refine bsplit ?_ ?_)<;>intro he<;>have hz_:=True.intro<;>clear hz_
   ·have he:r.bs[i].1=k:=he
    conv=>whnf
    refine idxI h ?_
    conv=>whnf
    refine⟨[],[],?_⟩
    iterate 3 constructor
    refine⟨⟨?_,?_,?_⟩,rfl,rfl,rfl⟩
    all_goals(repeat' first|exact LF|constructor)
    exact Lw.of (by unfold ofR;rw[lookA_at h h0 he];rfl)
   ·have he:¬r.bs[i].1=k:=he
    conv=>whnf
    refine⟨r.bs.length - (i+1),?_,by omega⟩
    exact⟨[],[some 0],_,_,_,t3,⟨i+1,h,rfl,take_all h h0 he,rfl,rfl,rfl⟩⟩
  ·have hi':i=r.bs.length:=by have:=mt lenlt.2 h
                              omega
   subst hi'
   rw[List.take_length]at h0
   conv=>whnf
   refine⟨[],[],?_⟩
   iterate 3 constructor
   refine⟨⟨?_,?_,?_⟩,rfl,rfl,rfl⟩
   all_goals(repeat' first|exact LF|constructor)
   exact Lw.of (by unfold ofR;rw[lookA_no h0];rfl)
theorem rlast_ok (vs:List Vs) (hn:vs.length<1000000):VC EZ 72 0 [vsL vs] [] (RR (.agg (encV (lastV vs))) 0 []):=by
 refine VC.enterR LZ (show EZ.func 72=some Tryz.f72 by kernel_rfl) (fun _ _=>rfl) rfl rfl [] ?_
 conv=>whnf
 rcases two_ends vs with rfl |⟨ws,w,rfl⟩
 ·rw[lastV_nil]
  (first|refine⟨?_,?_⟩|refine nsplit ?_ ?_|refine bsplit ?_ ?_)<;>intro h<;>have hz_:=True.intro<;>clear hz_
  ·conv=>whnf
   exact⟨[],[],_,_,_,t3,rfl,rfl,rfl⟩
  ·exact absurd rfl h
 ·rw[lastV_end]
  have hn:ws.length+1<1000000:=by simpa using hn
  have hw:IntKind.i64.wrap ((((ws++[w]).map encV).length:Int) - 1)=((ws.length:Nat):Int):=by rw[IntWalk.i64_in _ (by simp;omega)];simp
  (first|refine⟨?_,?_⟩|refine nsplit ?_ ?_|refine bsplit ?_ ?_)<;>intro h<;>have hz_:=True.intro<;>clear hz_
  ·have h:(((ws++[w]).map encV).length:Int)=0:=h
   rw[List.length_map,List.length_append]at h
   simp at h
   omega
  ·conv=>whnf
   refine⟨encV w,⟨by rw[hw];omega,by rw[hw];simp⟩,?_⟩
   conv=>whnf
   exact⟨[],[],_,_,_,t3,rfl,rfl,rfl⟩
def getR (rows:List RowS) (c:Int):Option RowS:=rows.find? fun r=>decide (r.client=c)
theorem getR_at {rows:List RowS} {c:Int} {i:Nat} (h:i<rows.length) (h0:∀r∈rows.take i,r.client≠c) (hk:rows[i].client=c):getR rows c=some rows[i]:=by
 unfold getR
 rw[List.find?_eq_some_iff_append]
 refine⟨by simpa using hk,rows.take i,rows.drop (i+1),(List.take_append_drop i rows).symm.trans (by rw[List.drop_eq_getElem_cons h]),fun a m=>by simpa using h0 a m⟩
theorem getR_no {rows:List RowS} {c:Int} (h0:∀r∈rows,r.client≠c):getR rows c=none:=by
 unfold getR
 rw[List.find?_eq_none]
 exact fun a m=>by simpa using h0 a m
@[reducible] def rowsL (rows:List RowS):TV:=.sl 5 (rows.map encR) false
@[reducible] def encGR (o:Option RowS):TV:=.tup [.agg (encR (o.getD zeroR)),.s (.bool o.isSome)]
theorem rget_ok (rows:List RowS) (c:Int) (hn:rows.length<1000000):VC EZ 96 0 [rowsL rows,.s (.int .i64 c)] [] (RR (encGR (getR rows c)) 0 []):=by
 refine VC.enterR LZ (show EZ.func 96=some Tryz.f96 by kernel_rfl) (fun _ _=>rfl) rfl rfl [] ?_
 conv=>whnf
 refine⟨fun k' f o cc=>∃i:Nat,i≤rows.length∧k'=rows.length - i∧(∀b∈rows.take i,b.client≠c)∧cc=1∧f=[(0,rowsL rows),(1,.s (.int .i64 c)),(4,.ptr 0 0),(6,.s (.int .i64 i))]∧o=[(0,.cells (encR zeroR))],⟨rows.length,?_⟩,?_⟩
 ·exact⟨[],[some 0],_,_,_,t3,⟨0,Nat.zero_le _,rfl,by simp,rfl,rfl,rfl⟩⟩
 ·rintro k' f1 o1 c1 ⟨i,hi,rfl,h0,rfl,rfl,rfl⟩
  conv=>whnf
  (first|refine⟨?_,?_⟩|refine nsplit ?_ ?_|refine bsplit ?_ ?_)<;>intro h<;>have hz_:=True.intro<;>clear hz_
  ·have h:i<rows.length:=lenlt.1 h
   conv=>whnf
   refine idxI h ?_
   conv=>whnf
   (first|refine⟨?_,?_⟩|refine nsplit ?_ ?_|refine bsplit ?_ ?_)<;>intro he<;>have hz_:=True.intro<;>clear hz_
   ·have he:rows[i].client=c:=he
    rw[getR_at h h0 he]
    conv=>whnf
    refine idxI h ?_
    conv=>whnf
    exact⟨[],[],_,_,_,t3,rfl,rfl,rfl⟩
   ·have he:¬rows[i].client=c:=he
    conv=>whnf
    refine⟨rows.length - (i+1),?_,by omega⟩
    exact⟨[],[some 0],_,_,_,t3,⟨i+1,h,rfl,take_all h h0 he,rfl,rfl,rfl⟩⟩
  ·have hi':i=rows.length:=by have:=mt lenlt.2 h
                              omega
   subst hi'
   rw[List.take_length]at h0
   rw[getR_no h0]
   conv=>whnf
   exact⟨[],[],_,_,_,t3,rfl,rfl,rfl⟩
def judgeR (rows:List RowS) (c n:Int):Int:=if¬(1≤c∧c≤6)∨n=0 then 2 else match getR rows c with
 |none=>0
 |some r=>if r.num<n then 0 else if r.num=n then 1 else 2
theorem rjudge_ok (rows:List RowS) (c n:Int) (hn:rows.length<1000000):VC EZ 69 0 [rowsL rows,.s (.int .i64 c),.s (.int .u64 n)] [] (RR (.s (.int .i64 (judgeR rows c n))) 0 []):=by
 have hg:=rget_ok rows c hn
 refine VC.enterR LZ (show EZ.func 69=some Tryz.f69 by kernel_rfl) (fun _ _=>rfl) rfl rfl [] ?_
 conv=>whnf
 by_cases h0:¬(1≤c∧c≤6)∨n=0
 ·rw[show judgeR rows c n=2 from if_pos h0]
  repeat'(first|((first|(refine⟨fun h=>?_,fun h=>?_⟩)|(refine nsplit (fun h=>?_) (fun h=>?_))|(refine bsplit (fun h=>?_) (fun h=>?_)))<;>(conv=>whnf)))
  all_goals first|(exfalso;simp at*;omega)|skip
  all_goals
   exact⟨[],[],_,_,_,t3,rfl,rfl,rfl⟩
 ·rw[show judgeR rows c n=(match getR rows c with|none=>0|some r=>if r.num<n then 0 else if r.num=n then 1 else 2)from if_neg h0]
  cases hr:getR rows c with
  |none=>
   rw[hr]at hg
   repeat'(first|((first|(refine⟨fun h=>?_,fun h=>?_⟩)|(refine nsplit (fun h=>?_) (fun h=>?_))|(refine bsplit (fun h=>?_) (fun h=>?_)))<;>(conv=>whnf)))
   all_goals first|(exfalso;simp at*;omega)|skip
   all_goals
    refine⟨[],[],_,_,_,_,hg,t3,cR ?_⟩
    conv=>whnf
    exact⟨[],[],_,_,_,t3,rfl,rfl,rfl⟩
  |some r=>
   rw[hr]at hg
   repeat'(first|((first|(refine⟨fun h=>?_,fun h=>?_⟩)|(refine nsplit (fun h=>?_) (fun h=>?_))|(refine bsplit (fun h=>?_) (fun h=>?_)))<;>(conv=>whnf)))
   all_goals first|(exfalso;simp at*;omega)|skip
   all_goals
    refine⟨[],[],_,_,_,_,hg,t3,cR ?_⟩
    conv=>whnf
    repeat'(first|((first|(refine⟨fun h=>?_,fun h=>?_⟩)|(refine nsplit (fun h=>?_) (fun h=>?_))|(refine bsplit (fun h=>?_) (fun h=>?_)))<;>(conv=>whnf)))
    all_goals
     refine⟨[],[],?_⟩
     iterate 3 constructor
     refine⟨⟨?_,?_,?_⟩,rfl,rfl,rfl⟩
     all_goals(repeat' first|exact LF|constructor)
     exact Lz.int (by simp at*;omega)
end Go.M
namespace Go.M
open Go Go.Proofs
set_option maxRecDepth 100000
set_option maxHeartbeats 4000000
def insBy {α:Type} (key:α→Int) (x:α):List α→List α
 |[]=>[x]
 |a::l=>if key a<key x then a::insBy key x l else if key a=key x then x::l else x::a::l
theorem insBy_at {α:Type} {key:α→Int} {x:α} {l:List α} {i:Nat} (h0:∀a∈l.take i,key a<key x) (h:i<l.length) (h1:¬key l[i]<key x):
 insBy key x l=l.take i++x::l.drop (if key l[i]=key x then i+1 else i):=by
 induction l generalizing i with
 |nil=>simp at h
 |cons a l ih=>
  cases i with
  |zero=>
   have h1:¬key a<key x:=h1
   show(if key a<key x then _ else _)=_
   rw[if_neg h1]
   show _=x::(a::l).drop (if key a=key x then 0+1 else 0)
   split<;>rfl
  |succ i=>
   have ha:key a<key x:=h0 a (by simp)
   have h:i<l.length:=Nat.lt_of_succ_lt_succ h
   show(if key a<key x then _ else _)=_
   rw[if_pos ha,ih (i:=i) (fun b m=>h0 b (by simp[m])) h (by simpa using h1)]
   show _=a::(l.take i++x::(a::l).drop (if key l[i]=key x then i+1+1 else i+1))
   split<;>rfl
theorem insBy_end {α:Type} {key:α→Int} {x:α} {l:List α} (h0:∀a∈l,key a<key x):insBy key x l=l++[x]:=by
 induction l with
 |nil=>rfl
 |cons a l ih=>
  show(if key a<key x then _ else _)=_
  rw[if_pos (h0 a (by simp)),ih fun b m=>h0 b (by simp[m])];rfl
@[reducible] def keyRow (r:RowS):Int:=r.client
theorem rput16_ok (l:List RowS) (x:RowS) (hn:l.length<1000):VC EZ 76 0 [rowsL l,.agg (encR x)] [] (RR (rowsL (insBy keyRow x l)) 0 []):=by
 refine VC.enterR LZ (show EZ.func 76=some Tryz.f76 by kernel_rfl) (fun _ _=>rfl) rfl rfl [] ?_
 conv=>whnf
 refine⟨fun k' f o cc=>∃i:Nat,i≤l.length∧k'=l.length - i∧(∀b∈l.take i,keyRow b<keyRow x)∧cc=2∧f=[(0,.sl 5 (l.map encR) false),(3,.ptr 0 0),(5,.tk 1),(6,.s (.int .i64 i))]∧o=[(0,.cells (encR x)),(1,.arr 5 true ((l.take i).map encR))],⟨l.length,?_⟩,?_⟩
 ·exact⟨[],[some 0,none],_,_,_,t3,⟨0,Nat.zero_le _,rfl,by simp,rfl,rfl,rfl⟩⟩
 ·rintro k' f1 o1 c1 ⟨i,hi,rfl,h0,rfl,rfl,rfl⟩
  ((conv=>whnf)<;>repeat(with_reducible refine D1 ?_)<;>conv=>whnf)
  (first|refine⟨?_,?_⟩|refine nsplit ?_ ?_|refine bsplit ?_ ?_)<;>intro h<;>have hz_:=True.intro<;>clear hz_
  ·have h:i<l.length:=lenlt.1 h
   conv=>whnf
   refine idxI h ?_
   conv=>whnf
   (first|refine⟨?_,?_⟩|refine nsplit ?_ ?_|refine bsplit ?_ ?_)<;>intro he<;>have hz_:=True.intro<;>clear hz_
   ·have he:keyRow l[i]<keyRow x:=he
    ((conv=>whnf)<;>repeat(with_reducible refine D1 ?_)<;>conv=>whnf)
    refine idxI h ?_
    conv=>whnf
    refine⟨by simp;omega,?_⟩
    conv=>whnf
    refine⟨l.length - (i+1),?_,by omega⟩
    refine⟨[],[some 0,some 3],?_⟩
    iterate 3 constructor
    refine⟨⟨?_,?_,?_⟩,⟨i+1,h,rfl,take_all h h0 he,rfl,rfl,rfl⟩⟩
    all_goals(repeat' first|exact LF|constructor)
    all_goals exact Lz.of (by rw[List.take_succ_eq_append_getElem h,List.map_append];rfl)
   ·have he:¬keyRow l[i]<keyRow x:=he
    rw[insBy_at h0 h he]
    ((conv=>whnf)<;>repeat(with_reducible refine D1 ?_)<;>conv=>whnf)
    refine⟨by simp;omega,?_⟩
    ((conv=>whnf)<;>repeat(with_reducible refine D1 ?_)<;>conv=>whnf)
    (first|refine⟨?_,?_⟩|refine nsplit ?_ ?_|refine bsplit ?_ ?_)<;>intro h2<;>have hz_:=True.intro<;>clear hz_
    ·conv=>whnf
     refine idxI h ?_
     conv=>whnf
     (first|refine⟨?_,?_⟩|refine nsplit ?_ ?_|refine bsplit ?_ ?_)<;>intro h3<;>have hz_:=True.intro<;>clear hz_
     ·have h3:keyRow l[i]=keyRow x:=h3
      rw[if_pos h3]
      ((conv=>whnf)<;>repeat(with_reducible refine D1 ?_)<;>conv=>whnf)
      rw[show IntKind.i64.wrap ((i:Int)+1)=((i+1:Nat):Int)from wrap_small i (by omega)]
      refine⟨⟨by omega,by rw[List.length_map];omega,Int.le_refl _⟩,?_⟩
      conv=>whnf
      refine⟨by simp;omega,?_⟩
      conv=>whnf
      refine⟨[4],[],?_⟩
      iterate 3 constructor
      refine⟨⟨?_,?_,?_⟩,rfl,rfl,rfl⟩
      all_goals(repeat' first|exact LF|constructor)
      all_goals exact Lz.of (by rw[Int.toNat_natCast,Int.toNat_natCast,List.take_length,←List.map_drop];simp)
     ·have h3:¬keyRow l[i]=keyRow x:=h3
      rw[if_neg h3]
      ((conv=>whnf)<;>repeat(with_reducible refine D1 ?_)<;>conv=>whnf)
      refine⟨⟨by omega,by rw[List.length_map];omega,Int.le_refl _⟩,?_⟩
      conv=>whnf
      refine⟨by simp;omega,?_⟩
      conv=>whnf
      refine⟨[4],[],?_⟩
      iterate 3 constructor
      refine⟨⟨?_,?_,?_⟩,rfl,rfl,rfl⟩
      all_goals(repeat' first|exact LF|constructor)
      all_goals exact Lz.of (by rw[Int.toNat_natCast,Int.toNat_natCast,List.take_length,←List.map_drop];simp)
    ·exact absurd (lenlt.2 h) h2
  ·obtain rfl:i=l.length:=by have:=mt lenlt.2 h;omega
   rw[List.take_length]at h0
   rw[List.take_length]
   rw[insBy_end h0]
   ((conv=>whnf)<;>repeat(with_reducible refine D1 ?_)<;>conv=>whnf)
   refine⟨by simp;omega,?_⟩
   ((conv=>whnf)<;>repeat(with_reducible refine D1 ?_)<;>conv=>whnf)
   (first|refine⟨?_,?_⟩|refine nsplit ?_ ?_|refine bsplit ?_ ?_)<;>intro h2<;>have hz_:=True.intro<;>clear hz_
   ·exact absurd h2 h
   ·((conv=>whnf)<;>repeat(with_reducible refine D1 ?_)<;>conv=>whnf)
    refine⟨⟨by omega,by rw[List.length_map];omega,Int.le_refl _⟩,?_⟩
    conv=>whnf
    refine⟨by simp;omega,?_⟩
    conv=>whnf
    refine⟨[4],[],?_⟩
    iterate 3 constructor
    refine⟨⟨?_,?_,?_⟩,rfl,rfl,rfl⟩
    all_goals(repeat' first|exact LF|constructor)
    all_goals exact Lz.of (by rw[Int.toNat_natCast,Int.toNat_natCast,List.take_length,←List.map_drop];simp)
@[reducible] def keyBl (b:Int×List Vs):Int:=b.1
theorem rwith_ok (l:List (Int×List Vs)) (x:Int×List Vs) (hn:l.length<1000):VC EZ 75 0 [.sl 2 (l.map encBl) false,.agg (encBl x)] [] (RR (.sl 2 ((insBy keyBl x l).map encBl) false) 0 []):=by
 refine VC.enterR LZ (show EZ.func 75=some Tryz.f75 by kernel_rfl) (fun _ _=>rfl) rfl rfl [] ?_
 conv=>whnf
 refine⟨fun k' f o cc=>∃i:Nat,i≤l.length∧k'=l.length - i∧(∀b∈l.take i,keyBl b<keyBl x)∧cc=2∧f=[(0,.sl 2 (l.map encBl) false),(3,.ptr 0 0),(5,.tk 1),(6,.s (.int .i64 i))]∧o=[(0,.cells (encBl x)),(1,.arr 2 true ((l.take i).map encBl))],⟨l.length,?_⟩,?_⟩
 ·exact⟨[],[some 0,none],_,_,_,t3,⟨0,Nat.zero_le _,rfl,by simp,rfl,rfl,rfl⟩⟩
 ·rintro k' f1 o1 c1 ⟨i,hi,rfl,h0,rfl,rfl,rfl⟩
  ((conv=>whnf)<;>repeat(with_reducible refine D1 ?_)<;>conv=>whnf)
  (first|refine⟨?_,?_⟩|refine nsplit ?_ ?_|refine bsplit ?_ ?_)<;>intro h<;>have hz_:=True.intro<;>clear hz_
  ·have h:i<l.length:=lenlt.1 h
   conv=>whnf
   refine idxI h ?_
   conv=>whnf
   (first|refine⟨?_,?_⟩|refine nsplit ?_ ?_|refine bsplit ?_ ?_)<;>intro he<;>have hz_:=True.intro<;>clear hz_
   ·have he:keyBl l[i]<keyBl x:=he
    ((conv=>whnf)<;>repeat(with_reducible refine D1 ?_)<;>conv=>whnf)
    refine idxI h ?_
    conv=>whnf
    refine⟨by simp;omega,?_⟩
    conv=>whnf
    refine⟨l.length - (i+1),?_,by omega⟩
    refine⟨[],[some 0,some 3],?_⟩
    iterate 3 constructor
    refine⟨⟨?_,?_,?_⟩,⟨i+1,h,rfl,take_all h h0 he,rfl,rfl,rfl⟩⟩
    all_goals(repeat' first|exact LF|constructor)
    all_goals exact Lz.of (by rw[List.take_succ_eq_append_getElem h,List.map_append];rfl)
   ·have he:¬keyBl l[i]<keyBl x:=he
    rw[insBy_at h0 h he]
    ((conv=>whnf)<;>repeat(with_reducible refine D1 ?_)<;>conv=>whnf)
    refine⟨by simp;omega,?_⟩
    ((conv=>whnf)<;>repeat(with_reducible refine D1 ?_)<;>conv=>whnf)
    (first|refine⟨?_,?_⟩|refine nsplit ?_ ?_|refine bsplit ?_ ?_)<;>intro h2<;>have hz_:=True.intro<;>clear hz_
    ·conv=>whnf
     refine idxI h ?_
     conv=>whnf
     (first|refine⟨?_,?_⟩|refine nsplit ?_ ?_|refine bsplit ?_ ?_)<;>intro h3<;>have hz_:=True.intro<;>clear hz_
     ·have h3:keyBl l[i]=keyBl x:=h3
      rw[if_pos h3]
      ((conv=>whnf)<;>repeat(with_reducible refine D1 ?_)<;>conv=>whnf)
      rw[show IntKind.i64.wrap ((i:Int)+1)=((i+1:Nat):Int)from wrap_small i (by omega)]
      refine⟨⟨by omega,by rw[List.length_map];omega,Int.le_refl _⟩,?_⟩
      conv=>whnf
      refine⟨by simp;omega,?_⟩
      conv=>whnf
      refine⟨[4],[],?_⟩
      iterate 3 constructor
      refine⟨⟨?_,?_,?_⟩,rfl,rfl,rfl⟩
      all_goals(repeat' first|exact LF|constructor)
      all_goals exact Lz.of (by rw[Int.toNat_natCast,Int.toNat_natCast,List.take_length,←List.map_drop];simp)
     ·have h3:¬keyBl l[i]=keyBl x:=h3
      rw[if_neg h3]
      ((conv=>whnf)<;>repeat(with_reducible refine D1 ?_)<;>conv=>whnf)
      refine⟨⟨by omega,by rw[List.length_map];omega,Int.le_refl _⟩,?_⟩
      conv=>whnf
      refine⟨by simp;omega,?_⟩
      conv=>whnf
      refine⟨[4],[],?_⟩
      iterate 3 constructor
      refine⟨⟨?_,?_,?_⟩,rfl,rfl,rfl⟩
      all_goals(repeat' first|exact LF|constructor)
      all_goals exact Lz.of (by rw[Int.toNat_natCast,Int.toNat_natCast,List.take_length,←List.map_drop];simp)
    ·exact absurd (lenlt.2 h) h2
  ·obtain rfl:i=l.length:=by have:=mt lenlt.2 h;omega
   rw[List.take_length]at h0
   rw[List.take_length]
   rw[insBy_end h0]
   ((conv=>whnf)<;>repeat(with_reducible refine D1 ?_)<;>conv=>whnf)
   refine⟨by simp;omega,?_⟩
   ((conv=>whnf)<;>repeat(with_reducible refine D1 ?_)<;>conv=>whnf)
   (first|refine⟨?_,?_⟩|refine nsplit ?_ ?_|refine bsplit ?_ ?_)<;>intro h2<;>have hz_:=True.intro<;>clear hz_
   ·exact absurd h2 h
   ·((conv=>whnf)<;>repeat(with_reducible refine D1 ?_)<;>conv=>whnf)
    refine⟨⟨by omega,by rw[List.length_map];omega,Int.le_refl _⟩,?_⟩
    conv=>whnf
    refine⟨by simp;omega,?_⟩
    conv=>whnf
    refine⟨[4],[],?_⟩
    iterate 3 constructor
    refine⟨⟨?_,?_,?_⟩,rfl,rfl,rfl⟩
    all_goals(repeat' first|exact LF|constructor)
    all_goals exact Lz.of (by rw[Int.toNat_natCast,Int.toNat_natCast,List.take_length,←List.map_drop];simp)
end Go.M
namespace Go.M
open Go Go.Proofs
set_option maxRecDepth 100000
set_option maxHeartbeats 4000000
theorem find_at {α:Type} {p:α→Bool} {l:List α} {i:Nat} (h:i<l.length) (h0:∀a∈l.take i,¬p a=true) (hk:p l[i]=true):l.find? p=some l[i]:=by
 rw[List.find?_eq_some_iff_append]
 exact⟨hk,l.take i,l.drop (i+1),(List.take_append_drop i l).symm.trans (by rw[List.drop_eq_getElem_cons h]),fun a m=>by simpa using h0 a m⟩
def cleanR (vs:List Vs) (d:Int):Vs:=lastV (vs.filter fun v=>decide (v.seq≤d))
theorem cleanR_next {vs:List Vs} {d:Int} {i:Nat} (h:i<vs.length):cleanR (vs.take (i+1)) d=if vs[i].seq≤d then vs[i]else cleanR (vs.take i) d:=by
 unfold cleanR
 rw[List.take_succ_eq_append_getElem h,List.filter_append]
 split
 ·rename_i q;rw[List.filter_cons_of_pos (by simpa using q),List.filter_nil,lastV_end]
 ·rename_i q;rw[List.filter_cons_of_neg (by simpa using q),List.filter_nil,List.append_nil]
theorem rclean_ok (vs:List Vs) (d:Int) (hn:vs.length<1000000):VC EZ 97 0 [vsL vs,.s (.int .u64 d)] [] (RR (.agg (encV (cleanR vs d))) 0 []):=by
 refine VC.enterR LZ (show EZ.func 97=some Tryz.f97 by kernel_rfl) (fun _ _=>rfl) rfl rfl [] ?_
 conv=>whnf
 refine⟨fun k' f o cc=>∃i:Nat,i≤vs.length∧k'=vs.length - i∧cc=2∧f=[(0,vsL vs),(1,.s (.int .u64 d)),(4,.ptr 0 0),(5,.ptr 1 0),(6,.s (.int .i64 i))]∧o=[(0,.cells (encV zeroVs)),(1,.cells (encV (cleanR (vs.take i) d)))],⟨vs.length,?_⟩,?_⟩
 ·exact⟨[],[some 0,some 1],_,_,_,t3,⟨0,Nat.zero_le _,rfl,rfl,rfl,rfl⟩⟩
 ·rintro k' f1 o1 c1 ⟨i,hi,rfl,rfl,rfl,rfl⟩
  conv=>whnf
  (first|refine⟨?_,?_⟩|refine nsplit ?_ ?_|refine bsplit ?_ ?_)<;>intro h<;>have hz_:=True.intro<;>clear hz_
  ·have h:i<vs.length:=lenlt.1 h
   have hnx:=cleanR_next (d:=d) h
   conv=>whnf
   refine idxI h ?_
   conv=>whnf
   (first|refine⟨?_,?_⟩|refine nsplit ?_ ?_|refine bsplit ?_ ?_)<;>intro he<;>have hz_:=True.intro<;>clear hz_
   ·have he:vs[i].seq≤d:=he
    rw[if_pos he]at hnx
    conv=>whnf
    refine idxI h ?_
    conv=>whnf
    refine⟨vs.length - (i+1),?_,by omega⟩
    rw[←hnx]
    exact⟨[],[some 0,some 1],_,_,_,t3,⟨i+1,h,rfl,rfl,rfl,rfl⟩⟩
   ·have he:¬vs[i].seq≤d:=he
    rw[if_neg he]at hnx
    conv=>whnf
    refine⟨vs.length - (i+1),?_,by omega⟩
    rw[←hnx]
    exact⟨[],[some 0,some 1],_,_,_,t3,⟨i+1,h,rfl,rfl,rfl,rfl⟩⟩
  ·obtain rfl:i=vs.length:=by have:=mt lenlt.2 h;omega
   rw[List.take_length]
   conv=>whnf
   exact⟨[],[],_,_,_,t3,rfl,rfl,rfl⟩
theorem rdirty_ok (vs:List Vs) (d:Int) (hn:vs.length<1000000):VC EZ 80 0 [vsL vs,.s (.int .u64 d)] [] (RR (.s (.bool (decide (0<vs.length∧d<(lastV vs).seq)))) 0 []):=by
 have hl:=rlast_ok vs hn
 refine VC.enterR LZ (show EZ.func 80=some Tryz.f80 by kernel_rfl) (fun _ _=>rfl) rfl rfl [] ?_
 conv=>whnf
 (first|refine⟨?_,?_⟩|refine nsplit ?_ ?_|refine bsplit ?_ ?_)<;>intro h<;>have hz_:=True.intro<;>clear hz_
 ·have h:0<vs.length:=by have h:(0:Int)<(((vs.map encV).length:Nat):Int):=h
                         rw[List.length_map]at h;omega
  conv=>whnf
  refine⟨[],[],_,_,_,_,hl,t3,cR ?_⟩
  conv=>whnf
  (first|refine⟨?_,?_⟩|refine nsplit ?_ ?_|refine bsplit ?_ ?_)<;>intro h2<;>have hz_:=True.intro<;>clear hz_
  ·have h2:d<(lastV vs).seq:=h2
   conv=>whnf
   refine⟨[],[],?_⟩
   iterate 3 constructor
   refine⟨⟨?_,?_,?_⟩,rfl,rfl,rfl⟩
   all_goals(repeat' first|exact LF|constructor)
   exact Lz.of (bool_eq (decide_eq_true ⟨h,h2⟩).symm)
  ·have h2:¬d<(lastV vs).seq:=h2
   conv=>whnf
   refine⟨[],[],?_⟩
   iterate 3 constructor
   refine⟨⟨?_,?_,?_⟩,rfl,rfl,rfl⟩
   all_goals(repeat' first|exact LF|constructor)
   exact Lz.of (bool_eq (decide_eq_false fun q=>h2 q.2).symm)
 ·have h:¬0<vs.length:=fun q=>h (show(0:Int)<(((vs.map encV).length:Nat):Int) by rw[List.length_map];omega)
  conv=>whnf
  refine⟨[],[],?_⟩
  iterate 3 constructor
  refine⟨⟨?_,?_,?_⟩,rfl,rfl,rfl⟩
  all_goals(repeat' first|exact LF|constructor)
  exact Lz.of (bool_eq (decide_eq_false fun q=>h q.1).symm)
def pickR (vs:List Vs) (v d:Int):Vs:=match vs.find? fun x=>decide (x.ver=v)with
 |some x=>x
 |none=>if v<(cleanR vs d).ver then cleanR vs d else zeroVs
theorem rpick_ok (vs:List Vs) (v d:Int) (hn:vs.length<1000000):VC EZ 81 0 [vsL vs,.s (.int .u64 v),.s (.int .u64 d)] [] (RR (.agg (encV (pickR vs v d))) 0 []):=by
 refine VC.enterR LZ (show EZ.func 81=some Tryz.f81 by kernel_rfl) (fun _ _=>rfl) rfl rfl [] ?_
 conv=>whnf
 refine⟨fun k' f o cc=>∃i:Nat,i≤vs.length∧k'=vs.length - i∧(∀x∈vs.take i,¬decide (x.ver=v)=true)∧cc=1∧f=[(0,vsL vs),(1,.s (.int .u64 v)),(2,.s (.int .u64 d)),(6,.ptr 0 0),(7,.s (.int .i64 i))]∧o=[(0,.cells (encV zeroVs))],⟨vs.length,?_⟩,?_⟩
 ·exact⟨[],[some 0],_,_,_,t3,⟨0,Nat.zero_le _,rfl,by simp,rfl,rfl,rfl⟩⟩
 ·rintro k' f1 o1 c1 ⟨i,hi,rfl,h0,rfl,rfl,rfl⟩
  conv=>whnf
  (first|refine⟨?_,?_⟩|refine nsplit ?_ ?_|refine bsplit ?_ ?_)<;>intro h<;>have hz_:=True.intro<;>clear hz_
  ·have h:i<vs.length:=lenlt.1 h
   conv=>whnf
   refine idxI h ?_
   conv=>whnf
   (first|refine⟨?_,?_⟩|refine nsplit ?_ ?_|refine bsplit ?_ ?_)<;>intro he<;>have hz_:=True.intro<;>clear hz_
   ·have he:vs[i].ver=v:=he
    rw[show pickR vs v d=vs[i]from by unfold pickR;rw[find_at h h0 (by simpa using he)]]
    conv=>whnf
    refine idxI h ?_
    conv=>whnf
    exact⟨[],[],_,_,_,t3,rfl,rfl,rfl⟩
   ·have he:¬vs[i].ver=v:=he
    conv=>whnf
    refine⟨vs.length - (i+1),?_,by omega⟩
    exact⟨[],[some 0],_,_,_,t3,⟨i+1,h,rfl,take_all h h0 (by simpa using he),rfl,rfl,rfl⟩⟩
  ·obtain rfl:i=vs.length:=by have:=mt lenlt.2 h;omega
   rw[List.take_length]at h0
   have hno:vs.find? (fun x=>decide (x.ver=v))=none:=List.find?_eq_none.2 h0
   have hc:=rclean_ok vs d hn
   rw[show pickR vs v d=if v<(cleanR vs d).ver then cleanR vs d else zeroVs from by unfold pickR;rw[hno]]
   generalize cleanR vs d=c at hc
   conv=>whnf
   refine⟨[],[],_,_,_,_,hc,t3,cR ?_⟩
   conv=>whnf
   (first|refine⟨?_,?_⟩|refine nsplit ?_ ?_|refine bsplit ?_ ?_)<;>intro h2<;>have hz_:=True.intro<;>clear hz_
   ·have h2:v<c.ver:=h2
    rw[if_pos h2]
    conv=>whnf
    exact⟨[],[],_,_,_,t3,rfl,rfl,rfl⟩
   ·have h2:¬v<c.ver:=h2
    rw[if_neg h2]
    conv=>whnf
    exact⟨[],[],_,_,_,t3,rfl,rfl,rfl⟩
def keepR (c:Vs) (vs:List Vs):List Vs:=vs.filter fun v=>decide (c.seq≤v.seq)
theorem keepR_next {vs:List Vs} {c:Vs} {i:Nat} (h:i<vs.length):keepR c (vs.take (i+1))=if c.seq≤vs[i].seq then keepR c (vs.take i)++[vs[i]]else keepR c (vs.take i):=by
 unfold keepR
 rw[List.take_succ_eq_append_getElem h,List.filter_append]
 split
 ·rename_i q;rw[List.filter_cons_of_pos (by simpa using q),List.filter_nil]
 ·rename_i q;rw[List.filter_cons_of_neg (by simpa using q),List.filter_nil,List.append_nil]
theorem keepR_len (c:Vs) (vs:List Vs):(keepR c vs).length≤vs.length:=List.length_filter_le ..
theorem rtrim_ok (vs:List Vs) (d:Int) (hn:vs.length<1000):VC EZ 79 0 [vsL vs,.s (.int .u64 d)] [] (RR (.tup [vsL (keepR (cleanR vs d) vs),.s (.int .i64 ((vs.length - (keepR (cleanR vs d) vs).length:Nat):Int))]) 0 []):=by
 have hc:=rclean_ok vs d (by omega)
 generalize cleanR vs d=c at hc
 refine VC.enterR LZ (show EZ.func 79=some Tryz.f79 by kernel_rfl) (fun _ _=>rfl) rfl rfl [] ?_
 conv=>whnf
 refine⟨[],[],_,_,_,_,hc,t3,cR ?_⟩
 conv=>whnf
 refine⟨fun k' f o cc=>∃i:Nat,i≤vs.length∧k'=vs.length - i∧cc=2∧f=[(0,vsL vs),(6,.ptr 0 0),(7,.tk 1),(8,.s (.int .i64 i))]∧o=[(0,.cells (encV c)),(1,.arr 3 true ((keepR c (vs.take i)).map encV))],⟨vs.length,?_⟩,?_⟩
 ·exact⟨[],[some 0,none],_,_,_,t3,⟨0,Nat.zero_le _,rfl,rfl,rfl,rfl⟩⟩
 ·rintro k' f1 o1 c1 ⟨i,hi,rfl,rfl,rfl,rfl⟩
  conv=>whnf
  (first|refine⟨?_,?_⟩|refine nsplit ?_ ?_|refine bsplit ?_ ?_)<;>intro h<;>have hz_:=True.intro<;>clear hz_
  ·have h:i<vs.length:=lenlt.1 h
   have hnx:=keepR_next (c:=c) h
   have hkl:=keepR_len c (vs.take i)
   rw[List.length_take]at hkl
   ((conv=>whnf)<;>repeat(with_reducible refine D1 ?_)<;>conv=>whnf)
   refine idxI h ?_
   conv=>whnf
   (first|refine⟨?_,?_⟩|refine nsplit ?_ ?_|refine bsplit ?_ ?_)<;>intro he<;>have hz_:=True.intro<;>clear hz_
   ·have he:c.seq≤vs[i].seq:=he
    rw[if_pos he]at hnx
    ((conv=>whnf)<;>repeat(with_reducible refine D1 ?_)<;>conv=>whnf)
    refine idxI h ?_
    conv=>whnf
    refine⟨by simp;omega,?_⟩
    conv=>whnf
    refine⟨vs.length - (i+1),?_,by omega⟩
    refine⟨[],[some 0,some 3],?_⟩
    iterate 3 constructor
    refine⟨⟨?_,?_,?_⟩,⟨i+1,h,rfl,rfl,rfl,rfl⟩⟩
    all_goals(repeat' first|exact LF|constructor)
    all_goals exact Lz.of (by rw[hnx,List.map_append];rfl)
   ·have he:¬c.seq≤vs[i].seq:=he
    rw[if_neg he]at hnx
    ((conv=>whnf)<;>repeat(with_reducible refine D1 ?_)<;>conv=>whnf)
    refine⟨vs.length - (i+1),?_,by omega⟩
    rw[←hnx]
    exact⟨[],[some 0,some 1],_,_,_,t3,⟨i+1,h,rfl,rfl,rfl,rfl⟩⟩
  ·obtain rfl:i=vs.length:=by have:=mt lenlt.2 h;omega
   rw[List.take_length]
   have hkl:=keepR_len c vs
   conv=>whnf
   refine⟨[1],[],?_⟩
   iterate 3 constructor
   refine⟨⟨?_,?_,?_⟩,rfl,rfl,rfl⟩
   all_goals(repeat' first|exact LF|constructor)
   all_goals exact Lz.int (by rw[List.length_map,List.length_map,IntWalk.i64_in _ (by omega)];omega)
end Go.M
namespace Go.M
open Go Go.Proofs
set_option maxRecDepth 100000
set_option maxHeartbeats 4000000
@[reducible] def encA2 (q:Vs×Bool):TV:=.tup [.agg (encV q.1),.s (.bool q.2)]
@[reducible] def nowS (s:StS) (k d:Int):Vs×Bool:=if 0<(ofK s k).length∧d<(lastV (ofK s k)).seq then(zeroVs,false)else(lastV (ofK s k),true)
@[reducible] def thenS (s:StS) (k v d:Int):Vs×Bool:=(pickV (ofK s k) v d,decide (v=0∨(pickV (ofK s k) v d).ver≠0))
end Go.M
namespace Go.M
open Go Go.Proofs
set_option maxRecDepth 100000
set_option maxHeartbeats 4000000
theorem rput_ok (vs:List Vs) (v:Vs) (hv:0≤v.ver∧v.ver≤18446744073709551615) (hn:vs.length<1000):VC EZ 73 0 [vsL vs,.agg (encV v)] [] (RR (.tup [vsL (putB vs v),.s (.int .i64 (putE vs v))]) 0 []):=by
 have hl:=rlast_ok vs (by omega)
 refine VC.enterR LZ (show EZ.func 73=some Tryz.f73 by kernel_rfl) (fun _ _=>rfl) rfl rfl [] ?_
 conv=>whnf
 (first|refine⟨?_,?_⟩|refine nsplit ?_ ?_|refine bsplit ?_ ?_)<;>intro h0<;>have hz_:=True.intro<;>clear hz_
 ·have h0:2048<v.data.length:=by simp[encU8]at h0;omega
  rw[show putB vs v=vs from by simp[putB,putE,h0],show putE vs v=6 from by simp[putE,h0]]
  conv=>whnf
  exact⟨[],[],_,_,_,t3,rfl,rfl,rfl⟩
 ·have h0:¬2048<v.data.length:=by simp[encU8]at h0;omega
  conv=>whnf
  by_cases h1:v.ver=0∨v.seq=0
  ·rw[show putB vs v=vs from by simp[putB,putE,h0,h1],show putE vs v=1 from by simp[putE,h0,h1]]
   repeat'(first|((first|(refine⟨fun h=>?_,fun h=>?_⟩)|(refine nsplit (fun h=>?_) (fun h=>?_))|(refine bsplit (fun h=>?_) (fun h=>?_)))<;>((conv=>whnf)<;>repeat(with_reducible refine D1 ?_)<;>conv=>whnf)))
   all_goals first|(exfalso;simp at*;omega)|skip
   all_goals
    exact⟨[],[],_,_,_,t3,rfl,rfl,rfl⟩
  ·have h1':=not_or.1 h1
   by_cases h2:0<vs.length∧(v.ver - 1≠(lastV vs).ver∨v.seq≤(lastV vs).seq)
   ·have hp:putE vs v=12:=by unfold putE;rw[if_neg h0,if_neg h1,if_pos h2]
    rw[show putB vs v=vs from by unfold putB;rw[if_neg (by rw[hp];decide)],hp]
    have hw:IntKind.u64.wrap (v.ver - 1)=v.ver - 1:=IntWalk.u64_in _ (by omega)
    (first|refine⟨?_,?_⟩|refine nsplit ?_ ?_|refine bsplit ?_ ?_)<;>intro h3<;>have hz_:=True.intro<;>clear hz_
    ·exact absurd h3 h1'.1
    ·conv=>whnf
     (first|refine⟨?_,?_⟩|refine nsplit ?_ ?_|refine bsplit ?_ ?_)<;>intro h4<;>have hz_:=True.intro<;>clear hz_
     ·exact absurd h4 h1'.2
     ·((conv=>whnf)<;>repeat(with_reducible refine D1 ?_)<;>conv=>whnf)
      (first|refine⟨?_,?_⟩|refine nsplit ?_ ?_|refine bsplit ?_ ?_)<;>intro h5<;>have hz_:=True.intro<;>clear hz_
      ·conv=>whnf
       refine⟨[],[],_,_,_,_,hl,t3,cR ?_⟩
       conv=>whnf
       (first|refine⟨?_,?_⟩|refine nsplit ?_ ?_|refine bsplit ?_ ?_)<;>intro h6<;>have hz_:=True.intro<;>clear hz_
       ·((conv=>whnf)<;>repeat(with_reducible refine D1 ?_)<;>conv=>whnf)
        exact⟨[],[],_,_,_,t3,rfl,rfl,rfl⟩
       ·have h6:¬IntKind.u64.wrap (v.ver - 1)≠(lastV vs).ver:=h6
        rw[hw]at h6
        conv=>whnf
        refine⟨[],[],_,_,_,_,hl,t3,cR ?_⟩
        conv=>whnf
        (first|refine⟨?_,?_⟩|refine nsplit ?_ ?_|refine bsplit ?_ ?_)<;>intro h7<;>have hz_:=True.intro<;>clear hz_
        ·((conv=>whnf)<;>repeat(with_reducible refine D1 ?_)<;>conv=>whnf)
         exact⟨[],[],_,_,_,t3,rfl,rfl,rfl⟩
        ·exact absurd (h2.2.resolve_left h6) h7
      ·exact absurd (show(0:Int)<(((vs.map encV).length:Nat):Int) by rw[List.length_map];omega) h5
   ·have hp:putE vs v=0:=by unfold putE;rw[if_neg h0,if_neg h1,if_neg h2]
    rw[show putB vs v=vs++[v]from by unfold putB;rw[if_pos hp],hp]
    have hw:IntKind.u64.wrap (v.ver - 1)=v.ver - 1:=IntWalk.u64_in _ (by omega)
    (first|refine⟨?_,?_⟩|refine nsplit ?_ ?_|refine bsplit ?_ ?_)<;>intro h3<;>have hz_:=True.intro<;>clear hz_
    ·exact absurd h3 h1'.1
    ·conv=>whnf
     (first|refine⟨?_,?_⟩|refine nsplit ?_ ?_|refine bsplit ?_ ?_)<;>intro h4<;>have hz_:=True.intro<;>clear hz_
     ·exact absurd h4 h1'.2
     ·((conv=>whnf)<;>repeat(with_reducible refine D1 ?_)<;>conv=>whnf)
      (first|refine⟨?_,?_⟩|refine nsplit ?_ ?_|refine bsplit ?_ ?_)<;>intro h5<;>have hz_:=True.intro<;>clear hz_
      ·have h5:0<vs.length:=by have h:(0:Int)<(((vs.map encV).length:Nat):Int):=h5
                               rw[List.length_map]at h;omega
       have h8:=not_or.1 (fun q=>h2 ⟨h5,q⟩)
       conv=>whnf
       refine⟨[],[],_,_,_,_,hl,t3,cR ?_⟩
       conv=>whnf
       (first|refine⟨?_,?_⟩|refine nsplit ?_ ?_|refine bsplit ?_ ?_)<;>intro h6<;>have hz_:=True.intro<;>clear hz_
       ·have h6:IntKind.u64.wrap (v.ver - 1)≠(lastV vs).ver:=h6
        rw[hw]at h6
        exact absurd h6 h8.1
       ·conv=>whnf
        refine⟨[],[],_,_,_,_,hl,t3,cR ?_⟩
        conv=>whnf
        (first|refine⟨?_,?_⟩|refine nsplit ?_ ?_|refine bsplit ?_ ?_)<;>intro h7<;>have hz_:=True.intro<;>clear hz_
        ·exact absurd h7 h8.2
        ·((conv=>whnf)<;>repeat(with_reducible refine D1 ?_)<;>conv=>whnf)
         refine⟨by rw[List.length_map];omega,?_⟩
         conv=>whnf
         refine⟨by simp;omega,?_⟩
         ((conv=>whnf)<;>repeat(with_reducible refine D1 ?_)<;>conv=>whnf)
         refine⟨[3],[],?_⟩
         iterate 3 constructor
         refine⟨⟨?_,?_,?_⟩,rfl,rfl,rfl⟩
         all_goals(repeat' first|exact LF|constructor)
         all_goals exact Lz.of (by simp)
      ·((conv=>whnf)<;>repeat(with_reducible refine D1 ?_)<;>conv=>whnf)
       refine⟨by rw[List.length_map];omega,?_⟩
       conv=>whnf
       refine⟨by simp;omega,?_⟩
       ((conv=>whnf)<;>repeat(with_reducible refine D1 ?_)<;>conv=>whnf)
       refine⟨[3],[],?_⟩
       iterate 3 constructor
       refine⟨⟨?_,?_,?_⟩,rfl,rfl,rfl⟩
       all_goals(repeat' first|exact LF|constructor)
       all_goals exact Lz.of (by simp)
@[reducible] def outRf (r:RfS) (u:UpR):Int×Int×Bool:=outC u (lastV (ofR r u.key)).ver (decide (r.bs.length<192))
@[reducible] def rowRf (r:RfS) (u:UpR):RowS:=⟨u.client,u.num,u.seq,(outRf r u).1,(outRf r u).2.1⟩
@[reducible] def wroteRf (r:RfS) (u:UpR):List (Int×List Vs):=if(outRf r u).2.2=true then insBy keyBl (u.key,putB (ofR r u.key) ⟨(outRf r u).2.1,u.seq,u.data⟩) r.bs else r.bs
def applyR (r:RfS) (u:UpR):(RfS×RowS)×Int:=
 if chkU u≠0 then((r,zeroR),chkU u)
 else if u.seq - 1≠r.e then((r,zeroR),12)
 else if judgeR r.rows u.client u.num≠0 then(({r with e:=u.seq},zeroR),0)
 else((⟨u.seq,wroteRf r u,insBy keyRow (rowRf r u) r.rows⟩,rowRf r u),0)
@[reducible] def encRA (q:(RfS×RowS)×Int):TV:=.tup [.agg (encRf q.1.1),.agg (encR q.1.2),.s (.int .i64 q.2)]
structure ROk (r:RfS):Prop where
 b:r.bs.length<900
 w:r.rows.length<900
 l:∀k,(ofR r k).length<900∧0≤(lastV (ofR r k)).ver∧(lastV (ofR r k)).ver≤18446744073709551615
theorem roomR_t {r:RfS} (h:(((r.bs.map encBl).length:Nat):Int)<192):decide (r.bs.length<192)=true:=decide_eq_true (by rw[List.length_map]at h;omega)
theorem roomR_i {r:RfS} (h:decide (r.bs.length<192)=true):(((r.bs.map encBl).length:Nat):Int)<192:=by
 have:r.bs.length<192:=of_decide_eq_true h
 rw[List.length_map];omega
theorem rapply_ok (r:RfS) (u:UpR) (H:ROk r) (hu:UOk u):VC EZ 27 0 [.agg (encRf r),.agg (encU u)] [] (RR (encRA (applyR r u)) 0 []):=by
 have hb:=H.b
 have hw:=H.w
 have hseq:=hu.seq
 have hc:=rcheck_ok u hu
 unfold applyR
 by_cases h0:chkU u=0
 ·rw[if_neg (not_not_intro h0)]
  rw[h0]at hc
  obtain⟨hs1,hdl⟩:=okU_seq h0
  have hwr:IntKind.u64.wrap (u.seq - 1)=u.seq - 1:=IntWalk.u64_in _ (by omega)
  by_cases h1:u.seq - 1=r.e
  ·rw[if_neg (not_not_intro h1)]
   have hj:=rjudge_ok r.rows u.client u.num (by omega)
   obtain⟨hll,hlr⟩:=H.l u.key
   have hof:=rof_ok {r with e:=u.seq} u.key (by show r.bs.length<_;omega)
   have hof:VC EZ 70 0 [.agg (encRf {r with e:=u.seq}),.s (.int .u32 u.key)] [] (RR (vsL (ofR r u.key)) 0 []):=hof
   have hla:=rlast_ok (ofR r u.key) (by omega)
   have ho:=routcome_ok u (lastV (ofR r u.key)).ver (decide (r.bs.length<192)) hlr
   refine VC.enterR LZ (show EZ.func 27=some Tryz.f27 by kernel_rfl) (fun _ _=>rfl) rfl rfl [] ?_
   conv=>whnf
   refine⟨[],[],_,_,_,_,hc,t3,cR ?_⟩
   conv=>whnf
   (first|refine⟨?_,?_⟩|refine nsplit ?_ ?_|refine bsplit ?_ ?_)<;>intro h2<;>have hz_:=True.intro<;>clear hz_
   ·exact absurd rfl h2
   ·conv=>whnf
    (first|refine⟨?_,?_⟩|refine nsplit ?_ ?_|refine bsplit ?_ ?_)<;>intro h3<;>have hz_:=True.intro<;>clear hz_
    ·have h3:IntKind.u64.wrap (u.seq - 1)≠r.e:=h3
     rw[hwr]at h3
     exact absurd h1 h3
    ·conv=>whnf
     refine⟨[],[],_,_,_,_,hj,t3,cR ?_⟩
     conv=>whnf
     (first|refine⟨?_,?_⟩|refine nsplit ?_ ?_|refine bsplit ?_ ?_)<;>intro h4<;>have hz_:=True.intro<;>clear hz_
     ·have h4:judgeR r.rows u.client u.num≠0:=h4
      rw[if_pos h4]
      conv=>whnf
      exact⟨[],[],_,_,_,t3,rfl,rfl,rfl⟩
     ·have h4:¬judgeR r.rows u.client u.num≠0:=h4
      rw[if_neg h4]
      conv=>whnf
      refine⟨[],[],_,_,_,_,hof,t3,cR ?_⟩
      ((conv=>whnf)<;>repeat(with_reducible refine D1 ?_)<;>conv=>whnf)
      refine⟨[],[],_,_,_,_,hla,t3,cR ?_⟩
      conv=>whnf
      have hqr:=outC_range (u:=u) (b:=decide (r.bs.length<192)) hlr
      rcases hq:outRf r u with⟨qc,qv,qb⟩
      rw[show outC u (lastV (ofR r u.key)).ver (decide (r.bs.length<192))=(qc,qv,qb)from hq]at ho hqr
      have hqv:0≤qv∧qv≤18446744073709551615:=hqr
      have hrow:rowRf r u=⟨u.client,u.num,u.seq,qc,qv⟩:=by unfold rowRf;rw[hq]
      have hwr:wroteRf r u=if qb=true then insBy keyBl (u.key,putB (ofR r u.key) ⟨qv,u.seq,u.data⟩) r.bs else r.bs:=by unfold wroteRf;rw[hq]
      rw[hrow,hwr]
      cases qb
      ·rw[if_neg Bool.false_ne_true]
       cases hr:decide (r.bs.length<192)
       ·rw[hr]at ho
        (first|refine⟨?_,?_⟩|refine nsplit ?_ ?_|refine bsplit ?_ ?_)<;>intro h5<;>have hz_:=True.intro<;>clear hz_
        ·exact absurd ((roomR_t h5).symm.trans hr) (by decide)
        ·conv=>whnf
         refine⟨[],[],_,_,_,_,ho,t3,cR ?_⟩
         ((conv=>whnf)<;>repeat(with_reducible refine D1 ?_)<;>conv=>whnf)
         refine⟨[],[],_,_,_,_,rput16_ok r.rows ⟨u.client,u.num,u.seq,qc,qv⟩ (by omega),t3,cR ?_⟩
         ((conv=>whnf)<;>repeat(with_reducible refine D1 ?_)<;>conv=>whnf)
         exact⟨[],[],_,_,_,t3,rfl,rfl,rfl⟩
       ·rw[hr]at ho
        (first|refine⟨?_,?_⟩|refine nsplit ?_ ?_|refine bsplit ?_ ?_)<;>intro h5<;>have hz_:=True.intro<;>clear hz_
        ·conv=>whnf
         refine⟨[],[],_,_,_,_,ho,t3,cR ?_⟩
         ((conv=>whnf)<;>repeat(with_reducible refine D1 ?_)<;>conv=>whnf)
         refine⟨[],[],_,_,_,_,rput16_ok r.rows ⟨u.client,u.num,u.seq,qc,qv⟩ (by omega),t3,cR ?_⟩
         ((conv=>whnf)<;>repeat(with_reducible refine D1 ?_)<;>conv=>whnf)
         exact⟨[],[],_,_,_,t3,rfl,rfl,rfl⟩
        ·exact absurd (roomR_i hr) h5
      ·rw[if_pos rfl]
       cases hr:decide (r.bs.length<192)
       ·rw[hr]at ho
        (first|refine⟨?_,?_⟩|refine nsplit ?_ ?_|refine bsplit ?_ ?_)<;>intro h5<;>have hz_:=True.intro<;>clear hz_
        ·exact absurd ((roomR_t h5).symm.trans hr) (by decide)
        ·conv=>whnf
         refine⟨[],[],_,_,_,_,ho,t3,cR ?_⟩
         ((conv=>whnf)<;>repeat(with_reducible refine D1 ?_)<;>conv=>whnf)
         refine⟨[],[],_,_,_,_,rmade_ok u qv,t3,cR ?_⟩
         conv=>whnf
         refine⟨[],[],_,_,_,_,rput_ok (ofR r u.key) ⟨qv,u.seq,u.data⟩ hqv (by omega),t3,cR ?_⟩
         conv=>whnf
         refine⟨[],[],_,_,_,_,rwith_ok r.bs (u.key,putB (ofR r u.key) ⟨qv,u.seq,u.data⟩) (by omega),t3,cR ?_⟩
         conv=>whnf
         refine⟨[],[],_,_,_,_,rput16_ok r.rows ⟨u.client,u.num,u.seq,qc,qv⟩ (by omega),t3,cR ?_⟩
         ((conv=>whnf)<;>repeat(with_reducible refine D1 ?_)<;>conv=>whnf)
         exact⟨[],[],_,_,_,t3,rfl,rfl,rfl⟩
       ·rw[hr]at ho
        (first|refine⟨?_,?_⟩|refine nsplit ?_ ?_|refine bsplit ?_ ?_)<;>intro h5<;>have hz_:=True.intro<;>clear hz_
        ·conv=>whnf
         refine⟨[],[],_,_,_,_,ho,t3,cR ?_⟩
         ((conv=>whnf)<;>repeat(with_reducible refine D1 ?_)<;>conv=>whnf)
         refine⟨[],[],_,_,_,_,rmade_ok u qv,t3,cR ?_⟩
         conv=>whnf
         refine⟨[],[],_,_,_,_,rput_ok (ofR r u.key) ⟨qv,u.seq,u.data⟩ hqv (by omega),t3,cR ?_⟩
         conv=>whnf
         refine⟨[],[],_,_,_,_,rwith_ok r.bs (u.key,putB (ofR r u.key) ⟨qv,u.seq,u.data⟩) (by omega),t3,cR ?_⟩
         conv=>whnf
         refine⟨[],[],_,_,_,_,rput16_ok r.rows ⟨u.client,u.num,u.seq,qc,qv⟩ (by omega),t3,cR ?_⟩
         ((conv=>whnf)<;>repeat(with_reducible refine D1 ?_)<;>conv=>whnf)
         exact⟨[],[],_,_,_,t3,rfl,rfl,rfl⟩
        ·exact absurd (roomR_i hr) h5
  ·rw[if_pos h1]
   refine VC.enterR LZ (show EZ.func 27=some Tryz.f27 by kernel_rfl) (fun _ _=>rfl) rfl rfl [] ?_
   conv=>whnf
   refine⟨[],[],_,_,_,_,hc,t3,cR ?_⟩
   conv=>whnf
   (first|refine⟨?_,?_⟩|refine nsplit ?_ ?_|refine bsplit ?_ ?_)<;>intro h2<;>have hz_:=True.intro<;>clear hz_
   ·exact absurd rfl h2
   ·conv=>whnf
    (first|refine⟨?_,?_⟩|refine nsplit ?_ ?_|refine bsplit ?_ ?_)<;>intro h3<;>have hz_:=True.intro<;>clear hz_
    ·conv=>whnf
     exact⟨[],[],_,_,_,t3,rfl,rfl,rfl⟩
    ·have h3:¬IntKind.u64.wrap (u.seq - 1)≠r.e:=h3
     rw[hwr]at h3
     exact absurd h1 h3
 ·rw[if_pos h0]
  refine VC.enterR LZ (show EZ.func 27=some Tryz.f27 by kernel_rfl) (fun _ _=>rfl) rfl rfl [] ?_
  conv=>whnf
  refine⟨[],[],_,_,_,_,hc,t3,cR ?_⟩
  conv=>whnf
  (first|refine⟨?_,?_⟩|refine nsplit ?_ ?_|refine bsplit ?_ ?_)<;>intro h2<;>have hz_:=True.intro<;>clear hz_
  ·conv=>whnf
   exact⟨[],[],_,_,_,t3,rfl,rfl,rfl⟩
  ·exact absurd h0 h2
@[reducible] def keptOf (d:Int) (b:Int×List Vs):Int×List Vs:=(b.1,keepR (cleanR b.2 d) b.2)
@[reducible] def dropOf (d:Int) (b:Int×List Vs):Nat:=b.2.length - (keepR (cleanR b.2 d) b.2).length
def sumN (l:List Nat):Nat:=l.sum
theorem sumN_snoc (l:List Nat) (n:Nat):sumN (l++[n])=sumN l+n:=by unfold sumN;rw[List.sum_append];simp
theorem drops_le (d:Int):∀(l:List (Int×List Vs)),(∀b∈l,b.2.length<1000)→sumN (l.map (dropOf d))≤l.length*1000
 |[],_=>Nat.le_refl _
 |b::l,h=>by
  have:=drops_le d l fun x m=>h x (by simp[m])
  have:=h b (by simp)
  show(b.2.length - _)+sumN (l.map (dropOf d))≤(l.length+1)*1000
  omega
theorem rtrimS_ok (r:RfS) (d:Int) (hb:r.bs.length<900) (hl:∀b∈r.bs,b.2.length<1000):VC EZ 29 0 [.agg (encRf r),.s (.int .u64 d)] []
 (RR (.tup [.agg (encRf {r with bs:=r.bs.map (keptOf d)}),.s (.int .i64 ((sumN (r.bs.map (dropOf d)):Nat):Int))]) 0 []):=by
 refine VC.enterR LZ (show EZ.func 29=some Tryz.f29 by kernel_rfl) (fun _ _=>rfl) rfl rfl [] ?_
 conv=>whnf
 refine⟨fun k' f o cc=>∃i:Nat,i≤r.bs.length∧k'=r.bs.length - i∧cc=3∧f=[(1,.s (.int .u64 d)),(2,.ptr 0 0),(4,.ptr 1 0),(6,.s (.int .i64 ((sumN ((r.bs.take i).map (dropOf d)):Nat):Int))),(7,.tk 2),(8,.s (.int .i64 i))]∧o=[(0,.cells (encRf r)),(1,.cells (encRf ⟨0,[],[]⟩)),(2,.arr 2 true (((r.bs.take i).map (keptOf d)).map encBl))],⟨r.bs.length,?_⟩,?_⟩
 ·exact⟨[],[some 0,some 1,none],_,_,_,t3,⟨0,Nat.zero_le _,rfl,rfl,rfl,rfl⟩⟩
 ·rintro k' f1 o1 c1 ⟨i,hi,rfl,rfl,rfl,rfl⟩
  conv=>whnf
  (first|refine⟨?_,?_⟩|refine nsplit ?_ ?_|refine bsplit ?_ ?_)<;>intro h<;>have hz_:=True.intro<;>clear hz_
  ·have h:i<r.bs.length:=lenlt.1 h
   have hs:=drops_le d (r.bs.take i) (fun b m=>hl b (List.mem_of_mem_take m))
   rw[List.length_take]at hs
   have hlb:=hl _ (List.getElem_mem h)
   have ht:=rtrim_ok r.bs[i].2 d hlb
   have hnx:(r.bs.take (i+1)).map (keptOf d)=(r.bs.take i).map (keptOf d)++[keptOf d r.bs[i]]:=by rw[List.take_succ_eq_append_getElem h,List.map_append];rfl
   have hnd:sumN ((r.bs.take (i+1)).map (dropOf d))=sumN ((r.bs.take i).map (dropOf d))+(r.bs[i].2.length - (keepR (cleanR r.bs[i].2 d) r.bs[i].2).length):=by rw[List.take_succ_eq_append_getElem h,List.map_append,List.map_singleton,sumN_snoc]
   conv=>whnf
   refine idxI h ?_
   conv=>whnf
   refine⟨[],[],_,_,_,_,ht,t3,cR ?_⟩
   conv=>whnf
   refine idxI h ?_
   conv=>whnf
   refine⟨by simp;omega,?_⟩
   conv=>whnf
   refine⟨r.bs.length - (i+1),?_,by omega⟩
   refine⟨[],[some 0,some 1,some 4],?_⟩
   iterate 3 constructor
   refine⟨⟨?_,?_,?_⟩,⟨i+1,h,rfl,rfl,rfl,rfl⟩⟩
   all_goals(repeat' first|exact LF|constructor)
   all_goals first|exact Lz.int (by rw[hnd,IntWalk.i64_in _ (by omega)];omega)|exact Lz.of (by rw[hnx,List.map_append];rfl)|trace_state
  ·obtain rfl:i=r.bs.length:=by have:=mt lenlt.2 h;omega
   rw[List.take_length]
   conv=>whnf
   exact⟨[2],[],_,_,_,t3,rfl,rfl,rfl⟩
end Go.M
namespace Go.M
open Go Go.Proofs
set_option maxHeartbeats 1000000
@[reducible] def nxU (s:StS) (u:UpR):UpR:={u with seq:=s.e+1}
def nxS (s:StS) (u:UpR):StS:=(applyS s (nxU s u)).2
def runS (l:List UpR):StS:=l.foldl nxS ⟨0,[],zeroTab⟩
structure URng (u:UpR):Prop where
 num:0≤u.num∧u.num≤18446744073709551615
 ver:0≤u.ver∧u.ver≤18446744073709551615
 key:0≤u.key∧u.key≤4294967295
theorem URng.ok {u:UpR} (h:URng u) {s:StS} (h0:0≤s.e) (h1:s.e<1000000):UOk (nxU s u):=⟨by show 0≤s.e+1∧s.e+1≤_;omega,h.num,h.ver,h.key⟩
end Go.M
namespace Go.M
open Go Go.Proofs
set_option maxHeartbeats 1000000
theorem list_of {α:Type} {enc:α→List TV} {P:α→Prop} {ss:List Sh} (h:∀r,Fits ss r→∃a,r=enc a∧P a):∀{es:List (List TV)},(∀r∈es,Fits ss r)→∃l:List α,es=l.map enc∧∀a∈l,P a
 |[],_=>⟨[],rfl,by simp⟩
 |r::es,hr=>by
  obtain⟨a,rfl,ha⟩:=h r (hr r List.mem_cons_self)
  obtain⟨l,rfl,hl⟩:=list_of h (es:=es) fun r hr'=>hr r (List.mem_cons_of_mem _ hr')
  exact⟨a::l,rfl,fun b hb=>by rcases List.mem_cons.1 hb with rfl |hb;exact ha;exact hl b hb⟩
theorem cons_of {s:Sh} {ss:List Sh} {r:List TV} (h:Fits (s::ss) r):∃t r',r=t::r'∧Fit s t∧Fits ss r':=by
 unfold Fits at h;exact h
theorem nil_of {r:List TV} (h:Fits [] r):r=[]:=by
 unfold Fits at h;exact h
theorem byte_of {r:List TV} (h:Fits [.int .u8] r):∃n:Int,r=[.s (.int .u8 n)]∧0≤n∧n<256:=by
 simp only[Fits,Fit]at h
 obtain⟨_,_,rfl,⟨c,h1,h2,rfl⟩,rfl⟩:=h
 exact⟨c,rfl,h1,Int.lt_of_le_of_lt h2 (by decide)⟩
theorem bytes_of {es:List (List TV)} (h:∀r∈es,Fits [.int .u8] r):∃l:List Int,es=encU8 l∧∀n∈l,0≤n∧n<256:=
 list_of (fun _ hr=>byte_of hr) h
@[reducible] def shU:List Sh:=[.int .u64,.int .i64,.int .u64,.int .i64,.int .u32,.int .u64,.sl [.int .u8]]
structure UAll (u:UpR):Prop where
 rng:URng u
 seq:0≤u.seq∧u.seq≤18446744073709551615
 bytes:∀n∈u.data,0≤n∧n<256
end Go.M
namespace Go.M
open Go Go.Proofs
set_option maxHeartbeats 1000000
def Std:Int→List RowS→Prop
 |_,[]=>True
 |i,r::l=>(r.num≠0→r.client=i)∧0≤r.num∧Std (i+1) l
theorem Std.low {i:Int} {l:List RowS} (h:Std i l):∀r∈l.filter nz,i≤r.client:=by
 induction l generalizing i with
 |nil=>simp
 |cons r l ih=>
  obtain⟨h1,_,h2⟩:=h
  intro x m
  rw[List.mem_filter]at m
  obtain⟨m,hx⟩:=m
  have hx:x.num≠0:=by simpa using hx
  rcases List.mem_cons.1 m with rfl |m
  ·rw[h1 hx];exact Int.le_refl _
  ·have:=ih h2 x (List.mem_filter.2 ⟨m,by simpa using hx⟩);omega
theorem insBy_front {α:Type} {key:α→Int} {x:α} {l:List α} (h:∀a∈l,key x<key a):insBy key x l=x::l:=by
 cases l with
 |nil=>rfl
 |cons a l=>
  have:=h a (by simp)
  show(if key a<key x then _ else if key a=key x then _ else _)=_
  rw[if_neg (by omega),if_neg (by omega)]
theorem Std.ins {i:Int} {l:List RowS} (h:Std i l) {x:RowS} (hx:x.num≠0) (h1:i≤x.client) (h2:x.client<i+l.length):
 insBy keyRow x (l.filter nz)=(l.set (x.client - i).toNat x).filter nz:=by
 induction l generalizing i with
 |nil=>simp at h2;omega
 |cons r l ih=>
  obtain⟨q1,q0,q2⟩:=h
  by_cases e:x.client=i
  ·rw[show(x.client - i).toNat=0 from by omega]
   show insBy keyRow x ((r::l).filter nz)=(x::l).filter nz
   rw[show(x::l).filter nz=x::l.filter nz from List.filter_cons_of_pos (by simpa using hx)]
   have hlow:∀a∈l.filter nz,keyRow x<keyRow a:=fun a m=>by have:=q2.low a m;show x.client<a.client;omega
   by_cases hr:r.num=0
   ·rw[List.filter_cons_of_neg (by simpa using hr),insBy_front hlow]
   ·rw[List.filter_cons_of_pos (by simpa using hr)]
    have:=q1 hr
    show(if r.client<x.client then _ else if r.client=x.client then _ else _)=_
    rw[if_neg (by omega),if_pos (by omega)]
  ·have ih':=ih q2 (by omega) (by simp at h2;omega)
   rw[show(x.client - i).toNat=(x.client - (i+1)).toNat+1 from by omega]
   show _=(r::l.set (x.client - (i+1)).toNat x).filter nz
   by_cases hr:r.num=0
   ·rw[List.filter_cons_of_neg (by simpa using hr),List.filter_cons_of_neg (by simpa using hr)];exact ih'
   ·rw[List.filter_cons_of_pos (by simpa using hr),List.filter_cons_of_pos (by simpa using hr)]
    have:=q1 hr
    show(if r.client<x.client then r::insBy keyRow x (l.filter nz)else _)=_
    rw[if_pos (by omega),ih']
theorem Std.get {i:Int} {l:List RowS} (h:Std i l) {c:Int} (h1:i≤c) (h2:c<i+l.length):
 getR (l.filter nz) c=if(l.getD (c - i).toNat zeroR).num=0 then none else some (l.getD (c - i).toNat zeroR):=by
 induction l generalizing i with
 |nil=>simp at h2;omega
 |cons r l ih=>
  obtain⟨q1,q0,q2⟩:=h
  by_cases e:c=i
  ·subst e
   rw[show(c - c).toNat=0 from by omega]
   show _=if r.num=0 then none else some r
   by_cases hr:r.num=0
   ·rw[List.filter_cons_of_neg (by simpa using hr),if_pos hr]
    exact getR_no fun x m=>by have:=q2.low x m;omega
   ·rw[List.filter_cons_of_pos (by simpa using hr),if_neg hr]
    exact getR_at (i:=0) (by simp) (by simp) (q1 hr)
  ·have ih':=ih q2 (by omega) (by simp at h2;omega)
   rw[show(c - i).toNat=(c - (i+1)).toNat+1 from by omega]
   show _=if(l.getD (c - (i+1)).toNat zeroR).num=0 then none else some (l.getD (c - (i+1)).toNat zeroR)
   by_cases hr:r.num=0
   ·rw[List.filter_cons_of_neg (by simpa using hr)];exact ih'
   ·rw[List.filter_cons_of_pos (by simpa using hr)]
    have:=q1 hr
    rw[←ih']
    unfold getR
    rw[List.find?_cons_of_neg (by simp;omega)]
theorem Std.set {i:Int} {l:List RowS} (h:Std i l) {x:RowS} (hx:0≤x.num) (h1:i≤x.client) (h2:x.client<i+l.length):Std i (l.set (x.client - i).toNat x):=by
 induction l generalizing i with
 |nil=>simp at h2;omega
 |cons r l ih=>
  obtain⟨q1,q0,q2⟩:=h
  by_cases e:x.client=i
  ·rw[show(x.client - i).toNat=0 from by omega]
   exact⟨fun _=>e,hx,q2⟩
  ·rw[show(x.client - i).toNat=(x.client - (i+1)).toNat+1 from by omega]
   exact⟨q1,q0,ih q2 (by omega) (by simp at h2;omega)⟩
theorem judge_rows {t:TabS} (H:Std 1 (lstT t)) (c n:Int) (hn:0≤n):judgeR (rowsT t) c n=judgeC t c n:=by
 unfold judgeR judgeC
 split
 ·rfl
 ·rename_i h
  have hc:1≤c∧c≤6:=Decidable.not_not.1 (fun q=>h (.inl q))
  have hn0:n≠0:=fun q=>h (.inr q)
  rw[H.get hc.1 (by show c<1+6;omega),row_lst t hc]
  generalize (lstT t).getD (c - 1).toNat zeroR=r
  by_cases hr:r.num=0
  ·rw[if_pos hr,if_pos (by omega)]
  ·rw[if_neg hr]
   show(if r.num<n then 0 else if r.num=n then 1 else 2)=if r.num<n then 0 else if n=r.num then 1 else 2
   split
   ·rfl
   ·split<;>split<;>omega
theorem insBy_mem {α:Type} {key:α→Int} {x:α}:∀{l:List α},∀a∈insBy key x l,a=x∨a∈l
 |[],a,h=>by simp[insBy]at h;exact .inl h
 |b::l,a,h=>by
  unfold insBy at h
  split at h
  ·rcases List.mem_cons.1 h with rfl |h
   ·exact .inr (by simp)
   ·rcases insBy_mem a h with h|h
    ·exact .inl h
    ·exact .inr (List.mem_cons_of_mem _ h)
  ·split at h
   ·rcases List.mem_cons.1 h with rfl |h
    ·exact .inl rfl
    ·exact .inr (List.mem_cons_of_mem _ h)
   ·rcases List.mem_cons.1 h with rfl |h
    ·exact .inl rfl
    ·exact .inr h
theorem insBy_up {l:List (Int×List Vs)} {x:Int×List Vs} (h:l.Pairwise fun a b=>a.1<b.1):(insBy keyBl x l).Pairwise fun a b=>a.1<b.1:=by
 induction l with
 |nil=>simp[insBy]
 |cons a l ih=>
  rw[List.pairwise_cons]at h
  unfold insBy
  split
  ·rename_i q
   have q:a.1<x.1:=q
   rw[List.pairwise_cons]
   refine⟨fun b m=>?_,ih h.2⟩
   rcases insBy_mem b m with rfl |m
   ·exact q
   ·exact h.1 b m
  ·rename_i q
   have q:¬a.1<x.1:=q
   split
   ·rename_i q2
    have q2:a.1=x.1:=q2
    rw[List.pairwise_cons]
    exact⟨fun b m=>by have:=h.1 b m;omega,h.2⟩
   ·rename_i q2
    have q2:¬a.1=x.1:=q2
    rw[List.pairwise_cons]
    refine⟨fun b m=>?_,List.pairwise_cons.2 h⟩
    rcases List.mem_cons.1 m with rfl |m
    ·omega
    ·have:=h.1 b m;omega
theorem lookA_front {α:Type} {l:List (Int×α)} {k:Int} (h:∀b∈l,k<b.1):lookA l k=none:=lookA_no fun b m q=>by have:=h b m;omega
theorem insBy_look {l:List (Int×List Vs)} {x:Int×List Vs} (h:l.Pairwise fun a b=>a.1<b.1) (k:Int):lookA (insBy keyBl x l) k=if k=x.1 then some x.2 else lookA l k:=by
 induction l with
 |nil=>simp[insBy,lookA]
 |cons a l ih=>
  rw[List.pairwise_cons]at h
  have ih:=ih h.2
  unfold insBy
  split
  ·rename_i q
   have q:a.1<x.1:=q
   simp only[lookA]
   rw[ih]
   by_cases hk:k=a.1
   ·rw[if_pos hk,if_neg (by omega),if_pos hk]
   ·rw[if_neg hk,if_neg hk]
  ·rename_i q
   split
   ·rename_i q2
    have q2:a.1=x.1:=q2
    simp only[lookA]
    by_cases hk:k=x.1
    ·rw[if_pos hk,if_pos hk]
    ·rw[if_neg hk,if_neg hk,if_neg (by omega)]
   ·simp only[lookA]
theorem insBy_len {l:List (Int×List Vs)} {x:Int×List Vs} (h:l.Pairwise fun a b=>a.1<b.1):(lookA l x.1=none→(insBy keyBl x l).length=l.length+1)∧(lookA l x.1≠none→(insBy keyBl x l).length=l.length):=by
 induction l with
 |nil=>exact⟨fun _=>rfl,fun q=>absurd rfl q⟩
 |cons a l ih=>
  rw[List.pairwise_cons]at h
  have ih:=ih h.2
  unfold insBy
  split
  ·rename_i q
   have q:a.1<x.1:=q
   have e:lookA (a::l) x.1=lookA l x.1:=by simp only[lookA];rw[if_neg (show¬x.1=a.1 by omega)]
   rw[e]
   exact⟨fun w=>by rw[List.length_cons,List.length_cons,ih.1 w],fun w=>by rw[List.length_cons,List.length_cons,ih.2 w]⟩
  ·rename_i q
   have q:¬a.1<x.1:=q
   split
   ·rename_i q2
    have q2:a.1=x.1:=q2
    have e:lookA (a::l) x.1=some a.2:=by simp only[lookA];rw[if_pos q2.symm]
    rw[e]
    exact⟨(fun w=>by cases w),fun _=>rfl⟩
   ·rename_i q2
    have q2:¬a.1=x.1:=q2
    have e:lookA (a::l) x.1=none:=by simp only[lookA];rw[if_neg (show¬x.1=a.1 by omega)];exact lookA_front fun b m=>by have:=h.1 b m;omega
    rw[e]
    exact⟨fun _=>rfl,fun w=>absurd rfl w⟩
theorem putA_length {bs:List (Int×List Vs)} {k:Int} {vs:List Vs}:(putA bs k vs).length=if lookA bs k=none then bs.length+1 else bs.length:=by
 have:=congrArg List.length (putA_keys (n:=k) (v:=vs) (es:=bs))
 simp only[keysA,List.length_map]at this
 rw[this]
 by_cases h:lookA bs k=none
 ·rw[if_pos h,if_neg (lookA_none.1 h)];simp
 ·rw[if_neg h,if_pos (Decidable.not_not.1 (fun q=>h (lookA_none.2 q)))];simp
structure Rel (s:StS) (r:RfS):Prop where
 e:r.e=s.e
 up:r.bs.Pairwise fun a b=>a.1<b.1
 lk:∀k,lookA r.bs k=lookA s.bs k
 len:r.bs.length=s.bs.length
 std:Std 1 (lstT s.t)
 rows:r.rows=rowsT s.t
theorem Rel.of {s:StS} {r:RfS} (H:Rel s r) (k:Int):ofR r k=ofK s k:=by unfold ofR ofK;rw[H.lk]
theorem Rel.zero:Rel ⟨0,[],zeroTab⟩ ⟨0,[],[]⟩:=⟨rfl,.nil,fun _=>rfl,rfl,by simp[Std],rfl⟩
theorem rows_len (t:TabS):(rowsT t).length≤6:=List.length_filter_le nz (lstT t)
theorem Rel.ok {s:StS} {r:RfS} {n:Nat} (H:Rel s r) (I:SInv s n) (hn:n<500):ROk r:=⟨by rw[H.len];have:=I.len;omega,by rw[H.rows];have:=rows_len s.t;omega,fun k=>by
 rw[H.of]
 have g:=(I.g k).last I.e.1
 have gl:=I.gl k
 exact⟨by omega,g.1,g.2.1⟩⟩
end Go.M
