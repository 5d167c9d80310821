/-
  Part 30 of the library that the proof leans on.
-/
import Derived.Test.YtgjfaieghmigjaaGreatDoorL28
import Derived.Test.YtgjfaieghmigjaaGreatDoorL29
import Derived.Test.YtgjfaieghmigjaaGreatDoorL21
import Derived.Test.YtgjfaieghmigjaaGreatDoorL26
import Derived.Test.YtgjfaieghmigjaaGreatDoorL12
namespace Go.M
open Go Go.Proofs
set_option maxRecDepth 100000
set_option maxHeartbeats 4000000
theorem cloneB_ok (l:List Int) (hl:l.length<1000000):VC EZ 125 0 [.sl 1 (l.map encU1) false] [] (RR (.sl 1 (l.map encU1) false) 0 []):=by
 refine VC.enterR LZ (show EZ.func 125=some Tryz.f125 by kernel_rfl) (fun _ _=>rfl) rfl rfl [] ?_
 conv=>whnf
 refine⟨fun h=>?_,?_⟩
 ·have h:l=[]:=by simpa using h
  subst h
  conv=>whnf
  exact⟨[],[],_,_,_,t3,rfl,rfl,rfl⟩
 ·conv=>whnf
  refine⟨by simp;omega,?_⟩
  conv=>whnf
  exact⟨[1],[],_,_,_,t3,rfl,rfl,rfl⟩
theorem known_ok (w:Nat) (h1:1≤w) (h8:w≤8):VC EZ 129 0 [.s (.int .i64 w)] [] (RR (.s (.bool true)) 0 []):=by
 refine VC.enterR LZ (show EZ.func 129=some Tryz.f129 by kernel_rfl) (fun _ _=>rfl) rfl rfl [] ?_
 conv=>whnf
 (first|refine⟨?_,?_⟩|refine nsplit ?_ ?_|refine bsplit ?_ ?_)<;>intro h<;>have hz_:=True.intro<;>clear hz_
 ·conv=>whnf
  (first|refine⟨?_,?_⟩|refine nsplit ?_ ?_|refine bsplit ?_ ?_)<;>intro h'<;>have hz_:=True.intro<;>clear hz_
  ·conv=>whnf
   exact⟨[],[],_,_,_,t3,rfl,rfl,rfl⟩
  ·exact absurd (show(w:Int)≤8 by omega) h'
 ·exact absurd (show(w:Int)≥1 by omega) h
theorem laid_set (w i n:Nat) (h:i<w):((List.replicate (w - i) (0:Int)++bigL i n).map encU1).set (w - 1 - i) (encU1 ((n / 256 ^ i % 256:Nat):Int))=(List.replicate (w - (i+1)) (0:Int)++bigL (i+1) n).map encU1:=by
 have e:w - i=(w - (i+1))+1:=by omega
 rw[←List.map_set,e,List.replicate_succ',List.append_assoc,List.set_append_right _ _ (by simp;omega),bigL_cons]
 congr 2
 rw[List.length_replicate,show w - 1 - i - (w - (i+1))=0 by omega]
 rfl
theorem laid_get (w i n:Nat) (h:i<w):((List.replicate (w - i) (0:Int)++bigL i n).map encU1)[w - 1 - i]? =some (encU1 0):=by
 have e:w - i=(w - (i+1))+1:=by omega
 rw[e,List.replicate_succ',List.append_assoc,List.map_append,List.getElem?_append_right (by simp;omega)]
 simp
 rw[show w - 1 - i - (w - (i+1))=0 by omega]
 rfl
theorem laid_ok (n:Nat) (w:Nat) (h1:1≤w) (h8:w≤8):VC EZ 137 0 [.s (.int .u64 n),.s (.int .i64 w)] [] (RR (.tk 0) 1 [(0,.arr 1 true ((bigL w n).map encU1))]):=by
 refine VC.enterR LZ (show EZ.func 137=some Tryz.f137 by kernel_rfl) (fun _ _=>rfl) rfl rfl [] ?_
 conv=>whnf
 refine⟨⟨by omega,by omega,by omega⟩,?_⟩
 conv=>whnf
 refine⟨fun k f o c=>∃i:Nat,i≤w∧k=w - i∧c=1∧f=[(0,.s (.int .u64 n)),(1,.s (.int .i64 w)),(5,.tk 0),(10,.s (.int .i64 w)),(11,.s (.int .i64 i))]∧o=[(0,.arr 1 true ((List.replicate (w - i) 0++bigL i n).map encU1))],⟨w,?_⟩,?_⟩
 ·refine⟨[],[some 0],?_⟩
  iterate 3 constructor
  refine⟨⟨?_,?_,?_⟩,⟨0,Nat.zero_le _,rfl,rfl,rfl,rfl⟩⟩
  all_goals(repeat' first|exact LF|constructor)
  all_goals first|exact Lz.int (by simp)|exact Lz.of (by simp[bigL];exact .inr rfl)|trace_state
 ·rintro k f1 o1 c1 ⟨i,hi,rfl,rfl,rfl,rfl⟩
  conv=>whnf
  (first|refine⟨?_,?_⟩|refine nsplit ?_ ?_|refine bsplit ?_ ?_)<;>intro h<;>have hz_:=True.intro<;>clear hz_
  ·have h:i<w:=by have:(i:Int)<w:=h
                  omega
   conv=>whnf
   rw[shr_eq n i (by omega)]
   conv=>whnf
   have hw:IntKind.i64.wrap (IntKind.i64.wrap ((w:Int) - 1) - (i:Int))=((w - 1 - i:Nat):Int):=by
    rw[IntWalk.i64_in _ (by rw[IntWalk.i64_in _ (by omega)];omega),IntWalk.i64_in _ (by omega)];omega
   refine⟨by rw[hw];simp[bigL_len];omega,?_⟩
   conv=>whnf
   refine⟨encU1 0,by rw[hw,Int.toNat_natCast];exact laid_get w i n h,?_⟩
   conv=>whnf
   refine⟨w - (i+1),?_,by omega⟩
   refine⟨[],[some 0],?_⟩
   iterate 3 constructor
   refine⟨⟨?_,?_,?_⟩,⟨i+1,h,rfl,rfl,rfl,rfl⟩⟩
   all_goals(repeat' first|exact LF|constructor)
   all_goals first|exact Lw.of (by rw[hw,Int.toNat_natCast,←laid_set w i n h,IntKind.wrap_u8];simp)|exact Lz.of (by rw[hw,Int.toNat_natCast,←laid_set w i n h,IntKind.wrap_u8];simp)|trace_state
  ·have hi':i=w:=by have:¬(i:Int)<w:=h
                    omega
   subst hi'
   rw[Nat.sub_self]
   conv=>whnf
   exact⟨[],[some 0],_,_,_,t3,rfl,rfl,rfl⟩
theorem fits_ok (n:Nat) (w:Nat) (h1:1≤w) (h8:w≤8) (hn:n<18446744073709551616):VC EZ 135 0 [.s (.int .u64 n),.s (.int .i64 w)] [] (RR (.s (.bool (decide (n<256 ^ w)))) 0 []):=by
 refine VC.enterR LZ (show EZ.func 135=some Tryz.f135 by kernel_rfl) (fun _ _=>rfl) rfl rfl [] ?_
 conv=>whnf
 (first|refine⟨?_,?_⟩|refine nsplit ?_ ?_|refine bsplit ?_ ?_)<;>intro h<;>have hz_:=True.intro<;>clear hz_
 ·have h:w=8:=by have:(w:Int)=8:=h
                 omega
  subst h
  conv=>whnf
  refine⟨[],[],?_⟩
  iterate 3 constructor
  refine⟨⟨?_,?_,?_⟩,rfl,rfl,rfl⟩
  all_goals(repeat' first|exact LF|constructor)
  exact Lz.of (bool_eq (decide_eq_true (show n<256 ^ 8 by omega)).symm)
 ·conv=>whnf
  rw[shr_eq n w (by omega)]
  conv=>whnf
  (first|refine⟨?_,?_⟩|refine nsplit ?_ ?_|refine bsplit ?_ ?_)<;>intro h0<;>have hz_:=True.intro<;>clear hz_
  ·have h0:((n / 256 ^ w:Nat):Int)=0:=h0
   conv=>whnf
   refine⟨[],[],?_⟩
   iterate 3 constructor
   refine⟨⟨?_,?_,?_⟩,rfl,rfl,rfl⟩
   all_goals(repeat' first|exact LF|constructor)
   exact Lz.of (bool_eq (decide_eq_true (show n<256 ^ w from(Nat.div_eq_zero_iff_lt (Nat.pow_pos (by decide))).1 (by omega))).symm)
  ·have h0:¬((n / 256 ^ w:Nat):Int)=0:=h0
   conv=>whnf
   refine⟨[],[],?_⟩
   iterate 3 constructor
   refine⟨⟨?_,?_,?_⟩,rfl,rfl,rfl⟩
   all_goals(repeat' first|exact LF|constructor)
   exact Lz.of (bool_eq (decide_eq_false (fun q=>h0 (by rw[(Nat.div_eq_zero_iff_lt (Nat.pow_pos (by decide))).2 q];rfl))).symm)
structure OutS where
 b:List Int
 most:Int
 e:Int
def OutS.fail (s:OutS) (e:Int):OutS:=if s.e=0 then⟨s.b,s.most,e⟩else s
def OutS.put (s:OutS) (x:List Int):OutS:=if s.e≠0 then s else if(x.length:Int)>s.most - s.b.length then⟨s.b,s.most,6⟩else⟨s.b++x,s.most,0⟩
def OutS.num (s:OutS) (n w:Nat):OutS:=if n<256 ^ w then s.put (bigL w n)else s.fail 4
structure OutS.ok (s:OutS):Prop where
 m:0≤s.most∧s.most≤1048576
 l:(s.b.length:Int)≤s.most
@[reducible] def OutO (s:OutS):TO:=.cells [.own (.arr 1 true (s.b.map encU1)),.s (.int .i64 s.most),.s (.int .i64 s.e)]
theorem new_ok (m:Nat):VC EZ 91 0 [.s (.int .i64 m)] [] (RR (.ptr 0 0) 1 [(0,OutO ⟨[],m,0⟩)]):=by
 refine VC.enterR LZ (show EZ.func 91=some Tryz.f91 by kernel_rfl) (fun _ _=>rfl) rfl rfl [] ?_
 conv=>whnf
 refine⟨[],[some 0],?_⟩
 iterate 3 constructor
 refine⟨⟨?_,?_,?_⟩,rfl,rfl,rfl⟩
 all_goals(repeat' first|exact LF|constructor)
 all_goals exact Lz.int (if_neg (by omega))
theorem outFail_ok (s:OutS) (e:Int):VC EZ 134 1 [.ptr 0 0,.s (.int .i64 e)] [(0,OutO s)] (RR (.tup []) 1 [(0,OutO (s.fail e))]):=by
 refine VC.enterR LZ (show EZ.func 134=some Tryz.f134 by kernel_rfl) (fun _ _=>rfl) rfl rfl [] ?_
 conv=>whnf
 (first|refine⟨?_,?_⟩|refine nsplit ?_ ?_|refine bsplit ?_ ?_)<;>intro h<;>have hz_:=True.intro<;>clear hz_
 ·have h:s.e=0:=h
  rw[show s.fail e=⟨s.b,s.most,e⟩from if_pos h]
  conv=>whnf
  exact⟨[],[some 0],_,_,_,t3,rfl,rfl,rfl⟩
 ·have h:¬s.e=0:=h
  rw[show s.fail e=s from if_neg h]
  conv=>whnf
  exact⟨[],[some 0],_,_,_,t3,rfl,rfl,rfl⟩
theorem put_ok (s:OutS) (x:List Int) (hs:s.ok) (hx:s.b.length+x.length≤1000000):VC EZ 136 1 [.ptr 0 0,.sl 1 (x.map encU1) false] [(0,OutO s)] (RR (.tup []) 1 [(0,OutO (s.put x))]):=by
 obtain⟨⟨m0,m1⟩,hl⟩:=hs
 refine VC.enterR LZ (show EZ.func 136=some Tryz.f136 by kernel_rfl) (fun _ _=>rfl) rfl rfl [] ?_
 conv=>whnf
 (first|refine⟨?_,?_⟩|refine nsplit ?_ ?_|refine bsplit ?_ ?_)<;>intro h<;>have hz_:=True.intro<;>clear hz_
 ·have h:s.e≠0:=h
  rw[show s.put x=s from if_pos h]
  conv=>whnf
  exact⟨[],[some 0],_,_,_,t3,rfl,rfl,rfl⟩
 ·have h:¬s.e≠0:=h
  have h0:s.e=0:=by omega
  ((conv=>whnf)<;>repeat(with_reducible refine D1 ?_)<;>conv=>whnf)
  (first|refine⟨?_,?_⟩|refine nsplit ?_ ?_|refine bsplit ?_ ?_)<;>intro h2<;>have hz_:=True.intro<;>clear hz_
  ·have h2:(x.length:Int)>s.most - s.b.length:=by
    have:(((x.map encU1).length:Nat):Int)>IntKind.i64.wrap (s.most - (((s.b.map encU1).length:Nat):Int)):=h2
    rw[List.length_map,List.length_map,IntWalk.i64_in _ (by omega)]at this
    exact this
   rw[show s.put x=s.fail 6 from by unfold OutS.put OutS.fail;rw[if_neg h,if_pos h2,if_pos h0]]
   ((conv=>whnf)<;>repeat(with_reducible refine D1 ?_)<;>conv=>whnf)
   refine⟨[],[some 0],_,_,_,_,outFail_ok s 6,t3,cR ?_⟩
   conv=>whnf
   exact⟨[],[some 0],_,_,_,t3,rfl,rfl,rfl⟩
  ·have h2:¬(x.length:Int)>s.most - s.b.length:=by
    have:¬(((x.map encU1).length:Nat):Int)>IntKind.i64.wrap (s.most - (((s.b.map encU1).length:Nat):Int)):=h2
    rw[List.length_map,List.length_map,IntWalk.i64_in _ (by omega)]at this
    exact this
   rw[show s.put x=⟨s.b++x,s.most,0⟩from by unfold OutS.put;rw[if_neg h,if_neg h2]]
   ((conv=>whnf)<;>repeat(with_reducible refine D1 ?_)<;>conv=>whnf)
   refine⟨by simp;omega,?_⟩
   conv=>whnf
   refine⟨[],[some 0],?_⟩
   iterate 3 constructor
   refine⟨⟨?_,?_,?_⟩,rfl,rfl,rfl⟩
   all_goals(repeat' first|exact LF|constructor)
   all_goals first|exact Lz.int h0|exact Lw.of (by simp)|exact Lz.of (by simp)|trace_state
theorem num_ok (s:OutS) (n w:Nat) (hs:s.ok) (hx:s.b.length≤900000) (h1:1≤w) (h8:w≤8) (hn:n<18446744073709551616):VC EZ 92 1 [.ptr 0 0,.s (.int .u64 n),.s (.int .i64 w)] [(0,OutO s)] (RR (.tup []) 1 [(0,OutO (s.num n w))]):=by
 have hf:=fits_ok n w h1 h8 hn
 refine VC.enterR LZ (show EZ.func 92=some Tryz.f92 by kernel_rfl) (fun _ _=>rfl) rfl rfl [] ?_
 conv=>whnf
 refine⟨[],[],_,_,_,_,known_ok w h1 h8,t3,cR ?_⟩
 conv=>whnf
 by_cases h:n<256 ^ w
 ·rw[show s.num n w=s.put (bigL w n)from if_pos h]
  rw[decide_eq_true h]at hf
  refine⟨[],[],_,_,_,_,hf,t3,cR ?_⟩
  conv=>whnf
  refine⟨[],[],_,_,_,_,laid_ok n w h1 h8,t3,cR ?_⟩
  conv=>whnf
  refine⟨[1],[some 0],_,_,_,_,put_ok s (bigL w n) hs (by rw[bigL_len];omega),t3,cR ?_⟩
  conv=>whnf
  exact⟨[],[some 0],_,_,_,t3,rfl,rfl,rfl⟩
 ·rw[show s.num n w=s.fail 4 from if_neg h]
  rw[decide_eq_false h]at hf
  refine⟨[],[],_,_,_,_,hf,t3,cR ?_⟩
  conv=>whnf
  refine⟨[],[some 0],_,_,_,_,outFail_ok s 4,t3,cR ?_⟩
  conv=>whnf
  exact⟨[],[some 0],_,_,_,t3,rfl,rfl,rfl⟩
def boolN (b:Bool):Nat:=if b then 1 else 0
theorem done_ok (s:OutS) (hs:s.ok) (hx:s.b.length≤900000):VC EZ 95 1 [.ptr 0 0] [(0,OutO s)] (RR (.tup [.sl 1 ((if s.e=0 then s.b else []).map encU1) false,.s (.int .i64 s.e)]) 1 []):=by
 obtain⟨⟨m0,m1⟩,hl⟩:=hs
 refine VC.enterR LZ (show EZ.func 95=some Tryz.f95 by kernel_rfl) (fun _ _=>rfl) rfl rfl [] ?_
 conv=>whnf
 (first|refine⟨?_,?_⟩|refine nsplit ?_ ?_|refine bsplit ?_ ?_)<;>intro h<;>have hz_:=True.intro<;>clear hz_
 ·have h:s.e≠0:=h
  rw[if_neg h]
  ((conv=>whnf)<;>repeat(with_reducible refine D1 ?_)<;>conv=>whnf)
  exact⟨[],[some 0],_,_,_,t3,rfl,rfl,rfl⟩
 ·have h:s.e=0:=Classical.not_not.1 h
  rw[if_pos h]
  conv=>whnf
  refine⟨[1],[],_,_,_,_,cloneB_ok s.b (by omega),t3,cR ?_⟩
  conv=>whnf
  refine⟨[],[some 0],?_⟩
  iterate 3 constructor
  refine⟨⟨?_,?_,?_⟩,rfl,rfl,rfl⟩
  all_goals(repeat' first|exact LF|constructor)
  all_goals exact Lz.int h.symm
end Go.M
namespace Go.M
open Go Go.Proofs
set_option maxRecDepth 100000
set_option maxHeartbeats 4000000
@[reducible] def InO (s:InS):TO:=.cells [.sl 1 (s.b.map encU1) false,.s (.int .i64 s.e)]
theorem of_ok (l:List Int) (hl:l.length<1000000):VC EZ 83 0 [.sl 1 (l.map encU1) false] [] (RR (.ptr 0 0) 1 [(0,InO ⟨l,0⟩)]):=by
 refine VC.enterR LZ (show EZ.func 83=some Tryz.f83 by kernel_rfl) (fun _ _=>rfl) rfl rfl [] ?_
 conv=>whnf
 refine⟨[],[],_,_,_,_,cloneB_ok l hl,t3,cR ?_⟩
 conv=>whnf
 exact⟨[],[some 0],_,_,_,t3,rfl,rfl,rfl⟩
theorem err_ok (s:InS):VC EZ 89 1 [.ptr 0 0] [(0,InO s)] (RR (.s (.int .i64 s.e)) 1 [(0,InO s)]):=by
 refine VC.enterR LZ (show EZ.func 89=some Tryz.f89 by kernel_rfl) (fun _ _=>rfl) rfl rfl [] ?_
 conv=>whnf
 exact⟨[],[some 0],_,_,_,t3,rfl,rfl,rfl⟩
theorem inFail_ok (s:InS) (e:Int):VC EZ 130 1 [.ptr 0 0,.s (.int .i64 e)] [(0,InO s)] (RR (.tup []) 1 [(0,InO ⟨[],if s.e=0 then e else s.e⟩)]):=by
 refine VC.enterR LZ (show EZ.func 130=some Tryz.f130 by kernel_rfl) (fun _ _=>rfl) rfl rfl [] ?_
 conv=>whnf
 (first|refine⟨?_,?_⟩|refine nsplit ?_ ?_|refine bsplit ?_ ?_)<;>intro h<;>have hz_:=True.intro<;>clear hz_
 ·have h:s.e=0:=h
  rw[if_pos h]
  conv=>whnf
  exact⟨[],[some 0],_,_,_,t3,rfl,rfl,rfl⟩
 ·have h:¬s.e=0:=h
  rw[if_neg h]
  conv=>whnf
  exact⟨[],[some 0],_,_,_,t3,rfl,rfl,rfl⟩
theorem next_ok (s:InS) (n:Nat) (_:n<1000000):VC EZ 131 1 [.ptr 0 0,.s (.int .i64 n)] [(0,InO s)] (RR (.tup [.sl 1 ((((s.next n).2).getD []).map encU1) false,.s (.bool ((s.next n).2).isSome)]) 1 [(0,InO (s.next n).1)]):=by
 refine VC.enterR LZ (show EZ.func 131=some Tryz.f131 by kernel_rfl) (fun _ _=>rfl) rfl rfl [] ?_
 conv=>whnf
 (first|refine⟨?_,?_⟩|refine nsplit ?_ ?_|refine bsplit ?_ ?_)<;>intro h<;>have hz_:=True.intro<;>clear hz_
 ·have h:s.e≠0:=h
  have e:s.next n=(s,none):=by unfold InS.next;rw[if_pos h]
  rw[e]
  conv=>whnf
  exact⟨[],[some 0],_,_,_,t3,rfl,rfl,rfl⟩
 ·have h:¬s.e≠0:=h
  have h0:s.e=0:=by omega
  conv=>whnf
  (first|refine⟨?_,?_⟩|refine nsplit ?_ ?_|refine bsplit ?_ ?_)<;>intro h2<;>have hz_:=True.intro<;>clear hz_
  ·have h2:s.b.length<n:=by have:(((s.b.map encU1).length:Nat):Int)<n:=h2
                            rw[List.length_map]at this;omega
   have e:s.next n=(⟨[],3⟩,none):=by unfold InS.next;rw[if_neg h,if_pos h2]
   have hf:=inFail_ok s 3
   rw[if_pos h0]at hf
   rw[e]
   conv=>whnf
   refine⟨[],[some 0],_,_,_,_,hf,t3,cR ?_⟩
   conv=>whnf
   exact⟨[],[some 0],_,_,_,t3,rfl,rfl,rfl⟩
  ·have h2:¬s.b.length<n:=by have:¬(((s.b.map encU1).length:Nat):Int)<n:=h2
                             rw[List.length_map]at this;omega
   have e:s.next n=(⟨s.b.drop n,0⟩,some (s.b.take n)):=by unfold InS.next;rw[if_neg h,if_neg h2]
   rw[e]
   conv=>whnf
   refine⟨by simp;omega,?_⟩
   conv=>whnf
   refine⟨by simp;omega,?_⟩
   conv=>whnf
   refine⟨[],[some 0],?_⟩
   iterate 3 constructor
   refine⟨⟨?_,?_,?_⟩,rfl,rfl,rfl⟩
   all_goals(repeat' first|exact LF|constructor)
   all_goals first
    |exact Lz.int h0
    |(refine Lz.of ?_;simp;done)
    |(refine Lz.of ?_;rw[Int.toNat_natCast,Int.toNat_natCast,List.take_of_length_le (by simp),List.map_drop])
    |(refine Lw.of ?_;rw[Int.toNat_natCast,Int.toNat_natCast,List.take_of_length_le (by simp),List.map_drop])
theorem number_ok (l:List Int) (hl:l.length<1000000) (hb:∀x∈l,0≤x∧x<256):VC EZ 132 0 [.sl 1 (l.map encU1) false] [] (RR (.s (.int .u64 (numL l))) 0 []):=by
 refine VC.enterR LZ (show EZ.func 132=some Tryz.f132 by kernel_rfl) (fun _ _=>rfl) rfl rfl [] ?_
 conv=>whnf
 refine⟨fun k f o c=>∃i:Nat,i≤l.length∧k=l.length - i∧c=0∧f=[(0,.sl 1 (l.map encU1) false),(3,.s (.int .u64 (numL (l.take i)))),(6,.sl 1 (l.map encU1) false),(7,.s (.int .i64 l.length)),(8,.s (.int .i64 i))]∧o=[],⟨l.length,?_⟩,?_⟩
 ·refine⟨[],[],?_⟩
  iterate 3 constructor
  refine⟨⟨?_,?_,?_⟩,⟨0,Nat.zero_le _,rfl,rfl,rfl,rfl⟩⟩
  all_goals(repeat' first|exact LF|constructor)
  all_goals exact Lz.int (by simp)
 ·rintro k f1 o1 c1 ⟨i,hi,rfl,rfl,rfl,rfl⟩
  conv=>whnf
  (first|refine⟨?_,?_⟩|refine nsplit ?_ ?_|refine bsplit ?_ ?_)<;>intro h<;>have hz_:=True.intro<;>clear hz_
  ·have h:i<l.length:=by have:(i:Int)<l.length:=h
                         omega
   conv=>whnf
   refine idxI h ?_
   conv=>whnf
   refine⟨l.length - (i+1),?_,by omega⟩
   refine⟨[],[],?_⟩
   iterate 3 constructor
   refine⟨⟨?_,?_,?_⟩,⟨i+1,h,rfl,rfl,rfl,rfl⟩⟩
   all_goals(repeat' first|exact LF|constructor)
   all_goals exact Lz.int (by
    have hx:=hb _ (List.getElem_mem h)
    have h0:=numL_range (l.take i)
    rw[take_snoc l i h,numL_snoc,←or_eq (numL (l.take i)) l[i] h0.1 hx,show IntKind.u64.wrap l[i]=l[i] by rw[IntKind.wrap_u64];omega]
    rfl)
  ·have hi':i=l.length:=by have:¬(i:Int)<l.length:=h
                           omega
   subst hi'
   rw[List.take_length]
   conv=>whnf
   exact⟨[],[],_,_,_,t3,rfl,rfl,rfl⟩
theorem upto_ok (s:InS) (w:Nat) (m:Int) (h1:1≤w) (h8:w≤8) (hb:∀x∈s.b,0≤x∧x<256):VC EZ 87 1 [.ptr 0 0,.s (.int .i64 w),.s (.int .u64 m)] [(0,InO s)] (RR (.s (.int .u64 (s.upto w m).2)) 1 [(0,InO (s.upto w m).1)]):=by
 have hnx:=next_ok s w (by omega)
 have hnb:=(InS.next_bytes (n:=w) hb).2
 have hnl:=fun l=>InS.next_len (s:=s) (n:=w) (l:=l)
 have hne:s.e≠0→s.upto w m=(s,0):=fun h=>by unfold InS.upto InS.next;rw[if_pos h]
 have hun:∀s',s.next w=(s',none)→s.upto w m=(s',0):=fun s' h=>by unfold InS.upto;rw[h]
 have hus:∀s' b,s.next w=(s',some b)→s'.e=0∧s.upto w m=if numL b>m then(⟨[],4⟩,0)else(s',numL b):=fun s' b h=>by
  refine⟨?_,by unfold InS.upto;rw[h]⟩
  unfold InS.next at h
  split at h
  ·cases h
  ·split at h
   ·cases h
   ·cases h;rfl
 refine VC.enterR LZ (show EZ.func 87=some Tryz.f87 by kernel_rfl) (fun _ _=>rfl) rfl rfl [] ?_
 conv=>whnf
 (first|refine⟨?_,?_⟩|refine nsplit ?_ ?_|refine bsplit ?_ ?_)<;>intro h<;>have hz_:=True.intro<;>clear hz_
 ·have h:s.e≠0:=h
  rw[hne h]
  conv=>whnf
  exact⟨[],[some 0],_,_,_,t3,rfl,rfl,rfl⟩
 ·conv=>whnf
  refine⟨[],[],_,_,_,_,known_ok w h1 h8,t3,cR ?_⟩
  conv=>whnf
  generalize hx:s.next w=q at hnx hnb hnl
  obtain⟨s',r⟩:=q
  cases r with
  |none=>
   rw[hun s' hx]
   refine⟨[],[some 0],_,_,_,_,hnx,t3,cR ?_⟩
   conv=>whnf
   exact⟨[],[some 0],_,_,_,t3,rfl,rfl,rfl⟩
  |some b=>
   obtain⟨h0,hu⟩:=hus s' b hx
   have hl:=hnl b rfl
   rw[hu]
   refine⟨[],[some 0],_,_,_,_,hnx,t3,cR ?_⟩
   conv=>whnf
   refine⟨[],[],_,_,_,_,number_ok b (by omega) (hnb b rfl),t3,cR ?_⟩
   conv=>whnf
   (first|refine⟨?_,?_⟩|refine nsplit ?_ ?_|refine bsplit ?_ ?_)<;>intro hm<;>have hz_:=True.intro<;>clear hz_
   ·have hm:numL b>m:=hm
    rw[if_pos hm]
    conv=>whnf
    have hf:=inFail_ok s' 4
    rw[if_pos h0]at hf
    refine⟨[],[some 0],_,_,_,_,hf,t3,cR ?_⟩
    conv=>whnf
    exact⟨[],[some 0],_,_,_,t3,rfl,rfl,rfl⟩
   ·have hm:¬numL b>m:=hm
    rw[if_neg hm]
    conv=>whnf
    exact⟨[],[some 0],_,_,_,t3,rfl,rfl,rfl⟩
theorem get_ok (s:InS) (w:Nat) (h1:1≤w) (h8:w≤8) (hb:∀x∈s.b,0≤x∧x<256):VC EZ 84 1 [.ptr 0 0,.s (.int .i64 w)] [(0,InO s)] (RR (.s (.int .u64 (s.get w).2)) 1 [(0,InO (s.get w).1)]):=by
 refine VC.enterR LZ (show EZ.func 84=some Tryz.f84 by kernel_rfl) (fun _ _=>rfl) rfl rfl [] ?_
 conv=>whnf
 refine⟨[],[some 0],_,_,_,_,upto_ok s w 18446744073709551615 h1 h8 hb,t3,cR ?_⟩
 conv=>whnf
 exact⟨[],[some 0],_,_,_,t3,rfl,rfl,rfl⟩
end Go.M
namespace Go.M
open Go Go.Proofs
set_option maxRecDepth 100000
set_option maxHeartbeats 4000000
theorem raw_ok (s:InS) (n:Nat) (hn:n<1000000):VC EZ 133 1 [.ptr 0 0,.s (.int .i64 n)] [(0,InO s)] (RR (.sl 1 (((s.raw n).2).map encU1) false) 1 [(0,InO (s.raw n).1)]):=by
 have hx:=next_ok s n hn
 have hl:=fun l=>InS.next_len (s:=s) (n:=n) (l:=l)
 have e:s.raw n=((s.next n).1,((s.next n).2).getD []):=rfl
 rw[e]
 generalize s.next n=q at hx hl
 obtain⟨s',r⟩:=q
 have hm:(if(0:Int)>(n:Int)then 0 else(n:Int))=n:=if_neg (by omega)
 refine VC.enterR LZ (show EZ.func 133=some Tryz.f133 by kernel_rfl) (fun _ _=>rfl) rfl rfl [] ?_
 conv=>whnf
 (first|refine⟨?_,?_⟩|refine nsplit ?_ ?_|refine bsplit ?_ ?_)<;>intro h<;>have hz_:=True.intro<;>clear hz_
 ·exact absurd h (by show¬(n:Int)<0;omega)
 conv=>whnf
 refine⟨[],[some 0],_,_,_,_,hx,⟨by((repeat' first|exact LF|constructor);all_goals(exact Lz.int hm)),by((repeat' first|exact LF|constructor);all_goals(exact Lz.int hm)),by rfl⟩,?_⟩
 rintro r o' c' ⟨rfl,rfl,rfl⟩
 conv=>whnf
 cases r with
 |none=>
  conv=>whnf
  exact⟨[],[some 0],_,_,_,t3,rfl,rfl,rfl⟩
 |some l=>
  conv=>whnf
  refine⟨[],[],_,_,_,_,cloneB_ok l (by have:=hl l rfl;omega),t3,cR ?_⟩
  conv=>whnf
  exact⟨[],[some 0],_,_,_,t3,rfl,rfl,rfl⟩
@[reducible] def InA (s:InS):TV:=.agg [.sl 1 (s.b.map encU1) false,.s (.int .i64 s.e)]
end Go.M
namespace Go.M
open Go Go.Proofs
set_option maxRecDepth 100000
set_option maxHeartbeats 4000000
end Go.M
namespace Go.M
open Go Go.Proofs
set_option maxRecDepth 100000
set_option maxHeartbeats 4000000
theorem encU8_len (l:List Int):(encU8 l).length=l.length:=by unfold encU8;rw[List.length_map]
theorem encU8_app (a b:List Int):encU8 a++encU8 b=encU8 (a++b):=by unfold encU8;rw[List.map_append]
theorem encU8_nil {l:List Int} (h:encU8 l=[]):l=[]:=by unfold encU8 at h;simpa using h
structure Room (s:OutS) (k:Nat):Prop where
 e:s.e=0
 m:s.most=1048576
 l:s.b.length+k≤800000
@[reducible] def OutS.add (s:OutS) (x:List Int):OutS:=⟨s.b++x,s.most,0⟩
theorem Room.ok {s:OutS} {k:Nat} (h:Room s k):s.ok:=⟨by rw[h.m];decide,by have:=h.l;rw[h.m];omega⟩
theorem Room.add {s:OutS} {k:Nat} (h:Room s k) {x:List Int} {j:Nat} (hx:x.length+j≤k):Room (s.add x) j:=⟨rfl,h.m,by have:=h.l;show(s.b++x).length+j≤_;rw[List.length_append];omega⟩
theorem Room.put {s:OutS} {k:Nat} (h:Room s k) {x:List Int} (hx:x.length≤k):s.put x=s.add x:=by
 have:=h.l
 unfold OutS.put
 rw[if_neg (not_not_intro h.e),if_neg (by rw[h.m];omega)]
theorem Room.num {s:OutS} {k:Nat} (h:Room s k) {n w:Nat} (hn:n<256 ^ w) (hw:w≤k):s.num n w=s.add (bigL w n):=by
 unfold OutS.num
 rw[if_pos hn,h.put (by rw[bigL_len];exact hw)]
theorem numI_ok (s:OutS) (n:Int) (w k:Nat) (h:Room s k) (hw:w≤k) (h1:1≤w) (h8:w≤8) (h0:0≤n) (hm:n≤18446744073709551615) (hn:n.toNat<256 ^ w):VC EZ 92 1 [.ptr 0 0,.s (.int .u64 n),.s (.int .i64 w)] [(0,OutO s)] (RR (.tup []) 1 [(0,OutO (s.add (bigL w n.toNat)))]):=by
 have:=num_ok s n.toNat w h.ok (by have:=h.l;omega) h1 h8 (by omega)
 rw[h.num hn hw,Int.toNat_of_nonneg h0]at this
 exact this
theorem laidF_ok (n:Nat) (w:Nat) (h1:1≤w) (h8:w≤8):VC EZ 137 0 [.s (.int .u64 n),.s (.int .i64 w)] [] (RR (.sl 1 (encU8 (bigL w n)) false) 0 []):=by
 refine VC.told (laid_ok n w h1 h8) ?_
 rintro r o' c' ⟨rfl,rfl,rfl⟩
 exact⟨[0],[],_,_,_,t3,rfl,rfl,rfl⟩
theorem grow_ok (n:Nat) (h0:0<n) (hn:n<1000000):VC EZ 154 0 [.sl 0 [] true,.s (.int .i64 n)] [] (RR (.pv 0 0) 1 [(0,.arr 1 true (encU8 (List.replicate n 0)))]):=by
 refine VC.enterR LZ (show EZ.func 154=some Tryz.f154 by kernel_rfl) (fun _ _=>rfl) rfl rfl [] ?_
 conv=>whnf
 (first|refine⟨?_,?_⟩|refine nsplit ?_ ?_|refine bsplit ?_ ?_)<;>intro h<;>have hz_:=True.intro<;>clear hz_
 ·have h:(n:Int)<0:=h
  omega
 ·conv=>whnf
  have hw:IntKind.i64.wrap ((n:Int) - IntKind.i64.wrap (0 - ((([]:List (List TV)).length:Nat):Int)))=(n:Int):=by
   rw[show IntKind.i64.wrap (0 - ((([]:List (List TV)).length:Nat):Int))=0 from rfl,IntWalk.i64_in _ (by omega)];omega
  rw[hw]
  (first|refine⟨?_,?_⟩|refine nsplit ?_ ?_|refine bsplit ?_ ?_)<;>intro h2<;>have hz_:=True.intro<;>clear hz_
  ·conv=>whnf
   refine⟨by decide,?_⟩
   conv=>whnf
   refine⟨by omega,?_⟩
   conv=>whnf
   refine⟨⟨by simp,by simp,by simp⟩,.inr ?_⟩
   conv=>whnf
   refine⟨[],[some 0],?_⟩
   iterate 3 constructor
   refine⟨⟨?_,?_,?_⟩,rfl,rfl,rfl⟩
   all_goals(repeat' first|exact LF|constructor)
   all_goals first|exact Lz.of rfl |exact Lz.of (by simp[encU8,cT1])|trace_state
  ·exact absurd (show(0:Int)<(n:Int) by omega) h2
theorem concat_ok (a b:List Int) (ha:a≠[]) (hn:a.length+b.length<1000000):VC EZ 139 0 [.sl 1 [[.sl 1 (encU8 a) false],[.sl 1 (encU8 b) false]] false] [] (RR (.sl 1 (encU8 (a++b)) false) 0 []):=by
 have la:=encU8_len a
 have lb:=encU8_len b
 have ha0:0<a.length:=List.length_pos_iff.2 ha
 refine VC.enterR LZ (show EZ.func 139=some Tryz.f139 by kernel_rfl) (fun _ _=>rfl) rfl rfl [999999] ?_
 conv=>whnf
 (first|refine⟨?_,?_⟩|refine nsplit ?_ ?_|refine bsplit ?_ ?_)<;>intro t0<;>have hz_:=True.intro<;>clear hz_
 ·conv=>whnf
  refine⟨_,⟨by decide,rfl⟩,?_⟩
  conv=>whnf
  rw[show IntKind.i64.wrap (0+(((encU8 a).length:Nat):Int))=(a.length:Int)from by rw[la,IntWalk.i64_in _ (by omega)];omega]
  (first|refine⟨?_,?_⟩|refine nsplit ?_ ?_|refine bsplit ?_ ?_)<;>intro n0<;>have hz_:=True.intro<;>clear hz_
  ·have n0:(a.length:Int)<0:=n0
   omega
  ·conv=>whnf
   (first|refine⟨?_,?_⟩|refine nsplit ?_ ?_|refine bsplit ?_ ?_)<;>intro t1<;>have hz_:=True.intro<;>clear hz_
   ·conv=>whnf
    refine⟨_,⟨by decide,rfl⟩,?_⟩
    conv=>whnf
    rw[show IntKind.i64.wrap ((a.length:Int)+(((encU8 b).length:Nat):Int))=((a.length+b.length:Nat):Int)from by rw[lb,IntWalk.i64_in _ (by omega)];omega]
    (first|refine⟨?_,?_⟩|refine nsplit ?_ ?_|refine bsplit ?_ ?_)<;>intro n1<;>have hz_:=True.intro<;>clear hz_
    ·have n1:((a.length+b.length:Nat):Int)<0:=n1
     omega
    ·conv=>whnf
     (first|refine⟨?_,?_⟩|refine nsplit ?_ ?_|refine bsplit ?_ ?_)<;>intro t2<;>have hz_:=True.intro<;>clear hz_
     ·exact absurd t2 (show¬(IntKind.i64.wrap (IntKind.i64.wrap (0+1)+1)<(2:Int)) by decide)
     ·conv=>whnf
      refine⟨[],[],_,_,_,_,grow_ok (a.length+b.length) (by omega) (by omega),t3,cR ?_⟩
      conv=>whnf
      (first|refine⟨?_,?_⟩|refine nsplit ?_ ?_|refine bsplit ?_ ?_)<;>intro u0<;>have hz_:=True.intro<;>clear hz_
      ·conv=>whnf
       refine⟨_,⟨by decide,rfl⟩,?_⟩
       conv=>whnf
       refine⟨⟨Nat.zero_le _,by rw[la];omega,fun e=>ha (encU8_nil e)⟩,?_⟩
       conv=>whnf
       (first|refine⟨?_,?_⟩|refine nsplit ?_ ?_|refine bsplit ?_ ?_)<;>intro u1<;>have hz_:=True.intro<;>clear hz_
       ·conv=>whnf
        refine⟨_,⟨by decide,rfl⟩,?_⟩
        conv=>whnf
        refine⟨by rw[List.take_zero,List.nil_append,la,lb];omega,?_⟩
        conv=>whnf
        (first|refine⟨?_,?_⟩|refine nsplit ?_ ?_|refine bsplit ?_ ?_)<;>intro u2<;>have hz_:=True.intro<;>clear hz_
        ·exact absurd u2 (show¬(IntKind.i64.wrap (IntKind.i64.wrap (0+1)+1)<(2:Int)) by decide)
        ·conv=>whnf
         refine⟨[2],[],?_⟩
         iterate 3 constructor
         refine⟨⟨?_,?_,?_⟩,rfl,rfl,rfl⟩
         all_goals(repeat' first|exact LF|constructor)
         all_goals exact Lz.of (by rw[List.take_zero,List.nil_append,encU8_app])
       ·exact absurd (show IntKind.i64.wrap (0+1)<(2:Int) by decide) u1
      ·exact absurd (show(0:Int)<(2:Int) by decide) u0
   ·exact absurd (show IntKind.i64.wrap (0+1)<(2:Int) by decide) t1
 ·exact absurd (show(0:Int)<(2:Int) by decide) t0
theorem outText_ok (s:OutS) (d:List Int) (k:Nat) (h:Room s k) (hd:d.length+2≤k) (h2:d.length≤65535):VC EZ 94 1 [.ptr 0 0,.sl 1 (encU8 d) false] [(0,OutO s)] (RR (.tup []) 1 [(0,OutO (s.add (bigL 2 d.length++d)))]):=by
 have hl:=encU8_len d
 have hp:=put_ok s (bigL 2 d.length++d) h.ok (by have:=h.l;rw[List.length_append,bigL_len];omega)
 rw[h.put (by rw[List.length_append,bigL_len];omega)]at hp
 refine VC.enterR LZ (show EZ.func 94=some Tryz.f94 by kernel_rfl) (fun _ _=>rfl) rfl rfl [] ?_
 conv=>whnf
 (first|refine⟨?_,?_⟩|refine nsplit ?_ ?_|refine bsplit ?_ ?_)<;>intro h0<;>have hz_:=True.intro<;>clear hz_
 ·have h0:(65535:Int)<(((encU8 d).length:Nat):Int):=h0
  rw[hl]at h0;omega
 ·conv=>whnf
  rw[hl,show IntKind.u64.wrap ((d.length:Nat):Int)=((d.length:Nat):Int)from IntWalk.u64_in _ (by omega)]
  refine⟨[],[],_,_,_,_,laidF_ok d.length 2 (by decide) (by decide),t3,cR ?_⟩
  conv=>whnf
  refine⟨[1],[],_,_,_,_,concat_ok (bigL 2 d.length) d (fun e=>by have:=congrArg List.length e;rw[bigL_len]at this;cases this) (by rw[bigL_len];omega),t3,cR ?_⟩
  conv=>whnf
  refine⟨[],[some 0],_,_,_,_,hp,t3,cR ?_⟩
  conv=>whnf
  exact⟨[],[some 0],_,_,_,t3,rfl,rfl,rfl⟩
end Go.M
namespace Go.M
open Go Go.Proofs
set_option maxRecDepth 100000
set_option maxHeartbeats 4000000
theorem rowsT_len (t:TabS):(rowsT t).length≤6:=List.length_filter_le nz (lstT t)
theorem all_ok (t:TabS):VC EZ 127 1 [.ptr 0 0] (stTab t) (RR (.sl 5 ((rowsT t).map encR) false) 1 (stTab t)):=by
 refine VC.enterR LZ (show EZ.func 127=some Tryz.f127 by kernel_rfl) (fun _ _=>rfl) rfl rfl [] ?_
 conv=>whnf
 refine⟨fun k f o c=>∃i:Nat,i≤6∧k=6 - i∧c=2∧f=[(0,.ptr 0 0),(3,.tk 1),(7,.s (.int .i64 i))]∧o=[(0,tabT t),(1,.arr 5 true ((((lstT t).take i).filter nz).map encR))],⟨6,?_⟩,?_⟩
 ·exact⟨[],[some 0,none],_,_,_,t3,⟨0,by decide,rfl,rfl,rfl,rfl⟩⟩
 ·rintro k f1 o1 c1 ⟨i,hi,rfl,rfl,rfl,rfl⟩
  conv=>whnf
  (first|refine⟨?_,?_⟩|refine nsplit ?_ ?_|refine bsplit ?_ ?_)<;>intro h<;>have hz_:=True.intro<;>clear hz_
  ·have h:i<6:=by have h:(i:Int)<6:=h
                  omega
   have hg:=sget_ok t ((i+1:Nat):Int)
   rw[getC_lst t h]at hg
   have hnx:=lst_next t h
   have hfl:(((lstT t).take i).filter nz).length≤i:=Nat.le_trans (List.length_filter_le ..) (List.length_take_le ..)
   generalize (lstT t).getD i zeroR=r at hg hnx
   conv=>whnf
   rw[wrap_small i (by omega)]
   by_cases hz:r.num=0
   ·rw[if_pos hz]at hg
    refine⟨[],[some 0],_,_,_,_,hg,t3,cR ?_⟩
    conv=>whnf
    refine⟨6 - (i+1),?_,by omega⟩
    refine⟨[],[some 0,some 1],?_⟩
    iterate 3 constructor
    refine⟨⟨?_,?_,?_⟩,⟨i+1,h,rfl,rfl,rfl,rfl⟩⟩
    all_goals(repeat' first|exact LF|constructor)
    all_goals exact Lz.of (by rw[hnx,List.filter_append,List.filter_cons_of_neg (by simpa using hz),List.filter_nil,List.append_nil])
   ·rw[if_neg hz]at hg
    refine⟨[],[some 0],_,_,_,_,hg,t3,cR ?_⟩
    conv=>whnf
    refine⟨by simp only[List.length_map];simp;omega,?_⟩
    conv=>whnf
    refine⟨6 - (i+1),?_,by omega⟩
    refine⟨[],[some 0,some 5],?_⟩
    iterate 3 constructor
    refine⟨⟨?_,?_,?_⟩,⟨i+1,h,rfl,rfl,rfl,rfl⟩⟩
    all_goals(repeat' first|exact LF|constructor)
    all_goals exact Lz.of (by rw[hnx,List.filter_append,List.filter_cons_of_pos (by simpa using hz),List.filter_nil,List.map_append];rfl)
  ·obtain rfl:i=6:=by have h:¬(i:Int)<6:=h;omega
   rw[show(lstT t).take 6=lstT t from rfl]
   conv=>whnf
   exact⟨[1],[some 0],_,_,_,t3,rfl,rfl,rfl⟩
theorem slen_ok (t:TabS):VC EZ 138 1 [.ptr 0 0] (stTab t) (RR (.s (.int .i64 ((rowsT t).length:Nat))) 1 (stTab t)):=by
 refine VC.enterR LZ (show EZ.func 138=some Tryz.f138 by kernel_rfl) (fun _ _=>rfl) rfl rfl [] ?_
 conv=>whnf
 refine⟨[],[some 0],_,_,_,_,all_ok t,t3,cR ?_⟩
 conv=>whnf
 refine⟨[],[some 0],?_⟩
 iterate 3 constructor
 refine⟨⟨?_,?_,?_⟩,rfl,rfl,rfl⟩
 all_goals(repeat' first|exact LF|constructor)
 all_goals exact Lz.int (by rw[List.length_map])
@[reducible] def rowB (r:RowS):List Int:=bigL 1 r.client.toNat++bigL 8 r.num.toNat++bigL 8 r.seq.toNat++bigL 1 r.code.toNat++bigL 8 r.ver.toNat
@[reducible] def rowsB (l:List RowS):List Int:=bigL 1 l.length++l.flatMap rowB
structure RowOk (r:RowS):Prop where
 client:0≤r.client∧r.client≤6
 num:0≤r.num∧r.num≤18446744073709551615
 seq:0≤r.seq∧r.seq≤18446744073709551615
 code:0≤r.code∧r.code≤255
 ver:0≤r.ver∧r.ver≤18446744073709551615
theorem rowB_len (r:RowS):(rowB r).length=26:=by simp[rowB,bigL_len]
theorem flat_next {α:Type} (f:α→List Int) {l:List α} {i:Nat} (h:i<l.length):(l.take (i+1)).flatMap f=(l.take i).flatMap f++f l[i]:=by
 rw[List.take_succ_eq_append_getElem h,List.flatMap_append];simp
theorem flat_len26 (l:List RowS):(l.flatMap rowB).length=l.length*26:=by
 induction l with
 |nil=>rfl
 |cons r l ih=>rw[List.flatMap_cons,List.length_append,rowB_len,ih,List.length_cons];omega
@[reducible] def stPut (t:TabS) (s:OutS):Ob:=[(0,tabT t),(1,OutO s)]
theorem sput_ok (t:TabS) (s:OutS) (k:Nat) (hR:Room s k) (hk:157≤k) (hr:∀r∈rowsT t,RowOk r):VC EZ 93 2 [.ptr 0 0,.ptr 1 0] (stPut t s) (RR (.tup []) 2 (stPut t (s.add (rowsB (rowsT t))))):=by
 have hl:=rowsT_len t
 have h256:(2:Nat)≤256:=by decide
 refine VC.enterR LZ (show EZ.func 93=some Tryz.f93 by kernel_rfl) (fun _ _=>rfl) rfl rfl [] ?_
 conv=>whnf
 refine⟨[],[some 0],_,_,_,_,slen_ok t,t3,cR ?_⟩
 conv=>whnf
 rw[show IntKind.u64.wrap (((rowsT t).length:Nat):Int)=(((rowsT t).length:Nat):Int)from IntWalk.u64_in _ (by omega)]
 refine⟨[],[some 1],_,_,_,_,numI_ok s ((rowsT t).length:Nat) 1 k hR (by omega) (by decide) (by decide) (by omega) (by omega) (by rw[Int.toNat_natCast];omega),t3,cR ?_⟩
 conv=>whnf
 rw[Int.toNat_natCast]
 refine⟨[],[some 0],_,_,_,_,all_ok t,t3,cR ?_⟩
 conv=>whnf
 have hR1:Room (s.add (bigL 1 (rowsT t).length)) (k - 1):=hR.add (by rw[bigL_len];omega)
 generalize hrs:rowsT t=rs at hl hr hR1
 refine⟨fun q f o c=>∃i:Nat,i≤rs.length∧q=rs.length - i∧c=2∧f=[(1,.ptr 1 0),(14,.sl 5 (rs.map encR) false),(15,.s (.int .i64 rs.length)),(16,.s (.int .i64 i))]∧o=stPut t ((s.add (bigL 1 rs.length)).add ((rs.take i).flatMap rowB)),⟨rs.length,?_⟩,?_⟩
 ·refine⟨[],[some 0,some 1],?_⟩
  iterate 3 constructor
  refine⟨⟨?_,?_,?_⟩,⟨0,Nat.zero_le _,rfl,rfl,rfl,rfl⟩⟩
  all_goals(repeat' first|exact LF|constructor)
  ·exact Lz.int (by rw[List.length_map])
  ·exact Lz.of (by simp)
 ·rintro q f1 o1 c1 ⟨i,hi,rfl,rfl,rfl,rfl⟩
  conv=>whnf
  (first|refine⟨?_,?_⟩|refine nsplit ?_ ?_|refine bsplit ?_ ?_)<;>intro h<;>have hz_:=True.intro<;>clear hz_
  ·have h:i<rs.length:=by have h:(i:Int)<rs.length:=h
                          omega
   have hx:=hr _ (List.getElem_mem h)
   have hfl:=flat_len26 (rs.take i)
   rw[List.length_take,Nat.min_eq_left hi]at hfl
   have hR2:Room ((s.add (bigL 1 rs.length)).add ((rs.take i).flatMap rowB)) (k - 1 - i*26):=hR1.add (by rw[hfl];omega)
   conv=>whnf
   refine idxI h ?_
   conv=>whnf
   rw[show IntKind.u64.wrap rs[i].client=rs[i].client from IntWalk.u64_in _ (by have:=hx.client;omega)]
   refine⟨[],[some 1],_,_,_,_,numI_ok _ rs[i].client 1 _ hR2 (by omega) (by decide) (by decide) hx.client.1 (by have:=hx.client;omega) (by have:=hx.client;omega),t3,cR ?_⟩
   conv=>whnf
   have hR3:=hR2.add (x:=bigL 1 rs[i].client.toNat) (j:=k - 1 - i*26 - 1) (by rw[bigL_len];omega)
   refine⟨[],[some 1],_,_,_,_,numI_ok _ rs[i].num 8 _ hR3 (by omega) (by decide) (by decide) hx.num.1 hx.num.2 (by have:=hx.num;omega),t3,cR ?_⟩
   conv=>whnf
   have hR4:=hR3.add (x:=bigL 8 rs[i].num.toNat) (j:=k - 1 - i*26 - 9) (by rw[bigL_len];omega)
   refine⟨[],[some 1],_,_,_,_,numI_ok _ rs[i].seq 8 _ hR4 (by omega) (by decide) (by decide) hx.seq.1 hx.seq.2 (by have:=hx.seq;omega),t3,cR ?_⟩
   conv=>whnf
   have hR5:=hR4.add (x:=bigL 8 rs[i].seq.toNat) (j:=k - 1 - i*26 - 17) (by rw[bigL_len];omega)
   rw[show IntKind.u64.wrap rs[i].code=rs[i].code from IntWalk.u64_in _ (by have:=hx.code;omega)]
   refine⟨[],[some 1],_,_,_,_,numI_ok _ rs[i].code 1 _ hR5 (by omega) (by decide) (by decide) hx.code.1 (by have:=hx.code;omega) (by have:=hx.code;omega),t3,cR ?_⟩
   conv=>whnf
   have hR6:=hR5.add (x:=bigL 1 rs[i].code.toNat) (j:=k - 1 - i*26 - 18) (by rw[bigL_len];omega)
   refine⟨[],[some 1],_,_,_,_,numI_ok _ rs[i].ver 8 _ hR6 (by omega) (by decide) (by decide) hx.ver.1 hx.ver.2 (by have:=hx.ver;omega),t3,cR ?_⟩
   conv=>whnf
   refine⟨rs.length - (i+1),?_,by omega⟩
   refine⟨[],[some 0,some 1],?_⟩
   iterate 3 constructor
   refine⟨⟨?_,?_,?_⟩,⟨i+1,h,rfl,rfl,rfl,rfl⟩⟩
   all_goals(repeat' first|exact LF|constructor)
   all_goals exact Lz.of (congrArg (fun x=>TO.arr 1 true (encU8 x)) (by simp only[rowB,flat_next rowB h,List.append_assoc]))
  ·obtain rfl:i=rs.length:=by have h:¬(i:Int)<rs.length:=h;omega
   rw[List.take_length]
   conv=>whnf
   refine⟨[],[some 0,some 1],?_⟩
   iterate 3 constructor
   refine⟨⟨?_,?_,?_⟩,rfl,rfl,rfl⟩
   all_goals(repeat' first|exact LF|constructor)
   all_goals exact Lz.of (congrArg (fun x=>TO.arr 1 true (encU8 x)) (by simp only[rowsB,List.append_assoc]))
end Go.M
namespace Go.M
open Go Go.Proofs
set_option maxRecDepth 100000
set_option maxHeartbeats 4000000
@[reducible] def roomS (s:StS):Bool:=decide (s.bs.length<192)
@[reducible] def outS (s:StS) (u:UpR):Int×Int×Bool:=outC u (lastV (ofK s u.key)).ver (roomS s)
@[reducible] def rowS (s:StS) (u:UpR):RowS:=⟨u.client,u.num,u.seq,(outS s u).1,(outS s u).2.1⟩
@[reducible] def wrote (s:StS) (u:UpR):StS:=if(outS s u).2.2=true then putS {s with e:=u.seq} u.key ⟨(outS s u).2.1,u.seq,u.data⟩else {s with e:=u.seq}
def applyS (s:StS) (u:UpR):(RowS×Int)×StS:=
 if chkU u≠0 then((zeroR,chkU u),s)
 else if u.seq - 1≠s.e then((zeroR,12),s)
 else if judgeC s.t u.client u.num≠0 then((zeroR,0),{s with e:=u.seq})
 else((rowS s u,setC s.t (rowS s u)),{wrote s u with t:=setT s.t (rowS s u)})
@[reducible] def encH (q:RowS×Int):TV:=.tup [.agg (encR q.1),.s (.int .i64 q.2)]
theorem okU_seq {u:UpR} (h:chkU u=0):u.seq≠0∧u.data.length≤2048:=by
 unfold chkU okU at h
 split at h
 ·split at h
  ·omega
  ·split at h
   ·rename_i h2;simp at h2;omega
   ·omega
 ·omega
theorem outC_range {u:UpR} {ver:Int} {b:Bool} (h:0≤ver∧ver≤18446744073709551615):0≤(outC u ver b).2.1∧(outC u ver b).2.1≤18446744073709551615:=by
 unfold outC
 split
 ·split
  ·exact h
  ·split
   ·exact h
   ·simp;omega
 ·exact h
theorem lastV_range {vs:List Vs} (hv:∀v∈vs,VOk v):0≤(lastV vs).ver∧(lastV vs).ver≤18446744073709551615:=by
 rcases two_ends vs with rfl |⟨ws,w,rfl⟩
 ·exact⟨by decide,by decide⟩
 ·rw[lastV_end];exact(hv w (by simp)).ver
theorem ofK_ok {s:StS} (H:SOk s) (k:Int):(∀v∈ofK s k,VOk v)∧(ofK s k).length<100000:=by
 cases h:lookA s.bs k with
 |none=>rw[ofK_none h];exact⟨by simp,by decide⟩
 |some vs=>rw[ofK_some h];exact H.v k vs h
theorem room_t {s:StS} (h:(((s.bs.map (encA .u32 blkV)).length:Nat):Int)<192):roomS s=true:=decide_eq_true (by rw[List.length_map]at h;omega)
theorem room_i {s:StS} (h:roomS s=true):(((s.bs.map (encA .u32 blkV)).length:Nat):Int)<192:=by
 have:s.bs.length<192:=of_decide_eq_true h
 rw[List.length_map];omega
theorem apply_ok (s:StS) (u:UpR) (H:SOk s) (hu:UOk u):VC EZ 23 2 [.ptr 0 0,.agg (encU u)] (stO s) (RR (encH (applyS s u).1) 2 (stO (applyS s u).2)):=by
 have hs:=hu.seq
 unfold applyS
 by_cases h0:chkU u=0
 ·rw[if_neg (not_not_intro h0)]
  have hc:=check_ok u
  rw[h0]at hc
  obtain⟨hs1,hdl⟩:=okU_seq h0
  have hw:IntKind.u64.wrap (u.seq - 1)=u.seq - 1:=IntWalk.u64_in _ (by omega)
  by_cases h1:u.seq - 1=s.e
  ·rw[if_neg (not_not_intro h1)]
   have hj:=sjudgeV s.t u.client u.num
   have hl:=last_ok {s with e:=u.seq} u.key ⟨H.v⟩
   have hlr:=lastV_range (ofK_ok H u.key).1
   have ho:=outcome_ok u (lastV (ofK s u.key)).ver (roomS s) hlr
   refine VC.enterR LZ (show EZ.func 23=some Tryz.f23 by kernel_rfl) (fun _ _=>rfl) rfl rfl [] ?_
   conv=>whnf
   refine⟨[],[],_,_,_,_,hc,t3,cR ?_⟩
   conv=>whnf
   (first|refine⟨?_,?_⟩|refine nsplit ?_ ?_|refine bsplit ?_ ?_)<;>intro h2<;>have hz_:=True.intro<;>clear hz_
   ·exact absurd rfl h2
   ·((conv=>whnf)<;>repeat(with_reducible refine D1 ?_)<;>conv=>whnf)
    (first|refine⟨?_,?_⟩|refine nsplit ?_ ?_|refine bsplit ?_ ?_)<;>intro h3<;>have hz_:=True.intro<;>clear hz_
    ·have h3:IntKind.u64.wrap (u.seq - 1)≠s.e:=h3
     rw[hw]at h3
     exact absurd h1 h3
    ·((conv=>whnf)<;>repeat(with_reducible refine D1 ?_)<;>conv=>whnf)
     refine⟨[],[some 4],_,_,_,_,hj,t3,cR ?_⟩
     conv=>whnf
     (first|refine⟨?_,?_⟩|refine nsplit ?_ ?_|refine bsplit ?_ ?_)<;>intro h4<;>have hz_:=True.intro<;>clear hz_
     ·have h4:judgeC s.t u.client u.num≠0:=h4
      rw[if_pos h4]
      ((conv=>whnf)<;>repeat(with_reducible refine D1 ?_)<;>conv=>whnf)
      exact⟨[],[some 0,some 1],_,_,_,t3,rfl,rfl,rfl⟩
     ·have h4:¬judgeC s.t u.client u.num≠0:=h4
      rw[if_neg h4]
      ((conv=>whnf)<;>repeat(with_reducible refine D1 ?_)<;>conv=>whnf)
      refine⟨[],[some 0,some 1],_,_,_,_,hl,t3,cR ?_⟩
      conv=>whnf
      rcases hq:outS s u with⟨qc,qv,qb⟩
      rw[show outC u (lastV (ofK s u.key)).ver (roomS s)=(qc,qv,qb)from hq]at ho
      have hqv:0≤qv∧qv≤18446744073709551615:=by
       have:=outC_range (u:=u) (b:=roomS s) hlr
       rw[show outC u (lastV (ofK s u.key)).ver (roomS s)=(qc,qv,qb)from hq]at this
       exact this
      have hrow:rowS s u=⟨u.client,u.num,u.seq,qc,qv⟩:=by unfold rowS;rw[hq]
      have hwr:wrote s u=if qb=true then putS {s with e:=u.seq} u.key ⟨qv,u.seq,u.data⟩else {s with e:=u.seq}:=by unfold wrote;rw[hq]
      rw[hrow,hwr]
      cases qb
      ·rw[if_neg Bool.false_ne_true]
       cases hr:roomS s
       ·rw[hr]at ho
        (first|refine⟨?_,?_⟩|refine nsplit ?_ ?_|refine bsplit ?_ ?_)<;>intro h5<;>have hz_:=True.intro<;>clear hz_
        ·exact absurd ((room_t h5).symm.trans hr) (by decide)
        ·conv=>whnf
         refine⟨[],[],_,_,_,_,ho,t3,cR ?_⟩
         ((conv=>whnf)<;>repeat(with_reducible refine D1 ?_)<;>conv=>whnf)
         refine⟨[],[some 9],_,_,_,_,sset_ok s.t ⟨u.client,u.num,u.seq,qc,qv⟩,t3,cR ?_⟩
         ((conv=>whnf)<;>repeat(with_reducible refine D1 ?_)<;>conv=>whnf)
         exact⟨[],[some 0,some 1],_,_,_,t3,rfl,rfl,rfl⟩
       ·rw[hr]at ho
        (first|refine⟨?_,?_⟩|refine nsplit ?_ ?_|refine bsplit ?_ ?_)<;>intro h5<;>have hz_:=True.intro<;>clear hz_
        ·conv=>whnf
         refine⟨[],[],_,_,_,_,ho,t3,cR ?_⟩
         ((conv=>whnf)<;>repeat(with_reducible refine D1 ?_)<;>conv=>whnf)
         refine⟨[],[some 9],_,_,_,_,sset_ok s.t ⟨u.client,u.num,u.seq,qc,qv⟩,t3,cR ?_⟩
         ((conv=>whnf)<;>repeat(with_reducible refine D1 ?_)<;>conv=>whnf)
         exact⟨[],[some 0,some 1],_,_,_,t3,rfl,rfl,rfl⟩
        ·exact absurd (room_i hr) h5
      ·rw[if_pos rfl]
       cases hr:roomS s
       ·rw[hr]at ho
        (first|refine⟨?_,?_⟩|refine nsplit ?_ ?_|refine bsplit ?_ ?_)<;>intro h5<;>have hz_:=True.intro<;>clear hz_
        ·exact absurd ((room_t h5).symm.trans hr) (by decide)
        ·conv=>whnf
         refine⟨[],[],_,_,_,_,ho,t3,cR ?_⟩
         ((conv=>whnf)<;>repeat(with_reducible refine D1 ?_)<;>conv=>whnf)
         refine⟨[],[],_,_,_,_,made_ok u qv (by omega),t3,cR ?_⟩
         conv=>whnf
         refine⟨[],[some 0,some 1],_,_,_,_,kput_ok {s with e:=u.seq} u.key ⟨qv,u.seq,u.data⟩ hqv ⟨H.v⟩,t3,cR ?_⟩
         ((conv=>whnf)<;>repeat(with_reducible refine D1 ?_)<;>conv=>whnf)
         refine⟨[],[some 11],_,_,_,_,sset_ok s.t ⟨u.client,u.num,u.seq,qc,qv⟩,t3,cR ?_⟩
         ((conv=>whnf)<;>repeat(with_reducible refine D1 ?_)<;>conv=>whnf)
         exact⟨[],[some 0,some 1],_,_,_,t3,rfl,rfl,rfl⟩
       ·rw[hr]at ho
        (first|refine⟨?_,?_⟩|refine nsplit ?_ ?_|refine bsplit ?_ ?_)<;>intro h5<;>have hz_:=True.intro<;>clear hz_
        ·conv=>whnf
         refine⟨[],[],_,_,_,_,ho,t3,cR ?_⟩
         ((conv=>whnf)<;>repeat(with_reducible refine D1 ?_)<;>conv=>whnf)
         refine⟨[],[],_,_,_,_,made_ok u qv (by omega),t3,cR ?_⟩
         conv=>whnf
         refine⟨[],[some 0,some 1],_,_,_,_,kput_ok {s with e:=u.seq} u.key ⟨qv,u.seq,u.data⟩ hqv ⟨H.v⟩,t3,cR ?_⟩
         ((conv=>whnf)<;>repeat(with_reducible refine D1 ?_)<;>conv=>whnf)
         refine⟨[],[some 11],_,_,_,_,sset_ok s.t ⟨u.client,u.num,u.seq,qc,qv⟩,t3,cR ?_⟩
         ((conv=>whnf)<;>repeat(with_reducible refine D1 ?_)<;>conv=>whnf)
         exact⟨[],[some 0,some 1],_,_,_,t3,rfl,rfl,rfl⟩
        ·exact absurd (room_i hr) h5
  ·rw[if_pos h1]
   refine VC.enterR LZ (show EZ.func 23=some Tryz.f23 by kernel_rfl) (fun _ _=>rfl) rfl rfl [] ?_
   conv=>whnf
   refine⟨[],[],_,_,_,_,hc,t3,cR ?_⟩
   conv=>whnf
   (first|refine⟨?_,?_⟩|refine nsplit ?_ ?_|refine bsplit ?_ ?_)<;>intro h2<;>have hz_:=True.intro<;>clear hz_
   ·exact absurd rfl h2
   ·((conv=>whnf)<;>repeat(with_reducible refine D1 ?_)<;>conv=>whnf)
    (first|refine⟨?_,?_⟩|refine nsplit ?_ ?_|refine bsplit ?_ ?_)<;>intro h3<;>have hz_:=True.intro<;>clear hz_
    ·((conv=>whnf)<;>repeat(with_reducible refine D1 ?_)<;>conv=>whnf)
     exact⟨[],[some 0,some 1],_,_,_,t3,rfl,rfl,rfl⟩
    ·have h3:¬IntKind.u64.wrap (u.seq - 1)≠s.e:=h3
     rw[hw]at h3
     exact absurd h1 h3
 ·rw[if_pos h0]
  have hc:=check_ok u
  refine VC.enterR LZ (show EZ.func 23=some Tryz.f23 by kernel_rfl) (fun _ _=>rfl) rfl rfl [] ?_
  conv=>whnf
  refine⟨[],[],_,_,_,_,hc,t3,cR ?_⟩
  conv=>whnf
  (first|refine⟨?_,?_⟩|refine nsplit ?_ ?_|refine bsplit ?_ ?_)<;>intro h2<;>have hz_:=True.intro<;>clear hz_
  ·conv=>whnf
   exact⟨[],[some 0,some 1],_,_,_,t3,rfl,rfl,rfl⟩
  ·exact absurd h0 h2
end Go.M
namespace Go.M
open Go Go.Proofs
set_option maxRecDepth 100000
set_option maxHeartbeats 4000000
def trim1 (s:StS) (d k:Int):StS:=match lookA s.bs k with
 |some vs=>{s with bs:=putA s.bs k (vs.drop (trimN vs d))}
 |none=>s
def trimStep (d:Int) (r:StS×Nat) (k:Int):StS×Nat:=(trim1 r.1 d k,r.2+trimN (ofK r.1 k) d)
def trimA (d:Int) (r:StS×Nat) (ks:List Int):StS×Nat:=ks.foldl (trimStep d) r
end Go.M
namespace Go.M
open Go Go.Proofs
set_option maxHeartbeats 1000000
structure Good (e:Int) (vs:List Vs):Prop where
 up:vs.Pairwise (fun a b=>a.ver<b.ver∧a.seq<b.seq)
 v:∀v∈vs,(1≤v.ver∧v.ver≤18446744073709551615)∧(1≤v.seq∧v.seq≤e)∧v.data.length≤2048
theorem Good.nil (e:Int):Good e []:=⟨.nil,by simp⟩
theorem Good.mono {e e':Int} {vs:List Vs} (h:Good e vs) (he:e≤e'):Good e' vs:=⟨h.up,fun v m=>by have:=h.v v m;omega⟩
theorem Good.drop {e:Int} {vs:List Vs} (h:Good e vs) (n:Nat):Good e (vs.drop n):=⟨h.up.sublist (List.drop_sublist ..),fun v m=>h.v v (List.mem_of_mem_drop m)⟩
theorem Good.vok {e:Int} {vs:List Vs} (h:Good e vs) (he:e≤18446744073709551615):∀v∈vs,VOk v:=fun v m=>by
 have:=h.v v m
 exact⟨by omega,by omega,this.2.2⟩
theorem lastV_nil:lastV []=zeroVs:=atV_nil _
theorem Good.new {e:Int} {vs:List Vs} (h:Good e vs) {d:List Int} (hd:d.length≤2048) (he:0≤e) (hv:(lastV vs).ver<18446744073709551615):Good (e+1) (vs++[⟨(lastV vs).ver+1,e+1,d⟩]):=by
 rcases two_ends vs with rfl |⟨ws,w,rfl⟩
 ·rw[lastV_nil]
  exact⟨by simp,by simp;omega⟩
 ·rw[lastV_end]at hv ⊢
  have hw:=h.v w (by simp)
  have hu:=h.up
  rw[List.pairwise_append]at hu
  refine⟨?_,fun v m=>?_⟩
  ·rw[List.pairwise_append]
   refine⟨h.up,by simp,fun a ha b hb=>?_⟩
   simp only[List.mem_singleton]at hb
   subst hb
   have ha':=h.v a ha
   show a.ver<w.ver+1∧a.seq<e+1
   rcases List.mem_append.1 ha with q|q
   ·have:=hu.2.2 a q w (by simp);omega
   ·simp only[List.mem_singleton]at q;subst q;omega
  ·rcases List.mem_append.1 m with q|q
   ·have:=h.v v q;omega
   ·simp only[List.mem_singleton]at q;subst q
    exact⟨⟨by show 1≤w.ver+1;omega,by show w.ver+1≤_;omega⟩,⟨by show 1≤e+1;omega,Int.le_refl _⟩,hd⟩
theorem Good.last {e:Int} {vs:List Vs} (h:Good e vs) (he:0≤e):0≤(lastV vs).ver∧(lastV vs).ver≤18446744073709551615∧(lastV vs).seq≤e:=by
 rcases two_ends vs with rfl |⟨ws,w,rfl⟩
 ·rw[lastV_nil];exact⟨by decide,by decide,he⟩
 ·rw[lastV_end];have:=h.v w (by simp);omega
theorem putB_new {e:Int} {vs:List Vs} (h:Good e vs) (he:0≤e) {d:List Int} (hd:d.length≤2048):putB vs ⟨(lastV vs).ver+1,e+1,d⟩=vs++[⟨(lastV vs).ver+1,e+1,d⟩]:=by
 have hl:=h.last he
 unfold putB
 rw[if_pos]
 unfold putE
 rw[if_neg (by show¬2048<d.length;omega),if_neg (by show¬((lastV vs).ver+1=0∨e+1=0);omega),if_neg]
 show¬(0<vs.length∧((lastV vs).ver+1 - 1≠(lastV vs).ver∨e+1≤(lastV vs).seq))
 omega
theorem outC_made {u:UpR} {ver:Int} {b:Bool} (h:(outC u ver b).2.2=true):(outC u ver b).2.1=ver+1∧ver≠18446744073709551615∧(b=true∨ver≠0):=by
 unfold outC at h ⊢
 split
 ·rename_i hk
  rw[if_pos hk]at h
  split
  ·rename_i h2;rw[if_pos h2]at h;cases h
  ·rename_i h2;rw[if_neg h2]at h
   split
   ·rename_i h3;rw[if_pos h3]at h;cases h
   ·rename_i h3
    refine⟨rfl,fun q=>h3 (.inr q),?_⟩
    cases b
    ·exact .inr fun q=>h3 (.inl ⟨q,rfl⟩)
    ·exact .inl rfl
 ·rename_i hk;rw[if_neg hk]at h;cases h
structure SInv (s:StS) (n:Nat):Prop where
 e:0≤s.e∧s.e≤18446744073709551615
 nd:(keysA s.bs).Nodup
 len:s.bs.length≤n+192
 g:∀k,Good s.e (ofK s k)
 gl:∀k,(ofK s k).length≤n+1
theorem SInv.ok {s:StS} {n:Nat} (H:SInv s n) (hn:n<90000):SOk s:=⟨fun k vs h=>by
 have g:=H.g k
 have gl:=H.gl k
 rw[ofK_some h]at g gl
 exact⟨g.vok H.e.2,by omega⟩⟩
theorem SInv.zero:SInv ⟨0,[],zeroTab⟩ 0:=⟨⟨by decide,by decide⟩,.nil,by decide,fun k=>.nil _,fun k=>Nat.zero_le _⟩
theorem ofK_put {s:StS} {k k':Int} {vs:List Vs}:ofK {s with bs:=putA s.bs k vs} k'=if k'=k then vs else ofK s k':=by
 unfold ofK
 rw[lookA_put]
 split<;>rfl
theorem applyS_cases (s:StS) (u:UpR) (H:∀k,Good s.e (ofK s k)) (he:0≤s.e):
 (applyS s u).2=s∨(u.seq=s.e+1∧((∃t,(applyS s u).2={s with e:=u.seq,t:=t})∨
  ∃t,u.data.length≤2048∧(lastV (ofK s u.key)).ver≠18446744073709551615∧(s.bs.length<192∨(lastV (ofK s u.key)).ver≠0)∧(applyS s u).2={e:=u.seq,t:=t,bs:=putA s.bs u.key (ofK s u.key++[⟨(lastV (ofK s u.key)).ver+1,u.seq,u.data⟩])})):=by
 unfold applyS
 split
 ·exact .inl rfl
 ·rename_i h0
  have h0:chkU u=0:=Decidable.not_not.1 h0
  split
  ·exact .inl rfl
  ·rename_i h1
   have h1:u.seq=s.e+1:=by have:=Decidable.not_not.1 h1;omega
   refine .inr ⟨h1,?_⟩
   split
   ·exact .inl ⟨s.t,rfl⟩
   ·by_cases hm:(outS s u).2.2=true
    ·obtain⟨hv,hx,hr⟩:=outC_made hm
     refine .inr ⟨setT s.t (rowS s u),(okU_seq h0).2,hx,?_,?_⟩
     ·rcases hr with hr|hr
      ·exact .inl (of_decide_eq_true hr)
      ·exact .inr hr
     ·show {wrote s u with t:=setT s.t (rowS s u)}=_
      unfold wrote
      rw[if_pos hm]
      have:(outS s u).2.1=(lastV (ofK s u.key)).ver+1:=hv
      rw[this]
      have hp:=putB_new (H u.key) he (okU_seq h0).2
      rw[←h1]at hp
      show(⟨u.seq,putA s.bs u.key (putB (ofK s u.key) ⟨(lastV (ofK s u.key)).ver+1,u.seq,u.data⟩),_⟩:StS)=_
      rw[hp]
    ·refine .inl ⟨setT s.t (rowS s u),?_⟩
     show {wrote s u with t:=setT s.t (rowS s u)}=_
     unfold wrote
     rw[if_neg hm]
theorem SInv.apply {s:StS} {n:Nat} (H:SInv s n) (u:UpR) (hu:UOk u):SInv (applyS s u).2 (n+1):=by
 have hl:=H.len
 rcases applyS_cases s u H.g H.e.1 with h|⟨h1,⟨t,h⟩|⟨t,hd,hm,_,h⟩⟩
 ·rw[h];exact⟨H.e,H.nd,by omega,H.g,fun k=>Nat.le_succ_of_le (H.gl k)⟩
 ·rw[h]
  exact⟨hu.seq,H.nd,by show s.bs.length≤_;omega,fun k=>(H.g k).mono (by show _≤u.seq;omega),fun k=>Nat.le_succ_of_le (H.gl k)⟩
 ·have hof:∀k',ofK (⟨u.seq,putA s.bs u.key (ofK s u.key++[⟨(lastV (ofK s u.key)).ver+1,u.seq,u.data⟩]),t⟩:StS) k'=if k'=u.key then ofK s u.key++[⟨(lastV (ofK s u.key)).ver+1,u.seq,u.data⟩]else ofK s k':=fun k'=>ofK_put (s:=s)
  rw[h]
  refine⟨hu.seq,putA_nodup H.nd,?_,fun k=>?_,fun k=>?_⟩
  ·have:=putA_len s.bs u.key (ofK s u.key++[⟨(lastV (ofK s u.key)).ver+1,u.seq,u.data⟩])
   show(putA _ _ _).length≤_
   omega
  ·rw[hof]
   split
   ·rw[h1];exact(H.g _).new hd H.e.1 (by have:=(H.g u.key).last H.e.1;omega)
   ·exact(H.g k).mono (by show _≤u.seq;omega)
  ·rw[hof]
   split
   ·have:=H.gl u.key;rw[List.length_append];show _+1≤_;omega
   ·exact Nat.le_succ_of_le (H.gl k)
structure Ext (s t:StS):Prop where
 e:s.e≤t.e
 b:∀k,∃ws,ofK t k=ofK s k++ws∧∀w∈ws,s.e<w.seq
theorem Ext.trans {s t r:StS} (h:Ext s t) (k:Ext t r):Ext s r:=⟨Int.le_trans h.e k.e,fun n=>by
 obtain⟨a,h1,h2⟩:=h.b n
 obtain⟨b,k1,k2⟩:=k.b n
 refine⟨a++b,by rw[k1,h1,List.append_assoc],fun w m=>?_⟩
 rcases List.mem_append.1 m with q|q
 ·exact h2 w q
 ·have:=k2 w q;have:=h.e;omega⟩
theorem sortZ_mem {l:List Int} {k:Int}:k∈sortZ l↔k∈l:=by unfold sortZ;exact List.mem_mergeSort
theorem sortZ_nodup {l:List Int} (h:l.Nodup):(sortZ l).Nodup:=by unfold sortZ;exact(List.mergeSort_perm l _).nodup_iff.2 h
def trimS (s:StS) (d:Int):StS:=(trimA d (s,0) (sortZ (keysA s.bs))).1
end Go.M
namespace Go.M
open Go Go.Proofs
set_option maxRecDepth 100000
set_option maxHeartbeats 4000000
structure RfS where
 e:Int
 bs:List (Int×List Vs)
 rows:List RowS
@[reducible] def vsL (vs:List Vs):TV:=.sl 3 (vs.map encV) false
@[reducible] def encBl (b:Int×List Vs):List TV:=[.s (.int .u32 b.1),vsL b.2]
@[reducible] def encRf (r:RfS):List TV:=[.s (.int .u64 r.e),.sl 2 (r.bs.map encBl) false,.sl 5 (r.rows.map encR) false]
theorem take_all {α:Type} {l:List α} {P:α→Prop} {i:Nat} (h:i<l.length) (h0:∀b∈l.take i,P b) (hk:P l[i]):∀b∈l.take (i+1),P b:=by
 rw[List.take_succ_eq_append_getElem h]
 intro b m
 rcases List.mem_append.1 m with m|m
 ·exact h0 b m
 ·simp only[List.mem_singleton]at m;subst m;exact hk
@[reducible] def ofR (r:RfS) (k:Int):List Vs:=(lookA r.bs k).getD []
def getR (rows:List RowS) (c:Int):Option RowS:=rows.find? fun r=>decide (r.client=c)
theorem getR_at {rows:List RowS} {c:Int} {i:Nat} (h:i<rows.length) (h0:∀r∈rows.take i,r.client≠c) (hk:rows[i].client=c):getR rows c=some rows[i]:=by
 unfold getR
 rw[List.find?_eq_some_iff_append]
 refine⟨by simpa using hk,rows.take i,rows.drop (i+1),(List.take_append_drop i rows).symm.trans (by rw[List.drop_eq_getElem_cons h]),fun a m=>by simpa using h0 a m⟩
theorem getR_no {rows:List RowS} {c:Int} (h0:∀r∈rows,r.client≠c):getR rows c=none:=by
 unfold getR
 rw[List.find?_eq_none]
 exact fun a m=>by simpa using h0 a m
@[reducible] def rowsL (rows:List RowS):TV:=.sl 5 (rows.map encR) false
@[reducible] def encGR (o:Option RowS):TV:=.tup [.agg (encR (o.getD zeroR)),.s (.bool o.isSome)]
def judgeR (rows:List RowS) (c n:Int):Int:=if¬(1≤c∧c≤6)∨n=0 then 2 else match getR rows c with
 |none=>0
 |some r=>if r.num<n then 0 else if r.num=n then 1 else 2
end Go.M
namespace Go.M
open Go Go.Proofs
set_option maxRecDepth 100000
set_option maxHeartbeats 4000000
@[reducible] def stF (s:StS):Ob:=[(0,stoC s),(1,mapT s.bs),(2,.cells [.ptr 0 0])]
theorem fine1_ok (s:StS) (r:RowS):VC EZ 128 3 [.agg (encR r),.ptr 2 0] (stF s) (RR (.s (.bool (decide (s.e<r.seq)))) 3 (stF s)):=by
 refine VC.enterR LZ (show EZ.func 128=some Tryz.f128 by kernel_rfl) (fun _ _=>rfl) rfl rfl [] ?_
 ((conv=>whnf)<;>repeat(with_reducible refine D1 ?_)<;>conv=>whnf)
 (first|refine⟨?_,?_⟩|refine nsplit ?_ ?_|refine bsplit ?_ ?_)<;>intro h<;>have hz_:=True.intro<;>clear hz_
 all_goals
  ((conv=>whnf)<;>repeat(with_reducible refine D1 ?_)<;>conv=>whnf)
  refine⟨[],[some 0,some 1,some 2],?_⟩
  iterate 3 constructor
  refine⟨⟨?_,?_,?_⟩,rfl,rfl,rfl⟩
  all_goals(repeat' first|exact LF|constructor)
  exact Lz.of (bool_eq (by simp_all))
@[reducible] def lateB (s:StS) (r:RowS):Bool:=decide (s.e<r.seq)
@[reducible] def idxF (s:StS) (l:List RowS):Int:=if l.any (lateB s)then((l.findIdx (lateB s):Nat):Int)else -1
theorem index_ok (s:StS) (l:List RowS) (hl:l.length<1000000):VC EZ 153 3 [.sl 5 (l.map encR) false,.clo 128 [] [.ptr 2 0]] (stF s) (RR (.s (.int .i64 (idxF s l))) 3 (stF s)):=by
 refine VC.enterR LZ (show EZ.func 153=some Tryz.f153 by kernel_rfl) (fun _ _=>rfl) rfl rfl [] ?_
 conv=>whnf
 refine⟨fun q f o c=>∃i:Nat,i≤l.length∧q=l.length - i∧(∀x∈l.take i,¬lateB s x=true)∧c=3∧f=[(0,.sl 5 (l.map encR) false),(1,.clo 128 [] [.ptr 2 0]),(7,.s (.int .i64 l.length)),(8,.s (.int .i64 i))]∧o=stF s,⟨l.length,?_⟩,?_⟩
 ·refine⟨[],[some 0,some 1,some 2],?_⟩
  iterate 3 constructor
  refine⟨⟨?_,?_,?_⟩,⟨0,Nat.zero_le _,rfl,by simp,rfl,rfl,rfl⟩⟩
  all_goals(repeat' first|exact LF|constructor)
  all_goals exact Lz.int (by rw[List.length_map])
 ·rintro q f1 o1 c1 ⟨i,hi,rfl,h0,rfl,rfl,rfl⟩
  conv=>whnf
  (first|refine⟨?_,?_⟩|refine nsplit ?_ ?_|refine bsplit ?_ ?_)<;>intro h<;>have hz_:=True.intro<;>clear hz_
  ·have h:i<l.length:=by have h:(i:Int)<l.length:=h
                         omega
   have hf:=fine1_ok s l[i]
   conv=>whnf
   refine idxI h ?_
   cases hb:lateB s l[i]
   ·rw[show decide (s.e<l[i].seq)=false from hb]at hf
    refine⟨[],[some 0,some 1,some 2],_,_,_,_,hf,t3,cR ?_⟩
    conv=>whnf
    refine⟨l.length - (i+1),?_,by omega⟩
    exact⟨[],[some 0,some 1,some 2],_,_,_,t3,⟨i+1,h,rfl,take_all h h0 (by rw[hb];decide),rfl,rfl,rfl⟩⟩
   ·rw[show decide (s.e<l[i].seq)=true from hb]at hf
    refine⟨[],[some 0,some 1,some 2],_,_,_,_,hf,t3,cR ?_⟩
    conv=>whnf
    refine⟨[],[some 0,some 1,some 2],?_⟩
    iterate 3 constructor
    refine⟨⟨?_,?_,?_⟩,rfl,rfl,rfl⟩
    all_goals(repeat' first|exact LF|constructor)
    all_goals exact Lz.int (by
     unfold idxF
     rw[if_pos (List.any_eq_true.2 ⟨_,List.getElem_mem h,hb⟩)]
     congr 1
     exact Eq.symm ((List.findIdx_eq h).2 ⟨hb,fun j hj=>by
      have:=h0 l[j] (List.mem_take_iff_getElem.2 ⟨j,by omega,rfl⟩)
      simpa using this⟩))
  ·obtain rfl:i=l.length:=by have h:¬(i:Int)<l.length:=h;omega
   rw[List.take_length]at h0
   conv=>whnf
   refine⟨[],[some 0,some 1,some 2],?_⟩
   iterate 3 constructor
   refine⟨⟨?_,?_,?_⟩,rfl,rfl,rfl⟩
   all_goals(repeat' first|exact LF|constructor)
   all_goals exact Lz.int (by
    unfold idxF
    rw[if_neg]
    intro q
    obtain⟨x,m,hx⟩:=List.any_eq_true.1 q
    exact h0 x m hx)
@[reducible] def fineS (s:StS):Bool:= !((rowsT s.t).any (lateB s))
theorem fine_ok (s:StS):VC EZ 86 2 [.ptr 0 0] (stO s) (RR (.s (.bool (fineS s))) 2 (stO s)):=by
 have hi:=index_ok s (rowsT s.t) (by have:=rowsT_len s.t;omega)
 have hidx:0≤idxF s (rowsT s.t)↔(rowsT s.t).any (lateB s)=true:=by
  unfold idxF
  split
  ·rename_i h;exact⟨fun _=>h,fun _=>by omega⟩
  ·rename_i h;exact⟨fun q=>absurd q (by decide),fun q=>absurd q h⟩
 have hcon:VC EZ 126 3 [.sl 5 ((rowsT s.t).map encR) false,.clo 128 [] [.ptr 2 0]] (stF s) (RR (.s (.bool ((rowsT s.t).any (lateB s)))) 3 (stF s)):=by
  generalize idxF s (rowsT s.t)=j at hi hidx
  refine VC.enterR LZ (show EZ.func 126=some Tryz.f126 by kernel_rfl) (fun _ _=>rfl) rfl rfl [] ?_
  conv=>whnf
  refine⟨[],[some 0,some 1,some 2],_,_,_,_,hi,t3,cR ?_⟩
  conv=>whnf
  (first|refine⟨?_,?_⟩|refine nsplit ?_ ?_|refine bsplit ?_ ?_)<;>intro h<;>have hz_:=True.intro<;>clear hz_
  all_goals
   conv=>whnf
   refine⟨[],[some 0,some 1,some 2],?_⟩
   iterate 3 constructor
   refine⟨⟨?_,?_,?_⟩,rfl,rfl,rfl⟩
   all_goals(repeat' first|exact LF|constructor)
   exact Lz.of (bool_eq (by simp_all))
 refine VC.enterR LZ (show EZ.func 86=some Tryz.f86 by kernel_rfl) (fun _ _=>rfl) rfl rfl [] ?_
 conv=>whnf
 refine⟨[],[some 3],_,_,_,_,all_ok s.t,t3,cR ?_⟩
 conv=>whnf
 refine⟨[],[some 0,some 1,some 2],_,_,_,_,hcon,t3,cR ?_⟩
 conv=>whnf
 refine⟨[],[some 0,some 1],?_⟩
 iterate 3 constructor
 refine⟨⟨?_,?_,?_⟩,rfl,rfl,rfl⟩
 all_goals(repeat' first|exact LF|constructor)
 all_goals trace_state
end Go.M
namespace Go.M
open Go Go.Proofs
set_option maxRecDepth 100000
set_option maxHeartbeats 4000000
def InS.text (s:InS) (m:Int):InS×List Int:=
 match s.next 2 with
 |(s',none)=>(s',[])
 |(s',some b)=>if numL b>m then(⟨[],6⟩,[])else s'.raw (numL b).toNat
def InS.done (s:InS):Int:=if s.e≠0 then s.e else if 0<s.b.length then 4 else 0
theorem done2_ok (s:InS):VC EZ 90 1 [.ptr 0 0] [(0,InO s)] (RR (.s (.int .i64 s.done)) 1 [(0,InO s)]):=by
 refine VC.enterR LZ (show EZ.func 90=some Tryz.f90 by kernel_rfl) (fun _ _=>rfl) rfl rfl [] ?_
 conv=>whnf
 refine⟨[],[some 0],_,_,_,_,err_ok s,t3,cR ?_⟩
 conv=>whnf
 (first|refine⟨?_,?_⟩|refine nsplit ?_ ?_|refine bsplit ?_ ?_)<;>intro h<;>have hz_:=True.intro<;>clear hz_
 ·have h:s.e≠0:=h
  rw[show s.done=s.e from if_pos h]
  conv=>whnf
  exact⟨[],[some 0],_,_,_,t3,rfl,rfl,rfl⟩
 ·have h:¬s.e≠0:=h
  conv=>whnf
  (first|refine⟨?_,?_⟩|refine nsplit ?_ ?_|refine bsplit ?_ ?_)<;>intro h2<;>have hz_:=True.intro<;>clear hz_
  ·have h2:0<s.b.length:=by have:(0:Int)<(((s.b.map encU1).length:Nat):Int):=h2
                            rw[List.length_map]at this;omega
   rw[show s.done=4 from by unfold InS.done;rw[if_neg h,if_pos h2]]
   conv=>whnf
   exact⟨[],[some 0],_,_,_,t3,rfl,rfl,rfl⟩
  ·have h2:¬0<s.b.length:=by have:¬(0:Int)<(((s.b.map encU1).length:Nat):Int):=h2
                             rw[List.length_map]at this;omega
   rw[show s.done=0 from by unfold InS.done;rw[if_neg h,if_neg h2]]
   conv=>whnf
   exact⟨[],[some 0],_,_,_,t3,rfl,rfl,rfl⟩
theorem text_ok (s:InS) (m:Int) (hb:∀x∈s.b,0≤x∧x<256):VC EZ 88 1 [.ptr 0 0,.s (.int .i64 m)] [(0,InO s)] (RR (.sl 1 (encU8 (s.text m).2) false) 1 [(0,InO (s.text m).1)]):=by
 have hnx:=next_ok s 2 (by decide)
 have hnb:=(InS.next_bytes (n:=2) hb).2
 have hnl:=fun l=>InS.next_len (s:=s) (n:=2) (l:=l)
 have hun:∀s',s.next 2=(s',none)→s.text m=(s',[]):=fun s' h=>by unfold InS.text;rw[h]
 have hus:∀s' b,s.next 2=(s',some b)→s'.e=0∧s.text m=if numL b>m then(⟨[],6⟩,[])else s'.raw (numL b).toNat:=fun s' b h=>by
  refine⟨?_,by unfold InS.text;rw[h]⟩
  unfold InS.next at h
  split at h
  ·cases h
  ·split at h
   ·cases h
   ·cases h;rfl
 generalize s.next 2=q at hnx hnb hnl hun hus
 obtain⟨s',r⟩:=q
 cases r with
 |none=>
  rw[hun s' rfl]
  refine VC.enterR LZ (show EZ.func 88=some Tryz.f88 by kernel_rfl) (fun _ _=>rfl) rfl rfl [] ?_
  conv=>whnf
  refine⟨[],[some 0],_,_,_,_,hnx,t3,cR ?_⟩
  conv=>whnf
  exact⟨[],[some 0],_,_,_,t3,rfl,rfl,rfl⟩
 |some b=>
  obtain⟨h0,hu⟩:=hus s' b rfl
  have hl:b.length=2:=hnl b rfl
  have hlt:=numL_lt b (by omega) (hnb b rfl)
  rw[hl]at hlt
  have hr:=numL_range b
  have hnn:IntKind.i64.wrap (numL b)=((numL b).toNat:Int):=by rw[IntWalk.i64_in _ (by omega)];omega
  rw[hu]
  refine VC.enterR LZ (show EZ.func 88=some Tryz.f88 by kernel_rfl) (fun _ _=>rfl) rfl rfl [] ?_
  conv=>whnf
  refine⟨[],[some 0],_,_,_,_,hnx,t3,cR ?_⟩
  conv=>whnf
  refine⟨[],[],_,_,_,_,number_ok b (by omega) (hnb b rfl),t3,cR ?_⟩
  conv=>whnf
  rw[hnn]
  (first|refine⟨?_,?_⟩|refine nsplit ?_ ?_|refine bsplit ?_ ?_)<;>intro hm<;>have hz_:=True.intro<;>clear hz_
  ·have hm:numL b>m:=by have hm:m<((numL b).toNat:Int):=hm
                        omega
   rw[if_pos hm]
   conv=>whnf
   have hf:=inFail_ok s' 6
   rw[if_pos h0]at hf
   refine⟨[],[some 0],_,_,_,_,hf,t3,cR ?_⟩
   conv=>whnf
   exact⟨[],[some 0],_,_,_,t3,rfl,rfl,rfl⟩
  ·have hm:¬numL b>m:=by have hm:¬m<((numL b).toNat:Int):=hm
                         omega
   rw[if_neg hm]
   conv=>whnf
   refine⟨[],[some 0],_,_,_,_,raw_ok s' (numL b).toNat (by omega),t3,cR ?_⟩
   conv=>whnf
   exact⟨[],[some 0],_,_,_,t3,rfl,rfl,rfl⟩
theorem text_app (d r:List Int) (m:Int) (hl:d.length≤65535) (hm:(d.length:Int)≤m):(InS.mk ((bigL 2 d.length++d)++r) 0).text m=(⟨r,0⟩,d):=by
 have hx:=InS.next_app (bigL 2 d.length) (d++r)
 rw[bigL_len]at hx
 unfold InS.text
 rw[List.append_assoc,hx]
 dsimp only
 rw[numL_big 2 d.length (by decide) (by omega),if_neg (by omega),Int.toNat_natCast]
 unfold InS.raw
 rw[InS.next_app d r]
 rfl
end Go.M
namespace Go.M
open Go Go.Proofs
set_option maxRecDepth 100000
set_option maxHeartbeats 4000000
def rdRow (x:InS):InS×RowS:=
 let p1:=x.get 1
 let p2:=p1.1.get 8
 let p3:=p2.1.get 8
 let p4:=p3.1.get 1
 let p5:=p4.1.get 8
 (p5.1,⟨IntKind.i64.wrap p1.2,p2.2,p3.2,IntKind.i64.wrap p4.2,p5.2⟩)
structure RdS where
 (x:InS) (t:TabS) (last:Int) (ok:Bool)
def rdStep (q:RdS):RdS:=
 let p:=rdRow q.x
 if q.ok=true∧q.last<p.2.client then⟨p.1,setT q.t p.2,p.2.client,decide (setC q.t p.2=0)⟩else⟨p.1,q.t,p.2.client,false⟩
def rdN (q:RdS):Nat→RdS
 |0=>q
 |n+1=>rdStep (rdN q n)
@[reducible] def bytesB (x:InS):Prop:=∀b∈x.b,0≤b∧b<256
theorem get_bytes {x:InS} {w:Nat} (h:bytesB x):bytesB (x.get w).1:=InS.upto_bytes h
theorem rdRow_bytes {x:InS} (h:bytesB x):bytesB (rdRow x).1:=get_bytes (get_bytes (get_bytes (get_bytes (get_bytes h))))
theorem rdStep_x (q:RdS):(rdStep q).x=(rdRow q.x).1:=by unfold rdStep;dsimp only;split<;>rfl
theorem rdN_bytes {q:RdS} (h:bytesB q.x):∀n,bytesB (rdN q n).x
 |0=>h
 |n+1=>by rw[rdN,rdStep_x];exact rdRow_bytes (rdN_bytes h n)
@[reducible] def rd0 (x:InS):RdS:=⟨(x.upto 1 6).1,zeroTab,0,true⟩
@[reducible] def rdAll (x:InS):RdS:=rdN (rd0 x) ((x.upto 1 6).2).toNat
def rdC (x:InS):Int:=if(rdAll x).x.e≠0 then(rdAll x).x.e else if(rdAll x).ok=true then 0 else 4
@[reducible] def stRd (q:RdS):Ob:=[(0,InO q.x),(1,tabT q.t)]
theorem sread_ok (x:InS) (hb:bytesB x):VC EZ 85 1 [.ptr 0 0] [(0,InO x)] (if rdC x=0 then RR (.tup [.ptr 1 0,.s (.int .i64 0)]) 2 (stRd (rdAll x))else RR (.tup [nilP,.s (.int .i64 (rdC x))]) 1 [(0,InO (rdAll x).x)]):=by
 have hup:=upto_ok x 1 6 (by decide) (by decide) hb
 have hr:=InS.upto_range (s:=x) (n:=1) (m:=6)
 have hle:=InS.upto_le (s:=x) (n:=1) (m:=6) (by decide)
 have hbs:=rdN_bytes (q:=rd0 x) (InS.upto_bytes hb)
 have hC:rdC x=if(rdAll x).x.e≠0 then(rdAll x).x.e else if(rdAll x).ok=true then 0 else 4:=rfl
 generalize rdC x=code at hC
 generalize hA:rdAll x=A at hC
 have hA:rdN (rd0 x) ((x.upto 1 6).2).toNat=A:=hA
 generalize hq:rd0 x=q0 at hA hbs
 have hq1:q0=⟨(x.upto 1 6).1,zeroTab,0,true⟩:=hq.symm
 clear hq
 generalize x.upto 1 6=y at hup hr hle hA hq1
 obtain⟨x1,m⟩:=y
 dsimp only at hr hle hA hq1
 obtain⟨n,rfl⟩:∃n:Nat,m=n:=⟨m.toNat,by omega⟩
 rw[Int.toNat_natCast]at hA
 refine VC.enterR LZ (show EZ.func 85=some Tryz.f85 by kernel_rfl) (fun _ _=>rfl) rfl rfl [] ?_
 conv=>whnf
 refine⟨[],[some 0],_,_,_,_,hup,t3,cR ?_⟩
 conv=>whnf
 refine⟨[],[],_,_,_,_,snew_ok,t3,cR ?_⟩
 conv=>whnf
 refine⟨fun k f o c=>∃(i:Nat) (q:RdS),rdN q0 i=q∧i≤n∧k=n - i∧c=2∧f=[(0,.ptr 0 0),(5,.ptr 1 0),(6,.s (.int .i64 q.last)),(7,.s (.bool q.ok)),(13,.s (.int .u64 n)),(14,.s (.int .u64 i))]∧o=stRd q,⟨n,?_⟩,?_⟩
 ·exact⟨[],[some 0,some 2],_,_,_,t3,⟨0,⟨x1,zeroTab,0,true⟩,hq1,Nat.zero_le _,rfl,rfl,rfl,rfl⟩⟩
 ·rintro k f1 o1 c1 ⟨i,q,hq,hi,rfl,rfl,rfl,rfl⟩
  conv=>whnf
  (first|refine⟨?_,?_⟩|refine nsplit ?_ ?_|refine bsplit ?_ ?_)<;>intro h<;>have hz_:=True.intro<;>clear hz_
  ·have h:i<n:=Int.ofNat_lt.1 h
   have hst:rdN q0 (i+1)=rdStep q:=by rw[←hq];rfl
   have hbi:=hbs i
   rw[hq]at hbi
   have hw:IntKind.u64.wrap ((i:Int)+1)=((i+1:Nat):Int):=by rw[IntWalk.u64_in _ (by omega)];omega
   clear hq
   obtain⟨y,t,last,ok⟩:=q
   have g1:=get_ok y 1 (by decide) (by decide) hbi
   have b1:=get_bytes (w:=1) hbi
   have g2:=get_ok _ 8 (by decide) (by decide) b1
   have b2:=get_bytes (w:=8) b1
   have g3:=get_ok _ 8 (by decide) (by decide) b2
   have b3:=get_bytes (w:=8) b2
   have g4:=get_ok _ 1 (by decide) (by decide) b3
   have b4:=get_bytes (w:=1) b3
   have g5:=get_ok _ 8 (by decide) (by decide) b4
   unfold rdStep rdRow at hst
   dsimp only at hst hbi b1 b2 b3 b4 g1 g2 g3 g4 g5
   generalize y.get 1=p1 at hst g1 g2 g3 g4 g5
   generalize p1.1.get 8=p2 at hst g2 g3 g4 g5
   generalize p2.1.get 8=p3 at hst g3 g4 g5
   generalize p3.1.get 1=p4 at hst g4 g5
   generalize p4.1.get 8=p5 at hst g5
   have hset:=sset_ok t ⟨IntKind.i64.wrap p1.2,p2.2,p3.2,IntKind.i64.wrap p4.2,p5.2⟩
   generalize setT t ⟨IntKind.i64.wrap p1.2,p2.2,p3.2,IntKind.i64.wrap p4.2,p5.2⟩=t' at hst hset
   generalize setC t ⟨IntKind.i64.wrap p1.2,p2.2,p3.2,IntKind.i64.wrap p4.2,p5.2⟩=c' at hst hset
   conv=>whnf
   refine⟨[],[some 0],_,_,_,_,g1,t3,cR ?_⟩
   conv=>whnf
   refine⟨[],[some 0],_,_,_,_,g2,t3,cR ?_⟩
   conv=>whnf
   refine⟨[],[some 0],_,_,_,_,g3,t3,cR ?_⟩
   conv=>whnf
   refine⟨[],[some 0],_,_,_,_,g4,t3,cR ?_⟩
   conv=>whnf
   refine⟨[],[some 0],_,_,_,_,g5,t3,cR ?_⟩
   conv=>whnf
   cases ok
   ·rw[if_neg (by simp)]at hst
    conv=>whnf
    rw[hw]
    refine⟨n - (i+1),?_,by omega⟩
    exact⟨[],[some 0,some 1],_,_,_,t3,⟨i+1,_,hst,h,rfl,rfl,rfl,rfl⟩⟩
   ·conv=>whnf
    (first|refine⟨?_,?_⟩|refine nsplit ?_ ?_|refine bsplit ?_ ?_)<;>intro hg<;>have hz_:=True.intro<;>clear hz_
    ·have hg:last<IntKind.i64.wrap p1.2:=hg
     rw[if_pos ⟨rfl,hg⟩]at hst
     conv=>whnf
     refine⟨[],[some 1],_,_,_,_,hset,t3,cR ?_⟩
     conv=>whnf
     (first|refine⟨?_,?_⟩|refine nsplit ?_ ?_|refine bsplit ?_ ?_)<;>intro hz<;>have hz_:=True.intro<;>clear hz_
     ·have hz:c'=0:=hz
      rw[decide_eq_true hz]at hst
      conv=>whnf
      rw[hw]
      refine⟨n - (i+1),?_,by omega⟩
      exact⟨[],[some 0,some 1],_,_,_,t3,⟨i+1,_,hst,h,rfl,rfl,rfl,rfl⟩⟩
     ·have hz:¬c'=0:=hz
      rw[decide_eq_false hz]at hst
      conv=>whnf
      rw[hw]
      refine⟨n - (i+1),?_,by omega⟩
      exact⟨[],[some 0,some 1],_,_,_,t3,⟨i+1,_,hst,h,rfl,rfl,rfl,rfl⟩⟩
    ·have hg:¬last<IntKind.i64.wrap p1.2:=hg
     rw[if_neg (fun q=>hg q.2)]at hst
     conv=>whnf
     rw[hw]
     refine⟨n - (i+1),?_,by omega⟩
     exact⟨[],[some 0,some 1],_,_,_,t3,⟨i+1,_,hst,h,rfl,rfl,rfl,rfl⟩⟩
  ·obtain rfl:i=n:=by have h:¬(i:Int)<n:=h;omega
   rw[hq]at hA
   subst hA
   obtain⟨y,t,last,ok⟩:=q
   dsimp only at hC
   conv=>whnf
   refine⟨[],[some 0],_,_,_,_,err_ok y,t3,cR ?_⟩
   conv=>whnf
   (first|refine⟨?_,?_⟩|refine nsplit ?_ ?_|refine bsplit ?_ ?_)<;>intro he<;>have hz_:=True.intro<;>clear hz_
   ·have he:y.e≠0:=he
    rw[if_pos he]at hC
    conv=>whnf
    rw[hC,if_neg he]
    exact⟨[],[some 0],_,_,_,t3,rfl,rfl,rfl⟩
   ·have he:¬y.e≠0:=he
    rw[if_neg he]at hC
    cases ok
    ·rw[if_neg (by simp)]at hC
     subst hC
     conv=>whnf
     rw[if_neg (by decide)]
     exact⟨[],[some 0],_,_,_,t3,rfl,rfl,rfl⟩
    ·rw[if_pos rfl]at hC
     subst hC
     conv=>whnf
     rw[if_pos rfl]
     exact⟨[],[some 0,some 1],_,_,_,t3,rfl,rfl,rfl⟩
end Go.M
namespace Go.M
open Go Go.Proofs
set_option maxRecDepth 100000
set_option maxHeartbeats 4000000
def insBy {α:Type} (key:α→Int) (x:α):List α→List α
 |[]=>[x]
 |a::l=>if key a<key x then a::insBy key x l else if key a=key x then x::l else x::a::l
@[reducible] def keyRow (r:RowS):Int:=r.client
@[reducible] def keyBl (b:Int×List Vs):Int:=b.1
end Go.M
namespace Go.M
open Go Go.Proofs
set_option maxRecDepth 100000
set_option maxHeartbeats 4000000
def cleanR (vs:List Vs) (d:Int):Vs:=lastV (vs.filter fun v=>decide (v.seq≤d))
def pickR (vs:List Vs) (v d:Int):Vs:=match vs.find? fun x=>decide (x.ver=v)with
 |some x=>x
 |none=>if v<(cleanR vs d).ver then cleanR vs d else zeroVs
def keepR (c:Vs) (vs:List Vs):List Vs:=vs.filter fun v=>decide (c.seq≤v.seq)
end Go.M
namespace Go.M
open Go Go.Proofs
set_option maxRecDepth 100000
set_option maxHeartbeats 4000000
@[reducible] def encA2 (q:Vs×Bool):TV:=.tup [.agg (encV q.1),.s (.bool q.2)]
@[reducible] def nowS (s:StS) (k d:Int):Vs×Bool:=if 0<(ofK s k).length∧d<(lastV (ofK s k)).seq then(zeroVs,false)else(lastV (ofK s k),true)
@[reducible] def thenS (s:StS) (k v d:Int):Vs×Bool:=(pickV (ofK s k) v d,decide (v=0∨(pickV (ofK s k) v d).ver≠0))
end Go.M
namespace Go.M
open Go Go.Proofs
set_option maxRecDepth 100000
set_option maxHeartbeats 4000000
@[reducible] def outRf (r:RfS) (u:UpR):Int×Int×Bool:=outC u (lastV (ofR r u.key)).ver (decide (r.bs.length<192))
@[reducible] def rowRf (r:RfS) (u:UpR):RowS:=⟨u.client,u.num,u.seq,(outRf r u).1,(outRf r u).2.1⟩
@[reducible] def wroteRf (r:RfS) (u:UpR):List (Int×List Vs):=if(outRf r u).2.2=true then insBy keyBl (u.key,putB (ofR r u.key) ⟨(outRf r u).2.1,u.seq,u.data⟩) r.bs else r.bs
def applyR (r:RfS) (u:UpR):(RfS×RowS)×Int:=
 if chkU u≠0 then((r,zeroR),chkU u)
 else if u.seq - 1≠r.e then((r,zeroR),12)
 else if judgeR r.rows u.client u.num≠0 then(({r with e:=u.seq},zeroR),0)
 else((⟨u.seq,wroteRf r u,insBy keyRow (rowRf r u) r.rows⟩,rowRf r u),0)
@[reducible] def encRA (q:(RfS×RowS)×Int):TV:=.tup [.agg (encRf q.1.1),.agg (encR q.1.2),.s (.int .i64 q.2)]
structure ROk (r:RfS):Prop where
 b:r.bs.length<900
 w:r.rows.length<900
 l:∀k,(ofR r k).length<900∧0≤(lastV (ofR r k)).ver∧(lastV (ofR r k)).ver≤18446744073709551615
@[reducible] def keptOf (d:Int) (b:Int×List Vs):Int×List Vs:=(b.1,keepR (cleanR b.2 d) b.2)
@[reducible] def dropOf (d:Int) (b:Int×List Vs):Nat:=b.2.length - (keepR (cleanR b.2 d) b.2).length
def sumN (l:List Nat):Nat:=l.sum
end Go.M
namespace Go.M
open Go Go.Proofs
set_option maxHeartbeats 1000000
@[reducible] def nxU (s:StS) (u:UpR):UpR:={u with seq:=s.e+1}
def nxS (s:StS) (u:UpR):StS:=(applyS s (nxU s u)).2
def runS (l:List UpR):StS:=l.foldl nxS ⟨0,[],zeroTab⟩
structure URng (u:UpR):Prop where
 num:0≤u.num∧u.num≤18446744073709551615
 ver:0≤u.ver∧u.ver≤18446744073709551615
 key:0≤u.key∧u.key≤4294967295
theorem URng.ok {u:UpR} (h:URng u) {s:StS} (h0:0≤s.e) (h1:s.e<1000000):UOk (nxU s u):=⟨by show 0≤s.e+1∧s.e+1≤_;omega,h.num,h.ver,h.key⟩
end Go.M
namespace Go.M
open Go Go.Proofs
set_option maxHeartbeats 1000000
theorem list_of {α:Type} {enc:α→List TV} {P:α→Prop} {ss:List Sh} (h:∀r,Fits ss r→∃a,r=enc a∧P a):∀{es:List (List TV)},(∀r∈es,Fits ss r)→∃l:List α,es=l.map enc∧∀a∈l,P a
 |[],_=>⟨[],rfl,by simp⟩
 |r::es,hr=>by
  obtain⟨a,rfl,ha⟩:=h r (hr r List.mem_cons_self)
  obtain⟨l,rfl,hl⟩:=list_of h (es:=es) fun r hr'=>hr r (List.mem_cons_of_mem _ hr')
  exact⟨a::l,rfl,fun b hb=>by rcases List.mem_cons.1 hb with rfl |hb;exact ha;exact hl b hb⟩
theorem cons_of {s:Sh} {ss:List Sh} {r:List TV} (h:Fits (s::ss) r):∃t r',r=t::r'∧Fit s t∧Fits ss r':=by
 unfold Fits at h;exact h
theorem nil_of {r:List TV} (h:Fits [] r):r=[]:=by
 unfold Fits at h;exact h
theorem byte_of {r:List TV} (h:Fits [.int .u8] r):∃n:Int,r=[.s (.int .u8 n)]∧0≤n∧n<256:=by
 simp only[Fits,Fit]at h
 obtain⟨_,_,rfl,⟨c,h1,h2,rfl⟩,rfl⟩:=h
 exact⟨c,rfl,h1,Int.lt_of_le_of_lt h2 (by decide)⟩
theorem bytes_of {es:List (List TV)} (h:∀r∈es,Fits [.int .u8] r):∃l:List Int,es=encU8 l∧∀n∈l,0≤n∧n<256:=
 list_of (fun _ hr=>byte_of hr) h
@[reducible] def shU:List Sh:=[.int .u64,.int .i64,.int .u64,.int .i64,.int .u32,.int .u64,.sl [.int .u8]]
structure UAll (u:UpR):Prop where
 rng:URng u
 seq:0≤u.seq∧u.seq≤18446744073709551615
 bytes:∀n∈u.data,0≤n∧n<256
end Go.M
namespace Go.M
open Go Go.Proofs
set_option maxHeartbeats 1000000
def Std:Int→List RowS→Prop
 |_,[]=>True
 |i,r::l=>(r.num≠0→r.client=i)∧0≤r.num∧Std (i+1) l
theorem Std.low {i:Int} {l:List RowS} (h:Std i l):∀r∈l.filter nz,i≤r.client:=by
 induction l generalizing i with
 |nil=>simp
 |cons r l ih=>
  obtain⟨h1,_,h2⟩:=h
  intro x m
  rw[List.mem_filter]at m
  obtain⟨m,hx⟩:=m
  have hx:x.num≠0:=by simpa using hx
  rcases List.mem_cons.1 m with rfl |m
  ·rw[h1 hx];exact Int.le_refl _
  ·have:=ih h2 x (List.mem_filter.2 ⟨m,by simpa using hx⟩);omega
theorem Std.get {i:Int} {l:List RowS} (h:Std i l) {c:Int} (h1:i≤c) (h2:c<i+l.length):
 getR (l.filter nz) c=if(l.getD (c - i).toNat zeroR).num=0 then none else some (l.getD (c - i).toNat zeroR):=by
 induction l generalizing i with
 |nil=>simp at h2;omega
 |cons r l ih=>
  obtain⟨q1,q0,q2⟩:=h
  by_cases e:c=i
  ·subst e
   rw[show(c - c).toNat=0 from by omega]
   show _=if r.num=0 then none else some r
   by_cases hr:r.num=0
   ·rw[List.filter_cons_of_neg (by simpa using hr),if_pos hr]
    exact getR_no fun x m=>by have:=q2.low x m;omega
   ·rw[List.filter_cons_of_pos (by simpa using hr),if_neg hr]
    exact getR_at (i:=0) (by simp) (by simp) (q1 hr)
  ·have ih':=ih q2 (by omega) (by simp at h2;omega)
   rw[show(c - i).toNat=(c - (i+1)).toNat+1 from by omega]
   show _=if(l.getD (c - (i+1)).toNat zeroR).num=0 then none else some (l.getD (c - (i+1)).toNat zeroR)
   by_cases hr:r.num=0
   ·rw[List.filter_cons_of_neg (by simpa using hr)];exact ih'
   ·rw[List.filter_cons_of_pos (by simpa using hr)]
    have:=q1 hr
    rw[←ih']
    unfold getR
    rw[List.find?_cons_of_neg (by simp;omega)]
theorem putA_length {bs:List (Int×List Vs)} {k:Int} {vs:List Vs}:(putA bs k vs).length=if lookA bs k=none then bs.length+1 else bs.length:=by
 have:=congrArg List.length (putA_keys (n:=k) (v:=vs) (es:=bs))
 simp only[keysA,List.length_map]at this
 rw[this]
 by_cases h:lookA bs k=none
 ·rw[if_pos h,if_neg (lookA_none.1 h)];simp
 ·rw[if_neg h,if_pos (Decidable.not_not.1 (fun q=>h (lookA_none.2 q)))];simp
structure Rel (s:StS) (r:RfS):Prop where
 e:r.e=s.e
 up:r.bs.Pairwise fun a b=>a.1<b.1
 lk:∀k,lookA r.bs k=lookA s.bs k
 len:r.bs.length=s.bs.length
 std:Std 1 (lstT s.t)
 rows:r.rows=rowsT s.t
theorem Rel.of {s:StS} {r:RfS} (H:Rel s r) (k:Int):ofR r k=ofK s k:=by unfold ofR ofK;rw[H.lk]
theorem rows_len (t:TabS):(rowsT t).length≤6:=List.length_filter_le nz (lstT t)
theorem Rel.ok {s:StS} {r:RfS} {n:Nat} (H:Rel s r) (I:SInv s n) (hn:n<500):ROk r:=⟨by rw[H.len];have:=I.len;omega,by rw[H.rows];have:=rows_len s.t;omega,fun k=>by
 rw[H.of]
 have g:=(I.g k).last I.e.1
 have gl:=I.gl k
 exact⟨by omega,g.1,g.2.1⟩⟩
end Go.M
namespace Go.M
open Go Go.Proofs
set_option maxHeartbeats 1000000
end Go.M
namespace Go.M
open Go Go.Proofs
set_option maxRecDepth 100000
set_option maxHeartbeats 4000000
theorem same_ok (l:List Int) (hl:l.length<1000000):VC EZ 40 0 [.sl 1 (encU8 l) false,.sl 1 (encU8 l) false] [] (RR (.s (.bool true)) 0 []):=by
 have hlen:(encU8 l).length=l.length:=by unfold encU8;rw[List.length_map]
 refine VC.enterR LZ (show EZ.func 40=some Tryz.f40 by kernel_rfl) (fun _ _=>rfl) rfl rfl [] ?_
 conv=>whnf
 (first|refine⟨?_,?_⟩|refine nsplit ?_ ?_|refine bsplit ?_ ?_)<;>intro h0<;>have hz_:=True.intro<;>clear hz_
 ·exact absurd rfl h0
 ·conv=>whnf
  refine⟨fun k f o c=>∃i:Nat,i≤l.length∧k=l.length - i∧c=0∧f=[(0,.sl 1 (encU8 l) false),(1,.sl 1 (encU8 l) false),(5,.s (.int .i64 i))]∧o=[],⟨l.length,?_⟩,?_⟩
  ·exact⟨[],[],_,_,_,t3,⟨0,Nat.zero_le _,rfl,rfl,rfl,rfl⟩⟩
  ·rintro k f1 o1 c1 ⟨i,hi,rfl,rfl,rfl,rfl⟩
   conv=>whnf
   (first|refine⟨?_,?_⟩|refine nsplit ?_ ?_|refine bsplit ?_ ?_)<;>intro h<;>have hz_:=True.intro<;>clear hz_
   ·have h:i<l.length:=by have h:(i:Int)<(((encU8 l).length:Nat):Int):=h
                          rw[hlen]at h;omega
    ((conv=>whnf)<;>repeat(with_reducible refine D1 ?_)<;>conv=>whnf)
    refine idxI h ?_
    conv=>whnf
    refine idxI h ?_
    conv=>whnf
    (first|refine⟨?_,?_⟩|refine nsplit ?_ ?_|refine bsplit ?_ ?_)<;>intro hv<;>have hz_:=True.intro<;>clear hz_
    ·exact absurd rfl hv
    ·((conv=>whnf)<;>repeat(with_reducible refine D1 ?_)<;>conv=>whnf)
     refine⟨l.length - (i+1),?_,by omega⟩
     exact⟨[],[],_,_,_,t3,⟨i+1,h,rfl,rfl,rfl,rfl⟩⟩
   ·conv=>whnf
    exact⟨[],[],_,_,_,t3,rfl,rfl,rfl⟩
end Go.M
