/-
  Part 28 of the library that the proof leans on.
-/
import Derived.Test.YtgjfaieghmigjaaGreatDoorL26
import Derived.Test.YtgjfaieghmigjaaGreatDoorL27
import Derived.Test.YtgjfaieghmigjaaGreatDoorL21
namespace Go.M
open Go Go.Proofs
set_option maxRecDepth 100000
set_option maxHeartbeats 4000000
theorem cloneB_ok (l:List Int) (hl:l.length<1000000):VC EZ 125 0 [.sl 1 (l.map encU1) false] [] (RR (.sl 1 (l.map encU1) false) 0 []):=by
 refine VC.enterR LZ (show EZ.func 125=some Tryz.f125 by kernel_rfl) (fun _ _=>rfl) rfl rfl [] ?_
 conv=>whnf
 refine⟨fun h=>?_,?_⟩
 ·have h:l=[]:=by simpa using h
  subst h
  conv=>whnf
  exact⟨[],[],_,_,_,t3,rfl,rfl,rfl⟩
 ·conv=>whnf
  refine⟨by simp;omega,?_⟩
  conv=>whnf
  exact⟨[1],[],_,_,_,t3,rfl,rfl,rfl⟩
theorem known_ok (w:Nat) (h1:1≤w) (h8:w≤8):VC EZ 129 0 [.s (.int .i64 w)] [] (RR (.s (.bool true)) 0 []):=by
 refine VC.enterR LZ (show EZ.func 129=some Tryz.f129 by kernel_rfl) (fun _ _=>rfl) rfl rfl [] ?_
 conv=>whnf
 (first|refine⟨?_,?_⟩|refine nsplit ?_ ?_|refine bsplit ?_ ?_)<;>intro h<;>have hz_:=True.intro<;>clear hz_
 ·conv=>whnf
  (first|refine⟨?_,?_⟩|refine nsplit ?_ ?_|refine bsplit ?_ ?_)<;>intro h'<;>have hz_:=True.intro<;>clear hz_
  ·conv=>whnf
   exact⟨[],[],_,_,_,t3,rfl,rfl,rfl⟩
  ·exact absurd (show(w:Int)≤8 by omega) h'
 ·exact absurd (show(w:Int)≥1 by omega) h
theorem laid_set (w i n:Nat) (h:i<w):((List.replicate (w - i) (0:Int)++bigL i n).map encU1).set (w - 1 - i) (encU1 ((n / 256 ^ i % 256:Nat):Int))=(List.replicate (w - (i+1)) (0:Int)++bigL (i+1) n).map encU1:=by
 have e:w - i=(w - (i+1))+1:=by omega
 rw[←List.map_set,e,List.replicate_succ',List.append_assoc,List.set_append_right _ _ (by simp;omega),bigL_cons]
 congr 2
 rw[List.length_replicate,show w - 1 - i - (w - (i+1))=0 by omega]
 rfl
theorem laid_get (w i n:Nat) (h:i<w):((List.replicate (w - i) (0:Int)++bigL i n).map encU1)[w - 1 - i]? =some (encU1 0):=by
 have e:w - i=(w - (i+1))+1:=by omega
 rw[e,List.replicate_succ',List.append_assoc,List.map_append,List.getElem?_append_right (by simp;omega)]
 simp
 rw[show w - 1 - i - (w - (i+1))=0 by omega]
 rfl
theorem laid_ok (n:Nat) (w:Nat) (h1:1≤w) (h8:w≤8):VC EZ 137 0 [.s (.int .u64 n),.s (.int .i64 w)] [] (RR (.tk 0) 1 [(0,.arr 1 true ((bigL w n).map encU1))]):=by
 refine VC.enterR LZ (show EZ.func 137=some Tryz.f137 by kernel_rfl) (fun _ _=>rfl) rfl rfl [] ?_
 conv=>whnf
 refine⟨⟨by omega,by omega,by omega⟩,?_⟩
 conv=>whnf
 refine⟨fun k f o c=>∃i:Nat,i≤w∧k=w - i∧c=1∧f=[(0,.s (.int .u64 n)),(1,.s (.int .i64 w)),(5,.tk 0),(10,.s (.int .i64 w)),(11,.s (.int .i64 i))]∧o=[(0,.arr 1 true ((List.replicate (w - i) 0++bigL i n).map encU1))],⟨w,?_⟩,?_⟩
 ·refine⟨[],[some 0],?_⟩
  iterate 3 constructor
  refine⟨⟨?_,?_,?_⟩,⟨0,Nat.zero_le _,rfl,rfl,rfl,rfl⟩⟩
  all_goals(repeat' first|exact LF|constructor)
  all_goals first|exact Lz.int (by simp)|exact Lz.of (by simp[bigL];exact .inr rfl)|trace_state
 ·rintro k f1 o1 c1 ⟨i,hi,rfl,rfl,rfl,rfl⟩
  conv=>whnf
  (first|refine⟨?_,?_⟩|refine nsplit ?_ ?_|refine bsplit ?_ ?_)<;>intro h<;>have hz_:=True.intro<;>clear hz_
  ·have h:i<w:=by have:(i:Int)<w:=h
                  omega
   conv=>whnf
   rw[shr_eq n i (by omega)]
   conv=>whnf
   have hw:IntKind.i64.wrap (IntKind.i64.wrap ((w:Int) - 1) - (i:Int))=((w - 1 - i:Nat):Int):=by
    rw[IntWalk.i64_in _ (by rw[IntWalk.i64_in _ (by omega)];omega),IntWalk.i64_in _ (by omega)];omega
   refine⟨by rw[hw];simp[bigL_len];omega,?_⟩
   conv=>whnf
   refine⟨encU1 0,by rw[hw,Int.toNat_natCast];exact laid_get w i n h,?_⟩
   conv=>whnf
   refine⟨w - (i+1),?_,by omega⟩
   refine⟨[],[some 0],?_⟩
   iterate 3 constructor
   refine⟨⟨?_,?_,?_⟩,⟨i+1,h,rfl,rfl,rfl,rfl⟩⟩
   all_goals(repeat' first|exact LF|constructor)
   all_goals first|exact Lw.of (by rw[hw,Int.toNat_natCast,←laid_set w i n h,IntKind.wrap_u8];simp)|exact Lz.of (by rw[hw,Int.toNat_natCast,←laid_set w i n h,IntKind.wrap_u8];simp)|trace_state
  ·have hi':i=w:=by have:¬(i:Int)<w:=h
                    omega
   subst hi'
   rw[Nat.sub_self]
   conv=>whnf
   exact⟨[],[some 0],_,_,_,t3,rfl,rfl,rfl⟩
theorem fits_ok (n:Nat) (w:Nat) (h1:1≤w) (h8:w≤8) (hn:n<18446744073709551616):VC EZ 135 0 [.s (.int .u64 n),.s (.int .i64 w)] [] (RR (.s (.bool (decide (n<256 ^ w)))) 0 []):=by
 refine VC.enterR LZ (show EZ.func 135=some Tryz.f135 by kernel_rfl) (fun _ _=>rfl) rfl rfl [] ?_
 conv=>whnf
 (first|refine⟨?_,?_⟩|refine nsplit ?_ ?_|refine bsplit ?_ ?_)<;>intro h<;>have hz_:=True.intro<;>clear hz_
 ·have h:w=8:=by have:(w:Int)=8:=h
                 omega
  subst h
  conv=>whnf
  refine⟨[],[],?_⟩
  iterate 3 constructor
  refine⟨⟨?_,?_,?_⟩,rfl,rfl,rfl⟩
  all_goals(repeat' first|exact LF|constructor)
  exact Lz.of (bool_eq (decide_eq_true (show n<256 ^ 8 by omega)).symm)
 ·conv=>whnf
  rw[shr_eq n w (by omega)]
  conv=>whnf
  (first|refine⟨?_,?_⟩|refine nsplit ?_ ?_|refine bsplit ?_ ?_)<;>intro h0<;>have hz_:=True.intro<;>clear hz_
  ·have h0:((n / 256 ^ w:Nat):Int)=0:=h0
   conv=>whnf
   refine⟨[],[],?_⟩
   iterate 3 constructor
   refine⟨⟨?_,?_,?_⟩,rfl,rfl,rfl⟩
   all_goals(repeat' first|exact LF|constructor)
   exact Lz.of (bool_eq (decide_eq_true (show n<256 ^ w from(Nat.div_eq_zero_iff_lt (Nat.pow_pos (by decide))).1 (by omega))).symm)
  ·have h0:¬((n / 256 ^ w:Nat):Int)=0:=h0
   conv=>whnf
   refine⟨[],[],?_⟩
   iterate 3 constructor
   refine⟨⟨?_,?_,?_⟩,rfl,rfl,rfl⟩
   all_goals(repeat' first|exact LF|constructor)
   exact Lz.of (bool_eq (decide_eq_false (fun q=>h0 (by rw[(Nat.div_eq_zero_iff_lt (Nat.pow_pos (by decide))).2 q];rfl))).symm)
structure OutS where
 b:List Int
 most:Int
 e:Int
def OutS.fail (s:OutS) (e:Int):OutS:=if s.e=0 then⟨s.b,s.most,e⟩else s
def OutS.put (s:OutS) (x:List Int):OutS:=if s.e≠0 then s else if(x.length:Int)>s.most - s.b.length then⟨s.b,s.most,6⟩else⟨s.b++x,s.most,0⟩
def OutS.num (s:OutS) (n w:Nat):OutS:=if n<256 ^ w then s.put (bigL w n)else s.fail 4
structure OutS.ok (s:OutS):Prop where
 m:0≤s.most∧s.most≤1048576
 l:(s.b.length:Int)≤s.most
@[reducible] def OutO (s:OutS):TO:=.cells [.own (.arr 1 true (s.b.map encU1)),.s (.int .i64 s.most),.s (.int .i64 s.e)]
theorem new_ok (m:Nat):VC EZ 91 0 [.s (.int .i64 m)] [] (RR (.ptr 0 0) 1 [(0,OutO ⟨[],m,0⟩)]):=by
 refine VC.enterR LZ (show EZ.func 91=some Tryz.f91 by kernel_rfl) (fun _ _=>rfl) rfl rfl [] ?_
 conv=>whnf
 refine⟨[],[some 0],?_⟩
 iterate 3 constructor
 refine⟨⟨?_,?_,?_⟩,rfl,rfl,rfl⟩
 all_goals(repeat' first|exact LF|constructor)
 all_goals exact Lz.int (if_neg (by omega))
theorem outFail_ok (s:OutS) (e:Int):VC EZ 134 1 [.ptr 0 0,.s (.int .i64 e)] [(0,OutO s)] (RR (.tup []) 1 [(0,OutO (s.fail e))]):=by
 refine VC.enterR LZ (show EZ.func 134=some Tryz.f134 by kernel_rfl) (fun _ _=>rfl) rfl rfl [] ?_
 conv=>whnf
 (first|refine⟨?_,?_⟩|refine nsplit ?_ ?_|refine bsplit ?_ ?_)<;>intro h<;>have hz_:=True.intro<;>clear hz_
 ·have h:s.e=0:=h
  rw[show s.fail e=⟨s.b,s.most,e⟩from if_pos h]
  conv=>whnf
  exact⟨[],[some 0],_,_,_,t3,rfl,rfl,rfl⟩
 ·have h:¬s.e=0:=h
  rw[show s.fail e=s from if_neg h]
  conv=>whnf
  exact⟨[],[some 0],_,_,_,t3,rfl,rfl,rfl⟩
theorem put_ok (s:OutS) (x:List Int) (hs:s.ok) (hx:s.b.length+x.length≤1000000):VC EZ 136 1 [.ptr 0 0,.sl 1 (x.map encU1) false] [(0,OutO s)] (RR (.tup []) 1 [(0,OutO (s.put x))]):=by
 obtain⟨⟨m0,m1⟩,hl⟩:=hs
 refine VC.enterR LZ (show EZ.func 136=some Tryz.f136 by kernel_rfl) (fun _ _=>rfl) rfl rfl [] ?_
 conv=>whnf
 (first|refine⟨?_,?_⟩|refine nsplit ?_ ?_|refine bsplit ?_ ?_)<;>intro h<;>have hz_:=True.intro<;>clear hz_
 ·have h:s.e≠0:=h
  rw[show s.put x=s from if_pos h]
  conv=>whnf
  exact⟨[],[some 0],_,_,_,t3,rfl,rfl,rfl⟩
 ·have h:¬s.e≠0:=h
  have h0:s.e=0:=by omega
  ((conv=>whnf)<;>repeat(with_reducible refine D1 ?_)<;>conv=>whnf)
  (first|refine⟨?_,?_⟩|refine nsplit ?_ ?_|refine bsplit ?_ ?_)<;>intro h2<;>have hz_:=True.intro<;>clear hz_
  ·have h2:(x.length:Int)>s.most - s.b.length:=by
    have:(((x.map encU1).length:Nat):Int)>IntKind.i64.wrap (s.most - (((s.b.map encU1).length:Nat):Int)):=h2
    rw[List.length_map,List.length_map,IntWalk.i64_in _ (by omega)]at this
    exact this
   rw[show s.put x=s.fail 6 from by unfold OutS.put OutS.fail;rw[if_neg h,if_pos h2,if_pos h0]]
   ((conv=>whnf)<;>repeat(with_reducible refine D1 ?_)<;>conv=>whnf)
   refine⟨[],[some 0],_,_,_,_,outFail_ok s 6,t3,cR ?_⟩
   conv=>whnf
   exact⟨[],[some 0],_,_,_,t3,rfl,rfl,rfl⟩
  ·have h2:¬(x.length:Int)>s.most - s.b.length:=by
    have:¬(((x.map encU1).length:Nat):Int)>IntKind.i64.wrap (s.most - (((s.b.map encU1).length:Nat):Int)):=h2
    rw[List.length_map,List.length_map,IntWalk.i64_in _ (by omega)]at this
    exact this
   rw[show s.put x=⟨s.b++x,s.most,0⟩from by unfold OutS.put;rw[if_neg h,if_neg h2]]
   ((conv=>whnf)<;>repeat(with_reducible refine D1 ?_)<;>conv=>whnf)
   refine⟨by simp;omega,?_⟩
   conv=>whnf
   refine⟨[],[some 0],?_⟩
   iterate 3 constructor
   refine⟨⟨?_,?_,?_⟩,rfl,rfl,rfl⟩
   all_goals(repeat' first|exact LF|constructor)
   all_goals first|exact Lz.int h0|exact Lw.of (by simp)|exact Lz.of (by simp)|trace_state
theorem num_ok (s:OutS) (n w:Nat) (hs:s.ok) (hx:s.b.length≤900000) (h1:1≤w) (h8:w≤8) (hn:n<18446744073709551616):VC EZ 92 1 [.ptr 0 0,.s (.int .u64 n),.s (.int .i64 w)] [(0,OutO s)] (RR (.tup []) 1 [(0,OutO (s.num n w))]):=by
 have hf:=fits_ok n w h1 h8 hn
 refine VC.enterR LZ (show EZ.func 92=some Tryz.f92 by kernel_rfl) (fun _ _=>rfl) rfl rfl [] ?_
 conv=>whnf
 refine⟨[],[],_,_,_,_,known_ok w h1 h8,t3,cR ?_⟩
 conv=>whnf
 by_cases h:n<256 ^ w
 ·rw[show s.num n w=s.put (bigL w n)from if_pos h]
  rw[decide_eq_true h]at hf
  refine⟨[],[],_,_,_,_,hf,t3,cR ?_⟩
  conv=>whnf
  refine⟨[],[],_,_,_,_,laid_ok n w h1 h8,t3,cR ?_⟩
  conv=>whnf
  refine⟨[1],[some 0],_,_,_,_,put_ok s (bigL w n) hs (by rw[bigL_len];omega),t3,cR ?_⟩
  conv=>whnf
  exact⟨[],[some 0],_,_,_,t3,rfl,rfl,rfl⟩
 ·rw[show s.num n w=s.fail 4 from if_neg h]
  rw[decide_eq_false h]at hf
  refine⟨[],[],_,_,_,_,hf,t3,cR ?_⟩
  conv=>whnf
  refine⟨[],[some 0],_,_,_,_,outFail_ok s 4,t3,cR ?_⟩
  conv=>whnf
  exact⟨[],[some 0],_,_,_,t3,rfl,rfl,rfl⟩
def boolN (b:Bool):Nat:=if b then 1 else 0
theorem done_ok (s:OutS) (hs:s.ok) (hx:s.b.length≤900000):VC EZ 95 1 [.ptr 0 0] [(0,OutO s)] (RR (.tup [.sl 1 ((if s.e=0 then s.b else []).map encU1) false,.s (.int .i64 s.e)]) 1 []):=by
 obtain⟨⟨m0,m1⟩,hl⟩:=hs
 refine VC.enterR LZ (show EZ.func 95=some Tryz.f95 by kernel_rfl) (fun _ _=>rfl) rfl rfl [] ?_
 conv=>whnf
 (first|refine⟨?_,?_⟩|refine nsplit ?_ ?_|refine bsplit ?_ ?_)<;>intro h<;>have hz_:=True.intro<;>clear hz_
 ·have h:s.e≠0:=h
  rw[if_neg h]
  ((conv=>whnf)<;>repeat(with_reducible refine D1 ?_)<;>conv=>whnf)
  exact⟨[],[some 0],_,_,_,t3,rfl,rfl,rfl⟩
 ·have h:s.e=0:=Classical.not_not.1 h
  rw[if_pos h]
  conv=>whnf
  refine⟨[1],[],_,_,_,_,cloneB_ok s.b (by omega),t3,cR ?_⟩
  conv=>whnf
  refine⟨[],[some 0],?_⟩
  iterate 3 constructor
  refine⟨⟨?_,?_,?_⟩,rfl,rfl,rfl⟩
  all_goals(repeat' first|exact LF|constructor)
  all_goals exact Lz.int h.symm
end Go.M
namespace Go.M
open Go Go.Proofs
set_option maxRecDepth 100000
set_option maxHeartbeats 4000000
@[reducible] def InO (s:InS):TO:=.cells [.sl 1 (s.b.map encU1) false,.s (.int .i64 s.e)]
theorem of_ok (l:List Int) (hl:l.length<1000000):VC EZ 83 0 [.sl 1 (l.map encU1) false] [] (RR (.ptr 0 0) 1 [(0,InO ⟨l,0⟩)]):=by
 refine VC.enterR LZ (show EZ.func 83=some Tryz.f83 by kernel_rfl) (fun _ _=>rfl) rfl rfl [] ?_
 conv=>whnf
 refine⟨[],[],_,_,_,_,cloneB_ok l hl,t3,cR ?_⟩
 conv=>whnf
 exact⟨[],[some 0],_,_,_,t3,rfl,rfl,rfl⟩
theorem err_ok (s:InS):VC EZ 89 1 [.ptr 0 0] [(0,InO s)] (RR (.s (.int .i64 s.e)) 1 [(0,InO s)]):=by
 refine VC.enterR LZ (show EZ.func 89=some Tryz.f89 by kernel_rfl) (fun _ _=>rfl) rfl rfl [] ?_
 conv=>whnf
 exact⟨[],[some 0],_,_,_,t3,rfl,rfl,rfl⟩
theorem inFail_ok (s:InS) (e:Int):VC EZ 130 1 [.ptr 0 0,.s (.int .i64 e)] [(0,InO s)] (RR (.tup []) 1 [(0,InO ⟨[],if s.e=0 then e else s.e⟩)]):=by
 refine VC.enterR LZ (show EZ.func 130=some Tryz.f130 by kernel_rfl) (fun _ _=>rfl) rfl rfl [] ?_
 conv=>whnf
 (first|refine⟨?_,?_⟩|refine nsplit ?_ ?_|refine bsplit ?_ ?_)<;>intro h<;>have hz_:=True.intro<;>clear hz_
 ·have h:s.e=0:=h
  rw[if_pos h]
  conv=>whnf
  exact⟨[],[some 0],_,_,_,t3,rfl,rfl,rfl⟩
 ·have h:¬s.e=0:=h
  rw[if_neg h]
  conv=>whnf
  exact⟨[],[some 0],_,_,_,t3,rfl,rfl,rfl⟩
theorem next_ok (s:InS) (n:Nat) (_:n<1000000):VC EZ 131 1 [.ptr 0 0,.s (.int .i64 n)] [(0,InO s)] (RR (.tup [.sl 1 ((((s.next n).2).getD []).map encU1) false,.s (.bool ((s.next n).2).isSome)]) 1 [(0,InO (s.next n).1)]):=by
 refine VC.enterR LZ (show EZ.func 131=some Tryz.f131 by kernel_rfl) (fun _ _=>rfl) rfl rfl [] ?_
 conv=>whnf
 (first|refine⟨?_,?_⟩|refine nsplit ?_ ?_|refine bsplit ?_ ?_)<;>intro h<;>have hz_:=True.intro<;>clear hz_
 ·have h:s.e≠0:=h
  have e:s.next n=(s,none):=by unfold InS.next;rw[if_pos h]
  rw[e]
  conv=>whnf
  exact⟨[],[some 0],_,_,_,t3,rfl,rfl,rfl⟩
 ·have h:¬s.e≠0:=h
  have h0:s.e=0:=by omega
  conv=>whnf
  (first|refine⟨?_,?_⟩|refine nsplit ?_ ?_|refine bsplit ?_ ?_)<;>intro h2<;>have hz_:=True.intro<;>clear hz_
  ·have h2:s.b.length<n:=by have:(((s.b.map encU1).length:Nat):Int)<n:=h2
                            rw[List.length_map]at this;omega
   have e:s.next n=(⟨[],3⟩,none):=by unfold InS.next;rw[if_neg h,if_pos h2]
   have hf:=inFail_ok s 3
   rw[if_pos h0]at hf
   rw[e]
   conv=>whnf
   refine⟨[],[some 0],_,_,_,_,hf,t3,cR ?_⟩
   conv=>whnf
   exact⟨[],[some 0],_,_,_,t3,rfl,rfl,rfl⟩
  ·have h2:¬s.b.length<n:=by have:¬(((s.b.map encU1).length:Nat):Int)<n:=h2
                             rw[List.length_map]at this;omega
   have e:s.next n=(⟨s.b.drop n,0⟩,some (s.b.take n)):=by unfold InS.next;rw[if_neg h,if_neg h2]
   rw[e]
   conv=>whnf
   refine⟨by simp;omega,?_⟩
   conv=>whnf
   refine⟨by simp;omega,?_⟩
   conv=>whnf
   refine⟨[],[some 0],?_⟩
   iterate 3 constructor
   refine⟨⟨?_,?_,?_⟩,rfl,rfl,rfl⟩
   all_goals(repeat' first|exact LF|constructor)
   all_goals first
    |exact Lz.int h0
    |(refine Lz.of ?_;simp;done)
    |(refine Lz.of ?_;rw[Int.toNat_natCast,Int.toNat_natCast,List.take_of_length_le (by simp),List.map_drop])
    |(refine Lw.of ?_;rw[Int.toNat_natCast,Int.toNat_natCast,List.take_of_length_le (by simp),List.map_drop])
theorem number_ok (l:List Int) (hl:l.length<1000000) (hb:∀x∈l,0≤x∧x<256):VC EZ 132 0 [.sl 1 (l.map encU1) false] [] (RR (.s (.int .u64 (numL l))) 0 []):=by
 refine VC.enterR LZ (show EZ.func 132=some Tryz.f132 by kernel_rfl) (fun _ _=>rfl) rfl rfl [] ?_
 conv=>whnf
 refine⟨fun k f o c=>∃i:Nat,i≤l.length∧k=l.length - i∧c=0∧f=[(0,.sl 1 (l.map encU1) false),(3,.s (.int .u64 (numL (l.take i)))),(6,.sl 1 (l.map encU1) false),(7,.s (.int .i64 l.length)),(8,.s (.int .i64 i))]∧o=[],⟨l.length,?_⟩,?_⟩
 ·refine⟨[],[],?_⟩
  iterate 3 constructor
  refine⟨⟨?_,?_,?_⟩,⟨0,Nat.zero_le _,rfl,rfl,rfl,rfl⟩⟩
  all_goals(repeat' first|exact LF|constructor)
  all_goals exact Lz.int (by simp)
 ·rintro k f1 o1 c1 ⟨i,hi,rfl,rfl,rfl,rfl⟩
  conv=>whnf
  (first|refine⟨?_,?_⟩|refine nsplit ?_ ?_|refine bsplit ?_ ?_)<;>intro h<;>have hz_:=True.intro<;>clear hz_
  ·have h:i<l.length:=by have:(i:Int)<l.length:=h
                         omega
   conv=>whnf
   refine idxI h ?_
   conv=>whnf
   refine⟨l.length - (i+1),?_,by omega⟩
   refine⟨[],[],?_⟩
   iterate 3 constructor
   refine⟨⟨?_,?_,?_⟩,⟨i+1,h,rfl,rfl,rfl,rfl⟩⟩
   all_goals(repeat' first|exact LF|constructor)
   all_goals exact Lz.int (by
    have hx:=hb _ (List.getElem_mem h)
    have h0:=numL_range (l.take i)
    rw[take_snoc l i h,numL_snoc,←or_eq (numL (l.take i)) l[i] h0.1 hx,show IntKind.u64.wrap l[i]=l[i] by rw[IntKind.wrap_u64];omega]
    rfl)
  ·have hi':i=l.length:=by have:¬(i:Int)<l.length:=h
                           omega
   subst hi'
   rw[List.take_length]
   conv=>whnf
   exact⟨[],[],_,_,_,t3,rfl,rfl,rfl⟩
theorem refNum_ok (l:List Int) (hl:l.length<1000000):VC EZ 146 0 [.sl 1 (l.map encU1) false] [] (RR (.s (.int .u64 (numL l))) 0 []):=by
 refine VC.enterR LZ (show EZ.func 146=some Tryz.f146 by kernel_rfl) (fun _ _=>rfl) rfl rfl [] ?_
 conv=>whnf
 refine⟨fun k f o c=>∃i:Nat,i≤l.length∧k=l.length - i∧c=0∧f=[(0,.sl 1 (l.map encU1) false),(3,.s (.int .u64 (numL (l.take i)))),(4,.s (.int .i64 i))]∧o=[],⟨l.length,?_⟩,?_⟩
 ·exact⟨[],[],_,_,_,t3,⟨0,Nat.zero_le _,rfl,rfl,rfl,rfl⟩⟩
 ·rintro k f1 o1 c1 ⟨i,hi,rfl,rfl,rfl,rfl⟩
  conv=>whnf
  (first|refine⟨?_,?_⟩|refine nsplit ?_ ?_|refine bsplit ?_ ?_)<;>intro h<;>have hz_:=True.intro<;>clear hz_
  ·have h:i<l.length:=lenlt.1 h
   conv=>whnf
   refine idxI h ?_
   conv=>whnf
   refine⟨l.length - (i+1),?_,by omega⟩
   refine⟨[],[],?_⟩
   iterate 3 constructor
   refine⟨⟨?_,?_,?_⟩,⟨i+1,h,rfl,rfl,rfl,rfl⟩⟩
   all_goals(repeat' first|exact LF|constructor)
   all_goals exact Lz.int (by
    rw[take_snoc l i h,numL_snoc,←num_eq]
    simp only[IntKind.wrap_u64]
    omega)
  ·have hi':i=l.length:=by have:=mt lenlt.2 h
                           omega
   subst hi'
   rw[List.take_length]
   conv=>whnf
   exact⟨[],[],_,_,_,t3,rfl,rfl,rfl⟩
theorem upto_ok (s:InS) (w:Nat) (m:Int) (h1:1≤w) (h8:w≤8) (hb:∀x∈s.b,0≤x∧x<256):VC EZ 87 1 [.ptr 0 0,.s (.int .i64 w),.s (.int .u64 m)] [(0,InO s)] (RR (.s (.int .u64 (s.upto w m).2)) 1 [(0,InO (s.upto w m).1)]):=by
 have hnx:=next_ok s w (by omega)
 have hnb:=(InS.next_bytes (n:=w) hb).2
 have hnl:=fun l=>InS.next_len (s:=s) (n:=w) (l:=l)
 have hne:s.e≠0→s.upto w m=(s,0):=fun h=>by unfold InS.upto InS.next;rw[if_pos h]
 have hun:∀s',s.next w=(s',none)→s.upto w m=(s',0):=fun s' h=>by unfold InS.upto;rw[h]
 have hus:∀s' b,s.next w=(s',some b)→s'.e=0∧s.upto w m=if numL b>m then(⟨[],4⟩,0)else(s',numL b):=fun s' b h=>by
  refine⟨?_,by unfold InS.upto;rw[h]⟩
  unfold InS.next at h
  split at h
  ·cases h
  ·split at h
   ·cases h
   ·cases h;rfl
 refine VC.enterR LZ (show EZ.func 87=some Tryz.f87 by kernel_rfl) (fun _ _=>rfl) rfl rfl [] ?_
 conv=>whnf
 (first|refine⟨?_,?_⟩|refine nsplit ?_ ?_|refine bsplit ?_ ?_)<;>intro h<;>have hz_:=True.intro<;>clear hz_
 ·have h:s.e≠0:=h
  rw[hne h]
  conv=>whnf
  exact⟨[],[some 0],_,_,_,t3,rfl,rfl,rfl⟩
 ·conv=>whnf
  refine⟨[],[],_,_,_,_,known_ok w h1 h8,t3,cR ?_⟩
  conv=>whnf
  generalize hx:s.next w=q at hnx hnb hnl
  obtain⟨s',r⟩:=q
  cases r with
  |none=>
   rw[hun s' hx]
   refine⟨[],[some 0],_,_,_,_,hnx,t3,cR ?_⟩
   conv=>whnf
   exact⟨[],[some 0],_,_,_,t3,rfl,rfl,rfl⟩
  |some b=>
   obtain⟨h0,hu⟩:=hus s' b hx
   have hl:=hnl b rfl
   rw[hu]
   refine⟨[],[some 0],_,_,_,_,hnx,t3,cR ?_⟩
   conv=>whnf
   refine⟨[],[],_,_,_,_,number_ok b (by omega) (hnb b rfl),t3,cR ?_⟩
   conv=>whnf
   (first|refine⟨?_,?_⟩|refine nsplit ?_ ?_|refine bsplit ?_ ?_)<;>intro hm<;>have hz_:=True.intro<;>clear hz_
   ·have hm:numL b>m:=hm
    rw[if_pos hm]
    conv=>whnf
    have hf:=inFail_ok s' 4
    rw[if_pos h0]at hf
    refine⟨[],[some 0],_,_,_,_,hf,t3,cR ?_⟩
    conv=>whnf
    exact⟨[],[some 0],_,_,_,t3,rfl,rfl,rfl⟩
   ·have hm:¬numL b>m:=hm
    rw[if_neg hm]
    conv=>whnf
    exact⟨[],[some 0],_,_,_,t3,rfl,rfl,rfl⟩
theorem get_ok (s:InS) (w:Nat) (h1:1≤w) (h8:w≤8) (hb:∀x∈s.b,0≤x∧x<256):VC EZ 84 1 [.ptr 0 0,.s (.int .i64 w)] [(0,InO s)] (RR (.s (.int .u64 (s.get w).2)) 1 [(0,InO (s.get w).1)]):=by
 refine VC.enterR LZ (show EZ.func 84=some Tryz.f84 by kernel_rfl) (fun _ _=>rfl) rfl rfl [] ?_
 conv=>whnf
 refine⟨[],[some 0],_,_,_,_,upto_ok s w 18446744073709551615 h1 h8 hb,t3,cR ?_⟩
 conv=>whnf
 exact⟨[],[some 0],_,_,_,t3,rfl,rfl,rfl⟩
end Go.M
namespace Go.M
open Go Go.Proofs
set_option maxRecDepth 100000
set_option maxHeartbeats 4000000
theorem raw_ok (s:InS) (n:Nat) (hn:n<1000000):VC EZ 133 1 [.ptr 0 0,.s (.int .i64 n)] [(0,InO s)] (RR (.sl 1 (((s.raw n).2).map encU1) false) 1 [(0,InO (s.raw n).1)]):=by
 have hx:=next_ok s n hn
 have hl:=fun l=>InS.next_len (s:=s) (n:=n) (l:=l)
 have e:s.raw n=((s.next n).1,((s.next n).2).getD []):=rfl
 rw[e]
 generalize s.next n=q at hx hl
 obtain⟨s',r⟩:=q
 have hm:(if(0:Int)>(n:Int)then 0 else(n:Int))=n:=if_neg (by omega)
 refine VC.enterR LZ (show EZ.func 133=some Tryz.f133 by kernel_rfl) (fun _ _=>rfl) rfl rfl [] ?_
 conv=>whnf
 (first|refine⟨?_,?_⟩|refine nsplit ?_ ?_|refine bsplit ?_ ?_)<;>intro h<;>have hz_:=True.intro<;>clear hz_
 ·exact absurd h (by show¬(n:Int)<0;omega)
 conv=>whnf
 refine⟨[],[some 0],_,_,_,_,hx,⟨by((repeat' first|exact LF|constructor);all_goals(exact Lz.int hm)),by((repeat' first|exact LF|constructor);all_goals(exact Lz.int hm)),by rfl⟩,?_⟩
 rintro r o' c' ⟨rfl,rfl,rfl⟩
 conv=>whnf
 cases r with
 |none=>
  conv=>whnf
  exact⟨[],[some 0],_,_,_,t3,rfl,rfl,rfl⟩
 |some l=>
  conv=>whnf
  refine⟨[],[],_,_,_,_,cloneB_ok l (by have:=hl l rfl;omega),t3,cR ?_⟩
  conv=>whnf
  exact⟨[],[some 0],_,_,_,t3,rfl,rfl,rfl⟩
@[reducible] def InA (s:InS):TV:=.agg [.sl 1 (s.b.map encU1) false,.s (.int .i64 s.e)]
theorem refFail_ok (s:InS) (e:Int):VC EZ 144 0 [InA s,.s (.int .i64 e)] [] (RR (InA (if s.e=0 then⟨[],e⟩else s)) 0 []):=by
 refine VC.enterR LZ (show EZ.func 144=some Tryz.f144 by kernel_rfl) (fun _ _=>rfl) rfl rfl [] ?_
 conv=>whnf
 (first|refine⟨?_,?_⟩|refine nsplit ?_ ?_|refine bsplit ?_ ?_)<;>intro h<;>have hz_:=True.intro<;>clear hz_
 ·have h:s.e≠0:=h
  rw[if_neg h]
  conv=>whnf
  exact⟨[],[],_,_,_,t3,rfl,rfl,rfl⟩
 ·have h:s.e=0:=Classical.not_not.1 h
  rw[if_pos h]
  conv=>whnf
  exact⟨[],[],_,_,_,t3,rfl,rfl,rfl⟩
theorem refRaw_ok (s:InS) (n:Nat) (hn:n<1000000):VC EZ 145 0 [InA s,.s (.int .i64 n)] [] (RR (.tup [InA (s.raw n).1,.sl 1 (((s.raw n).2).map encU1) false]) 0 []):=by
 refine VC.enterR LZ (show EZ.func 145=some Tryz.f145 by kernel_rfl) (fun _ _=>rfl) rfl rfl [] ?_
 conv=>whnf
 (first|refine⟨?_,?_⟩|refine nsplit ?_ ?_|refine bsplit ?_ ?_)<;>intro h<;>have hz_:=True.intro<;>clear hz_
 ·have h:s.e≠0:=h
  have e:s.raw n=(s,[]):=by unfold InS.raw InS.next;rw[if_pos h];rfl
  rw[e]
  conv=>whnf
  exact⟨[],[],_,_,_,t3,rfl,rfl,rfl⟩
 ·have h:¬s.e≠0:=h
  have h0:s.e=0:=by omega
  conv=>whnf
  (first|refine⟨?_,?_⟩|refine nsplit ?_ ?_|refine bsplit ?_ ?_)<;>intro h1<;>have hz_:=True.intro<;>clear hz_
  ·exact absurd h1 (by show¬(n:Int)<0;omega)
  conv=>whnf
  (first|refine⟨?_,?_⟩|refine nsplit ?_ ?_|refine bsplit ?_ ?_)<;>intro h2<;>have hz_:=True.intro<;>clear hz_
  ·have h2:s.b.length<n:=by have:(n:Int)>(((s.b.map encU1).length:Nat):Int):=h2
                            rw[List.length_map]at this;omega
   have e:s.raw n=(⟨[],3⟩,[]):=by unfold InS.raw InS.next;rw[if_neg h,if_pos h2];rfl
   have hf:=refFail_ok s 3
   rw[if_pos h0]at hf
   rw[e]
   conv=>whnf
   refine⟨[],[],_,_,_,_,hf,t3,cR ?_⟩
   conv=>whnf
   exact⟨[],[],_,_,_,t3,rfl,rfl,rfl⟩
  ·have h2:¬s.b.length<n:=by have:¬(n:Int)>(((s.b.map encU1).length:Nat):Int):=h2
                             rw[List.length_map]at this;omega
   have e:s.raw n=(⟨s.b.drop n,0⟩,s.b.take n):=by unfold InS.raw InS.next;rw[if_neg h,if_neg h2];rfl
   rw[e]
   ((conv=>whnf)<;>repeat(with_reducible refine D1 ?_)<;>conv=>whnf)
   refine⟨by simp;omega,?_⟩
   conv=>whnf
   refine⟨by simp;omega,?_⟩
   ((conv=>whnf)<;>repeat(with_reducible refine D1 ?_)<;>conv=>whnf)
   refine⟨[],[],?_⟩
   iterate 3 constructor
   refine⟨⟨?_,?_,?_⟩,rfl,rfl,rfl⟩
   all_goals(repeat' first|exact LF|constructor)
   all_goals first
    |exact Lz.int h0
    |(refine Lz.of ?_;simp;done)
    |(refine Lz.of ?_;rw[Int.toNat_natCast,Int.toNat_natCast,List.take_of_length_le (by simp),List.map_drop])
    |(refine Lw.of ?_;rw[Int.toNat_natCast,Int.toNat_natCast,List.take_of_length_le (by simp),List.map_drop])
theorem refUpto_ok (s:InS) (w:Nat) (m:Int) (h1:1≤w) (h8:w≤8):VC EZ 107 0 [InA s,.s (.int .i64 w),.s (.int .u64 m)] [] (RR (.tup [InA (s.upto w m).1,.s (.int .u64 (s.upto w m).2)]) 0 []):=by
 have hr:=refRaw_ok s w (by omega)
 have hnl:=fun l=>InS.next_len (s:=s) (n:=w) (l:=l)
 have hraw:s.raw w=((s.next w).1,((s.next w).2).getD []):=rfl
 have hun:∀s',s.next w=(s',none)→s'.e≠0∧s.upto w m=(s',0):=fun s' h=>by
  refine⟨?_,by unfold InS.upto;rw[h]⟩
  unfold InS.next at h
  split at h
  ·cases h;assumption
  ·split at h
   ·cases h;show(3:Int)≠0;decide
   ·cases h
 have hus:∀s' b,s.next w=(s',some b)→s'.e=0∧s.upto w m=if numL b>m then(⟨[],4⟩,0)else(s',numL b):=fun s' b h=>by
  refine⟨?_,by unfold InS.upto;rw[h]⟩
  unfold InS.next at h
  split at h
  ·cases h
  ·split at h
   ·cases h
   ·cases h;rfl
 rw[hraw]at hr
 generalize hx:s.next w=q at hr hnl
 obtain⟨s',r⟩:=q
 refine VC.enterR LZ (show EZ.func 107=some Tryz.f107 by kernel_rfl) (fun _ _=>rfl) rfl rfl [] ?_
 conv=>whnf
 (first|refine⟨?_,?_⟩|refine nsplit ?_ ?_|refine bsplit ?_ ?_)<;>intro ha<;>have hz_:=True.intro<;>clear hz_
 ·exact absurd ha (by show¬(w:Int)<1;omega)
 conv=>whnf
 (first|refine⟨?_,?_⟩|refine nsplit ?_ ?_|refine bsplit ?_ ?_)<;>intro hb<;>have hz_:=True.intro<;>clear hz_
 ·exact absurd hb (by show¬(w:Int)>8;omega)
 conv=>whnf
 cases r with
 |none=>
  obtain⟨h0,hu⟩:=hun s' hx
  rw[hu]
  refine⟨[],[],_,_,_,_,hr,t3,cR ?_⟩
  conv=>whnf
  (first|refine⟨?_,?_⟩|refine nsplit ?_ ?_|refine bsplit ?_ ?_)<;>intro hc<;>have hz_:=True.intro<;>clear hz_
  ·conv=>whnf
   exact⟨[],[],_,_,_,t3,rfl,rfl,rfl⟩
  ·exact absurd h0 hc
 |some b=>
  obtain⟨h0,hu⟩:=hus s' b hx
  have hl:=hnl b rfl
  rw[hu]
  refine⟨[],[],_,_,_,_,hr,t3,cR ?_⟩
  conv=>whnf
  (first|refine⟨?_,?_⟩|refine nsplit ?_ ?_|refine bsplit ?_ ?_)<;>intro hc<;>have hz_:=True.intro<;>clear hz_
  ·exact absurd h0 hc
  conv=>whnf
  refine⟨[],[],_,_,_,_,refNum_ok b (by omega),t3,cR ?_⟩
  conv=>whnf
  (first|refine⟨?_,?_⟩|refine nsplit ?_ ?_|refine bsplit ?_ ?_)<;>intro hm<;>have hz_:=True.intro<;>clear hz_
  ·have hm:numL b>m:=hm
   rw[if_pos hm]
   conv=>whnf
   have hf:=refFail_ok s' 4
   rw[if_pos h0]at hf
   refine⟨[],[],_,_,_,_,hf,t3,cR ?_⟩
   conv=>whnf
   exact⟨[],[],_,_,_,t3,rfl,rfl,rfl⟩
  ·have hm:¬numL b>m:=hm
   rw[if_neg hm]
   ((conv=>whnf)<;>repeat(with_reducible refine D1 ?_)<;>conv=>whnf)
   refine⟨[],[],_,_,_,_,refNum_ok b (by omega),t3,cR ?_⟩
   ((conv=>whnf)<;>repeat(with_reducible refine D1 ?_)<;>conv=>whnf)
   exact⟨[],[],_,_,_,t3,rfl,rfl,rfl⟩
theorem refGet_ok (s:InS) (w:Nat) (h1:1≤w) (h8:w≤8):VC EZ 105 0 [InA s,.s (.int .i64 w)] [] (RR (.tup [InA (s.get w).1,.s (.int .u64 (s.get w).2)]) 0 []):=by
 refine VC.enterR LZ (show EZ.func 105=some Tryz.f105 by kernel_rfl) (fun _ _=>rfl) rfl rfl [] ?_
 conv=>whnf
 refine⟨[],[],_,_,_,_,refUpto_ok s w 18446744073709551615 h1 h8,t3,cR ?_⟩
 conv=>whnf
 exact⟨[],[],_,_,_,t3,rfl,rfl,rfl⟩
end Go.M
namespace Go.M
open Go Go.Proofs
set_option maxRecDepth 100000
set_option maxHeartbeats 4000000
end Go.M
namespace Go.M
open Go Go.Proofs
set_option maxRecDepth 100000
set_option maxHeartbeats 4000000
theorem encU8_len (l:List Int):(encU8 l).length=l.length:=by unfold encU8;rw[List.length_map]
theorem encU8_app (a b:List Int):encU8 a++encU8 b=encU8 (a++b):=by unfold encU8;rw[List.map_append]
theorem encU8_nil {l:List Int} (h:encU8 l=[]):l=[]:=by unfold encU8 at h;simpa using h
structure Room (s:OutS) (k:Nat):Prop where
 e:s.e=0
 m:s.most=1048576
 l:s.b.length+k≤800000
@[reducible] def OutS.add (s:OutS) (x:List Int):OutS:=⟨s.b++x,s.most,0⟩
theorem Room.ok {s:OutS} {k:Nat} (h:Room s k):s.ok:=⟨by rw[h.m];decide,by have:=h.l;rw[h.m];omega⟩
theorem Room.add {s:OutS} {k:Nat} (h:Room s k) {x:List Int} {j:Nat} (hx:x.length+j≤k):Room (s.add x) j:=⟨rfl,h.m,by have:=h.l;show(s.b++x).length+j≤_;rw[List.length_append];omega⟩
theorem Room.put {s:OutS} {k:Nat} (h:Room s k) {x:List Int} (hx:x.length≤k):s.put x=s.add x:=by
 have:=h.l
 unfold OutS.put
 rw[if_neg (not_not_intro h.e),if_neg (by rw[h.m];omega)]
theorem Room.num {s:OutS} {k:Nat} (h:Room s k) {n w:Nat} (hn:n<256 ^ w) (hw:w≤k):s.num n w=s.add (bigL w n):=by
 unfold OutS.num
 rw[if_pos hn,h.put (by rw[bigL_len];exact hw)]
theorem numI_ok (s:OutS) (n:Int) (w k:Nat) (h:Room s k) (hw:w≤k) (h1:1≤w) (h8:w≤8) (h0:0≤n) (hm:n≤18446744073709551615) (hn:n.toNat<256 ^ w):VC EZ 92 1 [.ptr 0 0,.s (.int .u64 n),.s (.int .i64 w)] [(0,OutO s)] (RR (.tup []) 1 [(0,OutO (s.add (bigL w n.toNat)))]):=by
 have:=num_ok s n.toNat w h.ok (by have:=h.l;omega) h1 h8 (by omega)
 rw[h.num hn hw,Int.toNat_of_nonneg h0]at this
 exact this
theorem laidF_ok (n:Nat) (w:Nat) (h1:1≤w) (h8:w≤8):VC EZ 137 0 [.s (.int .u64 n),.s (.int .i64 w)] [] (RR (.sl 1 (encU8 (bigL w n)) false) 0 []):=by
 refine VC.told (laid_ok n w h1 h8) ?_
 rintro r o' c' ⟨rfl,rfl,rfl⟩
 exact⟨[0],[],_,_,_,t3,rfl,rfl,rfl⟩
theorem grow_ok (n:Nat) (h0:0<n) (hn:n<1000000):VC EZ 154 0 [.sl 0 [] true,.s (.int .i64 n)] [] (RR (.pv 0 0) 1 [(0,.arr 1 true (encU8 (List.replicate n 0)))]):=by
 refine VC.enterR LZ (show EZ.func 154=some Tryz.f154 by kernel_rfl) (fun _ _=>rfl) rfl rfl [] ?_
 conv=>whnf
 (first|refine⟨?_,?_⟩|refine nsplit ?_ ?_|refine bsplit ?_ ?_)<;>intro h<;>have hz_:=True.intro<;>clear hz_
 ·have h:(n:Int)<0:=h
  omega
 ·conv=>whnf
  have hw:IntKind.i64.wrap ((n:Int) - IntKind.i64.wrap (0 - ((([]:List (List TV)).length:Nat):Int)))=(n:Int):=by
   rw[show IntKind.i64.wrap (0 - ((([]:List (List TV)).length:Nat):Int))=0 from rfl,IntWalk.i64_in _ (by omega)];omega
  rw[hw]
  (first|refine⟨?_,?_⟩|refine nsplit ?_ ?_|refine bsplit ?_ ?_)<;>intro h2<;>have hz_:=True.intro<;>clear hz_
  ·conv=>whnf
   refine⟨by decide,?_⟩
   conv=>whnf
   refine⟨by omega,?_⟩
   conv=>whnf
   refine⟨⟨by simp,by simp,by simp⟩,.inr ?_⟩
   conv=>whnf
   refine⟨[],[some 0],?_⟩
   iterate 3 constructor
   refine⟨⟨?_,?_,?_⟩,rfl,rfl,rfl⟩
   all_goals(repeat' first|exact LF|constructor)
   all_goals first|exact Lz.of rfl |exact Lz.of (by simp[encU8,cT1])|trace_state
  ·exact absurd (show(0:Int)<(n:Int) by omega) h2
theorem concat_ok (a b:List Int) (ha:a≠[]) (hn:a.length+b.length<1000000):VC EZ 139 0 [.sl 1 [[.sl 1 (encU8 a) false],[.sl 1 (encU8 b) false]] false] [] (RR (.sl 1 (encU8 (a++b)) false) 0 []):=by
 have la:=encU8_len a
 have lb:=encU8_len b
 have ha0:0<a.length:=List.length_pos_iff.2 ha
 refine VC.enterR LZ (show EZ.func 139=some Tryz.f139 by kernel_rfl) (fun _ _=>rfl) rfl rfl [999999] ?_
 conv=>whnf
 (first|refine⟨?_,?_⟩|refine nsplit ?_ ?_|refine bsplit ?_ ?_)<;>intro t0<;>have hz_:=True.intro<;>clear hz_
 ·conv=>whnf
  refine⟨_,⟨by decide,rfl⟩,?_⟩
  conv=>whnf
  rw[show IntKind.i64.wrap (0+(((encU8 a).length:Nat):Int))=(a.length:Int)from by rw[la,IntWalk.i64_in _ (by omega)];omega]
  (first|refine⟨?_,?_⟩|refine nsplit ?_ ?_|refine bsplit ?_ ?_)<;>intro n0<;>have hz_:=True.intro<;>clear hz_
  ·have n0:(a.length:Int)<0:=n0
   omega
  ·conv=>whnf
   (first|refine⟨?_,?_⟩|refine nsplit ?_ ?_|refine bsplit ?_ ?_)<;>intro t1<;>have hz_:=True.intro<;>clear hz_
   ·conv=>whnf
    refine⟨_,⟨by decide,rfl⟩,?_⟩
    conv=>whnf
    rw[show IntKind.i64.wrap ((a.length:Int)+(((encU8 b).length:Nat):Int))=((a.length+b.length:Nat):Int)from by rw[lb,IntWalk.i64_in _ (by omega)];omega]
    (first|refine⟨?_,?_⟩|refine nsplit ?_ ?_|refine bsplit ?_ ?_)<;>intro n1<;>have hz_:=True.intro<;>clear hz_
    ·have n1:((a.length+b.length:Nat):Int)<0:=n1
     omega
    ·conv=>whnf
     (first|refine⟨?_,?_⟩|refine nsplit ?_ ?_|refine bsplit ?_ ?_)<;>intro t2<;>have hz_:=True.intro<;>clear hz_
     ·exact absurd t2 (show¬(IntKind.i64.wrap (IntKind.i64.wrap (0+1)+1)<(2:Int)) by decide)
     ·conv=>whnf
      refine⟨[],[],_,_,_,_,grow_ok (a.length+b.length) (by omega) (by omega),t3,cR ?_⟩
      conv=>whnf
      (first|refine⟨?_,?_⟩|refine nsplit ?_ ?_|refine bsplit ?_ ?_)<;>intro u0<;>have hz_:=True.intro<;>clear hz_
      ·conv=>whnf
       refine⟨_,⟨by decide,rfl⟩,?_⟩
       conv=>whnf
       refine⟨⟨Nat.zero_le _,by rw[la];omega,fun e=>ha (encU8_nil e)⟩,?_⟩
       conv=>whnf
       (first|refine⟨?_,?_⟩|refine nsplit ?_ ?_|refine bsplit ?_ ?_)<;>intro u1<;>have hz_:=True.intro<;>clear hz_
       ·conv=>whnf
        refine⟨_,⟨by decide,rfl⟩,?_⟩
        conv=>whnf
        refine⟨by rw[List.take_zero,List.nil_append,la,lb];omega,?_⟩
        conv=>whnf
        (first|refine⟨?_,?_⟩|refine nsplit ?_ ?_|refine bsplit ?_ ?_)<;>intro u2<;>have hz_:=True.intro<;>clear hz_
        ·exact absurd u2 (show¬(IntKind.i64.wrap (IntKind.i64.wrap (0+1)+1)<(2:Int)) by decide)
        ·conv=>whnf
         refine⟨[2],[],?_⟩
         iterate 3 constructor
         refine⟨⟨?_,?_,?_⟩,rfl,rfl,rfl⟩
         all_goals(repeat' first|exact LF|constructor)
         all_goals exact Lz.of (by rw[List.take_zero,List.nil_append,encU8_app])
       ·exact absurd (show IntKind.i64.wrap (0+1)<(2:Int) by decide) u1
      ·exact absurd (show(0:Int)<(2:Int) by decide) u0
   ·exact absurd (show IntKind.i64.wrap (0+1)<(2:Int) by decide) t1
 ·exact absurd (show(0:Int)<(2:Int) by decide) t0
theorem outText_ok (s:OutS) (d:List Int) (k:Nat) (h:Room s k) (hd:d.length+2≤k) (h2:d.length≤65535):VC EZ 94 1 [.ptr 0 0,.sl 1 (encU8 d) false] [(0,OutO s)] (RR (.tup []) 1 [(0,OutO (s.add (bigL 2 d.length++d)))]):=by
 have hl:=encU8_len d
 have hp:=put_ok s (bigL 2 d.length++d) h.ok (by have:=h.l;rw[List.length_append,bigL_len];omega)
 rw[h.put (by rw[List.length_append,bigL_len];omega)]at hp
 refine VC.enterR LZ (show EZ.func 94=some Tryz.f94 by kernel_rfl) (fun _ _=>rfl) rfl rfl [] ?_
 conv=>whnf
 (first|refine⟨?_,?_⟩|refine nsplit ?_ ?_|refine bsplit ?_ ?_)<;>intro h0<;>have hz_:=True.intro<;>clear hz_
 ·have h0:(65535:Int)<(((encU8 d).length:Nat):Int):=h0
  rw[hl]at h0;omega
 ·conv=>whnf
  rw[hl,show IntKind.u64.wrap ((d.length:Nat):Int)=((d.length:Nat):Int)from IntWalk.u64_in _ (by omega)]
  refine⟨[],[],_,_,_,_,laidF_ok d.length 2 (by decide) (by decide),t3,cR ?_⟩
  conv=>whnf
  refine⟨[1],[],_,_,_,_,concat_ok (bigL 2 d.length) d (fun e=>by have:=congrArg List.length e;rw[bigL_len]at this;cases this) (by rw[bigL_len];omega),t3,cR ?_⟩
  conv=>whnf
  refine⟨[],[some 0],_,_,_,_,hp,t3,cR ?_⟩
  conv=>whnf
  exact⟨[],[some 0],_,_,_,t3,rfl,rfl,rfl⟩
end Go.M
namespace Go.M
open Go Go.Proofs
set_option maxRecDepth 100000
set_option maxHeartbeats 4000000
def InS.text (s:InS) (m:Int):InS×List Int:=
 match s.next 2 with
 |(s',none)=>(s',[])
 |(s',some b)=>if numL b>m then(⟨[],6⟩,[])else s'.raw (numL b).toNat
def InS.done (s:InS):Int:=if s.e≠0 then s.e else if 0<s.b.length then 4 else 0
theorem done2_ok (s:InS):VC EZ 90 1 [.ptr 0 0] [(0,InO s)] (RR (.s (.int .i64 s.done)) 1 [(0,InO s)]):=by
 refine VC.enterR LZ (show EZ.func 90=some Tryz.f90 by kernel_rfl) (fun _ _=>rfl) rfl rfl [] ?_
 conv=>whnf
 refine⟨[],[some 0],_,_,_,_,err_ok s,t3,cR ?_⟩
 conv=>whnf
 (first|refine⟨?_,?_⟩|refine nsplit ?_ ?_|refine bsplit ?_ ?_)<;>intro h<;>have hz_:=True.intro<;>clear hz_
 ·have h:s.e≠0:=h
  rw[show s.done=s.e from if_pos h]
  conv=>whnf
  exact⟨[],[some 0],_,_,_,t3,rfl,rfl,rfl⟩
 ·have h:¬s.e≠0:=h
  conv=>whnf
  (first|refine⟨?_,?_⟩|refine nsplit ?_ ?_|refine bsplit ?_ ?_)<;>intro h2<;>have hz_:=True.intro<;>clear hz_
  ·have h2:0<s.b.length:=by have:(0:Int)<(((s.b.map encU1).length:Nat):Int):=h2
                            rw[List.length_map]at this;omega
   rw[show s.done=4 from by unfold InS.done;rw[if_neg h,if_pos h2]]
   conv=>whnf
   exact⟨[],[some 0],_,_,_,t3,rfl,rfl,rfl⟩
  ·have h2:¬0<s.b.length:=by have:¬(0:Int)<(((s.b.map encU1).length:Nat):Int):=h2
                             rw[List.length_map]at this;omega
   rw[show s.done=0 from by unfold InS.done;rw[if_neg h,if_neg h2]]
   conv=>whnf
   exact⟨[],[some 0],_,_,_,t3,rfl,rfl,rfl⟩
theorem text_ok (s:InS) (m:Int) (hb:∀x∈s.b,0≤x∧x<256):VC EZ 88 1 [.ptr 0 0,.s (.int .i64 m)] [(0,InO s)] (RR (.sl 1 (encU8 (s.text m).2) false) 1 [(0,InO (s.text m).1)]):=by
 have hnx:=next_ok s 2 (by decide)
 have hnb:=(InS.next_bytes (n:=2) hb).2
 have hnl:=fun l=>InS.next_len (s:=s) (n:=2) (l:=l)
 have hun:∀s',s.next 2=(s',none)→s.text m=(s',[]):=fun s' h=>by unfold InS.text;rw[h]
 have hus:∀s' b,s.next 2=(s',some b)→s'.e=0∧s.text m=if numL b>m then(⟨[],6⟩,[])else s'.raw (numL b).toNat:=fun s' b h=>by
  refine⟨?_,by unfold InS.text;rw[h]⟩
  unfold InS.next at h
  split at h
  ·cases h
  ·split at h
   ·cases h
   ·cases h;rfl
 generalize s.next 2=q at hnx hnb hnl hun hus
 obtain⟨s',r⟩:=q
 cases r with
 |none=>
  rw[hun s' rfl]
  refine VC.enterR LZ (show EZ.func 88=some Tryz.f88 by kernel_rfl) (fun _ _=>rfl) rfl rfl [] ?_
  conv=>whnf
  refine⟨[],[some 0],_,_,_,_,hnx,t3,cR ?_⟩
  conv=>whnf
  exact⟨[],[some 0],_,_,_,t3,rfl,rfl,rfl⟩
 |some b=>
  obtain⟨h0,hu⟩:=hus s' b rfl
  have hl:b.length=2:=hnl b rfl
  have hlt:=numL_lt b (by omega) (hnb b rfl)
  rw[hl]at hlt
  have hr:=numL_range b
  have hnn:IntKind.i64.wrap (numL b)=((numL b).toNat:Int):=by rw[IntWalk.i64_in _ (by omega)];omega
  rw[hu]
  refine VC.enterR LZ (show EZ.func 88=some Tryz.f88 by kernel_rfl) (fun _ _=>rfl) rfl rfl [] ?_
  conv=>whnf
  refine⟨[],[some 0],_,_,_,_,hnx,t3,cR ?_⟩
  conv=>whnf
  refine⟨[],[],_,_,_,_,number_ok b (by omega) (hnb b rfl),t3,cR ?_⟩
  conv=>whnf
  rw[hnn]
  (first|refine⟨?_,?_⟩|refine nsplit ?_ ?_|refine bsplit ?_ ?_)<;>intro hm<;>have hz_:=True.intro<;>clear hz_
  ·have hm:numL b>m:=by have hm:m<((numL b).toNat:Int):=hm
                        omega
   rw[if_pos hm]
   conv=>whnf
   have hf:=inFail_ok s' 6
   rw[if_pos h0]at hf
   refine⟨[],[some 0],_,_,_,_,hf,t3,cR ?_⟩
   conv=>whnf
   exact⟨[],[some 0],_,_,_,t3,rfl,rfl,rfl⟩
  ·have hm:¬numL b>m:=by have hm:¬m<((numL b).toNat:Int):=hm
                         omega
   rw[if_neg hm]
   conv=>whnf
   refine⟨[],[some 0],_,_,_,_,raw_ok s' (numL b).toNat (by omega),t3,cR ?_⟩
   conv=>whnf
   exact⟨[],[some 0],_,_,_,t3,rfl,rfl,rfl⟩
end Go.M
namespace Go.M
open Go Go.Proofs
set_option maxRecDepth 100000
set_option maxHeartbeats 4000000
theorem refDone_ok (s:InS):VC EZ 109 0 [InA s] [] (RR (.s (.int .i64 s.done)) 0 []):=by
 refine VC.enterR LZ (show EZ.func 109=some Tryz.f109 by kernel_rfl) (fun _ _=>rfl) rfl rfl [] ?_
 conv=>whnf
 (first|refine⟨?_,?_⟩|refine nsplit ?_ ?_|refine bsplit ?_ ?_)<;>intro h<;>have hz_:=True.intro<;>clear hz_
 ·have h:s.e=0:=h
  conv=>whnf
  (first|refine⟨?_,?_⟩|refine nsplit ?_ ?_|refine bsplit ?_ ?_)<;>intro h2<;>have hz_:=True.intro<;>clear hz_
  ·have h2:0<s.b.length:=by have:(0:Int)<(((s.b.map encU1).length:Nat):Int):=h2
                            rw[List.length_map]at this;omega
   rw[show s.done=4 from by unfold InS.done;rw[if_neg (not_not_intro h),if_pos h2]]
   conv=>whnf
   exact⟨[],[],_,_,_,t3,rfl,rfl,rfl⟩
  ·have h2:¬0<s.b.length:=by have:¬(0:Int)<(((s.b.map encU1).length:Nat):Int):=h2
                             rw[List.length_map]at this;omega
   rw[show s.done=s.e from by unfold InS.done;rw[if_neg (not_not_intro h),if_neg h2,h]]
   conv=>whnf
   exact⟨[],[],_,_,_,t3,rfl,rfl,rfl⟩
 ·have h:s.e≠0:=h
  rw[show s.done=s.e from if_pos h]
  conv=>whnf
  exact⟨[],[],_,_,_,t3,rfl,rfl,rfl⟩
theorem refText_ok (s:InS) (m:Int) (hb:∀x∈s.b,0≤x∧x<256):VC EZ 108 0 [InA s,.s (.int .i64 m)] [] (RR (.tup [InA (s.text m).1,.sl 1 (encU8 (s.text m).2) false]) 0 []):=by
 have hg:=refGet_ok s 2 (by decide) (by decide)
 have hnb:=(InS.next_bytes (n:=2) hb).2
 have hnl:=fun l=>InS.next_len (s:=s) (n:=2) (l:=l)
 have hgo:s.get 2=match s.next 2 with|(s',none)=>(s',0)|(s',some b)=>if numL b>18446744073709551615 then(⟨[],4⟩,0)else(s',numL b):=rfl
 have hte:s.text m=match s.next 2 with|(s',none)=>(s',[])|(s',some b)=>if numL b>m then(⟨[],6⟩,[])else s'.raw (numL b).toNat:=rfl
 have hee:∀s' r,s.next 2=(s',r)→(r=none→s'.e≠0)∧(r≠none→s'.e=0):=fun s' r h=>by
  unfold InS.next at h
  split at h
  ·rename_i q;cases h;exact⟨fun _=>q,fun q=>absurd rfl q⟩
  ·split at h
   ·cases h;exact⟨fun _=>by decide,fun q=>absurd rfl q⟩
   ·cases h;exact⟨fun q=>(by cases q),fun _=>rfl⟩
 generalize s.next 2=q at hgo hte hnb hnl hee
 obtain⟨s',r⟩:=q
 obtain⟨en,es⟩:=hee s' r rfl
 cases r with
 |none=>
  dsimp only at hgo hte
  rw[hgo]at hg
  rw[hte]
  refine VC.enterR LZ (show EZ.func 108=some Tryz.f108 by kernel_rfl) (fun _ _=>rfl) rfl rfl [] ?_
  conv=>whnf
  refine⟨[],[],_,_,_,_,hg,t3,cR ?_⟩
  conv=>whnf
  (first|refine⟨?_,?_⟩|refine nsplit ?_ ?_|refine bsplit ?_ ?_)<;>intro h<;>have hz_:=True.intro<;>clear hz_
  ·conv=>whnf
   exact⟨[],[],_,_,_,t3,rfl,rfl,rfl⟩
  ·exact absurd (en rfl) h
 |some b=>
  have h0:=es (by simp)
  have hl:b.length=2:=hnl b rfl
  have hlt:=numL_lt b (by omega) (hnb b rfl)
  rw[hl]at hlt
  have hr:=numL_range b
  have hnn:IntKind.i64.wrap (numL b)=((numL b).toNat:Int):=by rw[IntWalk.i64_in _ (by omega)];omega
  dsimp only at hgo hte
  rw[if_neg (by omega)]at hgo
  rw[hgo]at hg
  rw[hte]
  refine VC.enterR LZ (show EZ.func 108=some Tryz.f108 by kernel_rfl) (fun _ _=>rfl) rfl rfl [] ?_
  conv=>whnf
  refine⟨[],[],_,_,_,_,hg,t3,cR ?_⟩
  conv=>whnf
  (first|refine⟨?_,?_⟩|refine nsplit ?_ ?_|refine bsplit ?_ ?_)<;>intro h<;>have hz_:=True.intro<;>clear hz_
  ·exact absurd h0 h
  ·conv=>whnf
   rw[hnn]
   (first|refine⟨?_,?_⟩|refine nsplit ?_ ?_|refine bsplit ?_ ?_)<;>intro hm<;>have hz_:=True.intro<;>clear hz_
   ·have hm:numL b>m:=by have hm:m<((numL b).toNat:Int):=hm
                         omega
    have hf:=refFail_ok s' 6
    rw[if_pos h0]at hf
    rw[if_pos hm]
    conv=>whnf
    refine⟨[],[],_,_,_,_,hf,t3,cR ?_⟩
    conv=>whnf
    exact⟨[],[],_,_,_,t3,rfl,rfl,rfl⟩
   ·have hm:¬numL b>m:=by have hm:¬m<((numL b).toNat:Int):=hm
                          omega
    rw[if_neg hm]
    conv=>whnf
    rw[hnn]
    refine⟨[],[],_,_,_,_,refRaw_ok s' (numL b).toNat (by omega),t3,cR ?_⟩
    conv=>whnf
    exact⟨[],[],_,_,_,t3,rfl,rfl,rfl⟩
end Go.M
