/-
  Part 40 of the library that the proof leans on.
-/
import Derived.Test.YtmocpiopjkmnhaaGreatDoorL17
import Derived.Test.YtmocpiopjkmnhaaGreatDoorL39
import Derived.KernelRfl
namespace Go.M
open Go Go.Proofs
set_option maxRecDepth 100000
set_option maxHeartbeats 4000000
theorem cloneB_ok (l:List Int) (hl:l.length<1000000):VC E0 61 0 [.sl 1 (l.map encU1) false] [] (RR (.sl 1 (l.map encU1) false) 0 []):=by
 refine VC.enterR L0 (show E0.func 61=some Tryz.f61 by kernel_rfl) (fun _ _=>rfl) rfl rfl [] ?_
 conv=>whnf
 refine⟨fun h=>?_,?_⟩
 ·have h:l=[]:=by simpa using h
  subst h
  conv=>whnf
  exact⟨[],[],_,_,_,t3,rfl,rfl,rfl⟩
 ·conv=>whnf
  refine⟨by simp;omega,?_⟩
  conv=>whnf
  exact⟨[1],[],_,_,_,t3,rfl,rfl,rfl⟩
theorem known_ok (w:Nat) (h1:1≤w) (h8:w≤8):VC E0 49 0 [.s (.int .i64 w)] [] (RR (.s (.bool true)) 0 []):=by
 refine VC.enterR L0 (show E0.func 49=some Tryz.f49 by kernel_rfl) (fun _ _=>rfl) rfl rfl [] ?_
 conv=>whnf
 (first|refine⟨?_,?_⟩|refine nsplit ?_ ?_|refine bsplit ?_ ?_)<;>intro h<;>have hz_:=True.intro<;>clear hz_
 ·conv=>whnf
  (first|refine⟨?_,?_⟩|refine nsplit ?_ ?_|refine bsplit ?_ ?_)<;>intro h'<;>have hz_:=True.intro<;>clear hz_
  ·conv=>whnf
   exact⟨[],[],_,_,_,t3,rfl,rfl,rfl⟩
  ·exact absurd (show(w:Int)≤8 by omega) h'
 ·exact absurd (show(w:Int)≥1 by omega) h
theorem laid_set (w i n:Nat) (h:i<w):((List.replicate (w - i) (0:Int)++bigL i n).map encU1).set (w - 1 - i) (encU1 ((n / 256 ^ i % 256:Nat):Int))=(List.replicate (w - (i+1)) (0:Int)++bigL (i+1) n).map encU1:=by
 have e:w - i=(w - (i+1))+1:=by omega
 rw[←List.map_set,e,List.replicate_succ',List.append_assoc,List.set_append_right _ _ (by simp;omega),bigL_cons]
 congr 2
 rw[List.length_replicate,show w - 1 - i - (w - (i+1))=0 by omega]
 rfl
theorem laid_get (w i n:Nat) (h:i<w):((List.replicate (w - i) (0:Int)++bigL i n).map encU1)[w - 1 - i]? =some (encU1 0):=by
 have e:w - i=(w - (i+1))+1:=by omega
 rw[e,List.replicate_succ',List.append_assoc,List.map_append,List.getElem?_append_right (by simp;omega)]
 simp
 rw[show w - 1 - i - (w - (i+1))=0 by omega]
 rfl
theorem laid_ok (n:Nat) (w:Nat) (h1:1≤w) (h8:w≤8):VC E0 53 0 [.s (.int .u64 n),.s (.int .i64 w)] [] (RR (.tk 0) 1 [(0,.arr 1 true ((bigL w n).map encU1))]):=by
 refine VC.enterR L0 (show E0.func 53=some Tryz.f53 by kernel_rfl) (fun _ _=>rfl) rfl rfl [] ?_
 conv=>whnf
 refine⟨⟨by omega,by omega,by omega⟩,?_⟩
 conv=>whnf
 refine⟨fun k f o c=>∃i:Nat,i≤w∧k=w - i∧c=1∧f=[(0,.s (.int .u64 n)),(1,.s (.int .i64 w)),(5,.tk 0),(10,.s (.int .i64 w)),(11,.s (.int .i64 i))]∧o=[(0,.arr 1 true ((List.replicate (w - i) 0++bigL i n).map encU1))],⟨w,?_⟩,?_⟩
 ·refine⟨[],[some 0],?_⟩
  iterate 3 constructor
  refine⟨⟨?_,?_,?_⟩,⟨0,Nat.zero_le _,rfl,rfl,rfl,rfl⟩⟩
  all_goals(repeat' first|exact LF|constructor)
  all_goals first|exact Lz.int (by simp)|exact Lz.of (by simp[bigL];exact .inr rfl)|trace_state
 ·rintro k f1 o1 c1 ⟨i,hi,rfl,rfl,rfl,rfl⟩
  conv=>whnf
  (first|refine⟨?_,?_⟩|refine nsplit ?_ ?_|refine bsplit ?_ ?_)<;>intro h<;>have hz_:=True.intro<;>clear hz_
  ·have h:i<w:=by have:(i:Int)<w:=h
                  omega
   conv=>whnf
   rw[shr_eq n i (by omega)]
   conv=>whnf
   have hw:IntKind.i64.wrap (IntKind.i64.wrap ((w:Int) - 1) - (i:Int))=((w - 1 - i:Nat):Int):=by
    rw[IntWalk.i64_in _ (by rw[IntWalk.i64_in _ (by omega)];omega),IntWalk.i64_in _ (by omega)];omega
   refine⟨by rw[hw];simp[bigL_len];omega,?_⟩
   conv=>whnf
   refine⟨encU1 0,by rw[hw,Int.toNat_natCast];exact laid_get w i n h,?_⟩
   conv=>whnf
   refine⟨w - (i+1),?_,by omega⟩
   refine⟨[],[some 0],?_⟩
   iterate 3 constructor
   refine⟨⟨?_,?_,?_⟩,⟨i+1,h,rfl,rfl,rfl,rfl⟩⟩
   all_goals(repeat' first|exact LF|constructor)
   all_goals first|exact Lw.of (by rw[hw,Int.toNat_natCast,←laid_set w i n h,IntKind.wrap_u8];simp)|exact Lz.of (by rw[hw,Int.toNat_natCast,←laid_set w i n h,IntKind.wrap_u8];simp)|trace_state
  ·have hi':i=w:=by have:¬(i:Int)<w:=h
                    omega
   subst hi'
   rw[Nat.sub_self]
   conv=>whnf
   exact⟨[],[some 0],_,_,_,t3,rfl,rfl,rfl⟩
theorem fits_ok (n:Nat) (w:Nat) (h1:1≤w) (h8:w≤8) (hn:n<18446744073709551616):VC E0 51 0 [.s (.int .u64 n),.s (.int .i64 w)] [] (RR (.s (.bool (decide (n<256 ^ w)))) 0 []):=by
 refine VC.enterR L0 (show E0.func 51=some Tryz.f51 by kernel_rfl) (fun _ _=>rfl) rfl rfl [] ?_
 conv=>whnf
 (first|refine⟨?_,?_⟩|refine nsplit ?_ ?_|refine bsplit ?_ ?_)<;>intro h<;>have hz_:=True.intro<;>clear hz_
 ·have h:w=8:=by have:(w:Int)=8:=h
                 omega
  subst h
  conv=>whnf
  refine⟨[],[],?_⟩
  iterate 3 constructor
  refine⟨⟨?_,?_,?_⟩,rfl,rfl,rfl⟩
  all_goals(repeat' first|exact LF|constructor)
  exact Lz.of (bool_eq (decide_eq_true (show n<256 ^ 8 by omega)).symm)
 ·conv=>whnf
  rw[shr_eq n w (by omega)]
  conv=>whnf
  (first|refine⟨?_,?_⟩|refine nsplit ?_ ?_|refine bsplit ?_ ?_)<;>intro h0<;>have hz_:=True.intro<;>clear hz_
  ·have h0:((n / 256 ^ w:Nat):Int)=0:=h0
   conv=>whnf
   refine⟨[],[],?_⟩
   iterate 3 constructor
   refine⟨⟨?_,?_,?_⟩,rfl,rfl,rfl⟩
   all_goals(repeat' first|exact LF|constructor)
   exact Lz.of (bool_eq (decide_eq_true (show n<256 ^ w from(Nat.div_eq_zero_iff_lt (Nat.pow_pos (by decide))).1 (by omega))).symm)
  ·have h0:¬((n / 256 ^ w:Nat):Int)=0:=h0
   conv=>whnf
   refine⟨[],[],?_⟩
   iterate 3 constructor
   refine⟨⟨?_,?_,?_⟩,rfl,rfl,rfl⟩
   all_goals(repeat' first|exact LF|constructor)
   exact Lz.of (bool_eq (decide_eq_false (fun q=>h0 (by rw[(Nat.div_eq_zero_iff_lt (Nat.pow_pos (by decide))).2 q];rfl))).symm)
structure OutS where
 b:List Int
 most:Int
 e:Int
def OutS.fail (s:OutS) (e:Int):OutS:=if s.e=0 then⟨s.b,s.most,e⟩else s
def OutS.put (s:OutS) (x:List Int):OutS:=if s.e≠0 then s else if(x.length:Int)>s.most - s.b.length then⟨s.b,s.most,6⟩else⟨s.b++x,s.most,0⟩
def OutS.num (s:OutS) (n w:Nat):OutS:=if n<256 ^ w then s.put (bigL w n)else s.fail 4
structure OutS.ok (s:OutS):Prop where
 m:0≤s.most∧s.most≤1048576
 l:(s.b.length:Int)≤s.most
@[reducible] def OutO (s:OutS):TO:=.cells [.own (.arr 1 true (s.b.map encU1)),.s (.int .i64 s.most),.s (.int .i64 s.e)]
theorem new_ok (m:Nat):VC E0 19 0 [.s (.int .i64 m)] [] (RR (.ptr 0 0) 1 [(0,OutO ⟨[],m,0⟩)]):=by
 refine VC.enterR L0 (show E0.func 19=some Tryz.f19 by kernel_rfl) (fun _ _=>rfl) rfl rfl [] ?_
 conv=>whnf
 refine⟨[],[some 0],?_⟩
 iterate 3 constructor
 refine⟨⟨?_,?_,?_⟩,rfl,rfl,rfl⟩
 all_goals(repeat' first|exact LF|constructor)
 all_goals exact Lz.int (if_neg (by omega))
theorem outFail_ok (s:OutS) (e:Int):VC E0 50 1 [.ptr 0 0,.s (.int .i64 e)] [(0,OutO s)] (RR (.tup []) 1 [(0,OutO (s.fail e))]):=by
 refine VC.enterR L0 (show E0.func 50=some Tryz.f50 by kernel_rfl) (fun _ _=>rfl) rfl rfl [] ?_
 conv=>whnf
 (first|refine⟨?_,?_⟩|refine nsplit ?_ ?_|refine bsplit ?_ ?_)<;>intro h<;>have hz_:=True.intro<;>clear hz_
 ·have h:s.e=0:=h
  rw[show s.fail e=⟨s.b,s.most,e⟩from if_pos h]
  conv=>whnf
  exact⟨[],[some 0],_,_,_,t3,rfl,rfl,rfl⟩
 ·have h:¬s.e=0:=h
  rw[show s.fail e=s from if_neg h]
  conv=>whnf
  exact⟨[],[some 0],_,_,_,t3,rfl,rfl,rfl⟩
theorem put_ok (s:OutS) (x:List Int) (hs:s.ok) (hx:s.b.length+x.length≤1000000):VC E0 52 1 [.ptr 0 0,.sl 1 (x.map encU1) false] [(0,OutO s)] (RR (.tup []) 1 [(0,OutO (s.put x))]):=by
 obtain⟨⟨m0,m1⟩,hl⟩:=hs
 refine VC.enterR L0 (show E0.func 52=some Tryz.f52 by kernel_rfl) (fun _ _=>rfl) rfl rfl [] ?_
 conv=>whnf
 (first|refine⟨?_,?_⟩|refine nsplit ?_ ?_|refine bsplit ?_ ?_)<;>intro h<;>have hz_:=True.intro<;>clear hz_
 ·have h:s.e≠0:=h
  rw[show s.put x=s from if_pos h]
  conv=>whnf
  exact⟨[],[some 0],_,_,_,t3,rfl,rfl,rfl⟩
 ·have h:¬s.e≠0:=h
  have h0:s.e=0:=by omega
  ((conv=>whnf)<;>repeat(with_reducible refine D1 ?_)<;>conv=>whnf)
  (first|refine⟨?_,?_⟩|refine nsplit ?_ ?_|refine bsplit ?_ ?_)<;>intro h2<;>have hz_:=True.intro<;>clear hz_
  ·have h2:(x.length:Int)>s.most - s.b.length:=by
    have:(((x.map encU1).length:Nat):Int)>IntKind.i64.wrap (s.most - (((s.b.map encU1).length:Nat):Int)):=h2
    rw[List.length_map,List.length_map,IntWalk.i64_in _ (by omega)]at this
    exact this
   rw[show s.put x=s.fail 6 from by unfold OutS.put OutS.fail;rw[if_neg h,if_pos h2,if_pos h0]]
   ((conv=>whnf)<;>repeat(with_reducible refine D1 ?_)<;>conv=>whnf)
   refine⟨[],[some 0],_,_,_,_,outFail_ok s 6,t3,cR ?_⟩
   conv=>whnf
   exact⟨[],[some 0],_,_,_,t3,rfl,rfl,rfl⟩
  ·have h2:¬(x.length:Int)>s.most - s.b.length:=by
    have:¬(((x.map encU1).length:Nat):Int)>IntKind.i64.wrap (s.most - (((s.b.map encU1).length:Nat):Int)):=h2
    rw[List.length_map,List.length_map,IntWalk.i64_in _ (by omega)]at this
    exact this
   rw[show s.put x=⟨s.b++x,s.most,0⟩from by unfold OutS.put;rw[if_neg h,if_neg h2]]
   ((conv=>whnf)<;>repeat(with_reducible refine D1 ?_)<;>conv=>whnf)
   refine⟨by simp;omega,?_⟩
   conv=>whnf
   refine⟨[],[some 0],?_⟩
   iterate 3 constructor
   refine⟨⟨?_,?_,?_⟩,rfl,rfl,rfl⟩
   all_goals(repeat' first|exact LF|constructor)
   all_goals first|exact Lz.int h0|exact Lw.of (by simp)|exact Lz.of (by simp)|trace_state
theorem num_ok (s:OutS) (n w:Nat) (hs:s.ok) (hx:s.b.length≤900000) (h1:1≤w) (h8:w≤8) (hn:n<18446744073709551616):VC E0 20 1 [.ptr 0 0,.s (.int .u64 n),.s (.int .i64 w)] [(0,OutO s)] (RR (.tup []) 1 [(0,OutO (s.num n w))]):=by
 have hf:=fits_ok n w h1 h8 hn
 refine VC.enterR L0 (show E0.func 20=some Tryz.f20 by kernel_rfl) (fun _ _=>rfl) rfl rfl [] ?_
 conv=>whnf
 refine⟨[],[],_,_,_,_,known_ok w h1 h8,t3,cR ?_⟩
 conv=>whnf
 by_cases h:n<256 ^ w
 ·rw[show s.num n w=s.put (bigL w n)from if_pos h]
  rw[decide_eq_true h]at hf
  refine⟨[],[],_,_,_,_,hf,t3,cR ?_⟩
  conv=>whnf
  refine⟨[],[],_,_,_,_,laid_ok n w h1 h8,t3,cR ?_⟩
  conv=>whnf
  refine⟨[1],[some 0],_,_,_,_,put_ok s (bigL w n) hs (by rw[bigL_len];omega),t3,cR ?_⟩
  conv=>whnf
  exact⟨[],[some 0],_,_,_,t3,rfl,rfl,rfl⟩
 ·rw[show s.num n w=s.fail 4 from if_neg h]
  rw[decide_eq_false h]at hf
  refine⟨[],[],_,_,_,_,hf,t3,cR ?_⟩
  conv=>whnf
  refine⟨[],[some 0],_,_,_,_,outFail_ok s 4,t3,cR ?_⟩
  conv=>whnf
  exact⟨[],[some 0],_,_,_,t3,rfl,rfl,rfl⟩
def boolN (b:Bool):Nat:=if b then 1 else 0
theorem done_ok (s:OutS) (hs:s.ok) (hx:s.b.length≤900000):VC E0 25 1 [.ptr 0 0] [(0,OutO s)] (RR (.tup [.sl 1 ((if s.e=0 then s.b else []).map encU1) false,.s (.int .i64 s.e)]) 1 []):=by
 obtain⟨⟨m0,m1⟩,hl⟩:=hs
 refine VC.enterR L0 (show E0.func 25=some Tryz.f25 by kernel_rfl) (fun _ _=>rfl) rfl rfl [] ?_
 conv=>whnf
 (first|refine⟨?_,?_⟩|refine nsplit ?_ ?_|refine bsplit ?_ ?_)<;>intro h<;>have hz_:=True.intro<;>clear hz_
 ·have h:s.e≠0:=h
  rw[if_neg h]
  ((conv=>whnf)<;>repeat(with_reducible refine D1 ?_)<;>conv=>whnf)
  exact⟨[],[some 0],_,_,_,t3,rfl,rfl,rfl⟩
 ·have h:s.e=0:=Classical.not_not.1 h
  rw[if_pos h]
  conv=>whnf
  refine⟨[1],[],_,_,_,_,cloneB_ok s.b (by omega),t3,cR ?_⟩
  conv=>whnf
  refine⟨[],[some 0],?_⟩
  iterate 3 constructor
  refine⟨⟨?_,?_,?_⟩,rfl,rfl,rfl⟩
  all_goals(repeat' first|exact LF|constructor)
  all_goals exact Lz.int h.symm
end Go.M
namespace Go.M
open Go Go.Proofs
set_option maxRecDepth 100000
set_option maxHeartbeats 4000000
theorem clientZ (k:Int) (h:1≤k∧k≤6):VC E0 156 0 [.s (.int .i64 k)] [] (RR (.s (.bool true)) 0 []):=by
 refine VC.enterR L0 (show E0.func 156=some Tryz.f156 by kernel_rfl) (fun _ _=>rfl) rfl rfl [] ?_
 conv=>whnf
 repeat'(first|((first|(refine⟨fun h=>?_,fun h=>?_⟩)|(refine nsplit (fun h=>?_) (fun h=>?_))|(refine bsplit (fun h=>?_) (fun h=>?_)))<;>(conv=>whnf)))
 all_goals
  refine⟨[],[],?_⟩
  iterate 3 constructor
  refine⟨⟨?_,?_,?_⟩,rfl,rfl,rfl⟩
  all_goals(repeat' first|exact LF|constructor)
  all_goals exact Lz.of (bool_eq (by simp at*;omega))
@[reducible] def rowZ:TV:=.agg [.s (.int .i64 0),.s (.int .u64 0),.s (.int .u64 0),.s (.int .i64 0),.s (.int .u64 0)]
theorem getZ1:VC E0 97 1 [.ptr 0 0,.s (.int .i64 1)] [(0,tabZ)] (RR (.tup [rowZ,.s (.bool false)]) 1 [(0,tabZ)]):=by
 have hc:=clientZ 1 (by decide)
 refine VC.enterR L0 (show E0.func 97=some Tryz.f97 by kernel_rfl) (fun _ _=>rfl) rfl rfl [] ?_
 conv=>whnf
 refine⟨[],[],_,_,_,_,hc,t3,cR ?_⟩
 conv=>whnf
 refine⟨show(0≤IntKind.i64.wrap (1 - 1))∧IntKind.i64.wrap (1 - 1)<(6:Int) by decide,?_⟩
 conv=>whnf
 (first|(refine⟨fun h_=>?_,fun h_=>?_⟩)|(refine nsplit (fun h_=>?_) (fun h_=>?_))|(refine bsplit (fun h_=>?_) (fun h_=>?_)))
 rotate_left
 first|(exact absurd rfl h_)|(exact absurd (by decide) h_)|(cases h_)|(simp at h_)
 conv=>whnf
 exact⟨[],[some 0],_,_,_,t3,rfl,rfl,rfl⟩
theorem getZ2:VC E0 97 1 [.ptr 0 0,.s (.int .i64 2)] [(0,tabZ)] (RR (.tup [rowZ,.s (.bool false)]) 1 [(0,tabZ)]):=by
 have hc:=clientZ 2 (by decide)
 refine VC.enterR L0 (show E0.func 97=some Tryz.f97 by kernel_rfl) (fun _ _=>rfl) rfl rfl [] ?_
 conv=>whnf
 refine⟨[],[],_,_,_,_,hc,t3,cR ?_⟩
 conv=>whnf
 refine⟨show(0≤IntKind.i64.wrap (2 - 1))∧IntKind.i64.wrap (2 - 1)<(6:Int) by decide,?_⟩
 conv=>whnf
 (first|(refine⟨fun h_=>?_,fun h_=>?_⟩)|(refine nsplit (fun h_=>?_) (fun h_=>?_))|(refine bsplit (fun h_=>?_) (fun h_=>?_)))
 rotate_left
 first|(exact absurd rfl h_)|(exact absurd (by decide) h_)|(cases h_)|(simp at h_)
 conv=>whnf
 exact⟨[],[some 0],_,_,_,t3,rfl,rfl,rfl⟩
theorem getZ3:VC E0 97 1 [.ptr 0 0,.s (.int .i64 3)] [(0,tabZ)] (RR (.tup [rowZ,.s (.bool false)]) 1 [(0,tabZ)]):=by
 have hc:=clientZ 3 (by decide)
 refine VC.enterR L0 (show E0.func 97=some Tryz.f97 by kernel_rfl) (fun _ _=>rfl) rfl rfl [] ?_
 conv=>whnf
 refine⟨[],[],_,_,_,_,hc,t3,cR ?_⟩
 conv=>whnf
 refine⟨show(0≤IntKind.i64.wrap (3 - 1))∧IntKind.i64.wrap (3 - 1)<(6:Int) by decide,?_⟩
 conv=>whnf
 (first|(refine⟨fun h_=>?_,fun h_=>?_⟩)|(refine nsplit (fun h_=>?_) (fun h_=>?_))|(refine bsplit (fun h_=>?_) (fun h_=>?_)))
 rotate_left
 first|(exact absurd rfl h_)|(exact absurd (by decide) h_)|(cases h_)|(simp at h_)
 conv=>whnf
 exact⟨[],[some 0],_,_,_,t3,rfl,rfl,rfl⟩
theorem getZ4:VC E0 97 1 [.ptr 0 0,.s (.int .i64 4)] [(0,tabZ)] (RR (.tup [rowZ,.s (.bool false)]) 1 [(0,tabZ)]):=by
 have hc:=clientZ 4 (by decide)
 refine VC.enterR L0 (show E0.func 97=some Tryz.f97 by kernel_rfl) (fun _ _=>rfl) rfl rfl [] ?_
 conv=>whnf
 refine⟨[],[],_,_,_,_,hc,t3,cR ?_⟩
 conv=>whnf
 refine⟨show(0≤IntKind.i64.wrap (4 - 1))∧IntKind.i64.wrap (4 - 1)<(6:Int) by decide,?_⟩
 conv=>whnf
 (first|(refine⟨fun h_=>?_,fun h_=>?_⟩)|(refine nsplit (fun h_=>?_) (fun h_=>?_))|(refine bsplit (fun h_=>?_) (fun h_=>?_)))
 rotate_left
 first|(exact absurd rfl h_)|(exact absurd (by decide) h_)|(cases h_)|(simp at h_)
 conv=>whnf
 exact⟨[],[some 0],_,_,_,t3,rfl,rfl,rfl⟩
theorem getZ5:VC E0 97 1 [.ptr 0 0,.s (.int .i64 5)] [(0,tabZ)] (RR (.tup [rowZ,.s (.bool false)]) 1 [(0,tabZ)]):=by
 have hc:=clientZ 5 (by decide)
 refine VC.enterR L0 (show E0.func 97=some Tryz.f97 by kernel_rfl) (fun _ _=>rfl) rfl rfl [] ?_
 conv=>whnf
 refine⟨[],[],_,_,_,_,hc,t3,cR ?_⟩
 conv=>whnf
 refine⟨show(0≤IntKind.i64.wrap (5 - 1))∧IntKind.i64.wrap (5 - 1)<(6:Int) by decide,?_⟩
 conv=>whnf
 (first|(refine⟨fun h_=>?_,fun h_=>?_⟩)|(refine nsplit (fun h_=>?_) (fun h_=>?_))|(refine bsplit (fun h_=>?_) (fun h_=>?_)))
 rotate_left
 first|(exact absurd rfl h_)|(exact absurd (by decide) h_)|(cases h_)|(simp at h_)
 conv=>whnf
 exact⟨[],[some 0],_,_,_,t3,rfl,rfl,rfl⟩
theorem getZ6:VC E0 97 1 [.ptr 0 0,.s (.int .i64 6)] [(0,tabZ)] (RR (.tup [rowZ,.s (.bool false)]) 1 [(0,tabZ)]):=by
 have hc:=clientZ 6 (by decide)
 refine VC.enterR L0 (show E0.func 97=some Tryz.f97 by kernel_rfl) (fun _ _=>rfl) rfl rfl [] ?_
 conv=>whnf
 refine⟨[],[],_,_,_,_,hc,t3,cR ?_⟩
 conv=>whnf
 refine⟨show(0≤IntKind.i64.wrap (6 - 1))∧IntKind.i64.wrap (6 - 1)<(6:Int) by decide,?_⟩
 conv=>whnf
 (first|(refine⟨fun h_=>?_,fun h_=>?_⟩)|(refine nsplit (fun h_=>?_) (fun h_=>?_))|(refine bsplit (fun h_=>?_) (fun h_=>?_)))
 rotate_left
 first|(exact absurd rfl h_)|(exact absurd (by decide) h_)|(cases h_)|(simp at h_)
 conv=>whnf
 exact⟨[],[some 0],_,_,_,t3,rfl,rfl,rfl⟩
theorem getZ (k:Int) (h:1≤k∧k≤6):VC E0 97 1 [.ptr 0 0,.s (.int .i64 k)] [(0,tabZ)] (RR (.tup [rowZ,.s (.bool false)]) 1 [(0,tabZ)]):=by
 have h6:k=1∨k=2∨k=3∨k=4∨k=5∨k=6:=by omega
 rcases h6 with rfl |rfl |rfl |rfl |rfl |rfl
 ·exact getZ1
 ·exact getZ2
 ·exact getZ3
 ·exact getZ4
 ·exact getZ5
 ·exact getZ6
theorem allZ_ok:VC E0 55 1 [.ptr 0 0] [(0,tabZ)] (RR (.sl 0 [] true) 1 [(0,tabZ)]):=by
 refine VC.enterR L0 (show E0.func 55=some Tryz.f55 by kernel_rfl) (fun _ _=>rfl) rfl rfl [] ?_
 conv=>whnf
 refine⟨fun q f o c=>∃i:Nat,i≤6∧q=6 - i∧c=1∧f=[(0,.ptr 0 0),(3,.sl 0 [] true),(7,.s (.int .i64 i))]∧o=[(0,tabZ)],⟨6,?_⟩,?_⟩
 ·exact⟨[],[some 0],_,_,_,t3,⟨0,by decide,rfl,rfl,rfl,rfl⟩⟩
 ·rintro q f1 o1 c1 ⟨i,hi,rfl,rfl,rfl,rfl⟩
  conv=>whnf
  (first|refine⟨?_,?_⟩|refine nsplit ?_ ?_|refine bsplit ?_ ?_)<;>intro h<;>have hz_:=True.intro<;>clear hz_
  ·have h:i<6:=by have h:(i:Int)<6:=h
                  omega
   conv=>whnf
   refine⟨[],[some 0],_,_,_,_,getZ (IntKind.i64.wrap ((i:Int)+1)) (by rw[IntWalk.i64_in _ (by omega)];omega),t3,cR ?_⟩
   conv=>whnf
   rw[wrap_small i (by omega)]
   refine⟨6 - (i+1),?_,by omega⟩
   exact⟨[],[some 0],_,_,_,t3,⟨i+1,h,rfl,rfl,rfl,rfl⟩⟩
  ·conv=>whnf
   exact⟨[],[some 0],_,_,_,t3,rfl,rfl,rfl⟩
theorem lenZ_ok:VC E0 54 1 [.ptr 0 0] [(0,tabZ)] (RR (.s (.int .i64 0)) 1 [(0,tabZ)]):=by
 refine VC.enterR L0 (show E0.func 54=some Tryz.f54 by kernel_rfl) (fun _ _=>rfl) rfl rfl [] ?_
 conv=>whnf
 refine⟨[],[some 0],_,_,_,_,allZ_ok,t3,cR ?_⟩
 conv=>whnf
 exact⟨[],[some 0],_,_,_,t3,rfl,rfl,rfl⟩
@[reducible] def zO (k:Nat):OutS:=⟨List.replicate k 0,1048576,0⟩
theorem zO_ok (k:Nat) (h:k≤100):(zO k).ok:=⟨⟨by show(0:Int)≤1048576;decide,by show(1048576:Int)≤1048576;decide⟩,by simp;omega⟩
theorem newZ:VC E0 19 0 [.s (.int .i64 1048576)] [] (RR (.ptr 0 0) 1 [(0,OutO (zO 0))]):=new_ok 1048576
theorem bigZ:∀w,bigL w 0=List.replicate w 0
 |0=>rfl
 |w+1=>by
  show bigL w (0 / 256)++[((0 % 256:Nat):Int)]=_
  rw[List.replicate_succ',Nat.zero_div,bigZ w]
  rfl
theorem numZ (k w:Nat) (hk:k+w≤100):(zO k).num 0 w=zO (k+w):=by
 unfold OutS.num OutS.put
 rw[if_pos (Nat.pow_pos (by decide)),if_neg (by simp),if_neg (by simp[bigL_len];omega),bigZ]
 simp[zO]
theorem putZ (k w:Nat) (hk:k+w≤100) (h1:1≤w) (h8:w≤8):VC E0 20 1 [.ptr 0 0,.s (.int .u64 0),.s (.int .i64 w)] [(0,OutO (zO k))] (RR (.tup []) 1 [(0,OutO (zO (k+w)))]):=by
 rw[←numZ k w hk]
 exact num_ok (zO k) 0 w (zO_ok k (by omega)) (by simp;omega) h1 h8 (by decide)
theorem doneZ:VC E0 25 1 [.ptr 0 0] [(0,OutO (zO 11))] (RR (.tup [.sl 1 ((List.replicate 11 (0:Int)).map encU1) false,.s (.int .i64 0)]) 1 []):=
 done_ok (zO 11) (zO_ok 11 (by decide)) (by decide)
theorem putTZ:VC E0 21 2 [.ptr 0 0,.ptr 1 0] [(0,tabZ),(1,OutO (zO 8))] (RR (.tup []) 2 [(0,tabZ),(1,OutO (zO 9))]):=by
 refine VC.enterR L0 (show E0.func 21=some Tryz.f21 by kernel_rfl) (fun _ _=>rfl) rfl rfl [999999] ?_
 conv=>whnf
 refine⟨[],[some 0],_,_,_,_,lenZ_ok,t3,cR ?_⟩
 conv=>whnf
 refine⟨[],[some 1],_,_,_,_,putZ 8 1 (by decide) (by decide) (by decide),t3,cR ?_⟩
 conv=>whnf
 refine⟨[],[some 0],_,_,_,_,allZ_ok,t3,cR ?_⟩
 conv=>whnf
 repeat(first|(refine⟨by first|decide+kernel|(dsimp only;decide+kernel),?_⟩;have hz_:=True.intro;clear hz_;(conv=>whnf))|(refine⟨_,rfl,?_⟩;have hz_:=True.intro;clear hz_;(conv=>whnf))|((try(first|rw[wr0]|rw[wr1]|rw[wr2]|rw[wr3]|rw[wr4]|rw[wr5]|rw[wr6]|rw[wr7]|rw[wr8]|rw[wr9]|rw[wrA]|rw[wrB]|rw[wrC]|rw[wrD]|rw[wrE]));first|(refine⟨fun h_=>?_,fun h_=>absurd (by first|decide+kernel|rfl |(dsimp only;decide+kernel)) h_⟩;clear h_;(conv=>whnf))|(refine⟨fun h_=>absurd h_ (by first|decide+kernel|(dsimp only;decide+kernel)),fun h_=>?_⟩;clear h_;(conv=>whnf))))
 exact⟨[],[some 0,some 1],_,_,_,t3,rfl,rfl,rfl⟩
theorem mkeysZ:VC E0 57 1 [.mp 0] [(0,mapZ)] (RR (.clo 100 [] [.ptr 1 0]) 2 [(0,mapZ),(1,.cells [.mp 0])]):=by
 refine VC.enterR L0 (show E0.func 57=some Tryz.f57 by kernel_rfl) (fun _ _=>rfl) rfl rfl [] ?_
 conv=>whnf
 exact⟨[],[some 0,some 1],_,_,_,t3,rfl,rfl,rfl⟩
theorem keysZ:VC E0 22 3 [.ptr 0 0] [(0,stoZ 1 2),(1,mapZ),(2,tabZ)] (RR (.sl 1 [] false) 3 [(0,stoZ 1 2),(1,mapZ),(2,tabZ)]):=by
 have hk:KeysP [] mapZ:=⟨rfl,rfl⟩
 have hs:=VC.keysU hk (by decide)
 rw[show sortZ []=[]from by simp[sortZ]]at hs
 refine VC.enterR L0 (show E0.func 22=some Tryz.f22 by kernel_rfl) (fun _ _=>rfl) rfl rfl [] ?_
 conv=>whnf
 refine⟨[],[some 1],_,_,_,_,mkeysZ,t3,cR ?_⟩
 conv=>whnf
 refine⟨[],[some 1,some 4],_,_,_,_,hs,t3,cR ?_⟩
 conv=>whnf
 exact⟨[],[some 0,some 1,some 2],_,_,_,t3,rfl,rfl,rfl⟩
theorem picZ_ok:VC E0 9 3 [.ptr 0 0] [(0,stoZ 1 2),(1,mapZ),(2,tabZ)] (RR (.sl 1 ((List.replicate 11 (0:Int)).map encU1) false) 3 [(0,stoZ 1 2),(1,mapZ),(2,tabZ)]):=by
 refine VC.enterR L0 (show E0.func 9=some Tryz.f9 by kernel_rfl) (fun _ _=>rfl) rfl rfl [999999] ?_
 conv=>whnf
 refine⟨[],[],_,_,_,_,newZ,t3,cR ?_⟩
 conv=>whnf
 refine⟨[],[some 3],_,_,_,_,putZ 0 8 (by decide) (by decide) (by decide),t3,cR ?_⟩
 conv=>whnf
 refine⟨[],[some 2,some 3],_,_,_,_,putTZ,t3,cR ?_⟩
 conv=>whnf
 conv=>whnf
 rw[show IntKind.u64.wrap ((([]:List (Value×TV)).length:Nat):Int)=0 from rfl]
 refine⟨[],[some 3],_,_,_,_,putZ 9 2 (by decide) (by decide) (by decide),t3,cR ?_⟩
 conv=>whnf
 refine⟨[],[some 0,some 1,some 2],_,_,_,_,keysZ,t3,cR ?_⟩
 conv=>whnf
 repeat(first|(refine⟨by first|decide+kernel|(dsimp only;decide+kernel),?_⟩;have hz_:=True.intro;clear hz_;(conv=>whnf))|(refine⟨_,rfl,?_⟩;have hz_:=True.intro;clear hz_;(conv=>whnf))|((try(first|rw[wr0]|rw[wr1]|rw[wr2]|rw[wr3]|rw[wr4]|rw[wr5]|rw[wr6]|rw[wr7]|rw[wr8]|rw[wr9]|rw[wrA]|rw[wrB]|rw[wrC]|rw[wrD]|rw[wrE]));first|(refine⟨fun h_=>?_,fun h_=>absurd (by first|decide+kernel|rfl |(dsimp only;decide+kernel)) h_⟩;clear h_;(conv=>whnf))|(refine⟨fun h_=>absurd h_ (by first|decide+kernel|(dsimp only;decide+kernel)),fun h_=>?_⟩;clear h_;(conv=>whnf))))
 refine⟨[],[some 3],_,_,_,_,doneZ,t3,cR ?_⟩
 conv=>whnf
 repeat(first|(refine⟨by first|decide+kernel|(dsimp only;decide+kernel),?_⟩;have hz_:=True.intro;clear hz_;(conv=>whnf))|(refine⟨_,rfl,?_⟩;have hz_:=True.intro;clear hz_;(conv=>whnf))|((try(first|rw[wr0]|rw[wr1]|rw[wr2]|rw[wr3]|rw[wr4]|rw[wr5]|rw[wr6]|rw[wr7]|rw[wr8]|rw[wr9]|rw[wrA]|rw[wrB]|rw[wrC]|rw[wrD]|rw[wrE]));first|(refine⟨fun h_=>?_,fun h_=>absurd (by first|decide+kernel|rfl |(dsimp only;decide+kernel)) h_⟩;clear h_;(conv=>whnf))|(refine⟨fun h_=>absurd h_ (by first|decide+kernel|(dsimp only;decide+kernel)),fun h_=>?_⟩;clear h_;(conv=>whnf))))
 exact⟨[],[some 0,some 1,some 2],_,_,_,t3,rfl,rfl,rfl⟩
theorem sameZ_ok:VC E0 12 0 [.sl 1 ((List.replicate 11 (0:Int)).map encU1) false,.sl 1 ((List.replicate 11 (0:Int)).map encU1) false] [] (RR (.s (.bool true)) 0 []):=by
 refine VC.enterR L0 (show E0.func 12=some Tryz.f12 by kernel_rfl) (fun _ _=>rfl) rfl rfl [] ?_
 conv=>whnf
 (first|refine⟨?_,?_⟩|refine nsplit ?_ ?_|refine bsplit ?_ ?_)<;>intro h0<;>have hz_:=True.intro<;>clear hz_
 ·exact absurd rfl h0
 conv=>whnf
 refine⟨fun k f o c=>∃i:Nat,i≤11∧k=11 - i∧c=0∧f=[(0,.sl 1 ((List.replicate 11 (0:Int)).map encU1) false),(1,.sl 1 ((List.replicate 11 (0:Int)).map encU1) false),(5,.s (.int .i64 i))]∧o=[],⟨11,?_⟩,?_⟩
 ·exact⟨[],[],_,_,_,t3,⟨0,by decide,rfl,rfl,rfl,rfl⟩⟩
 ·rintro k f1 o1 c1 ⟨i,hi,rfl,rfl,rfl,rfl⟩
  conv=>whnf
  (first|refine⟨?_,?_⟩|refine nsplit ?_ ?_|refine bsplit ?_ ?_)<;>intro h<;>have hz_:=True.intro<;>clear hz_
  ·have h:i<11:=by have h:=h
                   simp at h;omega
   have hl:i<(List.replicate 11 (0:Int)).length:=by rw[List.length_replicate];exact h
   ((conv=>whnf)<;>repeat(with_reducible refine D1 ?_)<;>conv=>whnf)
   refine idxI hl ?_
   conv=>whnf
   refine idxI hl ?_
   conv=>whnf
   (first|refine⟨?_,?_⟩|refine nsplit ?_ ?_|refine bsplit ?_ ?_)<;>intro hv<;>have hz_:=True.intro<;>clear hz_
   ·exact absurd rfl hv
   ·((conv=>whnf)<;>repeat(with_reducible refine D1 ?_)<;>conv=>whnf)
    rw[wrap_small i (by omega)]
    refine⟨11 - (i+1),?_,by omega⟩
    exact⟨[],[],_,_,_,t3,⟨i+1,h,rfl,rfl,rfl,rfl⟩⟩
  ·conv=>whnf
   exact⟨[],[],_,_,_,t3,rfl,rfl,rfl⟩
end Go.M
namespace Go.M
open Go Go.Proofs
set_option maxRecDepth 1000000
theorem mixed0:Tryz.prog.follows .mixedOrders=true:=by kernel_rfl
theorem tabsB0:tabsB tabs0 1=true:=by kernel_rfl
theorem awake24:AwakeT Tryz.prog tabs0 5:=awakeT_of (n:=1) mixed0 tabsB0 (fs:=[]) (bs:=[]) (ps:=[]) (m:=100000) (k:=100000) (by kernel_rfl)
theorem orc0 (base B:Nat):OrcOk Tryz.prog E0 base B:=by
 refine orcX_ok tabsB0 (fun g hg=>?_) (fun base B=>orcTF_ok mixed0 base B) base B
 simp only[List.mem_cons,List.not_mem_nil,or_false]at hg
 subst hg
 exact awake24
theorem awake_ok:VC E0 5 0 [] [] (RR (.s (.bool true)) 0 []):=VC.mono (R:=fun r o c=>r= .s (.bool true)∧o=[]∧c=0)
 (VC.awakeX (g:=5) (aw:=[5]) tabsB0 (by show(Tryz.prog.funcs[5]?).isSome=true;kernel_rfl) rfl) fun _ _ _ h=>⟨h.1,h.2.2,h.2.1⟩
end Go.M
