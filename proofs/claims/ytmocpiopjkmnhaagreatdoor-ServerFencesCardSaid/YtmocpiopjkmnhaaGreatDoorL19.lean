/-
  Part 19 of the library that the proof leans on.
-/
import Derived.Test.YtmocpiopjkmnhaaGreatDoorL17
import Derived.Test.YtmocpiopjkmnhaaGreatDoorL18
namespace Go.M
open Go Go.Proofs
set_option maxRecDepth 100000
set_option maxHeartbeats 4000000
theorem knownT (k:Int):VC E0 62 0 [.s (.int .i64 k)] [] TB:=by
 refine VC.enterR L0 (show E0.func 62=some Tryz.f62 by kernel_rfl) (fun _ _=>rfl) rfl rfl [] ?_
 conv=>whnf
 (first|refine⟨?_,?_⟩|refine nsplit ?_ ?_|refine bsplit ?_ ?_)<;>intro h1<;>have hz_:=True.intro<;>clear hz_
 ·conv=>whnf
  (first|refine⟨?_,?_⟩|refine nsplit ?_ ?_|refine bsplit ?_ ?_)<;>intro h2<;>have hz_:=True.intro<;>clear hz_
  ·conv=>whnf
   exact⟨[],[],_,_,_,t3,_,rfl,rfl,rfl⟩
  ·conv=>whnf
   exact⟨[],[],_,_,_,t3,_,rfl,rfl,rfl⟩
 ·conv=>whnf
  exact⟨[],[],_,_,_,t3,_,rfl,rfl,rfl⟩
theorem nodeAT (k:Int):VC E0 43 0 [.s (.int .i64 k)] [] TB:=by
 refine VC.enterR L0 (show E0.func 43=some Tryz.f43 by kernel_rfl) (fun _ _=>rfl) rfl rfl [] ?_
 conv=>whnf
 (first|refine⟨?_,?_⟩|refine nsplit ?_ ?_|refine bsplit ?_ ?_)<;>intro h1<;>have hz_:=True.intro<;>clear hz_
 ·conv=>whnf
  (first|refine⟨?_,?_⟩|refine nsplit ?_ ?_|refine bsplit ?_ ?_)<;>intro h2<;>have hz_:=True.intro<;>clear hz_
  ·conv=>whnf
   exact⟨[],[],_,_,_,t3,_,rfl,rfl,rfl⟩
  ·conv=>whnf
   exact⟨[],[],_,_,_,t3,_,rfl,rfl,rfl⟩
 ·conv=>whnf
  exact⟨[],[],_,_,_,t3,_,rfl,rfl,rfl⟩
theorem masterAT (k:Int):VC E0 104 0 [.s (.int .i64 k)] [] TB:=by
 refine VC.enterR L0 (show E0.func 104=some Tryz.f104 by kernel_rfl) (fun _ _=>rfl) rfl rfl [] ?_
 conv=>whnf
 (first|refine⟨?_,?_⟩|refine nsplit ?_ ?_|refine bsplit ?_ ?_)<;>intro h1<;>have hz_:=True.intro<;>clear hz_
 ·conv=>whnf
  (first|refine⟨?_,?_⟩|refine nsplit ?_ ?_|refine bsplit ?_ ?_)<;>intro h2<;>have hz_:=True.intro<;>clear hz_
  ·conv=>whnf
   exact⟨[],[],_,_,_,t3,_,rfl,rfl,rfl⟩
  ·conv=>whnf
   exact⟨[],[],_,_,_,t3,_,rfl,rfl,rfl⟩
 ·conv=>whnf
  exact⟨[],[],_,_,_,t3,_,rfl,rfl,rfl⟩
theorem clientAT (k:Int):VC E0 105 0 [.s (.int .i64 k)] [] TB:=by
 refine VC.enterR L0 (show E0.func 105=some Tryz.f105 by kernel_rfl) (fun _ _=>rfl) rfl rfl [] ?_
 conv=>whnf
 (first|refine⟨?_,?_⟩|refine nsplit ?_ ?_|refine bsplit ?_ ?_)<;>intro h1<;>have hz_:=True.intro<;>clear hz_
 ·conv=>whnf
  (first|refine⟨?_,?_⟩|refine nsplit ?_ ?_|refine bsplit ?_ ?_)<;>intro h2<;>have hz_:=True.intro<;>clear hz_
  ·conv=>whnf
   exact⟨[],[],_,_,_,t3,_,rfl,rfl,rfl⟩
  ·conv=>whnf
   exact⟨[],[],_,_,_,t3,_,rfl,rfl,rfl⟩
 ·conv=>whnf
  exact⟨[],[],_,_,_,t3,_,rfl,rfl,rfl⟩
theorem addrT (k:Int):VC E0 63 0 [.s (.int .i64 k)] [] TB:=by
 refine VC.enterR L0 (show E0.func 63=some Tryz.f63 by kernel_rfl) (fun _ _=>rfl) rfl rfl [] ?_
 conv=>whnf
 refine⟨[],[],_,_,_,_,nodeAT k,t3,?_⟩
 rintro r o' c' ⟨b,rfl,rfl,rfl⟩
 cases b
 ·conv=>whnf
  refine⟨[],[],_,_,_,_,masterAT k,t3,?_⟩
  rintro r o' c' ⟨b,rfl,rfl,rfl⟩
  cases b
  ·conv=>whnf
   refine⟨[],[],_,_,_,_,clientAT k,t3,?_⟩
   rintro r o' c' ⟨b,rfl,rfl,rfl⟩
   conv=>whnf
   exact⟨[],[],_,_,_,t3,_,rfl,rfl,rfl⟩
  ·conv=>whnf
   exact⟨[],[],_,_,_,t3,_,rfl,rfl,rfl⟩
 ·conv=>whnf
  exact⟨[],[],_,_,_,t3,_,rfl,rfl,rfl⟩
theorem fineAny (m:LtF):VC E0 172 0 [.agg (encL m)] [] TB:=by
 refine VC.enterR L0 (show E0.func 172=some Tryz.f172 by kernel_rfl) (fun _ _=>rfl) rfl rfl [] ?_
 conv=>whnf
 exact⟨[],[],_,_,_,t3,_,rfl,rfl,rfl⟩
theorem fineF1 (m:LtF):VC E0 162 0 [.agg (encL m)] [] TB:=by
 refine VC.enterR L0 (show E0.func 162=some Tryz.f162 by kernel_rfl) (fun _ _=>rfl) rfl rfl [] ?_
 conv=>whnf
 repeat'(first|((first|(refine⟨fun h=>?_,fun h=>?_⟩)|(refine nsplit (fun h=>?_) (fun h=>?_))|(refine bsplit (fun h=>?_) (fun h=>?_)))<;>(conv=>whnf)))
 all_goals(conv=>whnf)
 all_goals
  exact⟨[],[],_,_,_,t3,_,rfl,rfl,rfl⟩
theorem fineF2 (m:LtF):VC E0 167 0 [.agg (encL m)] [] TB:=by
 refine VC.enterR L0 (show E0.func 167=some Tryz.f167 by kernel_rfl) (fun _ _=>rfl) rfl rfl [] ?_
 conv=>whnf
 repeat'(first|((first|(refine⟨fun h=>?_,fun h=>?_⟩)|(refine nsplit (fun h=>?_) (fun h=>?_))|(refine bsplit (fun h=>?_) (fun h=>?_)))<;>(conv=>whnf)))
 all_goals(conv=>whnf)
 all_goals
  exact⟨[],[],_,_,_,t3,_,rfl,rfl,rfl⟩
theorem fineF32 (m:LtF):VC E0 164 0 [.agg (encL m)] [] TB:=by
 refine VC.enterR L0 (show E0.func 164=some Tryz.f164 by kernel_rfl) (fun _ _=>rfl) rfl rfl [] ?_
 conv=>whnf
 repeat'(first|((first|(refine⟨fun h=>?_,fun h=>?_⟩)|(refine nsplit (fun h=>?_) (fun h=>?_))|(refine bsplit (fun h=>?_) (fun h=>?_)))<;>(conv=>whnf)))
 all_goals(conv=>whnf)
 all_goals
  exact⟨[],[],_,_,_,t3,_,rfl,rfl,rfl⟩
theorem fineF128 (m:LtF):VC E0 214 0 [.agg (encL m)] [] TB:=by
 refine VC.enterR L0 (show E0.func 214=some Tryz.f214 by kernel_rfl) (fun _ _=>rfl) rfl rfl [] ?_
 conv=>whnf
 repeat'(first|((first|(refine⟨fun h=>?_,fun h=>?_⟩)|(refine nsplit (fun h=>?_) (fun h=>?_))|(refine bsplit (fun h=>?_) (fun h=>?_)))<;>(conv=>whnf)))
 all_goals(conv=>whnf)
 all_goals
  exact⟨[],[],_,_,_,t3,_,rfl,rfl,rfl⟩
theorem roomT (m:LtF):VC E0 236 0 [.agg (encL m)] [] TI:=by
 refine VC.enterR L0 (show E0.func 236=some Tryz.f236 by kernel_rfl) (fun _ _=>rfl) rfl rfl [] ?_
 conv=>whnf
 repeat'(first|((first|(refine⟨fun h=>?_,fun h=>?_⟩)|(refine nsplit (fun h=>?_) (fun h=>?_))|(refine bsplit (fun h=>?_) (fun h=>?_)))<;>(conv=>whnf)))
 all_goals
  exact⟨[],[],_,_,_,t3,_,rfl,rfl,rfl⟩
theorem fineData (m:LtF):VC E0 235 0 [.agg (encL m)] [] TB:=by
 refine VC.enterR L0 (show E0.func 235=some Tryz.f235 by kernel_rfl) (fun _ _=>rfl) rfl rfl [] ?_
 ((conv=>whnf)<;>repeat(with_reducible refine D1 ?_)<;>conv=>whnf)
 refine⟨[],[],_,_,_,_,roomT m,t3,?_⟩
 rintro r o' c' ⟨n,rfl,rfl,rfl⟩
 conv=>whnf
 repeat'(first|((first|(refine⟨fun h=>?_,fun h=>?_⟩)|(refine nsplit (fun h=>?_) (fun h=>?_))|(refine bsplit (fun h=>?_) (fun h=>?_)))<;>((conv=>whnf)<;>repeat(with_reducible refine D1 ?_)<;>conv=>whnf)))
 all_goals
  exact⟨[],[],_,_,_,t3,_,rfl,rfl,rfl⟩
theorem updateT (u:UpF) (b:Bool):VC E0 272 0 [.agg (encUF u),.s (.bool b)] [] TB:=by
 cases b
 ·refine VC.enterR L0 (show E0.func 272=some Tryz.f272 by kernel_rfl) (fun _ _=>rfl) rfl rfl [] ?_
  conv=>whnf
  repeat'(first|((first|(refine⟨fun h=>?_,fun h=>?_⟩)|(refine nsplit (fun h=>?_) (fun h=>?_))|(refine bsplit (fun h=>?_) (fun h=>?_)))<;>(conv=>whnf)))
  all_goals
   exact⟨[],[],_,_,_,t3,_,rfl,rfl,rfl⟩
 ·refine VC.enterR L0 (show E0.func 272=some Tryz.f272 by kernel_rfl) (fun _ _=>rfl) rfl rfl [] ?_
  conv=>whnf
  repeat'(first|((first|(refine⟨fun h=>?_,fun h=>?_⟩)|(refine nsplit (fun h=>?_) (fun h=>?_))|(refine bsplit (fun h=>?_) (fun h=>?_)))<;>(conv=>whnf)))
  all_goals
   exact⟨[],[],_,_,_,t3,_,rfl,rfl,rfl⟩
theorem updates1 (u:UpF) (b:Bool):VC E0 271 1 [.agg (encUF u),.ptr 0 0] [(0,.cells [.s (.bool b)])] (fun r o c=>∃b':Bool,r= .s (.bool b')∧c=1∧o=[(0,.cells [.s (.bool b)])]):=by
 have hu:=updateT u b
 refine VC.enterR L0 (show E0.func 271=some Tryz.f271 by kernel_rfl) (fun _ _=>rfl) rfl rfl [] ?_
 conv=>whnf
 refine⟨[],[],_,_,_,_,hu,t3,?_⟩
 rintro r o' c' ⟨b',rfl,rfl,rfl⟩
 conv=>whnf
 exact⟨[],[some 0],_,_,_,t3,_,rfl,rfl,rfl⟩
theorem indexU (l:List UpF) (b:Bool) (hl:l.length<1000000):VC E0 290 1 [.sl 7 (l.map encUF) false,.clo 271 [] [.ptr 0 0]] [(0,.cells [.s (.bool b)])] (fun r o c=>∃n:Int,r= .s (.int .i64 n)∧c=1∧o=[(0,.cells [.s (.bool b)])]):=by
 refine VC.enterR L0 (show E0.func 290=some Tryz.f290 by kernel_rfl) (fun _ _=>rfl) rfl rfl [] ?_
 conv=>whnf
 refine⟨fun k f o c=>∃j:Nat,j≤l.length∧k=l.length - j∧c=1∧f=[(0,.sl 7 (l.map encUF) false),(1,.clo 271 [] [.ptr 0 0]),(7,.s (.int .i64 l.length)),(8,.s (.int .i64 j))]∧o=[(0,.cells [.s (.bool b)])],⟨l.length,?_⟩,?_⟩
 ·refine⟨[],[some 0],?_⟩
  iterate 3 constructor
  refine⟨⟨?_,?_,?_⟩,⟨0,Nat.zero_le _,rfl,rfl,rfl,rfl⟩⟩
  all_goals(repeat' first|exact LF|constructor)
  exact Lz.int (by rw[List.length_map])
 ·rintro k f1 o1 c1 ⟨j,hj,rfl,rfl,rfl,rfl⟩
  conv=>whnf
  (first|refine⟨?_,?_⟩|refine nsplit ?_ ?_|refine bsplit ?_ ?_)<;>intro h<;>have hz_:=True.intro<;>clear hz_
  ·have h:j<l.length:=by have:(j:Int)<(l.length:Nat):=h
                         omega
   conv=>whnf
   refine idxI h ?_
   conv=>whnf
   refine⟨[],[some 0],_,_,_,_,updates1 l[j] b,t3,?_⟩
   rintro r o' c' ⟨b',rfl,rfl,rfl⟩
   cases b'
   ·conv=>whnf
    refine⟨l.length - (j+1),?_,by omega⟩
    exact⟨[],[some 0],_,_,_,t3,⟨j+1,h,rfl,rfl,rfl,rfl⟩⟩
   ·conv=>whnf
    exact⟨[],[some 0],_,_,_,t3,_,rfl,rfl,rfl⟩
  ·conv=>whnf
   exact⟨[],[some 0],_,_,_,t3,_,rfl,rfl,rfl⟩
theorem containsU (l:List UpF) (b:Bool) (hl:l.length<1000000):VC E0 270 1 [.sl 7 (l.map encUF) false,.clo 271 [] [.ptr 0 0]] [(0,.cells [.s (.bool b)])] (fun r o c=>∃b':Bool,r= .s (.bool b')∧c=1∧o=[(0,.cells [.s (.bool b)])]):=by
 have hi:=indexU l b hl
 refine VC.enterR L0 (show E0.func 270=some Tryz.f270 by kernel_rfl) (fun _ _=>rfl) rfl rfl [] ?_
 conv=>whnf
 refine⟨[],[some 0],_,_,_,_,hi,t3,?_⟩
 rintro r o' c' ⟨n,rfl,rfl,rfl⟩
 conv=>whnf
 (first|refine⟨?_,?_⟩|refine nsplit ?_ ?_|refine bsplit ?_ ?_)<;>intro q<;>have hz_:=True.intro<;>clear hz_
 ·conv=>whnf
  exact⟨[],[some 0],_,_,_,t3,_,rfl,rfl,rfl⟩
 ·conv=>whnf
  exact⟨[],[some 0],_,_,_,t3,_,rfl,rfl,rfl⟩
theorem fineUs (m:LtF) (h2:m.us.length<1000000):VC E0 232 0 [.agg (encL m)] [] TB:=by
 have hc:=fun b=>containsU m.us b h2
 refine VC.enterR L0 (show E0.func 232=some Tryz.f232 by kernel_rfl) (fun _ _=>rfl) rfl rfl [] ?_
 conv=>whnf
 repeat'(first|((first|(refine⟨fun h=>?_,fun h=>?_⟩)|(refine nsplit (fun h=>?_) (fun h=>?_))|(refine bsplit (fun h=>?_) (fun h=>?_)))<;>(conv=>whnf)))
 all_goals first
  |(exact⟨[],[],_,_,_,t3,_,rfl,rfl,rfl⟩)
  |skip
 all_goals
  refine⟨[],[some 1],_,_,_,_,hc _,t3,?_⟩
  rintro r o' c' ⟨b',rfl,rfl,rfl⟩
  conv=>whnf
  exact⟨[],[],_,_,_,t3,_,rfl,rfl,rfl⟩
end Go.M
