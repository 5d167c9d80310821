/-
  Part 20 of the library that the proof leans on.
-/
import Derived.Test.YteoljjhhdgplnaaGreatDoorL12
import Derived.Test.YteoljjhhdgplnaaGreatDoorL19
namespace Go.M
open Go Go.Proofs
set_option maxRecDepth 100000
set_option maxHeartbeats 4000000
theorem Nm (ns:List Int):VC E0 125 0 [.sl 1 (bM ns) false,.sl 1 (bM ns) false] [] (RR (.s (.bool true)) 0 []):=by
 refine en L0 Tryz.f125 ?_;refine⟨ns,rfl,?_⟩;refine wh ?_;refine⟨ns,rfl,?_⟩;refine wh ?_;refine sp ?_ ?_<;>intro h
 ·refine wh ?_;exact⟨[],[],_,_,_,t3,rfl,rfl,rfl⟩
 ·exact absurd rfl h
theorem Yo (u:bo):VC E0 124 0 [.agg (b7 u),.agg (b7 u)] [] (RR (.s (.bool true)) 0 []):=by
 refine en L0 Tryz.f124 ?_
 repeat((first|(refine⟨fun h_=>?_,fun h_=>?_⟩)|(refine ba (fun h_=>?_) (fun h_=>?_))|(refine a9 (fun h_=>?_) (fun h_=>?_)))<;>first|(exfalso;revert h_;decide;done)|(exfalso;revert h_;simp;done)|(have eo:=True.intro;clear eo;(conv=>whnf)))
 refine⟨[],[],_,_,_,_,Nm u.data,t3,cw ?_⟩;exact⟨[],[],_,_,_,t3,rfl,rfl,rfl⟩
theorem Qt:VC E0 122 0 [.sl 6 [] false,.sl 6 [] false] [] (RR (.s (.bool true)) 0 []):=by
 refine VC.dM L0 (show E0.func 122=some Tryz.f122 by kernel_rfl) (fun _ _=>rfl) rfl rfl [999999] ?_;refine wh ?_;refine rn ?_;exact⟨[],[],_,_,_,t3,rfl,rfl,rfl⟩
theorem Qu (us:List bo) (hl:us.length<1000000):VC E0 123 0 [.sl 7 (us.map b7) false,.sl 7 (us.map b7) false,.dc 124 [] []] [] (RR (.s (.bool true)) 0 []):=by
 refine en L0 Tryz.f123 ?_;refine sp ?_ ?_<;>intro bj
 ·exact absurd rfl bj
 refine wh ?_;refine⟨fun k f o c=>∃i:Nat,i≤us.length∧k=us.length - i∧c=0∧f=[(1,.sl 7 (us.map b7) false),(2,.dc 124 [] []),(15,.sl 7 (us.map b7) false),(16,.s (.int .i64 us.length)),(17,.s (.int .i64 i))]∧o=[],⟨us.length,?_⟩,?_⟩
 ·refine⟨[],[],_,_,_,tx ?_,⟨0,Nat.zero_le _,rfl,rfl,rfl,rfl⟩⟩;exact Lz.int (by rw[List.length_map])
 ·rintro k f1 o1 c1 ⟨i,hi,rfl,rfl,rfl,rfl⟩;refine wh ?_;refine sp ?_ ?_<;>intro h
  ·have h:i<us.length:=by have h:(i:Int)<us.length:=h
                          omega
   have EN:IntKind.i64.wrap ((i:Int)+1)=((i+1:Nat):Int):=IntWalk.i64_in _ om;refine wh ?_;refine lW h ?_;refine wh ?_;refine lW h ?_;refine wh ?_;refine⟨[],[],_,_,_,_,Yo us[i],t3,cw ?_⟩;refine⟨us.length - (i+1),?_,om⟩;rw[EN];exact⟨[],[],_,_,_,t3,⟨i+1,h,rfl,rfl,rfl,rfl⟩⟩
  ·refine wh ?_;exact⟨[],[],_,_,_,t3,rfl,rfl,rfl⟩
theorem Qv:VC E0 86 0 [.sl 1 [] false,.sl 1 [] false] [] (RR (.s (.bool true)) 0 []):=by
 refine VC.dM L0 (show E0.func 86=some Tryz.f86 by kernel_rfl) (fun _ _=>rfl) rfl rfl [999999] ?_;refine wh ?_;refine rn ?_;exact⟨[],[],_,_,_,t3,rfl,rfl,rfl⟩
@[reducible] def zCF:List TV:=[.s (.int .i64 0),.s (.int .u64 0),.sl 1 [] false,.s (.bool false),.s (.int .i64 0)]
theorem UJ:VC E0 45 0 [.agg zCF,.agg zCF] [] (RR (.s (.bool true)) 0 []):=by
 refine en L0 Tryz.f45 ?_
 repeat((first|(refine⟨fun h_=>?_,fun h_=>?_⟩)|(refine ba (fun h_=>?_) (fun h_=>?_))|(refine a9 (fun h_=>?_) (fun h_=>?_)))<;>first|(exfalso;revert h_;decide;done)|(exact absurd rfl h_)|(have eo:=True.intro;clear eo;(conv=>whnf)))
 refine⟨[],[],_,_,_,_,Qv,t3,cw ?_⟩;exact⟨[],[],_,_,_,t3,rfl,rfl,rfl⟩
theorem Nn (m:Lr) (hl:m.us.length<1000000):VC E0 94 0 [.agg (ai m),.agg (ai m)] [] (RR (.s (.bool true)) 0 []):=by
 refine en L0 Tryz.f94 ?_
 repeat((first|(refine⟨fun h_=>?_,fun h_=>?_⟩)|(refine ba (fun h_=>?_) (fun h_=>?_))|(refine a9 (fun h_=>?_) (fun h_=>?_)))<;>first|(exfalso;revert h_;decide;done)|(exfalso;revert h_;simp;done)|(have eo:=True.intro;clear eo;(conv=>whnf)))
 refine⟨[],[],_,_,_,_,UJ,t3,cw ?_⟩;refine⟨[],[],_,_,_,_,Qt,t3,cw ?_⟩;refine⟨[],[],_,_,_,_,Qu m.us hl,t3,cw ?_⟩;refine⟨[],[],_,_,_,_,Nm m.data,t3,cw ?_⟩;exact⟨[],[],_,_,_,t3,rfl,rfl,rfl⟩
@[reducible] def No (g p q:Nat) (i j:Nat):List TV:=[.dc g [] [],.dc p [] [.ptr i 0,.ptr j 0],.dc q [] [.ptr j 0,.ptr i 0]]
@[reducible] def ub (g:Nat) (i:Nat):List TV:=[.dc g [] [],.dc 211 [] [.ptr i 0],.dc 212 [] [.ptr i 0]]
@[reducible] def Qw:List TV:=[.dc 232 [] [],.dc 233 [] [],.dc 234 [] []]
@[reducible] def mI (g:Nat):TO:=.cells [.dc g [] []]
@[reducible] def Gq (k:Int):TO:=.cells [.s (.int .i64 k)]
theorem Np (w:Int) (g k:Nat):VC E0 167 0 [.s (.int .i64 w),.dc g [] [],.dc k [] []] [] (RR (.agg (No g 209 210 0 1)) 2 [(0,mI k),(1,Gq w)]):=by
 refine en L0 Tryz.f167 ?_;exact⟨[],[some 1,some 0],_,_,_,t3,rfl,rfl,rfl⟩
theorem Ie (g k:Nat):VC E0 172 0 [.dc g [] [],.dc k [] []] [] (RR (.agg (ub g 0)) 1 [(0,mI k)]):=by
 refine en L0 Tryz.f172 ?_;exact⟨[],[some 0],_,_,_,t3,rfl,rfl,rfl⟩
theorem of1:VC E0 141 0 [.s (.int .i64 1)] [] (RR (.agg (No 168 209 210 0 1)) 2 [(0,mI 169),(1,Gq 1)]):=by
 refine en L0 Tryz.f141 ?_;refine rn ?_;refine⟨[],[],_,_,_,_,Np 1 168 169,t3,cw ?_⟩;exact⟨[],[some 1,some 2],_,_,_,t3,rfl,rfl,rfl⟩
theorem abC:VC E0 141 0 [.s (.int .i64 32)] [] (RR (.agg (No 170 209 210 0 1)) 2 [(0,mI 171),(1,Gq 2)]):=by
 refine en L0 Tryz.f141 ?_;refine rn ?_;refine⟨[],[],_,_,_,_,Np 2 170 171,t3,cw ?_⟩;exact⟨[],[some 1,some 2],_,_,_,t3,rfl,rfl,rfl⟩
theorem of2:VC E0 141 0 [.s (.int .i64 2)] [] (RR (.agg (ub 173 0)) 1 [(0,mI 174)]):=by
 refine en L0 Tryz.f141 ?_;refine rn ?_;refine⟨[],[],_,_,_,_,Ie 173 174,t3,cw ?_⟩;exact⟨[],[some 1],_,_,_,t3,rfl,rfl,rfl⟩
theorem of8:VC E0 141 0 [.s (.int .i64 8)] [] (RR (.agg (ub 178 0)) 1 [(0,mI 179)]):=by
 refine en L0 Tryz.f141 ?_;refine rn ?_;refine⟨[],[],_,_,_,_,Ie 178 179,t3,cw ?_⟩;exact⟨[],[some 1],_,_,_,t3,rfl,rfl,rfl⟩
theorem Yp:VC E0 141 0 [.s (.int .i64 16)] [] (RR (.agg (ub 178 0)) 1 [(0,mI 180)]):=by
 refine en L0 Tryz.f141 ?_;refine rn ?_;refine⟨[],[],_,_,_,_,Ie 178 180,t3,cw ?_⟩;exact⟨[],[some 1],_,_,_,t3,rfl,rfl,rfl⟩
theorem abE:VC E0 141 0 [.s (.int .i64 64)] [] (RR (.agg (ub 178 0)) 1 [(0,mI 181)]):=by
 refine en L0 Tryz.f141 ?_;refine rn ?_;refine⟨[],[],_,_,_,_,Ie 178 181,t3,cw ?_⟩;exact⟨[],[some 1],_,_,_,t3,rfl,rfl,rfl⟩
theorem UK:VC E0 183 0 [.s (.int .i64 8192)] [] (RR (.agg Qw) 0 []):=by
 refine en L0 Tryz.f183 ?_;refine rn ?_;exact⟨[],[],_,_,_,t3,rfl,rfl,rfl⟩
theorem ofU:VC E0 141 0 [.s (.int .i64 8192)] [] (RR (.agg Qw) 0 []):=by
 refine en L0 Tryz.f141 ?_;refine rn ?_;refine⟨[],[],_,_,_,_,UK,t3,cw ?_⟩;exact⟨[],[],_,_,_,t3,rfl,rfl,rfl⟩
@[reducible] def z3:List TV:=[.s .nilFunc,.s .nilFunc,.s .nilFunc]
@[reducible] def Gr (i j:Nat):List TV:=No 168 209 210 i j
@[reducible] def Yq (i j:Nat):List TV:=No 170 209 210 i j
theorem Qx:VC E0 96 0 [.s (.int .i64 12)] [] (RR (.tk 0) 6 [(0,.bV 3 [z3,z3,z3,z3,Qw] [(3,ub 178 5),(2,ub 178 4),(1,ub 173 3),(0,Gr 1 2)]),(1,mI 169),(2,Gq 1),(3,mI 174),(4,mI 179),(5,mI 180)]):=by
 refine VC.dM L0 (show E0.func 96=some Tryz.f96 by kernel_rfl) (fun _ _=>rfl) rfl rfl [999999] ?_;refine wh ?_;refine rn ?_;refine⟨[],[],_,_,_,_,of1,t3,cw ?_⟩;refine rn ?_;refine⟨[],[],_,_,_,_,of2,t3,cw ?_⟩;refine rn ?_;refine⟨[],[],_,_,_,_,of8,t3,cw ?_⟩;refine rn ?_;refine⟨[],[],_,_,_,_,Yp,t3,cw ?_⟩;refine rn ?_;refine⟨[],[],_,_,_,_,ofU,t3,cw ?_⟩;refine rn ?_;refine⟨[],[some 14,some 0,some 1,some 4,some 7,some 10],_,_,_,⟨tq,.cons (.PA (Lz.of rfl) (.cons tq (.cons tq (.cons tq (.cons tq .nil))))) (.cons tq (.cons tq (.cons tq (.cons tq (.cons tq .nil))))),by rfl⟩,rfl,rfl,rfl⟩
theorem Qy:VC E0 96 0 [.s (.int .i64 17)] [] (RR (.tk 0) 4 [(0,.bV 3 [z3,z3,Qw] [(1,ub 173 3),(0,Gr 1 2)]),(1,mI 169),(2,Gq 1),(3,mI 174)]):=by
 refine VC.dM L0 (show E0.func 96=some Tryz.f96 by kernel_rfl) (fun _ _=>rfl) rfl rfl [999999] ?_;refine wh ?_;refine rn ?_;refine⟨[],[],_,_,_,_,of1,t3,cw ?_⟩;refine rn ?_;refine⟨[],[],_,_,_,_,of2,t3,cw ?_⟩;refine rn ?_;refine⟨[],[],_,_,_,_,ofU,t3,cw ?_⟩;refine rn ?_;refine⟨[],[some 8,some 0,some 1,some 4],_,_,_,⟨tq,.cons (.PA (Lz.of rfl) (.cons tq (.cons tq .nil))) (.cons tq (.cons tq (.cons tq .nil))),by rfl⟩,rfl,rfl,rfl⟩
theorem Qz:VC E0 96 0 [.s (.int .i64 13)] [] (RR (.tk 0) 9 [(0,.bV 3 [z3,z3,z3,z3,z3,z3] [(5,Yq 7 8),(4,ub 178 6),(3,ub 178 5),(2,ub 178 4),(1,ub 173 3),(0,Gr 1 2)]),(1,mI 169),(2,Gq 1),(3,mI 174),(4,mI 179),(5,mI 180),(6,mI 181),(7,mI 171),(8,Gq 2)]):=by
 refine VC.dM L0 (show E0.func 96=some Tryz.f96 by kernel_rfl) (fun _ _=>rfl) rfl rfl [999999] ?_;refine wh ?_;refine rn ?_;refine⟨[],[],_,_,_,_,of1,t3,cw ?_⟩;refine rn ?_;refine⟨[],[],_,_,_,_,of2,t3,cw ?_⟩;refine rn ?_;refine⟨[],[],_,_,_,_,of8,t3,cw ?_⟩;refine rn ?_;refine⟨[],[],_,_,_,_,Yp,t3,cw ?_⟩;refine rn ?_;refine⟨[],[],_,_,_,_,abE,t3,cw ?_⟩;refine rn ?_;refine⟨[],[],_,_,_,_,abC,t3,cw ?_⟩;refine rn ?_
 refine⟨[],[some 19,some 0,some 1,some 4,some 7,some 10,some 13,some 16,some 17],_,_,_,⟨tq,.cons (.PA (Lz.of rfl) (.cons tq (.cons tq (.cons tq (.cons tq (.cons tq (.cons tq .nil))))))) (.cons tq (.cons tq (.cons tq (.cons tq (.cons tq (.cons tq (.cons tq (.cons tq .nil)))))))),by rfl⟩,rfl,rfl,rfl⟩
end Go.M
