/-
  Part 20 of the library that the proof leans on.
-/
import Derived.Test.YteoljjhhdgplnaaGreatDoorL12
import Derived.Test.YteoljjhhdgplnaaGreatDoorL19
namespace Go.M
open Go Go.Proofs
set_option maxRecDepth 100000
set_option maxHeartbeats 4000000
theorem Tg (ns:List Int):VC E0 125 0 [.sl 1 (bm ns) false,.sl 1 (bm ns) false] [] (RR (.s (.bool true)) 0 []):=by
 refine en L0 Tryz.f125 ?_;refine⟨ns,rfl,?_⟩;refine wh ?_;refine⟨ns,rfl,?_⟩;refine wh ?_;refine sp ?_ ?_<;>intro h
 ·refine wh ?_;exact⟨[],[],_,_,_,t3,rfl,rfl,rfl⟩
 ·exact absurd rfl h
theorem afy (u:dx):VC E0 124 0 [.agg (cD u),.agg (cD u)] [] (RR (.s (.bool true)) 0 []):=by
 refine en L0 Tryz.f124 ?_
 repeat((first|(refine⟨fun h_=>?_,fun h_=>?_⟩)|(refine aU (fun h_=>?_) (fun h_=>?_))|(refine aT (fun h_=>?_) (fun h_=>?_)))<;>first|(exfalso;revert h_;decide;done)|(exfalso;revert h_;simp;done)|(have dw:=True.intro;clear dw;(conv=>whnf)))
 refine⟨[],[],_,_,_,_,Tg u.data,t3,cw ?_⟩;exact⟨[],[],_,_,_,t3,rfl,rfl,rfl⟩
theorem WM:VC E0 122 0 [.sl 6 [] false,.sl 6 [] false] [] (RR (.s (.bool true)) 0 []):=by
 refine VC.cQ L0 (show E0.func 122=some Tryz.f122 by kernel_rfl) (fun _ _=>rfl) rfl rfl [999999] ?_;refine wh ?_;refine rn ?_;exact⟨[],[],_,_,_,t3,rfl,rfl,rfl⟩
theorem WN (us:List dx) (hl:us.length<1000000):VC E0 123 0 [.sl 7 (us.map cD) false,.sl 7 (us.map cD) false,.dg 124 [] []] [] (RR (.s (.bool true)) 0 []):=by
 refine en L0 Tryz.f123 ?_;refine sp ?_ ?_<;>intro bC
 ·exact absurd rfl bC
 refine wh ?_;refine⟨fun k f o c=>∃i:Nat,i≤us.length∧k=us.length - i∧c=0∧f=[(1,.sl 7 (us.map cD) false),(2,.dg 124 [] []),(15,.sl 7 (us.map cD) false),(16,.s (.int .i64 us.length)),(17,.s (.int .i64 i))]∧o=[],⟨us.length,?_⟩,?_⟩
 ·refine⟨[],[],_,_,_,tx ?_,⟨0,Nat.zero_le _,rfl,rfl,rfl,rfl⟩⟩;exact Lz.int (by rw[List.length_map])
 ·rintro k f1 o1 c1 ⟨i,hi,rfl,rfl,rfl,rfl⟩;refine wh ?_;refine sp ?_ ?_<;>intro h
  ·have h:i<us.length:=by have h:(i:Int)<us.length:=h
                          omega
   have BU:IntKind.i64.wrap ((i:Int)+1)=((i+1:Nat):Int):=IntWalk.i64_in _ om;refine wh ?_;refine oB h ?_;refine wh ?_;refine oB h ?_;refine wh ?_;refine⟨[],[],_,_,_,_,afy us[i],t3,cw ?_⟩;refine⟨us.length - (i+1),?_,om⟩;rw[BU];exact⟨[],[],_,_,_,t3,⟨i+1,h,rfl,rfl,rfl,rfl⟩⟩
  ·refine wh ?_;exact⟨[],[],_,_,_,t3,rfl,rfl,rfl⟩
theorem WO:VC E0 86 0 [.sl 1 [] false,.sl 1 [] false] [] (RR (.s (.bool true)) 0 []):=by
 refine VC.cQ L0 (show E0.func 86=some Tryz.f86 by kernel_rfl) (fun _ _=>rfl) rfl rfl [999999] ?_;refine wh ?_;refine rn ?_;exact⟨[],[],_,_,_,t3,rfl,rfl,rfl⟩
@[reducible] def zCF:List TV:=[.s (.int .i64 0),.s (.int .u64 0),.sl 1 [] false,.s (.bool false),.s (.int .i64 0)]
theorem aaT:VC E0 45 0 [.agg zCF,.agg zCF] [] (RR (.s (.bool true)) 0 []):=by
 refine en L0 Tryz.f45 ?_
 repeat((first|(refine⟨fun h_=>?_,fun h_=>?_⟩)|(refine aU (fun h_=>?_) (fun h_=>?_))|(refine aT (fun h_=>?_) (fun h_=>?_)))<;>first|(exfalso;revert h_;decide;done)|(exact absurd rfl h_)|(have dw:=True.intro;clear dw;(conv=>whnf)))
 refine⟨[],[],_,_,_,_,WO,t3,cw ?_⟩;exact⟨[],[],_,_,_,t3,rfl,rfl,rfl⟩
theorem M8 (m:Lr) (hl:m.us.length<1000000):VC E0 94 0 [.agg (bp m),.agg (bp m)] [] (RR (.s (.bool true)) 0 []):=by
 refine en L0 Tryz.f94 ?_
 repeat((first|(refine⟨fun h_=>?_,fun h_=>?_⟩)|(refine aU (fun h_=>?_) (fun h_=>?_))|(refine aT (fun h_=>?_) (fun h_=>?_)))<;>first|(exfalso;revert h_;decide;done)|(exfalso;revert h_;simp;done)|(have dw:=True.intro;clear dw;(conv=>whnf)))
 refine⟨[],[],_,_,_,_,aaT,t3,cw ?_⟩;refine⟨[],[],_,_,_,_,WM,t3,cw ?_⟩;refine⟨[],[],_,_,_,_,WN m.us hl,t3,cw ?_⟩;refine⟨[],[],_,_,_,_,Tg m.data,t3,cw ?_⟩;exact⟨[],[],_,_,_,t3,rfl,rfl,rfl⟩
@[reducible] def Th (g p q:Nat) (i j:Nat):List TV:=[.dg g [] [],.dg p [] [.ptr i 0,.ptr j 0],.dg q [] [.ptr j 0,.ptr i 0]]
@[reducible] def s6 (g:Nat) (i:Nat):List TV:=[.dg g [] [],.dg 211 [] [.ptr i 0],.dg 212 [] [.ptr i 0]]
@[reducible] def WQ:List TV:=[.dg 232 [] [],.dg 233 [] [],.dg 234 [] []]
@[reducible] def kC (g:Nat):TO:=.cells [.dg g [] []]
@[reducible] def FL (k:Int):TO:=.cells [.s (.int .i64 k)]
theorem Ti (w:Int) (g k:Nat):VC E0 167 0 [.s (.int .i64 w),.dg g [] [],.dg k [] []] [] (RR (.agg (Th g 209 210 0 1)) 2 [(0,kC k),(1,FL w)]):=by
 refine en L0 Tryz.f167 ?_;exact⟨[],[some 1,some 0],_,_,_,t3,rfl,rfl,rfl⟩
theorem M9 (g k:Nat):VC E0 172 0 [.dg g [] [],.dg k [] []] [] (RR (.agg (s6 g 0)) 1 [(0,kC k)]):=by
 refine en L0 Tryz.f172 ?_;exact⟨[],[some 0],_,_,_,t3,rfl,rfl,rfl⟩
theorem of1:VC E0 141 0 [.s (.int .i64 1)] [] (RR (.agg (Th 168 209 210 0 1)) 2 [(0,kC 169),(1,FL 1)]):=by
 refine en L0 Tryz.f141 ?_;refine rn ?_;refine⟨[],[],_,_,_,_,Ti 1 168 169,t3,cw ?_⟩;exact⟨[],[some 1,some 2],_,_,_,t3,rfl,rfl,rfl⟩
theorem afA:VC E0 141 0 [.s (.int .i64 32)] [] (RR (.agg (Th 170 209 210 0 1)) 2 [(0,kC 171),(1,FL 2)]):=by
 refine en L0 Tryz.f141 ?_;refine rn ?_;refine⟨[],[],_,_,_,_,Ti 2 170 171,t3,cw ?_⟩;exact⟨[],[some 1,some 2],_,_,_,t3,rfl,rfl,rfl⟩
theorem of2:VC E0 141 0 [.s (.int .i64 2)] [] (RR (.agg (s6 173 0)) 1 [(0,kC 174)]):=by
 refine en L0 Tryz.f141 ?_;refine rn ?_;refine⟨[],[],_,_,_,_,M9 173 174,t3,cw ?_⟩;exact⟨[],[some 1],_,_,_,t3,rfl,rfl,rfl⟩
theorem of8:VC E0 141 0 [.s (.int .i64 8)] [] (RR (.agg (s6 178 0)) 1 [(0,kC 179)]):=by
 refine en L0 Tryz.f141 ?_;refine rn ?_;refine⟨[],[],_,_,_,_,M9 178 179,t3,cw ?_⟩;exact⟨[],[some 1],_,_,_,t3,rfl,rfl,rfl⟩
theorem afB:VC E0 141 0 [.s (.int .i64 16)] [] (RR (.agg (s6 178 0)) 1 [(0,kC 180)]):=by
 refine en L0 Tryz.f141 ?_;refine rn ?_;refine⟨[],[],_,_,_,_,M9 178 180,t3,cw ?_⟩;exact⟨[],[some 1],_,_,_,t3,rfl,rfl,rfl⟩
theorem afC:VC E0 141 0 [.s (.int .i64 64)] [] (RR (.agg (s6 178 0)) 1 [(0,kC 181)]):=by
 refine en L0 Tryz.f141 ?_;refine rn ?_;refine⟨[],[],_,_,_,_,M9 178 181,t3,cw ?_⟩;exact⟨[],[some 1],_,_,_,t3,rfl,rfl,rfl⟩
theorem aaU:VC E0 183 0 [.s (.int .i64 8192)] [] (RR (.agg WQ) 0 []):=by
 refine en L0 Tryz.f183 ?_;refine rn ?_;exact⟨[],[],_,_,_,t3,rfl,rfl,rfl⟩
theorem ofU:VC E0 141 0 [.s (.int .i64 8192)] [] (RR (.agg WQ) 0 []):=by
 refine en L0 Tryz.f141 ?_;refine rn ?_;refine⟨[],[],_,_,_,_,aaU,t3,cw ?_⟩;exact⟨[],[],_,_,_,t3,rfl,rfl,rfl⟩
@[reducible] def aaV:List TV:=[.dg 235 [] [],.dg 237 [] [],.dg 238 [] []]
theorem aaW:VC E0 183 0 [.s (.int .i64 16384)] [] (RR (.agg aaV) 0 []):=by
 refine en L0 Tryz.f183 ?_;refine rn ?_;exact⟨[],[],_,_,_,t3,rfl,rfl,rfl⟩
theorem ofD:VC E0 141 0 [.s (.int .i64 16384)] [] (RR (.agg aaV) 0 []):=by
 refine en L0 Tryz.f141 ?_;refine rn ?_;refine⟨[],[],_,_,_,_,aaW,t3,cw ?_⟩;exact⟨[],[],_,_,_,t3,rfl,rfl,rfl⟩
@[reducible] def z3:List TV:=[.s .nilFunc,.s .nilFunc,.s .nilFunc]
@[reducible] def FM (i j:Nat):List TV:=Th 168 209 210 i j
@[reducible] def Y5 (i j:Nat):List TV:=Th 170 209 210 i j
theorem WR:VC E0 96 0 [.s (.int .i64 12)] [] (RR (.tk 0) 6 [(0,.cF 3 [z3,z3,z3,z3,WQ] [(3,s6 178 5),(2,s6 178 4),(1,s6 173 3),(0,FM 1 2)]),(1,kC 169),(2,FL 1),(3,kC 174),(4,kC 179),(5,kC 180)]):=by
 refine VC.cQ L0 (show E0.func 96=some Tryz.f96 by kernel_rfl) (fun _ _=>rfl) rfl rfl [999999] ?_;refine wh ?_;refine rn ?_;refine⟨[],[],_,_,_,_,of1,t3,cw ?_⟩;refine rn ?_;refine⟨[],[],_,_,_,_,of2,t3,cw ?_⟩;refine rn ?_;refine⟨[],[],_,_,_,_,of8,t3,cw ?_⟩;refine rn ?_;refine⟨[],[],_,_,_,_,afB,t3,cw ?_⟩;refine rn ?_;refine⟨[],[],_,_,_,_,ofU,t3,cw ?_⟩;refine rn ?_;refine⟨[],[some 14,some 0,some 1,some 4,some 7,some 10],_,_,_,⟨tq,.cons (.B6 (Lz.of rfl) (.cons tq (.cons tq (.cons tq (.cons tq .nil))))) (.cons tq (.cons tq (.cons tq (.cons tq (.cons tq .nil))))),by rfl⟩,rfl,rfl,rfl⟩
theorem WS:VC E0 96 0 [.s (.int .i64 17)] [] (RR (.tk 0) 4 [(0,.cF 3 [z3,z3,WQ] [(1,s6 173 3),(0,FM 1 2)]),(1,kC 169),(2,FL 1),(3,kC 174)]):=by
 refine VC.cQ L0 (show E0.func 96=some Tryz.f96 by kernel_rfl) (fun _ _=>rfl) rfl rfl [999999] ?_;refine wh ?_;refine rn ?_;refine⟨[],[],_,_,_,_,of1,t3,cw ?_⟩;refine rn ?_;refine⟨[],[],_,_,_,_,of2,t3,cw ?_⟩;refine rn ?_;refine⟨[],[],_,_,_,_,ofU,t3,cw ?_⟩;refine rn ?_;refine⟨[],[some 8,some 0,some 1,some 4],_,_,_,⟨tq,.cons (.B6 (Lz.of rfl) (.cons tq (.cons tq .nil))) (.cons tq (.cons tq (.cons tq .nil))),by rfl⟩,rfl,rfl,rfl⟩
theorem WT:VC E0 96 0 [.s (.int .i64 13)] [] (RR (.tk 0) 9 [(0,.cF 3 [z3,z3,z3,z3,z3,z3] [(5,Y5 7 8),(4,s6 178 6),(3,s6 178 5),(2,s6 178 4),(1,s6 173 3),(0,FM 1 2)]),(1,kC 169),(2,FL 1),(3,kC 174),(4,kC 179),(5,kC 180),(6,kC 181),(7,kC 171),(8,FL 2)]):=by
 refine VC.cQ L0 (show E0.func 96=some Tryz.f96 by kernel_rfl) (fun _ _=>rfl) rfl rfl [999999] ?_;refine wh ?_;refine rn ?_;refine⟨[],[],_,_,_,_,of1,t3,cw ?_⟩;refine rn ?_;refine⟨[],[],_,_,_,_,of2,t3,cw ?_⟩;refine rn ?_;refine⟨[],[],_,_,_,_,of8,t3,cw ?_⟩;refine rn ?_;refine⟨[],[],_,_,_,_,afB,t3,cw ?_⟩;refine rn ?_;refine⟨[],[],_,_,_,_,afC,t3,cw ?_⟩;refine rn ?_;refine⟨[],[],_,_,_,_,afA,t3,cw ?_⟩;refine rn ?_
 refine⟨[],[some 19,some 0,some 1,some 4,some 7,some 10,some 13,some 16,some 17],_,_,_,⟨tq,.cons (.B6 (Lz.of rfl) (.cons tq (.cons tq (.cons tq (.cons tq (.cons tq (.cons tq .nil))))))) (.cons tq (.cons tq (.cons tq (.cons tq (.cons tq (.cons tq (.cons tq (.cons tq .nil)))))))),by rfl⟩,rfl,rfl,rfl⟩
theorem WU:VC E0 96 0 [.s (.int .i64 14)] [] (RR (.tk 0) 8 [(0,.cF 3 [z3,z3,z3,z3,z3,aaV] [(4,s6 178 7),(3,Y5 5 6),(2,s6 178 4),(1,s6 173 3),(0,FM 1 2)]),(1,kC 169),(2,FL 1),(3,kC 174),(4,kC 179),(5,kC 171),(6,FL 2),(7,kC 181)]):=by
 refine VC.cQ L0 (show E0.func 96=some Tryz.f96 by kernel_rfl) (fun _ _=>rfl) rfl rfl [999999] ?_;refine wh ?_;refine rn ?_;refine⟨[],[],_,_,_,_,of1,t3,cw ?_⟩;refine rn ?_;refine⟨[],[],_,_,_,_,of2,t3,cw ?_⟩;refine rn ?_;refine⟨[],[],_,_,_,_,of8,t3,cw ?_⟩;refine rn ?_;refine⟨[],[],_,_,_,_,afA,t3,cw ?_⟩;refine rn ?_;refine⟨[],[],_,_,_,_,afC,t3,cw ?_⟩;refine rn ?_;refine⟨[],[],_,_,_,_,ofD,t3,cw ?_⟩;refine rn ?_
 refine⟨[],[some 18,some 0,some 1,some 4,some 7,some 10,some 11,some 14],_,_,_,⟨tq,.cons (.B6 (Lz.of rfl) (.cons tq (.cons tq (.cons tq (.cons tq (.cons tq .nil)))))) (.cons tq (.cons tq (.cons tq (.cons tq (.cons tq (.cons tq (.cons tq .nil))))))),by rfl⟩,rfl,rfl,rfl⟩
end Go.M
