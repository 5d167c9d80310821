/-
  Part 20 of the library that the proof leans on.
-/
import Derived.Test.YteoljjhhdgplnaaGreatDoorL12
import Derived.Test.YteoljjhhdgplnaaGreatDoorL19
namespace Go.M
open Go Go.Proofs
set_option maxRecDepth 100000
set_option maxHeartbeats 4000000
theorem Lv (ns:List Int):VC E0 125 0 [.sl 1 (bA ns) false,.sl 1 (bA ns) false] [] (RR (.s (.bool true)) 0 []):=by
 refine en L0 Tryz.f125 ?_;refine⟨ns,rfl,?_⟩;refine wh ?_;refine⟨ns,rfl,?_⟩;refine wh ?_;refine sp ?_ ?_<;>intro h
 ·refine wh ?_;exact⟨[],[],_,_,_,t3,rfl,rfl,rfl⟩
 ·exact absurd rfl h
theorem WG (u:c7):VC E0 124 0 [.agg (cS u),.agg (cS u)] [] (RR (.s (.bool true)) 0 []):=by
 refine en L0 Tryz.f124 ?_
 repeat((first|(refine⟨fun h_=>?_,fun h_=>?_⟩)|(refine aZ (fun h_=>?_) (fun h_=>?_))|(refine aY (fun h_=>?_) (fun h_=>?_)))<;>first|(exfalso;revert h_;decide;done)|(exfalso;revert h_;simp;done)|(have eN:=True.intro;clear eN;(conv=>whnf)))
 refine⟨[],[],_,_,_,_,Lv u.data,t3,cw ?_⟩;exact⟨[],[],_,_,_,t3,rfl,rfl,rfl⟩
theorem OT:VC E0 122 0 [.sl 6 [] false,.sl 6 [] false] [] (RR (.s (.bool true)) 0 []):=by
 refine VC.dp L0 (show E0.func 122=some Tryz.f122 by kernel_rfl) (fun _ _=>rfl) rfl rfl [999999] ?_;refine wh ?_;refine rn ?_;exact⟨[],[],_,_,_,t3,rfl,rfl,rfl⟩
theorem OU (us:List c7) (hl:us.length<1000000):VC E0 123 0 [.sl 7 (us.map cS) false,.sl 7 (us.map cS) false,.cJ 124 [] []] [] (RR (.s (.bool true)) 0 []):=by
 refine en L0 Tryz.f123 ?_;refine sp ?_ ?_<;>intro bc
 ·exact absurd rfl bc
 refine wh ?_;refine⟨fun k f o c=>∃i:Nat,i≤us.length∧k=us.length - i∧c=0∧f=[(1,.sl 7 (us.map cS) false),(2,.cJ 124 [] []),(15,.sl 7 (us.map cS) false),(16,.s (.int .i64 us.length)),(17,.s (.int .i64 i))]∧o=[],⟨us.length,?_⟩,?_⟩
 ·refine⟨[],[],_,_,_,tx ?_,⟨0,Nat.zero_le _,rfl,rfl,rfl,rfl⟩⟩;exact Lz.int (by rw[List.length_map])
 ·rintro k f1 o1 c1 ⟨i,hi,rfl,rfl,rfl,rfl⟩;refine wh ?_;refine sp ?_ ?_<;>intro h
  ·have h:i<us.length:=by have h:(i:Int)<us.length:=h
                          omega
   have CZ:IntKind.i64.wrap ((i:Int)+1)=((i+1:Nat):Int):=IntWalk.i64_in _ om;refine wh ?_;refine mB h ?_;refine wh ?_;refine mB h ?_;refine wh ?_;refine⟨[],[],_,_,_,_,WG us[i],t3,cw ?_⟩;refine⟨us.length - (i+1),?_,om⟩;rw[CZ];exact⟨[],[],_,_,_,t3,⟨i+1,h,rfl,rfl,rfl,rfl⟩⟩
  ·refine wh ?_;exact⟨[],[],_,_,_,t3,rfl,rfl,rfl⟩
theorem OV:VC E0 86 0 [.sl 1 [] false,.sl 1 [] false] [] (RR (.s (.bool true)) 0 []):=by
 refine VC.dp L0 (show E0.func 86=some Tryz.f86 by kernel_rfl) (fun _ _=>rfl) rfl rfl [999999] ?_;refine wh ?_;refine rn ?_;exact⟨[],[],_,_,_,t3,rfl,rfl,rfl⟩
@[reducible] def zCF:List TV:=[.s (.int .i64 0),.s (.int .u64 0),.sl 1 [] false,.s (.bool false),.s (.int .i64 0)]
theorem SV:VC E0 45 0 [.agg zCF,.agg zCF] [] (RR (.s (.bool true)) 0 []):=by
 refine en L0 Tryz.f45 ?_
 repeat((first|(refine⟨fun h_=>?_,fun h_=>?_⟩)|(refine aZ (fun h_=>?_) (fun h_=>?_))|(refine aY (fun h_=>?_) (fun h_=>?_)))<;>first|(exfalso;revert h_;decide;done)|(exact absurd rfl h_)|(have eN:=True.intro;clear eN;(conv=>whnf)))
 refine⟨[],[],_,_,_,_,OV,t3,cw ?_⟩;exact⟨[],[],_,_,_,t3,rfl,rfl,rfl⟩
theorem Lx (m:Lr) (hl:m.us.length<1000000):VC E0 94 0 [.agg (bK m),.agg (bK m)] [] (RR (.s (.bool true)) 0 []):=by
 refine en L0 Tryz.f94 ?_
 repeat((first|(refine⟨fun h_=>?_,fun h_=>?_⟩)|(refine aZ (fun h_=>?_) (fun h_=>?_))|(refine aY (fun h_=>?_) (fun h_=>?_)))<;>first|(exfalso;revert h_;decide;done)|(exfalso;revert h_;simp;done)|(have eN:=True.intro;clear eN;(conv=>whnf)))
 refine⟨[],[],_,_,_,_,SV,t3,cw ?_⟩;refine⟨[],[],_,_,_,_,OT,t3,cw ?_⟩;refine⟨[],[],_,_,_,_,OU m.us hl,t3,cw ?_⟩;refine⟨[],[],_,_,_,_,Lv m.data,t3,cw ?_⟩;exact⟨[],[],_,_,_,t3,rfl,rfl,rfl⟩
@[reducible] def Ly (g p q:Nat) (i j:Nat):List TV:=[.cJ g [] [],.cJ p [] [.ptr i 0,.ptr j 0],.cJ q [] [.ptr j 0,.ptr i 0]]
@[reducible] def r9 (g:Nat) (i:Nat):List TV:=[.cJ g [] [],.cJ 211 [] [.ptr i 0],.cJ 212 [] [.ptr i 0]]
@[reducible] def OW:List TV:=[.cJ 232 [] [],.cJ 233 [] [],.cJ 234 [] []]
@[reducible] def kZ (g:Nat):TO:=.cells [.cJ g [] []]
@[reducible] def Eg (k:Int):TO:=.cells [.s (.int .i64 k)]
theorem LA (w:Int) (g k:Nat):VC E0 167 0 [.s (.int .i64 w),.cJ g [] [],.cJ k [] []] [] (RR (.agg (Ly g 209 210 0 1)) 2 [(0,kZ k),(1,Eg w)]):=by
 refine en L0 Tryz.f167 ?_;exact⟨[],[some 1,some 0],_,_,_,t3,rfl,rfl,rfl⟩
theorem F4 (g k:Nat):VC E0 172 0 [.cJ g [] [],.cJ k [] []] [] (RR (.agg (r9 g 0)) 1 [(0,kZ k)]):=by
 refine en L0 Tryz.f172 ?_;exact⟨[],[some 0],_,_,_,t3,rfl,rfl,rfl⟩
theorem of1:VC E0 141 0 [.s (.int .i64 1)] [] (RR (.agg (Ly 168 209 210 0 1)) 2 [(0,kZ 169),(1,Eg 1)]):=by
 refine en L0 Tryz.f141 ?_;refine rn ?_;refine⟨[],[],_,_,_,_,LA 1 168 169,t3,cw ?_⟩;exact⟨[],[some 1,some 2],_,_,_,t3,rfl,rfl,rfl⟩
theorem aab:VC E0 141 0 [.s (.int .i64 32)] [] (RR (.agg (Ly 170 209 210 0 1)) 2 [(0,kZ 171),(1,Eg 2)]):=by
 refine en L0 Tryz.f141 ?_;refine rn ?_;refine⟨[],[],_,_,_,_,LA 2 170 171,t3,cw ?_⟩;exact⟨[],[some 1,some 2],_,_,_,t3,rfl,rfl,rfl⟩
theorem of2:VC E0 141 0 [.s (.int .i64 2)] [] (RR (.agg (r9 173 0)) 1 [(0,kZ 174)]):=by
 refine en L0 Tryz.f141 ?_;refine rn ?_;refine⟨[],[],_,_,_,_,F4 173 174,t3,cw ?_⟩;exact⟨[],[some 1],_,_,_,t3,rfl,rfl,rfl⟩
theorem of8:VC E0 141 0 [.s (.int .i64 8)] [] (RR (.agg (r9 178 0)) 1 [(0,kZ 179)]):=by
 refine en L0 Tryz.f141 ?_;refine rn ?_;refine⟨[],[],_,_,_,_,F4 178 179,t3,cw ?_⟩;exact⟨[],[some 1],_,_,_,t3,rfl,rfl,rfl⟩
theorem WH:VC E0 141 0 [.s (.int .i64 16)] [] (RR (.agg (r9 178 0)) 1 [(0,kZ 180)]):=by
 refine en L0 Tryz.f141 ?_;refine rn ?_;refine⟨[],[],_,_,_,_,F4 178 180,t3,cw ?_⟩;exact⟨[],[some 1],_,_,_,t3,rfl,rfl,rfl⟩
theorem aad:VC E0 141 0 [.s (.int .i64 64)] [] (RR (.agg (r9 178 0)) 1 [(0,kZ 181)]):=by
 refine en L0 Tryz.f141 ?_;refine rn ?_;refine⟨[],[],_,_,_,_,F4 178 181,t3,cw ?_⟩;exact⟨[],[some 1],_,_,_,t3,rfl,rfl,rfl⟩
theorem SW:VC E0 183 0 [.s (.int .i64 8192)] [] (RR (.agg OW) 0 []):=by
 refine en L0 Tryz.f183 ?_;refine rn ?_;exact⟨[],[],_,_,_,t3,rfl,rfl,rfl⟩
theorem ofU:VC E0 141 0 [.s (.int .i64 8192)] [] (RR (.agg OW) 0 []):=by
 refine en L0 Tryz.f141 ?_;refine rn ?_;refine⟨[],[],_,_,_,_,SW,t3,cw ?_⟩;exact⟨[],[],_,_,_,t3,rfl,rfl,rfl⟩
@[reducible] def z3:List TV:=[.s .nilFunc,.s .nilFunc,.s .nilFunc]
@[reducible] def Eh (i j:Nat):List TV:=Ly 168 209 210 i j
@[reducible] def WI (i j:Nat):List TV:=Ly 170 209 210 i j
theorem OX:VC E0 96 0 [.s (.int .i64 12)] [] (RR (.tk 0) 6 [(0,.bZ 3 [z3,z3,z3,z3,OW] [(3,r9 178 5),(2,r9 178 4),(1,r9 173 3),(0,Eh 1 2)]),(1,kZ 169),(2,Eg 1),(3,kZ 174),(4,kZ 179),(5,kZ 180)]):=by
 refine VC.dp L0 (show E0.func 96=some Tryz.f96 by kernel_rfl) (fun _ _=>rfl) rfl rfl [999999] ?_;refine wh ?_;refine rn ?_;refine⟨[],[],_,_,_,_,of1,t3,cw ?_⟩;refine rn ?_;refine⟨[],[],_,_,_,_,of2,t3,cw ?_⟩;refine rn ?_;refine⟨[],[],_,_,_,_,of8,t3,cw ?_⟩;refine rn ?_;refine⟨[],[],_,_,_,_,WH,t3,cw ?_⟩;refine rn ?_;refine⟨[],[],_,_,_,_,ofU,t3,cw ?_⟩;refine rn ?_;refine⟨[],[some 14,some 0,some 1,some 4,some 7,some 10],_,_,_,⟨tq,.cons (.NP (Lz.of rfl) (.cons tq (.cons tq (.cons tq (.cons tq .nil))))) (.cons tq (.cons tq (.cons tq (.cons tq (.cons tq .nil))))),by rfl⟩,rfl,rfl,rfl⟩
theorem OY:VC E0 96 0 [.s (.int .i64 17)] [] (RR (.tk 0) 4 [(0,.bZ 3 [z3,z3,OW] [(1,r9 173 3),(0,Eh 1 2)]),(1,kZ 169),(2,Eg 1),(3,kZ 174)]):=by
 refine VC.dp L0 (show E0.func 96=some Tryz.f96 by kernel_rfl) (fun _ _=>rfl) rfl rfl [999999] ?_;refine wh ?_;refine rn ?_;refine⟨[],[],_,_,_,_,of1,t3,cw ?_⟩;refine rn ?_;refine⟨[],[],_,_,_,_,of2,t3,cw ?_⟩;refine rn ?_;refine⟨[],[],_,_,_,_,ofU,t3,cw ?_⟩;refine rn ?_;refine⟨[],[some 8,some 0,some 1,some 4],_,_,_,⟨tq,.cons (.NP (Lz.of rfl) (.cons tq (.cons tq .nil))) (.cons tq (.cons tq (.cons tq .nil))),by rfl⟩,rfl,rfl,rfl⟩
theorem OZ:VC E0 96 0 [.s (.int .i64 13)] [] (RR (.tk 0) 9 [(0,.bZ 3 [z3,z3,z3,z3,z3,z3] [(5,WI 7 8),(4,r9 178 6),(3,r9 178 5),(2,r9 178 4),(1,r9 173 3),(0,Eh 1 2)]),(1,kZ 169),(2,Eg 1),(3,kZ 174),(4,kZ 179),(5,kZ 180),(6,kZ 181),(7,kZ 171),(8,Eg 2)]):=by
 refine VC.dp L0 (show E0.func 96=some Tryz.f96 by kernel_rfl) (fun _ _=>rfl) rfl rfl [999999] ?_;refine wh ?_;refine rn ?_;refine⟨[],[],_,_,_,_,of1,t3,cw ?_⟩;refine rn ?_;refine⟨[],[],_,_,_,_,of2,t3,cw ?_⟩;refine rn ?_;refine⟨[],[],_,_,_,_,of8,t3,cw ?_⟩;refine rn ?_;refine⟨[],[],_,_,_,_,WH,t3,cw ?_⟩;refine rn ?_;refine⟨[],[],_,_,_,_,aad,t3,cw ?_⟩;refine rn ?_;refine⟨[],[],_,_,_,_,aab,t3,cw ?_⟩;refine rn ?_
 refine⟨[],[some 19,some 0,some 1,some 4,some 7,some 10,some 13,some 16,some 17],_,_,_,⟨tq,.cons (.NP (Lz.of rfl) (.cons tq (.cons tq (.cons tq (.cons tq (.cons tq (.cons tq .nil))))))) (.cons tq (.cons tq (.cons tq (.cons tq (.cons tq (.cons tq (.cons tq (.cons tq .nil)))))))),by rfl⟩,rfl,rfl,rfl⟩
end Go.M
