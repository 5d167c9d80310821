/-
  Part 21 of the library that the proof leans on.
-/
import Derived.Test.YthaboieeoopmjaaGreatDoorL12
import Derived.Test.YthaboieeoopmjaaGreatDoorL20
namespace Go.M
open Go Go.Proofs
set_option maxRecDepth 100000
set_option maxHeartbeats 4000000
@[reducible] def Ga (i:Nat):List TV:=[.cW 111 [] [],.cW 144 [] [.ptr i 0],.cW 145 [] [.ptr i 0]]
@[reducible] def DD (i j:Nat):List TV:=[.cW 106 [] [],.cW 140 [] [.ptr i 0,.ptr j 0],.cW 142 [] [.ptr j 0,.ptr i 0]]
@[reducible] def Qd:List TV:=[.cW 151 [] [],.cW 152 [] [],.cW 154 [] []]
@[reducible] def Xf:List TV:=[.cW 159 [] [],.cW 161 [] [],.cW 162 [] []]
@[reducible] def Gb:TO:=.cells [.cW 113 [] []]
@[reducible] def DE:TO:=.cells [.s (.int .i64 2)]
@[reducible] def DF:TO:=.cells [.cW 107 [] []]
theorem aa6:VC E0 108 0 [.cW 111 [] [],.cW 113 [] []] [] (RR (.agg (Ga 0)) 1 [(0,Gb)]):=by
 refine en L0 Tryz.f108 ?_;exact⟨[],[some 0],_,_,_,t3,rfl,rfl,rfl⟩
theorem Xg:VC E0 103 0 [.s (.int .i64 2),.cW 106 [] [],.cW 107 [] []] [] (RR (.agg (DD 0 1)) 2 [(0,DF),(1,DE)]):=by
 refine en L0 Tryz.f103 ?_;exact⟨[],[some 1,some 0],_,_,_,t3,rfl,rfl,rfl⟩
theorem TL:VC E0 119 0 [.s (.int .i64 1024)] [] (RR (.agg Qd) 0 []):=by
 refine en L0 Tryz.f119 ?_;refine rn ?_;exact⟨[],[],_,_,_,t3,rfl,rfl,rfl⟩
theorem Xh:VC E0 119 0 [.s (.int .i64 4096)] [] (RR (.agg Xf) 0 []):=by
 refine en L0 Tryz.f119 ?_;refine rn ?_;exact⟨[],[],_,_,_,t3,rfl,rfl,rfl⟩
theorem YS:VC E0 81 0 [.s (.int .i64 4)] [] (RR (.agg (Ga 0)) 1 [(0,Gb)]):=by
 refine en L0 Tryz.f81 ?_;refine rn ?_;refine⟨[],[],_,_,_,_,aa6,t3,cw ?_⟩;exact⟨[],[some 1],_,_,_,t3,rfl,rfl,rfl⟩
theorem Xi:VC E0 81 0 [.s (.int .i64 32)] [] (RR (.agg (DD 0 1)) 2 [(0,DF),(1,DE)]):=by
 refine en L0 Tryz.f81 ?_;refine rn ?_;refine⟨[],[],_,_,_,_,Xg,t3,cw ?_⟩;exact⟨[],[some 1,some 2],_,_,_,t3,rfl,rfl,rfl⟩
theorem ofC:VC E0 81 0 [.s (.int .i64 1024)] [] (RR (.agg Qd) 0 []):=by
 refine en L0 Tryz.f81 ?_;refine rn ?_;refine⟨[],[],_,_,_,_,TL,t3,cw ?_⟩;exact⟨[],[],_,_,_,t3,rfl,rfl,rfl⟩
theorem adZ:VC E0 81 0 [.s (.int .i64 4096)] [] (RR (.agg Xf) 0 []):=by
 refine en L0 Tryz.f81 ?_;refine rn ?_;refine⟨[],[],_,_,_,_,Xh,t3,cw ?_⟩;exact⟨[],[],_,_,_,t3,rfl,rfl,rfl⟩
@[reducible] def z3:List TV:=[.s .nilFunc,.s .nilFunc,.s .nilFunc]
theorem Xj:VC E0 35 0 [.s (.int .i64 1)] [] (RR (.tk 0) 4 [(0,.b6 3 [z3,z3] [(1,DD 2 3),(0,Ga 1)]),(1,Gb),(2,DF),(3,DE)]):=by
 refine VC.cJ L0 (show E0.func 35=some Tryz.f35 by kernel_rfl) (fun _ _=>rfl) rfl rfl [999999] ?_;refine wh ?_;refine rn ?_;refine⟨[],[],_,_,_,_,YS,t3,cw ?_⟩;refine rn ?_;refine⟨[],[],_,_,_,_,Xi,t3,cw ?_⟩;refine rn ?_;refine⟨[],[some 6,some 0,some 3,some 4],_,_,_,⟨tq,.cons (.CO (Lz.of rfl) (.cons tq (.cons tq (.nil)))) (.cons tq (.cons tq (.cons tq (.nil)))),by rfl⟩,rfl,rfl,rfl⟩
theorem Xk:VC E0 35 0 [.s (.int .i64 4)] [] (RR (.tk 0) 4 [(0,.b6 3 [z3,z3] [(1,DD 2 3),(0,Ga 1)]),(1,Gb),(2,DF),(3,DE)]):=by
 refine VC.cJ L0 (show E0.func 35=some Tryz.f35 by kernel_rfl) (fun _ _=>rfl) rfl rfl [999999] ?_;refine wh ?_;refine rn ?_;refine⟨[],[],_,_,_,_,YS,t3,cw ?_⟩;refine rn ?_;refine⟨[],[],_,_,_,_,Xi,t3,cw ?_⟩;refine rn ?_;refine⟨[],[some 6,some 0,some 3,some 4],_,_,_,⟨tq,.cons (.CO (Lz.of rfl) (.cons tq (.cons tq (.nil)))) (.cons tq (.cons tq (.cons tq (.nil)))),by rfl⟩,rfl,rfl,rfl⟩
theorem Xl:VC E0 35 0 [.s (.int .i64 6)] [] (RR (.tk 0) 4 [(0,.b6 3 [z3,z3] [(1,DD 2 3),(0,Ga 1)]),(1,Gb),(2,DF),(3,DE)]):=by
 refine VC.cJ L0 (show E0.func 35=some Tryz.f35 by kernel_rfl) (fun _ _=>rfl) rfl rfl [999999] ?_;refine wh ?_;refine rn ?_;refine⟨[],[],_,_,_,_,YS,t3,cw ?_⟩;refine rn ?_;refine⟨[],[],_,_,_,_,Xi,t3,cw ?_⟩;refine rn ?_;refine⟨[],[some 6,some 0,some 3,some 4],_,_,_,⟨tq,.cons (.CO (Lz.of rfl) (.cons tq (.cons tq (.nil)))) (.cons tq (.cons tq (.cons tq (.nil)))),by rfl⟩,rfl,rfl,rfl⟩
theorem Xm:VC E0 35 0 [.s (.int .i64 2)] [] (RR (.tk 0) 4 [(0,.b6 3 [z3,z3,Xf] [(1,DD 2 3),(0,Ga 1)]),(1,Gb),(2,DF),(3,DE)]):=by
 refine VC.cJ L0 (show E0.func 35=some Tryz.f35 by kernel_rfl) (fun _ _=>rfl) rfl rfl [999999] ?_;refine wh ?_;refine rn ?_;refine⟨[],[],_,_,_,_,YS,t3,cw ?_⟩;refine rn ?_;refine⟨[],[],_,_,_,_,Xi,t3,cw ?_⟩;refine rn ?_;refine⟨[],[],_,_,_,_,adZ,t3,cw ?_⟩;refine rn ?_;refine⟨[],[some 8,some 0,some 3,some 4],_,_,_,⟨tq,.cons (.CO (Lz.of rfl) (.cons tq (.cons tq (.nil)))) (.cons tq (.cons tq (.cons tq (.nil)))),by rfl⟩,rfl,rfl,rfl⟩
theorem Xn:VC E0 35 0 [.s (.int .i64 3)] [] (RR (.tk 0) 4 [(0,.b6 3 [z3,z3,Qd] [(1,DD 2 3),(0,Ga 1)]),(1,Gb),(2,DF),(3,DE)]):=by
 refine VC.cJ L0 (show E0.func 35=some Tryz.f35 by kernel_rfl) (fun _ _=>rfl) rfl rfl [999999] ?_;refine wh ?_;refine rn ?_;refine⟨[],[],_,_,_,_,YS,t3,cw ?_⟩;refine rn ?_;refine⟨[],[],_,_,_,_,Xi,t3,cw ?_⟩;refine rn ?_;refine⟨[],[],_,_,_,_,ofC,t3,cw ?_⟩;refine rn ?_;refine⟨[],[some 8,some 0,some 3,some 4],_,_,_,⟨tq,.cons (.CO (Lz.of rfl) (.cons tq (.cons tq (.nil)))) (.cons tq (.cons tq (.cons tq (.nil)))),by rfl⟩,rfl,rfl,rfl⟩
theorem Xo:VC E0 35 0 [.s (.int .i64 5)] [] (RR (.tk 0) 3 [(0,.b6 3 [z3,Qd] [(0,DD 1 2)]),(1,DF),(2,DE)]):=by
 refine VC.cJ L0 (show E0.func 35=some Tryz.f35 by kernel_rfl) (fun _ _=>rfl) rfl rfl [999999] ?_;refine wh ?_;refine rn ?_;refine⟨[],[],_,_,_,_,Xi,t3,cw ?_⟩;refine rn ?_;refine⟨[],[],_,_,_,_,ofC,t3,cw ?_⟩;refine rn ?_;refine⟨[],[some 5,some 0,some 1],_,_,_,⟨tq,.cons (.CO (Lz.of rfl) (.cons tq (.nil))) (.cons tq (.cons tq (.nil))),by rfl⟩,rfl,rfl,rfl⟩
theorem Xp:VC E0 35 0 [.s (.int .i64 7)] [] (RR (.tk 0) 3 [(0,.b6 3 [z3] [(0,DD 1 2)]),(1,DF),(2,DE)]):=by
 refine VC.cJ L0 (show E0.func 35=some Tryz.f35 by kernel_rfl) (fun _ _=>rfl) rfl rfl [999999] ?_;refine wh ?_;refine rn ?_;refine⟨[],[],_,_,_,_,Xi,t3,cw ?_⟩;refine rn ?_;refine⟨[],[some 3,some 0,some 1],_,_,_,⟨tq,.cons (.CO (Lz.of rfl) (.cons tq (.nil))) (.cons tq (.cons tq (.nil))),by rfl⟩,rfl,rfl,rfl⟩
theorem Xq:VC E0 35 0 [.s (.int .i64 8)] [] (RR (.tk 0) 2 [(0,.b6 3 [z3] [(0,Ga 1)]),(1,Gb)]):=by
 refine VC.cJ L0 (show E0.func 35=some Tryz.f35 by kernel_rfl) (fun _ _=>rfl) rfl rfl [999999] ?_;refine wh ?_;refine rn ?_;refine⟨[],[],_,_,_,_,YS,t3,cw ?_⟩;refine rn ?_;refine⟨[],[some 2,some 0],_,_,_,⟨tq,.cons (.CO (Lz.of rfl) (.cons tq (.nil))) (.cons tq (.nil)),by rfl⟩,rfl,rfl,rfl⟩
theorem Xr:VC E0 35 0 [.s (.int .i64 9)] [] (RR (.tk 0) 1 [(0,.arr 3 true [Qd])]):=by
 refine VC.cJ L0 (show E0.func 35=some Tryz.f35 by kernel_rfl) (fun _ _=>rfl) rfl rfl [999999] ?_;refine wh ?_;refine rn ?_;refine⟨[],[],_,_,_,_,ofC,t3,cw ?_⟩;refine rn ?_;exact⟨[],[some 1],_,_,_,t3,rfl,rfl,rfl⟩
end Go.M
