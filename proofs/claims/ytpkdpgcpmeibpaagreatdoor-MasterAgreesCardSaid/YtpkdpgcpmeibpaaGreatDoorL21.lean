/-
  Part 21 of the library that the proof leans on.
-/
import Derived.Test.YtpkdpgcpmeibpaaGreatDoorL12
import Derived.Test.YtpkdpgcpmeibpaaGreatDoorL20
namespace Go.M
open Go Go.Proofs
set_option maxRecDepth 100000
set_option maxHeartbeats 4000000
@[reducible] def GU (i:Nat):List TV:=[.dc 121 [] [],.dc 154 [] [.ptr i 0],.dc 155 [] [.ptr i 0]]
@[reducible] def Ee (i j:Nat):List TV:=[.dc 116 [] [],.dc 150 [] [.ptr i 0,.ptr j 0],.dc 152 [] [.ptr j 0,.ptr i 0]]
@[reducible] def Qc:List TV:=[.dc 161 [] [],.dc 162 [] [],.dc 164 [] []]
@[reducible] def WR:List TV:=[.dc 169 [] [],.dc 171 [] [],.dc 172 [] []]
@[reducible] def GV:TO:=.cells [.dc 123 [] []]
@[reducible] def Ef:TO:=.cells [.s (.int .i64 2)]
@[reducible] def Eg:TO:=.cells [.dc 117 [] []]
theorem aaw:VC E0 118 0 [.dc 121 [] [],.dc 123 [] []] [] (RR (.agg (GU 0)) 1 [(0,GV)]):=by
 refine en L0 Tryz.f118 ?_;exact⟨[],[some 0],_,_,_,t3,rfl,rfl,rfl⟩
theorem WS:VC E0 113 0 [.s (.int .i64 2),.dc 116 [] [],.dc 117 [] []] [] (RR (.agg (Ee 0 1)) 2 [(0,Eg),(1,Ef)]):=by
 refine en L0 Tryz.f113 ?_;exact⟨[],[some 1,some 0],_,_,_,t3,rfl,rfl,rfl⟩
theorem Tn:VC E0 129 0 [.s (.int .i64 1024)] [] (RR (.agg Qc) 0 []):=by
 refine en L0 Tryz.f129 ?_;refine rn ?_;exact⟨[],[],_,_,_,t3,rfl,rfl,rfl⟩
theorem WT:VC E0 129 0 [.s (.int .i64 4096)] [] (RR (.agg WR) 0 []):=by
 refine en L0 Tryz.f129 ?_;refine rn ?_;exact⟨[],[],_,_,_,t3,rfl,rfl,rfl⟩
theorem Yo:VC E0 92 0 [.s (.int .i64 4)] [] (RR (.agg (GU 0)) 1 [(0,GV)]):=by
 refine en L0 Tryz.f92 ?_;refine rn ?_;refine⟨[],[],_,_,_,_,aaw,t3,cw ?_⟩;exact⟨[],[some 1],_,_,_,t3,rfl,rfl,rfl⟩
theorem WU:VC E0 92 0 [.s (.int .i64 32)] [] (RR (.agg (Ee 0 1)) 2 [(0,Eg),(1,Ef)]):=by
 refine en L0 Tryz.f92 ?_;refine rn ?_;refine⟨[],[],_,_,_,_,WS,t3,cw ?_⟩;exact⟨[],[some 1,some 2],_,_,_,t3,rfl,rfl,rfl⟩
theorem ofC:VC E0 92 0 [.s (.int .i64 1024)] [] (RR (.agg Qc) 0 []):=by
 refine en L0 Tryz.f92 ?_;refine rn ?_;refine⟨[],[],_,_,_,_,Tn,t3,cw ?_⟩;exact⟨[],[],_,_,_,t3,rfl,rfl,rfl⟩
theorem adv:VC E0 92 0 [.s (.int .i64 4096)] [] (RR (.agg WR) 0 []):=by
 refine en L0 Tryz.f92 ?_;refine rn ?_;refine⟨[],[],_,_,_,_,WT,t3,cw ?_⟩;exact⟨[],[],_,_,_,t3,rfl,rfl,rfl⟩
@[reducible] def z3:List TV:=[.s .nilFunc,.s .nilFunc,.s .nilFunc]
theorem WV:VC E0 41 0 [.s (.int .i64 1)] [] (RR (.tk 0) 4 [(0,.bB 3 [z3,z3] [(1,Ee 2 3),(0,GU 1)]),(1,GV),(2,Eg),(3,Ef)]):=by
 refine VC.cV L0 (show E0.func 41=some Tryz.f41 by kernel_rfl) (fun _ _=>rfl) rfl rfl [999999] ?_;refine wh ?_;refine rn ?_;refine⟨[],[],_,_,_,_,Yo,t3,cw ?_⟩;refine rn ?_;refine⟨[],[],_,_,_,_,WU,t3,cw ?_⟩;refine rn ?_;refine⟨[],[some 6,some 0,some 3,some 4],_,_,_,⟨tq,.cons (.Dm (Lz.of rfl) (.cons tq (.cons tq (.nil)))) (.cons tq (.cons tq (.cons tq (.nil)))),by rfl⟩,rfl,rfl,rfl⟩
theorem WW:VC E0 41 0 [.s (.int .i64 4)] [] (RR (.tk 0) 4 [(0,.bB 3 [z3,z3] [(1,Ee 2 3),(0,GU 1)]),(1,GV),(2,Eg),(3,Ef)]):=by
 refine VC.cV L0 (show E0.func 41=some Tryz.f41 by kernel_rfl) (fun _ _=>rfl) rfl rfl [999999] ?_;refine wh ?_;refine rn ?_;refine⟨[],[],_,_,_,_,Yo,t3,cw ?_⟩;refine rn ?_;refine⟨[],[],_,_,_,_,WU,t3,cw ?_⟩;refine rn ?_;refine⟨[],[some 6,some 0,some 3,some 4],_,_,_,⟨tq,.cons (.Dm (Lz.of rfl) (.cons tq (.cons tq (.nil)))) (.cons tq (.cons tq (.cons tq (.nil)))),by rfl⟩,rfl,rfl,rfl⟩
theorem WX:VC E0 41 0 [.s (.int .i64 6)] [] (RR (.tk 0) 4 [(0,.bB 3 [z3,z3] [(1,Ee 2 3),(0,GU 1)]),(1,GV),(2,Eg),(3,Ef)]):=by
 refine VC.cV L0 (show E0.func 41=some Tryz.f41 by kernel_rfl) (fun _ _=>rfl) rfl rfl [999999] ?_;refine wh ?_;refine rn ?_;refine⟨[],[],_,_,_,_,Yo,t3,cw ?_⟩;refine rn ?_;refine⟨[],[],_,_,_,_,WU,t3,cw ?_⟩;refine rn ?_;refine⟨[],[some 6,some 0,some 3,some 4],_,_,_,⟨tq,.cons (.Dm (Lz.of rfl) (.cons tq (.cons tq (.nil)))) (.cons tq (.cons tq (.cons tq (.nil)))),by rfl⟩,rfl,rfl,rfl⟩
theorem WY:VC E0 41 0 [.s (.int .i64 2)] [] (RR (.tk 0) 4 [(0,.bB 3 [z3,z3,WR] [(1,Ee 2 3),(0,GU 1)]),(1,GV),(2,Eg),(3,Ef)]):=by
 refine VC.cV L0 (show E0.func 41=some Tryz.f41 by kernel_rfl) (fun _ _=>rfl) rfl rfl [999999] ?_;refine wh ?_;refine rn ?_;refine⟨[],[],_,_,_,_,Yo,t3,cw ?_⟩;refine rn ?_;refine⟨[],[],_,_,_,_,WU,t3,cw ?_⟩;refine rn ?_;refine⟨[],[],_,_,_,_,adv,t3,cw ?_⟩;refine rn ?_;refine⟨[],[some 8,some 0,some 3,some 4],_,_,_,⟨tq,.cons (.Dm (Lz.of rfl) (.cons tq (.cons tq (.nil)))) (.cons tq (.cons tq (.cons tq (.nil)))),by rfl⟩,rfl,rfl,rfl⟩
theorem WZ:VC E0 41 0 [.s (.int .i64 3)] [] (RR (.tk 0) 4 [(0,.bB 3 [z3,z3,Qc] [(1,Ee 2 3),(0,GU 1)]),(1,GV),(2,Eg),(3,Ef)]):=by
 refine VC.cV L0 (show E0.func 41=some Tryz.f41 by kernel_rfl) (fun _ _=>rfl) rfl rfl [999999] ?_;refine wh ?_;refine rn ?_;refine⟨[],[],_,_,_,_,Yo,t3,cw ?_⟩;refine rn ?_;refine⟨[],[],_,_,_,_,WU,t3,cw ?_⟩;refine rn ?_;refine⟨[],[],_,_,_,_,ofC,t3,cw ?_⟩;refine rn ?_;refine⟨[],[some 8,some 0,some 3,some 4],_,_,_,⟨tq,.cons (.Dm (Lz.of rfl) (.cons tq (.cons tq (.nil)))) (.cons tq (.cons tq (.cons tq (.nil)))),by rfl⟩,rfl,rfl,rfl⟩
theorem W1:VC E0 41 0 [.s (.int .i64 5)] [] (RR (.tk 0) 3 [(0,.bB 3 [z3,Qc] [(0,Ee 1 2)]),(1,Eg),(2,Ef)]):=by
 refine VC.cV L0 (show E0.func 41=some Tryz.f41 by kernel_rfl) (fun _ _=>rfl) rfl rfl [999999] ?_;refine wh ?_;refine rn ?_;refine⟨[],[],_,_,_,_,WU,t3,cw ?_⟩;refine rn ?_;refine⟨[],[],_,_,_,_,ofC,t3,cw ?_⟩;refine rn ?_;refine⟨[],[some 5,some 0,some 1],_,_,_,⟨tq,.cons (.Dm (Lz.of rfl) (.cons tq (.nil))) (.cons tq (.cons tq (.nil))),by rfl⟩,rfl,rfl,rfl⟩
theorem W2:VC E0 41 0 [.s (.int .i64 7)] [] (RR (.tk 0) 3 [(0,.bB 3 [z3] [(0,Ee 1 2)]),(1,Eg),(2,Ef)]):=by
 refine VC.cV L0 (show E0.func 41=some Tryz.f41 by kernel_rfl) (fun _ _=>rfl) rfl rfl [999999] ?_;refine wh ?_;refine rn ?_;refine⟨[],[],_,_,_,_,WU,t3,cw ?_⟩;refine rn ?_;refine⟨[],[some 3,some 0,some 1],_,_,_,⟨tq,.cons (.Dm (Lz.of rfl) (.cons tq (.nil))) (.cons tq (.cons tq (.nil))),by rfl⟩,rfl,rfl,rfl⟩
theorem W3:VC E0 41 0 [.s (.int .i64 8)] [] (RR (.tk 0) 2 [(0,.bB 3 [z3] [(0,GU 1)]),(1,GV)]):=by
 refine VC.cV L0 (show E0.func 41=some Tryz.f41 by kernel_rfl) (fun _ _=>rfl) rfl rfl [999999] ?_;refine wh ?_;refine rn ?_;refine⟨[],[],_,_,_,_,Yo,t3,cw ?_⟩;refine rn ?_;refine⟨[],[some 2,some 0],_,_,_,⟨tq,.cons (.Dm (Lz.of rfl) (.cons tq (.nil))) (.cons tq (.nil)),by rfl⟩,rfl,rfl,rfl⟩
theorem W4:VC E0 41 0 [.s (.int .i64 9)] [] (RR (.tk 0) 1 [(0,.arr 3 true [Qc])]):=by
 refine VC.cV L0 (show E0.func 41=some Tryz.f41 by kernel_rfl) (fun _ _=>rfl) rfl rfl [999999] ?_;refine wh ?_;refine rn ?_;refine⟨[],[],_,_,_,_,ofC,t3,cw ?_⟩;refine rn ?_;exact⟨[],[some 1],_,_,_,t3,rfl,rfl,rfl⟩
end Go.M
