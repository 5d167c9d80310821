/-
  Part 24 of the library that the proof leans on.
-/
import Derived.Test.YtgjfaieghmigjaaGreatDoorL23
namespace Go.M
open Go Go.Proofs
set_option maxRecDepth 100000
set_option maxHeartbeats 4000000
theorem equalB (ns:List Int):VC EZ 178 0 [.sl 1 (encU8 ns) false,.sl 1 (encU8 ns) false] [] (RR (.s (.bool true)) 0 []):=by
 refine VC.enterR LZ (show EZ.func 178=some Tryz.f178 by kernel_rfl) (fun _ _=>rfl) rfl rfl [] ?_
 conv=>whnf
 refine⟨ns,rfl,?_⟩
 conv=>whnf
 refine⟨ns,rfl,?_⟩
 conv=>whnf
 (first|refine⟨?_,?_⟩|refine nsplit ?_ ?_|refine bsplit ?_ ?_)<;>intro h<;>have hz_:=True.intro<;>clear hz_
 ·conv=>whnf
  exact⟨[],[],_,_,_,t3,rfl,rfl,rfl⟩
 ·exact absurd rfl h
theorem sameU (u:UpR):VC EZ 177 0 [.agg (encU u),.agg (encU u)] [] (RR (.s (.bool true)) 0 []):=by
 refine VC.enterR LZ (show EZ.func 177=some Tryz.f177 by kernel_rfl) (fun _ _=>rfl) rfl rfl [] ?_
 conv=>whnf
 repeat((first|(refine⟨fun h_=>?_,fun h_=>?_⟩)|(refine nsplit (fun h_=>?_) (fun h_=>?_))|(refine bsplit (fun h_=>?_) (fun h_=>?_)))<;>first|(exfalso;revert h_;decide;done)|(exfalso;revert h_;simp;done)|(have hz_:=True.intro;clear hz_;(conv=>whnf)))
 refine⟨[],[],_,_,_,_,equalB u.data,t3,cR ?_⟩
 conv=>whnf
 exact⟨[],[],_,_,_,t3,rfl,rfl,rfl⟩
theorem equalV0:VC EZ 175 0 [.sl 6 [] false,.sl 6 [] false] [] (RR (.s (.bool true)) 0 []):=by
 refine VC.enterR LZ (show EZ.func 175=some Tryz.f175 by kernel_rfl) (fun _ _=>rfl) rfl rfl [999999] ?_
 conv=>whnf
 repeat(first|(refine⟨by first|decide+kernel|(dsimp only;decide+kernel),?_⟩;have hz_:=True.intro;clear hz_;(conv=>whnf))|(refine⟨_,rfl,?_⟩;have hz_:=True.intro;clear hz_;(conv=>whnf))|((try(first|rw[wr0]|rw[wr1]|rw[wr2]|rw[wr3]|rw[wr4]|rw[wr5]|rw[wr6]|rw[wr7]|rw[wr8]|rw[wr9]|rw[wrA]|rw[wrB]|rw[wrC]|rw[wrD]|rw[wrE]));first|(refine⟨fun h_=>?_,fun h_=>absurd (by first|decide+kernel|rfl |(dsimp only;decide+kernel)) h_⟩;clear h_;(conv=>whnf))|(refine⟨fun h_=>absurd h_ (by first|decide+kernel|(dsimp only;decide+kernel)),fun h_=>?_⟩;clear h_;(conv=>whnf))))
 exact⟨[],[],_,_,_,t3,rfl,rfl,rfl⟩
theorem equalU1 (u:UpR):VC EZ 176 0 [.sl 7 [encU u] false,.sl 7 [encU u] false,.clo 177 [] []] [] (RR (.s (.bool true)) 0 []):=by
 refine VC.enterR LZ (show EZ.func 176=some Tryz.f176 by kernel_rfl) (fun _ _=>rfl) rfl rfl [999999] ?_
 conv=>whnf
 repeat((first|(refine⟨fun h_=>?_,fun h_=>?_⟩)|(refine nsplit (fun h_=>?_) (fun h_=>?_))|(refine bsplit (fun h_=>?_) (fun h_=>?_)))<;>first|(exfalso;revert h_;decide;done)|(exfalso;revert h_;simp;done)|(have hz_:=True.intro;clear hz_;(conv=>whnf)))
 refine⟨encU u,⟨by decide,rfl⟩,?_⟩
 conv=>whnf
 refine⟨encU u,⟨by decide,rfl⟩,?_⟩
 conv=>whnf
 refine⟨[],[],_,_,_,_,sameU u,t3,cR ?_⟩
 conv=>whnf
 rw[wr0]
 repeat((first|(refine⟨fun h_=>?_,fun h_=>?_⟩)|(refine nsplit (fun h_=>?_) (fun h_=>?_))|(refine bsplit (fun h_=>?_) (fun h_=>?_)))<;>first|(exfalso;revert h_;decide;done)|(exfalso;revert h_;simp;done)|(have hz_:=True.intro;clear hz_;(conv=>whnf)))
 exact⟨[],[],_,_,_,t3,rfl,rfl,rfl⟩
theorem equalI0:VC EZ 201 0 [.sl 1 [] false,.sl 1 [] false] [] (RR (.s (.bool true)) 0 []):=by
 refine VC.enterR LZ (show EZ.func 201=some Tryz.f201 by kernel_rfl) (fun _ _=>rfl) rfl rfl [999999] ?_
 conv=>whnf
 repeat(first|(refine⟨by first|decide+kernel|(dsimp only;decide+kernel),?_⟩;have hz_:=True.intro;clear hz_;(conv=>whnf))|(refine⟨_,rfl,?_⟩;have hz_:=True.intro;clear hz_;(conv=>whnf))|((try(first|rw[wr0]|rw[wr1]|rw[wr2]|rw[wr3]|rw[wr4]|rw[wr5]|rw[wr6]|rw[wr7]|rw[wr8]|rw[wr9]|rw[wrA]|rw[wrB]|rw[wrC]|rw[wrD]|rw[wrE]));first|(refine⟨fun h_=>?_,fun h_=>absurd (by first|decide+kernel|rfl |(dsimp only;decide+kernel)) h_⟩;clear h_;(conv=>whnf))|(refine⟨fun h_=>absurd h_ (by first|decide+kernel|(dsimp only;decide+kernel)),fun h_=>?_⟩;clear h_;(conv=>whnf))))
 exact⟨[],[],_,_,_,t3,rfl,rfl,rfl⟩
@[reducible] def zCF:List TV:=[.s (.int .i64 0),.s (.int .u64 0),.sl 1 [] false,.s (.bool false),.s (.int .i64 0)]
theorem sameNo:VC EZ 174 0 [.agg zCF,.agg zCF] [] (RR (.s (.bool true)) 0 []):=by
 refine VC.enterR LZ (show EZ.func 174=some Tryz.f174 by kernel_rfl) (fun _ _=>rfl) rfl rfl [] ?_
 conv=>whnf
 repeat((first|(refine⟨fun h_=>?_,fun h_=>?_⟩)|(refine nsplit (fun h_=>?_) (fun h_=>?_))|(refine bsplit (fun h_=>?_) (fun h_=>?_)))<;>first|(exfalso;revert h_;decide;done)|(exact absurd rfl h_)|(have hz_:=True.intro;clear hz_;(conv=>whnf)))
 refine⟨[],[],_,_,_,_,equalI0,t3,cR ?_⟩
 conv=>whnf
 exact⟨[],[],_,_,_,t3,rfl,rfl,rfl⟩
theorem same12 (u:UpR):VC EZ 157 0 [.agg (encT ⟨12,0,1,0,0,[encU u]⟩),.agg (encT ⟨12,0,1,0,0,[encU u]⟩)] [] (RR (.s (.bool true)) 0 []):=by
 refine VC.enterR LZ (show EZ.func 157=some Tryz.f157 by kernel_rfl) (fun _ _=>rfl) rfl rfl [] ?_
 conv=>whnf
 repeat((first|(refine⟨fun h_=>?_,fun h_=>?_⟩)|(refine nsplit (fun h_=>?_) (fun h_=>?_))|(refine bsplit (fun h_=>?_) (fun h_=>?_)))<;>first|(exfalso;revert h_;decide;done)|(exact absurd rfl h_)|(have hz_:=True.intro;clear hz_;(conv=>whnf)))
 refine⟨[],[],_,_,_,_,sameNo,t3,cR ?_⟩
 conv=>whnf
 refine⟨[],[],_,_,_,_,equalV0,t3,cR ?_⟩
 conv=>whnf
 refine⟨[],[],_,_,_,_,equalU1 u,t3,cR ?_⟩
 conv=>whnf
 refine⟨[],[],_,_,_,_,equalB [],t3,cR ?_⟩
 conv=>whnf
 exact⟨[],[],_,_,_,t3,rfl,rfl,rfl⟩
@[reducible] def prtS1 (i j:Nat):List TV:=[.clo 203 [] [],.clo 220 [] [.ptr i 0,.ptr j 0],.clo 221 [] [.ptr j 0,.ptr i 0]]
@[reducible] def prtW (g:Nat) (i:Nat):List TV:=[.clo g [] [],.clo 222 [] [.ptr i 0],.clo 223 [] [.ptr i 0]]
@[reducible] def prtU:List TV:=[.clo 244 [] [],.clo 245 [] [],.clo 246 [] []]
@[reducible] def boxF (g:Nat):TO:=.cells [.clo g [] []]
@[reducible] def boxI (k:Int):TO:=.cells [.s (.int .i64 k)]
theorem smallC:VC EZ 202 0 [.s (.int .i64 1),.clo 203 [] [],.clo 204 [] []] [] (RR (.agg (prtS1 0 1)) 2 [(0,boxF 204),(1,boxI 1)]):=by
 refine VC.enterR LZ (show EZ.func 202=some Tryz.f202 by kernel_rfl) (fun _ _=>rfl) rfl rfl [] ?_
 conv=>whnf
 exact⟨[],[some 1,some 0],_,_,_,t3,rfl,rfl,rfl⟩
theorem wordC (g k:Nat):VC EZ 207 0 [.clo g [] [],.clo k [] []] [] (RR (.agg (prtW g 0)) 1 [(0,boxF k)]):=by
 refine VC.enterR LZ (show EZ.func 207=some Tryz.f207 by kernel_rfl) (fun _ _=>rfl) rfl rfl [] ?_
 conv=>whnf
 exact⟨[],[some 0],_,_,_,t3,rfl,rfl,rfl⟩
theorem of1:VC EZ 194 0 [.s (.int .i64 1)] [] (RR (.agg (prtS1 0 1)) 2 [(0,boxF 204),(1,boxI 1)]):=by
 refine VC.enterR LZ (show EZ.func 194=some Tryz.f194 by kernel_rfl) (fun _ _=>rfl) rfl rfl [] ?_
 conv=>whnf
 repeat(first|(refine⟨by first|decide+kernel|(dsimp only;decide+kernel),?_⟩;have hz_:=True.intro;clear hz_;(conv=>whnf))|(refine⟨_,rfl,?_⟩;have hz_:=True.intro;clear hz_;(conv=>whnf))|((try(first|rw[wr0]|rw[wr1]|rw[wr2]|rw[wr3]|rw[wr4]|rw[wr5]|rw[wr6]|rw[wr7]|rw[wr8]|rw[wr9]|rw[wrA]|rw[wrB]|rw[wrC]|rw[wrD]|rw[wrE]));first|(refine⟨fun h_=>?_,fun h_=>absurd (by first|decide+kernel|rfl |(dsimp only;decide+kernel)) h_⟩;clear h_;(conv=>whnf))|(refine⟨fun h_=>absurd h_ (by first|decide+kernel|(dsimp only;decide+kernel)),fun h_=>?_⟩;clear h_;(conv=>whnf))))
 refine⟨[],[],_,_,_,_,smallC,t3,cR ?_⟩
 conv=>whnf
 exact⟨[],[some 1,some 2],_,_,_,t3,rfl,rfl,rfl⟩
theorem of2:VC EZ 194 0 [.s (.int .i64 2)] [] (RR (.agg (prtW 208 0)) 1 [(0,boxF 209)]):=by
 refine VC.enterR LZ (show EZ.func 194=some Tryz.f194 by kernel_rfl) (fun _ _=>rfl) rfl rfl [] ?_
 conv=>whnf
 repeat(first|(refine⟨by first|decide+kernel|(dsimp only;decide+kernel),?_⟩;have hz_:=True.intro;clear hz_;(conv=>whnf))|(refine⟨_,rfl,?_⟩;have hz_:=True.intro;clear hz_;(conv=>whnf))|((try(first|rw[wr0]|rw[wr1]|rw[wr2]|rw[wr3]|rw[wr4]|rw[wr5]|rw[wr6]|rw[wr7]|rw[wr8]|rw[wr9]|rw[wrA]|rw[wrB]|rw[wrC]|rw[wrD]|rw[wrE]));first|(refine⟨fun h_=>?_,fun h_=>absurd (by first|decide+kernel|rfl |(dsimp only;decide+kernel)) h_⟩;clear h_;(conv=>whnf))|(refine⟨fun h_=>absurd h_ (by first|decide+kernel|(dsimp only;decide+kernel)),fun h_=>?_⟩;clear h_;(conv=>whnf))))
 refine⟨[],[],_,_,_,_,wordC 208 209,t3,cR ?_⟩
 conv=>whnf
 exact⟨[],[some 1],_,_,_,t3,rfl,rfl,rfl⟩
theorem of8:VC EZ 194 0 [.s (.int .i64 8)] [] (RR (.agg (prtW 213 0)) 1 [(0,boxF 214)]):=by
 refine VC.enterR LZ (show EZ.func 194=some Tryz.f194 by kernel_rfl) (fun _ _=>rfl) rfl rfl [] ?_
 conv=>whnf
 repeat(first|(refine⟨by first|decide+kernel|(dsimp only;decide+kernel),?_⟩;have hz_:=True.intro;clear hz_;(conv=>whnf))|(refine⟨_,rfl,?_⟩;have hz_:=True.intro;clear hz_;(conv=>whnf))|((try(first|rw[wr0]|rw[wr1]|rw[wr2]|rw[wr3]|rw[wr4]|rw[wr5]|rw[wr6]|rw[wr7]|rw[wr8]|rw[wr9]|rw[wrA]|rw[wrB]|rw[wrC]|rw[wrD]|rw[wrE]));first|(refine⟨fun h_=>?_,fun h_=>absurd (by first|decide+kernel|rfl |(dsimp only;decide+kernel)) h_⟩;clear h_;(conv=>whnf))|(refine⟨fun h_=>absurd h_ (by first|decide+kernel|(dsimp only;decide+kernel)),fun h_=>?_⟩;clear h_;(conv=>whnf))))
 refine⟨[],[],_,_,_,_,wordC 213 214,t3,cR ?_⟩
 conv=>whnf
 exact⟨[],[some 1],_,_,_,t3,rfl,rfl,rfl⟩
theorem of16:VC EZ 194 0 [.s (.int .i64 16)] [] (RR (.agg (prtW 213 0)) 1 [(0,boxF 215)]):=by
 refine VC.enterR LZ (show EZ.func 194=some Tryz.f194 by kernel_rfl) (fun _ _=>rfl) rfl rfl [] ?_
 conv=>whnf
 repeat(first|(refine⟨by first|decide+kernel|(dsimp only;decide+kernel),?_⟩;have hz_:=True.intro;clear hz_;(conv=>whnf))|(refine⟨_,rfl,?_⟩;have hz_:=True.intro;clear hz_;(conv=>whnf))|((try(first|rw[wr0]|rw[wr1]|rw[wr2]|rw[wr3]|rw[wr4]|rw[wr5]|rw[wr6]|rw[wr7]|rw[wr8]|rw[wr9]|rw[wrA]|rw[wrB]|rw[wrC]|rw[wrD]|rw[wrE]));first|(refine⟨fun h_=>?_,fun h_=>absurd (by first|decide+kernel|rfl |(dsimp only;decide+kernel)) h_⟩;clear h_;(conv=>whnf))|(refine⟨fun h_=>absurd h_ (by first|decide+kernel|(dsimp only;decide+kernel)),fun h_=>?_⟩;clear h_;(conv=>whnf))))
 refine⟨[],[],_,_,_,_,wordC 213 215,t3,cR ?_⟩
 conv=>whnf
 exact⟨[],[some 1],_,_,_,t3,rfl,rfl,rfl⟩
theorem otherU:VC EZ 218 0 [.s (.int .i64 8192)] [] (RR (.agg prtU) 0 []):=by
 refine VC.enterR LZ (show EZ.func 218=some Tryz.f218 by kernel_rfl) (fun _ _=>rfl) rfl rfl [] ?_
 conv=>whnf
 repeat(first|(refine⟨by first|decide+kernel|(dsimp only;decide+kernel),?_⟩;have hz_:=True.intro;clear hz_;(conv=>whnf))|(refine⟨_,rfl,?_⟩;have hz_:=True.intro;clear hz_;(conv=>whnf))|((try(first|rw[wr0]|rw[wr1]|rw[wr2]|rw[wr3]|rw[wr4]|rw[wr5]|rw[wr6]|rw[wr7]|rw[wr8]|rw[wr9]|rw[wrA]|rw[wrB]|rw[wrC]|rw[wrD]|rw[wrE]));first|(refine⟨fun h_=>?_,fun h_=>absurd (by first|decide+kernel|rfl |(dsimp only;decide+kernel)) h_⟩;clear h_;(conv=>whnf))|(refine⟨fun h_=>absurd h_ (by first|decide+kernel|(dsimp only;decide+kernel)),fun h_=>?_⟩;clear h_;(conv=>whnf))))
 exact⟨[],[],_,_,_,t3,rfl,rfl,rfl⟩
theorem ofU:VC EZ 194 0 [.s (.int .i64 8192)] [] (RR (.agg prtU) 0 []):=by
 refine VC.enterR LZ (show EZ.func 194=some Tryz.f194 by kernel_rfl) (fun _ _=>rfl) rfl rfl [] ?_
 conv=>whnf
 repeat(first|(refine⟨by first|decide+kernel|(dsimp only;decide+kernel),?_⟩;have hz_:=True.intro;clear hz_;(conv=>whnf))|(refine⟨_,rfl,?_⟩;have hz_:=True.intro;clear hz_;(conv=>whnf))|((try(first|rw[wr0]|rw[wr1]|rw[wr2]|rw[wr3]|rw[wr4]|rw[wr5]|rw[wr6]|rw[wr7]|rw[wr8]|rw[wr9]|rw[wrA]|rw[wrB]|rw[wrC]|rw[wrD]|rw[wrE]));first|(refine⟨fun h_=>?_,fun h_=>absurd (by first|decide+kernel|rfl |(dsimp only;decide+kernel)) h_⟩;clear h_;(conv=>whnf))|(refine⟨fun h_=>absurd h_ (by first|decide+kernel|(dsimp only;decide+kernel)),fun h_=>?_⟩;clear h_;(conv=>whnf))))
 refine⟨[],[],_,_,_,_,otherU,t3,cR ?_⟩
 conv=>whnf
 exact⟨[],[],_,_,_,t3,rfl,rfl,rfl⟩
@[reducible] def z3:List TV:=[.s .nilFunc,.s .nilFunc,.s .nilFunc]
theorem parts12:VC EZ 159 0 [.s (.int .i64 12)] [] (RR (.tk 0) 6 [(0,.arq 3 [z3,z3,z3,z3,prtU] [(3,prtW 213 5),(2,prtW 213 4),(1,prtW 208 3),(0,prtS1 1 2)]),(1,boxF 204),(2,boxI 1),(3,boxF 209),(4,boxF 214),(5,boxF 215)]):=by
 refine VC.enterR LZ (show EZ.func 159=some Tryz.f159 by kernel_rfl) (fun _ _=>rfl) rfl rfl [999999] ?_
 conv=>whnf
 repeat(first|(refine⟨by first|decide+kernel|(dsimp only;decide+kernel),?_⟩;have hz_:=True.intro;clear hz_;(conv=>whnf))|(refine⟨_,rfl,?_⟩;have hz_:=True.intro;clear hz_;(conv=>whnf))|((try(first|rw[wr0]|rw[wr1]|rw[wr2]|rw[wr3]|rw[wr4]|rw[wr5]|rw[wr6]|rw[wr7]|rw[wr8]|rw[wr9]|rw[wrA]|rw[wrB]|rw[wrC]|rw[wrD]|rw[wrE]));first|(refine⟨fun h_=>?_,fun h_=>absurd (by first|decide+kernel|rfl |(dsimp only;decide+kernel)) h_⟩;clear h_;(conv=>whnf))|(refine⟨fun h_=>absurd h_ (by first|decide+kernel|(dsimp only;decide+kernel)),fun h_=>?_⟩;clear h_;(conv=>whnf))))
 refine⟨[],[],_,_,_,_,of1,t3,cR ?_⟩
 conv=>whnf
 repeat(first|(refine⟨by first|decide+kernel|(dsimp only;decide+kernel),?_⟩;have hz_:=True.intro;clear hz_;(conv=>whnf))|(refine⟨_,rfl,?_⟩;have hz_:=True.intro;clear hz_;(conv=>whnf))|((try(first|rw[wr0]|rw[wr1]|rw[wr2]|rw[wr3]|rw[wr4]|rw[wr5]|rw[wr6]|rw[wr7]|rw[wr8]|rw[wr9]|rw[wrA]|rw[wrB]|rw[wrC]|rw[wrD]|rw[wrE]));first|(refine⟨fun h_=>?_,fun h_=>absurd (by first|decide+kernel|rfl |(dsimp only;decide+kernel)) h_⟩;clear h_;(conv=>whnf))|(refine⟨fun h_=>absurd h_ (by first|decide+kernel|(dsimp only;decide+kernel)),fun h_=>?_⟩;clear h_;(conv=>whnf))))
 refine⟨[],[],_,_,_,_,of2,t3,cR ?_⟩
 conv=>whnf
 repeat(first|(refine⟨by first|decide+kernel|(dsimp only;decide+kernel),?_⟩;have hz_:=True.intro;clear hz_;(conv=>whnf))|(refine⟨_,rfl,?_⟩;have hz_:=True.intro;clear hz_;(conv=>whnf))|((try(first|rw[wr0]|rw[wr1]|rw[wr2]|rw[wr3]|rw[wr4]|rw[wr5]|rw[wr6]|rw[wr7]|rw[wr8]|rw[wr9]|rw[wrA]|rw[wrB]|rw[wrC]|rw[wrD]|rw[wrE]));first|(refine⟨fun h_=>?_,fun h_=>absurd (by first|decide+kernel|rfl |(dsimp only;decide+kernel)) h_⟩;clear h_;(conv=>whnf))|(refine⟨fun h_=>absurd h_ (by first|decide+kernel|(dsimp only;decide+kernel)),fun h_=>?_⟩;clear h_;(conv=>whnf))))
 refine⟨[],[],_,_,_,_,of8,t3,cR ?_⟩
 conv=>whnf
 repeat(first|(refine⟨by first|decide+kernel|(dsimp only;decide+kernel),?_⟩;have hz_:=True.intro;clear hz_;(conv=>whnf))|(refine⟨_,rfl,?_⟩;have hz_:=True.intro;clear hz_;(conv=>whnf))|((try(first|rw[wr0]|rw[wr1]|rw[wr2]|rw[wr3]|rw[wr4]|rw[wr5]|rw[wr6]|rw[wr7]|rw[wr8]|rw[wr9]|rw[wrA]|rw[wrB]|rw[wrC]|rw[wrD]|rw[wrE]));first|(refine⟨fun h_=>?_,fun h_=>absurd (by first|decide+kernel|rfl |(dsimp only;decide+kernel)) h_⟩;clear h_;(conv=>whnf))|(refine⟨fun h_=>absurd h_ (by first|decide+kernel|(dsimp only;decide+kernel)),fun h_=>?_⟩;clear h_;(conv=>whnf))))
 refine⟨[],[],_,_,_,_,of16,t3,cR ?_⟩
 conv=>whnf
 repeat(first|(refine⟨by first|decide+kernel|(dsimp only;decide+kernel),?_⟩;have hz_:=True.intro;clear hz_;(conv=>whnf))|(refine⟨_,rfl,?_⟩;have hz_:=True.intro;clear hz_;(conv=>whnf))|((try(first|rw[wr0]|rw[wr1]|rw[wr2]|rw[wr3]|rw[wr4]|rw[wr5]|rw[wr6]|rw[wr7]|rw[wr8]|rw[wr9]|rw[wrA]|rw[wrB]|rw[wrC]|rw[wrD]|rw[wrE]));first|(refine⟨fun h_=>?_,fun h_=>absurd (by first|decide+kernel|rfl |(dsimp only;decide+kernel)) h_⟩;clear h_;(conv=>whnf))|(refine⟨fun h_=>absurd h_ (by first|decide+kernel|(dsimp only;decide+kernel)),fun h_=>?_⟩;clear h_;(conv=>whnf))))
 refine⟨[],[],_,_,_,_,ofU,t3,cR ?_⟩
 conv=>whnf
 repeat(first|(refine⟨by first|decide+kernel|(dsimp only;decide+kernel),?_⟩;have hz_:=True.intro;clear hz_;(conv=>whnf))|(refine⟨_,rfl,?_⟩;have hz_:=True.intro;clear hz_;(conv=>whnf))|((try(first|rw[wr0]|rw[wr1]|rw[wr2]|rw[wr3]|rw[wr4]|rw[wr5]|rw[wr6]|rw[wr7]|rw[wr8]|rw[wr9]|rw[wrA]|rw[wrB]|rw[wrC]|rw[wrD]|rw[wrE]));first|(refine⟨fun h_=>?_,fun h_=>absurd (by first|decide+kernel|rfl |(dsimp only;decide+kernel)) h_⟩;clear h_;(conv=>whnf))|(refine⟨fun h_=>absurd h_ (by first|decide+kernel|(dsimp only;decide+kernel)),fun h_=>?_⟩;clear h_;(conv=>whnf))))
 refine⟨[],[some 14,some 0,some 1,some 4,some 7,some 10],_,_,_,⟨by(repeat' first|exact LF|constructor),.cons (.arqv (Lz.of rfl) (.cons (by(repeat' first|exact LF|constructor)) (.cons (by(repeat' first|exact LF|constructor)) (.cons (by(repeat' first|exact LF|constructor)) (.cons (by(repeat' first|exact LF|constructor)) .nil))))) (.cons (by(repeat' first|exact LF|constructor)) (.cons (by(repeat' first|exact LF|constructor)) (.cons (by(repeat' first|exact LF|constructor)) (.cons (by(repeat' first|exact LF|constructor)) (.cons (by(repeat' first|exact LF|constructor)) .nil))))),by rfl⟩,rfl,rfl,rfl⟩
end Go.M
