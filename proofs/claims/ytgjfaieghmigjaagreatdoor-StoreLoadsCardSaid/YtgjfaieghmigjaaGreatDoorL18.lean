/-
  Part 18 of the library that the proof leans on.
-/
import Derived.Test.YtgjfaieghmigjaaGreatDoorL16
namespace Go.M
open Go Go.Proofs
set_option maxRecDepth 100000
set_option maxHeartbeats 4000000
@[reducible] def nS0:TV:=.sl 0 [] true
theorem insertN_ok:VC ES 160 0 [nS0,nI 0,nI 0] [] (RR (.tup []) 0 []):=by
 refine VC.enterR LS (show ES.func 160=some Tryz.f160 by kernel_rfl) (fun _ _=>rfl) rfl rfl [999999] ?_
 conv=>whnf
 repeat(first|(refine⟨by first|decide+kernel|(dsimp only;decide+kernel),?_⟩;have hz_:=True.intro;clear hz_;(conv=>whnf))|(refine⟨_,rfl,?_⟩;have hz_:=True.intro;clear hz_;(conv=>whnf))|((try(first|rw[wr0]|rw[wr1]|rw[wr2]|rw[wr3]|rw[wr4]|rw[wr5]|rw[wr6]|rw[wr7]|rw[wr8]|rw[wr9]|rw[wrA]|rw[wrB]|rw[wrC]|rw[wrD]|rw[wrE]));first|(refine⟨fun h_=>?_,fun h_=>absurd (by first|decide+kernel|rfl |(dsimp only;decide+kernel)) h_⟩;clear h_;(conv=>whnf))|(refine⟨fun h_=>absurd h_ (by first|decide+kernel|(dsimp only;decide+kernel)),fun h_=>?_⟩;clear h_;(conv=>whnf))))
 exact⟨[],[],_,_,_,t3,rfl,rfl,rfl⟩
theorem pdqN_ok (lim:Int):VC ES 150 0 [nS0,nI 0,nI 0,.s (.int .i64 lim)] [] (RR (.tup []) 0 []):=by
 refine VC.enterR LS (show ES.func 150=some Tryz.f150 by kernel_rfl) (fun _ _=>rfl) rfl rfl [999999] ?_
 conv=>whnf
 repeat(first|(refine⟨by first|decide+kernel|(dsimp only;decide+kernel),?_⟩;have hz_:=True.intro;clear hz_;(conv=>whnf))|(refine⟨_,rfl,?_⟩;have hz_:=True.intro;clear hz_;(conv=>whnf))|((try(first|rw[wr0]|rw[wr1]|rw[wr2]|rw[wr3]|rw[wr4]|rw[wr5]|rw[wr6]|rw[wr7]|rw[wr8]|rw[wr9]|rw[wrA]|rw[wrB]|rw[wrC]|rw[wrD]|rw[wrE]));first|(refine⟨fun h_=>?_,fun h_=>absurd (by first|decide+kernel|rfl |(dsimp only;decide+kernel)) h_⟩;clear h_;(conv=>whnf))|(refine⟨fun h_=>absurd h_ (by first|decide+kernel|(dsimp only;decide+kernel)),fun h_=>?_⟩;clear h_;(conv=>whnf))))
 refine⟨[],[],_,_,_,_,insertN_ok,t3,cR ?_⟩
 conv=>whnf
 exact⟨[],[],_,_,_,t3,rfl,rfl,rfl⟩
theorem sortN_ok:VC ES 119 0 [nS0] [] (RR (.tup []) 0 []):=by
 refine VC.enterR LS (show ES.func 119=some Tryz.f119 by kernel_rfl) (fun _ _=>rfl) rfl rfl [] ?_
 conv=>whnf
 refine⟨[],[],_,_,_,_,len_i (x:=IntKind.u64.wrap ((0:Nat):Int)) (n:=0) rfl (by omega),t3,?_⟩
 rintro r o' c' ⟨rfl,rfl,rfl⟩
 conv=>whnf
 refine⟨[],[],_,_,_,_,pdqN_ok _,t3,cR ?_⟩
 conv=>whnf
 exact⟨[],[],_,_,_,t3,rfl,rfl,rfl⟩
end Go.M
