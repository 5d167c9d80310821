/-
  Part 19 of the library that the proof leans on.
-/
import Derived.Test.YthaboieeoopmjaaGreatDoorL12
import Derived.Test.YthaboieeoopmjaaGreatDoorL17
import Derived.Test.YthaboieeoopmjaaGreatDoorL18
namespace Go.M
open Go Go.Proofs
set_option maxRecDepth 100000
set_option maxHeartbeats 4000000
structure bS where
 kind:Int
 ak:Int
 to:Int
 ao:Int
 slot:Int
 cmd:b8
 Aw:CF
 eg:List ai
@[reducible] def bu (m:bS):List TV:=[.s (.int .i64 m.kind),.s (.int .i64 m.ak),.s (.int .i64 m.to),.s (.int .i64 0),.s (.int .u64 0),.s (.int .u64 m.ao),.s (.int .u64 0),.s (.int .u64 0),.s (.int .u64 0),.s (.int .u64 0),.s (.int .i64 m.slot),.s (.int .u32 0),.s (.int .i64 0),
 .s (.int .i64 m.cmd.kind),.s (.int .i64 m.cmd.chain),.s (.int .u64 m.cmd.aq),.s (.int .i64 m.cmd.node),.s (.int .i64 m.Aw.chain),.s (.int .u64 m.Aw.aq),.sl 1 (m.Aw.nodes.map aW) false,.s (.bool m.Aw.fresh),.s (.int .i64 m.Aw.join),cQ m.eg,.sl 7 [] false,.sl 1 [] false]
@[reducible] def Vi (m m':bS):Ob:=[(0,.cells (bu m)),(1,.cells (bu m'))]
theorem jk (m m':bS):VC E0 68 2 [.ptr 0 0,.ptr 1 0] (Vi m m') (RR (.c4 []) 2 (Vi m {m' with ao:=m.ao})):=by
 refine en L0 Tryz.f68 ?_;exact⟨[],[some 0,some 1],_,_,_,t3,rfl,rfl,rfl⟩
theorem lz (m m':bS):VC E0 71 2 [.ptr 0 0,.ptr 1 0] (Vi m m') (RR (.c4 []) 2 (Vi m {m' with slot:=m.slot})):=by
 refine en L0 Tryz.f71 ?_;exact⟨[],[some 0,some 1],_,_,_,t3,rfl,rfl,rfl⟩
theorem DC (m m':bS):VC E0 76 2 [.ptr 0 0,.ptr 1 0] (Vi m m') (RR (.c4 []) 2 (Vi m {m' with cmd:=m.cmd})):=by
 refine en L0 Tryz.f76 ?_;exact⟨[],[some 0,some 1],_,_,_,t3,rfl,rfl,rfl⟩
theorem Ml (m m':bS):VC E0 78 2 [.ptr 0 0,.ptr 1 0] (Vi m m') (RR (.c4 []) 2 (Vi m {m' with eg:=m.eg})):=by
 refine en L0 Tryz.f78 ?_;exact⟨[],[some 0,some 1],_,_,_,t3,rfl,rfl,rfl⟩
theorem BD:IntKind.i64.wrap ↑(BitVec.ofInt IntKind.i64.bits 0|||BitVec.ofInt IntKind.i64.bits 4).toNat=4:=rfl
theorem P7:IntKind.i64.wrap ↑(BitVec.ofInt IntKind.i64.bits 0|||BitVec.ofInt IntKind.i64.bits 32).toNat=32:=rfl
theorem P8:IntKind.i64.wrap ↑(BitVec.ofInt IntKind.i64.bits 0|||BitVec.ofInt IntKind.i64.bits 1024).toNat=1024:=rfl
theorem za:IntKind.i64.wrap ↑(BitVec.ofInt IntKind.i64.bits 4|||BitVec.ofInt IntKind.i64.bits 32).toNat=36:=rfl
theorem Mm:IntKind.i64.wrap ↑(BitVec.ofInt IntKind.i64.bits 36|||BitVec.ofInt IntKind.i64.bits 4096).toNat=4132:=rfl
theorem Mn:IntKind.i64.wrap ↑(BitVec.ofInt IntKind.i64.bits 36|||BitVec.ofInt IntKind.i64.bits 1024).toNat=1060:=rfl
theorem Mo:IntKind.i64.wrap ↑(BitVec.ofInt IntKind.i64.bits 32|||BitVec.ofInt IntKind.i64.bits 1024).toNat=1056:=rfl
theorem IU:IntKind.i64.wrap ↑(BitVec.ofInt IntKind.i64.bits 36|||BitVec.ofInt IntKind.i64.bits 0).toNat=36:=rfl
theorem P9:IntKind.i64.wrap ↑(BitVec.ofInt IntKind.i64.bits 4132|||BitVec.ofInt IntKind.i64.bits 0).toNat=4132:=rfl
theorem Qa:IntKind.i64.wrap ↑(BitVec.ofInt IntKind.i64.bits 1060|||BitVec.ofInt IntKind.i64.bits 0).toNat=1060:=rfl
theorem Qb:IntKind.i64.wrap ↑(BitVec.ofInt IntKind.i64.bits 1056|||BitVec.ofInt IntKind.i64.bits 0).toNat=1056:=rfl
theorem Xd:IntKind.i64.wrap ↑(BitVec.ofInt IntKind.i64.bits 32|||BitVec.ofInt IntKind.i64.bits 0).toNat=32:=rfl
theorem aaX:IntKind.i64.wrap ↑(BitVec.ofInt IntKind.i64.bits 4|||BitVec.ofInt IntKind.i64.bits 0).toNat=4:=rfl
theorem Qc:IntKind.i64.wrap ↑(BitVec.ofInt IntKind.i64.bits 1024|||BitVec.ofInt IntKind.i64.bits 0).toNat=1024:=rfl
theorem aaY (ak to b s:Int):VC E0 34 0 [.agg (bu ⟨1,ak,to,b,s,aF,aS,[]⟩)] [] (RR (.agg (bu ⟨1,ak,to,b,s,aF,aS,[]⟩)) 0 []):=by
 refine VC.cJ L0 (show E0.func 34=some Tryz.f34 by kernel_rfl) (fun _ _=>rfl) rfl rfl [999999] ?_;refine wh ?_
 repeat(first|(refine⟨by first|decide+kernel|(dsimp only;decide+kernel),?_⟩;have bj:=True.intro;clear bj;(conv=>whnf))|(refine⟨_,rfl,?_⟩;have bj:=True.intro;clear bj;(conv=>whnf))|((try(first|rw[RE]|rw[RF]|rw[RG]|rw[RH]|rw[RJ]|rw[RL]|rw[RM]|rw[RN]|rw[RO]|rw[RP]|rw[RT]|rw[RU]|rw[RV]|rw[RW]|rw[RX]));(try rw[BD]);(try rw[za]);(try rw[IU]);first|(refine⟨fun h_=>?_,fun h_=>absurd (by first|decide+kernel|rfl |(dsimp only;decide+kernel)) h_⟩;clear h_;(conv=>whnf))|(refine⟨fun h_=>absurd h_ (by first|decide+kernel|(dsimp only;decide+kernel)),fun h_=>?_⟩;clear h_;(conv=>whnf))))
 refine⟨[],[some 0,some 2],_,_,_,_,jk ⟨1,ak,to,b,s,aF,aS,[]⟩ ⟨1,ak,to,0,0,aF,aS,[]⟩,t3,cw ?_⟩;refine rn ?_;refine⟨[],[some 0,some 2],_,_,_,_,lz ⟨1,ak,to,b,s,aF,aS,[]⟩ ⟨1,ak,to,b,0,aF,aS,[]⟩,t3,cw ?_⟩;refine rn ?_;exact⟨[],[],_,_,_,t3,rfl,rfl,rfl⟩
theorem aaZ (ak to b s:Int):VC E0 34 0 [.agg (bu ⟨4,ak,to,b,s,aF,aS,[]⟩)] [] (RR (.agg (bu ⟨4,ak,to,b,s,aF,aS,[]⟩)) 0 []):=by
 refine VC.cJ L0 (show E0.func 34=some Tryz.f34 by kernel_rfl) (fun _ _=>rfl) rfl rfl [999999] ?_;refine wh ?_
 repeat(first|(refine⟨by first|decide+kernel|(dsimp only;decide+kernel),?_⟩;have bj:=True.intro;clear bj;(conv=>whnf))|(refine⟨_,rfl,?_⟩;have bj:=True.intro;clear bj;(conv=>whnf))|((try(first|rw[RE]|rw[RF]|rw[RG]|rw[RH]|rw[RJ]|rw[RL]|rw[RM]|rw[RN]|rw[RO]|rw[RP]|rw[RT]|rw[RU]|rw[RV]|rw[RW]|rw[RX]));(try rw[BD]);(try rw[za]);(try rw[IU]);first|(refine⟨fun h_=>?_,fun h_=>absurd (by first|decide+kernel|rfl |(dsimp only;decide+kernel)) h_⟩;clear h_;(conv=>whnf))|(refine⟨fun h_=>absurd h_ (by first|decide+kernel|(dsimp only;decide+kernel)),fun h_=>?_⟩;clear h_;(conv=>whnf))))
 refine⟨[],[some 0,some 2],_,_,_,_,jk ⟨4,ak,to,b,s,aF,aS,[]⟩ ⟨4,ak,to,0,0,aF,aS,[]⟩,t3,cw ?_⟩;refine rn ?_;refine⟨[],[some 0,some 2],_,_,_,_,lz ⟨4,ak,to,b,s,aF,aS,[]⟩ ⟨4,ak,to,b,0,aF,aS,[]⟩,t3,cw ?_⟩;refine rn ?_;exact⟨[],[],_,_,_,t3,rfl,rfl,rfl⟩
theorem aa0 (ak to b s:Int):VC E0 34 0 [.agg (bu ⟨6,ak,to,b,s,aF,aS,[]⟩)] [] (RR (.agg (bu ⟨6,ak,to,b,s,aF,aS,[]⟩)) 0 []):=by
 refine VC.cJ L0 (show E0.func 34=some Tryz.f34 by kernel_rfl) (fun _ _=>rfl) rfl rfl [999999] ?_;refine wh ?_
 repeat(first|(refine⟨by first|decide+kernel|(dsimp only;decide+kernel),?_⟩;have bj:=True.intro;clear bj;(conv=>whnf))|(refine⟨_,rfl,?_⟩;have bj:=True.intro;clear bj;(conv=>whnf))|((try(first|rw[RE]|rw[RF]|rw[RG]|rw[RH]|rw[RJ]|rw[RL]|rw[RM]|rw[RN]|rw[RO]|rw[RP]|rw[RT]|rw[RU]|rw[RV]|rw[RW]|rw[RX]));(try rw[BD]);(try rw[za]);(try rw[IU]);first|(refine⟨fun h_=>?_,fun h_=>absurd (by first|decide+kernel|rfl |(dsimp only;decide+kernel)) h_⟩;clear h_;(conv=>whnf))|(refine⟨fun h_=>absurd h_ (by first|decide+kernel|(dsimp only;decide+kernel)),fun h_=>?_⟩;clear h_;(conv=>whnf))))
 refine⟨[],[some 0,some 2],_,_,_,_,jk ⟨6,ak,to,b,s,aF,aS,[]⟩ ⟨6,ak,to,0,0,aF,aS,[]⟩,t3,cw ?_⟩;refine rn ?_;refine⟨[],[some 0,some 2],_,_,_,_,lz ⟨6,ak,to,b,s,aF,aS,[]⟩ ⟨6,ak,to,b,0,aF,aS,[]⟩,t3,cw ?_⟩;refine rn ?_;exact⟨[],[],_,_,_,t3,rfl,rfl,rfl⟩
theorem aa1 (ak to b s:Int) (vs:List ai):VC E0 34 0 [.agg (bu ⟨2,ak,to,b,s,aF,aS,vs⟩)] [] (RR (.agg (bu ⟨2,ak,to,b,s,aF,aS,vs⟩)) 0 []):=by
 refine VC.cJ L0 (show E0.func 34=some Tryz.f34 by kernel_rfl) (fun _ _=>rfl) rfl rfl [999999] ?_;refine wh ?_
 repeat(first|(refine⟨by first|decide+kernel|(dsimp only;decide+kernel),?_⟩;have bj:=True.intro;clear bj;(conv=>whnf))|(refine⟨_,rfl,?_⟩;have bj:=True.intro;clear bj;(conv=>whnf))|((try(first|rw[RE]|rw[RF]|rw[RG]|rw[RH]|rw[RJ]|rw[RL]|rw[RM]|rw[RN]|rw[RO]|rw[RP]|rw[RT]|rw[RU]|rw[RV]|rw[RW]|rw[RX]));(try rw[BD]);(try rw[za]);(try rw[Mm]);(try rw[P9]);first|(refine⟨fun h_=>?_,fun h_=>absurd (by first|decide+kernel|rfl |(dsimp only;decide+kernel)) h_⟩;clear h_;(conv=>whnf))|(refine⟨fun h_=>absurd h_ (by first|decide+kernel|(dsimp only;decide+kernel)),fun h_=>?_⟩;clear h_;(conv=>whnf))))
 refine⟨[],[some 0,some 2],_,_,_,_,jk ⟨2,ak,to,b,s,aF,aS,vs⟩ ⟨2,ak,to,0,0,aF,aS,[]⟩,t3,cw ?_⟩;refine rn ?_;refine⟨[],[some 0,some 2],_,_,_,_,lz ⟨2,ak,to,b,s,aF,aS,vs⟩ ⟨2,ak,to,b,0,aF,aS,[]⟩,t3,cw ?_⟩;refine rn ?_;refine⟨[],[some 0,some 2],_,_,_,_,Ml ⟨2,ak,to,b,s,aF,aS,vs⟩ ⟨2,ak,to,b,s,aF,aS,[]⟩,t3,cw ?_⟩;refine rn ?_;exact⟨[],[],_,_,_,t3,rfl,rfl,rfl⟩
theorem aa2 (ak to b s:Int) (c:b8):VC E0 34 0 [.agg (bu ⟨3,ak,to,b,s,c,aS,[]⟩)] [] (RR (.agg (bu ⟨3,ak,to,b,s,c,aS,[]⟩)) 0 []):=by
 refine VC.cJ L0 (show E0.func 34=some Tryz.f34 by kernel_rfl) (fun _ _=>rfl) rfl rfl [999999] ?_;refine wh ?_
 repeat(first|(refine⟨by first|decide+kernel|(dsimp only;decide+kernel),?_⟩;have bj:=True.intro;clear bj;(conv=>whnf))|(refine⟨_,rfl,?_⟩;have bj:=True.intro;clear bj;(conv=>whnf))|((try(first|rw[RE]|rw[RF]|rw[RG]|rw[RH]|rw[RJ]|rw[RL]|rw[RM]|rw[RN]|rw[RO]|rw[RP]|rw[RT]|rw[RU]|rw[RV]|rw[RW]|rw[RX]));(try rw[BD]);(try rw[za]);(try rw[Mn]);(try rw[Qa]);first|(refine⟨fun h_=>?_,fun h_=>absurd (by first|decide+kernel|rfl |(dsimp only;decide+kernel)) h_⟩;clear h_;(conv=>whnf))|(refine⟨fun h_=>absurd h_ (by first|decide+kernel|(dsimp only;decide+kernel)),fun h_=>?_⟩;clear h_;(conv=>whnf))))
 refine⟨[],[some 0,some 2],_,_,_,_,jk ⟨3,ak,to,b,s,c,aS,[]⟩ ⟨3,ak,to,0,0,aF,aS,[]⟩,t3,cw ?_⟩;refine rn ?_;refine⟨[],[some 0,some 2],_,_,_,_,lz ⟨3,ak,to,b,s,c,aS,[]⟩ ⟨3,ak,to,b,0,aF,aS,[]⟩,t3,cw ?_⟩;refine rn ?_;refine⟨[],[some 0,some 2],_,_,_,_,DC ⟨3,ak,to,b,s,c,aS,[]⟩ ⟨3,ak,to,b,s,aF,aS,[]⟩,t3,cw ?_⟩;refine rn ?_;exact⟨[],[],_,_,_,t3,rfl,rfl,rfl⟩
theorem aa3 (ak to s:Int) (c:b8):VC E0 34 0 [.agg (bu ⟨5,ak,to,0,s,c,aS,[]⟩)] [] (RR (.agg (bu ⟨5,ak,to,0,s,c,aS,[]⟩)) 0 []):=by
 refine VC.cJ L0 (show E0.func 34=some Tryz.f34 by kernel_rfl) (fun _ _=>rfl) rfl rfl [999999] ?_;refine wh ?_
 repeat(first|(refine⟨by first|decide+kernel|(dsimp only;decide+kernel),?_⟩;have bj:=True.intro;clear bj;(conv=>whnf))|(refine⟨_,rfl,?_⟩;have bj:=True.intro;clear bj;(conv=>whnf))|((try(first|rw[RE]|rw[RF]|rw[RG]|rw[RH]|rw[RJ]|rw[RL]|rw[RM]|rw[RN]|rw[RO]|rw[RP]|rw[RT]|rw[RU]|rw[RV]|rw[RW]|rw[RX]));(try rw[P7]);(try rw[Mo]);(try rw[Qb]);first|(refine⟨fun h_=>?_,fun h_=>absurd (by first|decide+kernel|rfl |(dsimp only;decide+kernel)) h_⟩;clear h_;(conv=>whnf))|(refine⟨fun h_=>absurd h_ (by first|decide+kernel|(dsimp only;decide+kernel)),fun h_=>?_⟩;clear h_;(conv=>whnf))))
 refine⟨[],[some 0,some 2],_,_,_,_,lz ⟨5,ak,to,0,s,c,aS,[]⟩ ⟨5,ak,to,0,0,aF,aS,[]⟩,t3,cw ?_⟩;refine rn ?_;refine⟨[],[some 0,some 2],_,_,_,_,DC ⟨5,ak,to,0,s,c,aS,[]⟩ ⟨5,ak,to,0,s,aF,aS,[]⟩,t3,cw ?_⟩;refine rn ?_;exact⟨[],[],_,_,_,t3,rfl,rfl,rfl⟩
theorem aa4 (ak to s:Int):VC E0 34 0 [.agg (bu ⟨7,ak,to,0,s,aF,aS,[]⟩)] [] (RR (.agg (bu ⟨7,ak,to,0,s,aF,aS,[]⟩)) 0 []):=by
 refine VC.cJ L0 (show E0.func 34=some Tryz.f34 by kernel_rfl) (fun _ _=>rfl) rfl rfl [999999] ?_;refine wh ?_
 repeat(first|(refine⟨by first|decide+kernel|(dsimp only;decide+kernel),?_⟩;have bj:=True.intro;clear bj;(conv=>whnf))|(refine⟨_,rfl,?_⟩;have bj:=True.intro;clear bj;(conv=>whnf))|((try(first|rw[RE]|rw[RF]|rw[RG]|rw[RH]|rw[RJ]|rw[RL]|rw[RM]|rw[RN]|rw[RO]|rw[RP]|rw[RT]|rw[RU]|rw[RV]|rw[RW]|rw[RX]));(try rw[P7]);(try rw[Xd]);first|(refine⟨fun h_=>?_,fun h_=>absurd (by first|decide+kernel|rfl |(dsimp only;decide+kernel)) h_⟩;clear h_;(conv=>whnf))|(refine⟨fun h_=>absurd h_ (by first|decide+kernel|(dsimp only;decide+kernel)),fun h_=>?_⟩;clear h_;(conv=>whnf))))
 refine⟨[],[some 0,some 2],_,_,_,_,lz ⟨7,ak,to,0,s,aF,aS,[]⟩ ⟨7,ak,to,0,0,aF,aS,[]⟩,t3,cw ?_⟩;refine rn ?_;exact⟨[],[],_,_,_,t3,rfl,rfl,rfl⟩
theorem aa5 (ak to b:Int):VC E0 34 0 [.agg (bu ⟨8,ak,to,b,0,aF,aS,[]⟩)] [] (RR (.agg (bu ⟨8,ak,to,b,0,aF,aS,[]⟩)) 0 []):=by
 refine VC.cJ L0 (show E0.func 34=some Tryz.f34 by kernel_rfl) (fun _ _=>rfl) rfl rfl [999999] ?_;refine wh ?_
 repeat(first|(refine⟨by first|decide+kernel|(dsimp only;decide+kernel),?_⟩;have bj:=True.intro;clear bj;(conv=>whnf))|(refine⟨_,rfl,?_⟩;have bj:=True.intro;clear bj;(conv=>whnf))|((try(first|rw[RE]|rw[RF]|rw[RG]|rw[RH]|rw[RJ]|rw[RL]|rw[RM]|rw[RN]|rw[RO]|rw[RP]|rw[RT]|rw[RU]|rw[RV]|rw[RW]|rw[RX]));(try rw[BD]);(try rw[aaX]);first|(refine⟨fun h_=>?_,fun h_=>absurd (by first|decide+kernel|rfl |(dsimp only;decide+kernel)) h_⟩;clear h_;(conv=>whnf))|(refine⟨fun h_=>absurd h_ (by first|decide+kernel|(dsimp only;decide+kernel)),fun h_=>?_⟩;clear h_;(conv=>whnf))))
 refine⟨[],[some 0,some 2],_,_,_,_,jk ⟨8,ak,to,b,0,aF,aS,[]⟩ ⟨8,ak,to,0,0,aF,aS,[]⟩,t3,cw ?_⟩;refine rn ?_;exact⟨[],[],_,_,_,t3,rfl,rfl,rfl⟩
theorem bare9 (ak to:Int) (c:b8):VC E0 34 0 [.agg (bu ⟨9,ak,to,0,0,c,aS,[]⟩)] [] (RR (.agg (bu ⟨9,ak,to,0,0,c,aS,[]⟩)) 0 []):=by
 refine VC.cJ L0 (show E0.func 34=some Tryz.f34 by kernel_rfl) (fun _ _=>rfl) rfl rfl [999999] ?_;refine wh ?_
 repeat(first|(refine⟨by first|decide+kernel|(dsimp only;decide+kernel),?_⟩;have bj:=True.intro;clear bj;(conv=>whnf))|(refine⟨_,rfl,?_⟩;have bj:=True.intro;clear bj;(conv=>whnf))|((try(first|rw[RE]|rw[RF]|rw[RG]|rw[RH]|rw[RJ]|rw[RL]|rw[RM]|rw[RN]|rw[RO]|rw[RP]|rw[RT]|rw[RU]|rw[RV]|rw[RW]|rw[RX]));(try rw[P8]);(try rw[Qc]);first|(refine⟨fun h_=>?_,fun h_=>absurd (by first|decide+kernel|rfl |(dsimp only;decide+kernel)) h_⟩;clear h_;(conv=>whnf))|(refine⟨fun h_=>absurd h_ (by first|decide+kernel|(dsimp only;decide+kernel)),fun h_=>?_⟩;clear h_;(conv=>whnf))))
 refine⟨[],[some 0,some 2],_,_,_,_,DC ⟨9,ak,to,0,0,c,aS,[]⟩ ⟨9,ak,to,0,0,aF,aS,[]⟩,t3,cw ?_⟩;refine rn ?_;exact⟨[],[],_,_,_,t3,rfl,rfl,rfl⟩
end Go.M
