/-
  Part 23 of the library that the proof leans on.
-/
import Derived.Test.YtgjfaieghmigjaaGreatDoorL22
namespace Go.M
open Go Go.Proofs
set_option maxRecDepth 100000
set_option maxHeartbeats 4000000
structure UpR where
 seq:Int
 client:Int
 num:Int
 kind:Int
 key:Int
 ver:Int
 data:List Int
@[reducible] def encU (u:UpR):List TV:=[.s (.int .u64 u.seq),.s (.int .i64 u.client),.s (.int .u64 u.num),.s (.int .i64 u.kind),.s (.int .u32 u.key),.s (.int .u64 u.ver),.sl 1 (encU8 u.data) false]
structure Lt where
 kind:Int
 chain:Int
 epoch:Int
 seq:Int
 done:Int
 us:List (List TV)
@[reducible] def encT (m:Lt):List TV:=[.s (.int .i64 m.kind),.s (.int .i64 1),.s (.int .i64 1),.s (.int .i64 m.chain),.s (.int .u64 m.epoch),.s (.int .u64 0),.s (.int .u64 0),.s (.int .u64 m.seq),.s (.int .u64 m.done),.s (.int .u64 0),.s (.int .i64 0),.s (.int .u32 0),.s (.int .i64 0),
 .s (.int .i64 0),.s (.int .i64 0),.s (.int .u64 0),.s (.int .i64 0),.s (.int .i64 0),.s (.int .u64 0),.sl 1 [] false,.s (.bool false),.s (.int .i64 0),.sl 6 [] false,.sl 7 m.us false,.sl 1 [] false]
@[reducible] def oT2 (m m':Lt):Ob:=[(0,.cells (encT m)),(1,.cells (encT m'))]
theorem bareChain (m m':Lt):VC EZ 179 2 [.ptr 0 0,.ptr 1 0] (oT2 m m') (RR (.tup []) 2 (oT2 m {m' with chain:=m.chain})):=by
 refine VC.enterR LZ (show EZ.func 179=some Tryz.f179 by kernel_rfl) (fun _ _=>rfl) rfl rfl [] ?_
 conv=>whnf
 exact⟨[],[some 0,some 1],_,_,_,t3,rfl,rfl,rfl⟩
theorem bareEpoch (m m':Lt):VC EZ 180 2 [.ptr 0 0,.ptr 1 0] (oT2 m m') (RR (.tup []) 2 (oT2 m {m' with epoch:=m.epoch})):=by
 refine VC.enterR LZ (show EZ.func 180=some Tryz.f180 by kernel_rfl) (fun _ _=>rfl) rfl rfl [] ?_
 conv=>whnf
 exact⟨[],[some 0,some 1],_,_,_,t3,rfl,rfl,rfl⟩
theorem bareSeq (m m':Lt):VC EZ 182 2 [.ptr 0 0,.ptr 1 0] (oT2 m m') (RR (.tup []) 2 (oT2 m {m' with seq:=m.seq})):=by
 refine VC.enterR LZ (show EZ.func 182=some Tryz.f182 by kernel_rfl) (fun _ _=>rfl) rfl rfl [] ?_
 conv=>whnf
 exact⟨[],[some 0,some 1],_,_,_,t3,rfl,rfl,rfl⟩
theorem bareDone (m m':Lt):VC EZ 183 2 [.ptr 0 0,.ptr 1 0] (oT2 m m') (RR (.tup []) 2 (oT2 m {m' with done:=m.done})):=by
 refine VC.enterR LZ (show EZ.func 183=some Tryz.f183 by kernel_rfl) (fun _ _=>rfl) rfl rfl [] ?_
 conv=>whnf
 exact⟨[],[some 0,some 1],_,_,_,t3,rfl,rfl,rfl⟩
theorem bareUs (m m':Lt):VC EZ 192 2 [.ptr 0 0,.ptr 1 0] (oT2 m m') (RR (.tup []) 2 (oT2 m {m' with us:=m.us})):=by
 refine VC.enterR LZ (show EZ.func 192=some Tryz.f192 by kernel_rfl) (fun _ _=>rfl) rfl rfl [] ?_
 conv=>whnf
 exact⟨[],[some 0,some 1],_,_,_,t3,rfl,rfl,rfl⟩
theorem wr0:IntKind.i64.wrap (0+1)=1:=rfl
theorem wr1:IntKind.i64.wrap (1+1)=2:=rfl
theorem wr2:IntKind.i64.wrap (2+1)=3:=rfl
theorem wr3:IntKind.i64.wrap (3+1)=4:=rfl
theorem wr4:IntKind.i64.wrap (4+1)=5:=rfl
theorem wr5:IntKind.i64.wrap (5+1)=6:=rfl
theorem wr6:IntKind.i64.wrap (6+1)=7:=rfl
theorem wr7:IntKind.i64.wrap (7+1)=8:=rfl
theorem wr8:IntKind.i64.wrap (8+1)=9:=rfl
theorem wr9:IntKind.i64.wrap (9+1)=10:=rfl
theorem wrA:IntKind.i64.wrap (10+1)=11:=rfl
theorem wrB:IntKind.i64.wrap (11+1)=12:=rfl
theorem wrC:IntKind.i64.wrap (12+1)=13:=rfl
theorem wrD:IntKind.i64.wrap (13+1)=14:=rfl
theorem wrE:IntKind.i64.wrap (14+1)=15:=rfl
theorem oq1:IntKind.i64.wrap ↑(BitVec.ofInt IntKind.i64.bits 0|||BitVec.ofInt IntKind.i64.bits 1).toNat=1:=rfl
theorem oq2:IntKind.i64.wrap ↑(BitVec.ofInt IntKind.i64.bits 1|||BitVec.ofInt IntKind.i64.bits 2).toNat=3:=rfl
theorem oq3:IntKind.i64.wrap ↑(BitVec.ofInt IntKind.i64.bits 3|||BitVec.ofInt IntKind.i64.bits 8).toNat=11:=rfl
theorem oq4:IntKind.i64.wrap ↑(BitVec.ofInt IntKind.i64.bits 11|||BitVec.ofInt IntKind.i64.bits 16).toNat=27:=rfl
theorem oq5:IntKind.i64.wrap ↑(BitVec.ofInt IntKind.i64.bits 27|||BitVec.ofInt IntKind.i64.bits 8192).toNat=8219:=rfl
theorem oq6:IntKind.i64.wrap ↑(BitVec.ofInt IntKind.i64.bits 8219|||BitVec.ofInt IntKind.i64.bits 0).toNat=8219:=rfl
theorem bare12 (us:List (List TV)):VC EZ 158 0 [.agg (encT ⟨12,0,1,0,0,us⟩)] [] (RR (.agg (encT ⟨12,0,1,0,0,us⟩)) 0 []):=by
 refine VC.enterR LZ (show EZ.func 158=some Tryz.f158 by kernel_rfl) (fun _ _=>rfl) rfl rfl [999999] ?_
 conv=>whnf
 repeat(first|(refine⟨by first|decide+kernel|(dsimp only;decide+kernel),?_⟩;have hz_:=True.intro;clear hz_;(conv=>whnf))|(refine⟨_,rfl,?_⟩;have hz_:=True.intro;clear hz_;(conv=>whnf))|((try(first|rw[wr0]|rw[wr1]|rw[wr2]|rw[wr3]|rw[wr4]|rw[wr5]|rw[wr6]|rw[wr7]|rw[wr8]|rw[wr9]|rw[wrA]|rw[wrB]|rw[wrC]|rw[wrD]|rw[wrE]));(try rw[oq1]);(try rw[oq2]);(try rw[oq3]);(try rw[oq4]);(try rw[oq5]);(try rw[oq6]);first|(refine⟨fun h_=>?_,fun h_=>absurd (by first|decide+kernel|rfl |(dsimp only;decide+kernel)) h_⟩;clear h_;(conv=>whnf))|(refine⟨fun h_=>absurd h_ (by first|decide+kernel|(dsimp only;decide+kernel)),fun h_=>?_⟩;clear h_;(conv=>whnf))))
 refine⟨[],[some 0,some 2],_,_,_,_,bareChain ⟨12,0,1,0,0,us⟩ ⟨12,0,0,0,0,[]⟩,t3,cR ?_⟩
 conv=>whnf
 repeat(first|(refine⟨by first|decide+kernel|(dsimp only;decide+kernel),?_⟩;have hz_:=True.intro;clear hz_;(conv=>whnf))|(refine⟨_,rfl,?_⟩;have hz_:=True.intro;clear hz_;(conv=>whnf))|((try(first|rw[wr0]|rw[wr1]|rw[wr2]|rw[wr3]|rw[wr4]|rw[wr5]|rw[wr6]|rw[wr7]|rw[wr8]|rw[wr9]|rw[wrA]|rw[wrB]|rw[wrC]|rw[wrD]|rw[wrE]));first|(refine⟨fun h_=>?_,fun h_=>absurd (by first|decide+kernel|rfl |(dsimp only;decide+kernel)) h_⟩;clear h_;(conv=>whnf))|(refine⟨fun h_=>absurd h_ (by first|decide+kernel|(dsimp only;decide+kernel)),fun h_=>?_⟩;clear h_;(conv=>whnf))))
 refine⟨[],[some 0,some 2],_,_,_,_,bareEpoch ⟨12,0,1,0,0,us⟩ ⟨12,0,0,0,0,[]⟩,t3,cR ?_⟩
 conv=>whnf
 repeat(first|(refine⟨by first|decide+kernel|(dsimp only;decide+kernel),?_⟩;have hz_:=True.intro;clear hz_;(conv=>whnf))|(refine⟨_,rfl,?_⟩;have hz_:=True.intro;clear hz_;(conv=>whnf))|((try(first|rw[wr0]|rw[wr1]|rw[wr2]|rw[wr3]|rw[wr4]|rw[wr5]|rw[wr6]|rw[wr7]|rw[wr8]|rw[wr9]|rw[wrA]|rw[wrB]|rw[wrC]|rw[wrD]|rw[wrE]));first|(refine⟨fun h_=>?_,fun h_=>absurd (by first|decide+kernel|rfl |(dsimp only;decide+kernel)) h_⟩;clear h_;(conv=>whnf))|(refine⟨fun h_=>absurd h_ (by first|decide+kernel|(dsimp only;decide+kernel)),fun h_=>?_⟩;clear h_;(conv=>whnf))))
 refine⟨[],[some 0,some 2],_,_,_,_,bareSeq ⟨12,0,1,0,0,us⟩ ⟨12,0,1,0,0,[]⟩,t3,cR ?_⟩
 conv=>whnf
 repeat(first|(refine⟨by first|decide+kernel|(dsimp only;decide+kernel),?_⟩;have hz_:=True.intro;clear hz_;(conv=>whnf))|(refine⟨_,rfl,?_⟩;have hz_:=True.intro;clear hz_;(conv=>whnf))|((try(first|rw[wr0]|rw[wr1]|rw[wr2]|rw[wr3]|rw[wr4]|rw[wr5]|rw[wr6]|rw[wr7]|rw[wr8]|rw[wr9]|rw[wrA]|rw[wrB]|rw[wrC]|rw[wrD]|rw[wrE]));first|(refine⟨fun h_=>?_,fun h_=>absurd (by first|decide+kernel|rfl |(dsimp only;decide+kernel)) h_⟩;clear h_;(conv=>whnf))|(refine⟨fun h_=>absurd h_ (by first|decide+kernel|(dsimp only;decide+kernel)),fun h_=>?_⟩;clear h_;(conv=>whnf))))
 refine⟨[],[some 0,some 2],_,_,_,_,bareDone ⟨12,0,1,0,0,us⟩ ⟨12,0,1,0,0,[]⟩,t3,cR ?_⟩
 conv=>whnf
 repeat(first|(refine⟨by first|decide+kernel|(dsimp only;decide+kernel),?_⟩;have hz_:=True.intro;clear hz_;(conv=>whnf))|(refine⟨_,rfl,?_⟩;have hz_:=True.intro;clear hz_;(conv=>whnf))|((try(first|rw[wr0]|rw[wr1]|rw[wr2]|rw[wr3]|rw[wr4]|rw[wr5]|rw[wr6]|rw[wr7]|rw[wr8]|rw[wr9]|rw[wrA]|rw[wrB]|rw[wrC]|rw[wrD]|rw[wrE]));first|(refine⟨fun h_=>?_,fun h_=>absurd (by first|decide+kernel|rfl |(dsimp only;decide+kernel)) h_⟩;clear h_;(conv=>whnf))|(refine⟨fun h_=>absurd h_ (by first|decide+kernel|(dsimp only;decide+kernel)),fun h_=>?_⟩;clear h_;(conv=>whnf))))
 refine⟨[],[some 0,some 2],_,_,_,_,bareUs ⟨12,0,1,0,0,us⟩ ⟨12,0,1,0,0,[]⟩,t3,cR ?_⟩
 conv=>whnf
 repeat(first|(refine⟨by first|decide+kernel|(dsimp only;decide+kernel),?_⟩;have hz_:=True.intro;clear hz_;(conv=>whnf))|(refine⟨_,rfl,?_⟩;have hz_:=True.intro;clear hz_;(conv=>whnf))|((try(first|rw[wr0]|rw[wr1]|rw[wr2]|rw[wr3]|rw[wr4]|rw[wr5]|rw[wr6]|rw[wr7]|rw[wr8]|rw[wr9]|rw[wrA]|rw[wrB]|rw[wrC]|rw[wrD]|rw[wrE]));first|(refine⟨fun h_=>?_,fun h_=>absurd (by first|decide+kernel|rfl |(dsimp only;decide+kernel)) h_⟩;clear h_;(conv=>whnf))|(refine⟨fun h_=>absurd h_ (by first|decide+kernel|(dsimp only;decide+kernel)),fun h_=>?_⟩;clear h_;(conv=>whnf))))
 exact⟨[],[],_,_,_,t3,rfl,rfl,rfl⟩
end Go.M
