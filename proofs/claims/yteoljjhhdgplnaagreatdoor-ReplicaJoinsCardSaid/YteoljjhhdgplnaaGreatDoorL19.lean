/-
  Part 19 of the library that the proof leans on.
-/
import Derived.Test.YteoljjhhdgplnaaGreatDoorL12
import Derived.Test.YteoljjhhdgplnaaGreatDoorL18
namespace Go.M
open Go Go.Proofs
set_option maxRecDepth 100000
set_option maxHeartbeats 4000000
@[reducible] def cD (u:dx):List TV:=[.s (.int .u64 u.seq),.s (.int .i64 u.ao),.s (.int .u64 u.num),.s (.int .i64 u.kind),.s (.int .u32 u.key),.s (.int .u64 u.ey),.sl 1 (bm u.data) false]
@[reducible] def bp (m:Lr):List TV:=[.s (.int .i64 m.kind),.s (.int .i64 m.oI),.s (.int .i64 m.to),.s (.int .i64 m.chain),.s (.int .u64 m.aV),.s (.int .u64 0),.s (.int .u64 m.num),.s (.int .u64 m.seq),.s (.int .u64 m.done),.s (.int .u64 m.ey),.s (.int .i64 m.slot),.s (.int .u32 0),.s (.int .i64 m.code),
 .s (.int .i64 0),.s (.int .i64 0),.s (.int .u64 0),.s (.int .i64 0),.s (.int .i64 0),.s (.int .u64 0),.sl 1 [] false,.s (.bool false),.s (.int .i64 0),.sl 6 [] false,.sl 7 (m.us.map cD) false,.sl 1 (bm m.data) false]
@[reducible] def JI (m m':Lr):Ob:=[(0,.cells (bp m)),(1,.cells (bp m'))]
theorem sr (m m':Lr):VC E0 126 2 [.ptr 0 0,.ptr 1 0] (JI m m') (RR (.cB []) 2 (JI m {m' with chain:=m.chain})):=by
 refine en L0 Tryz.f126 ?_;exact⟨[],[some 0,some 1],_,_,_,t3,rfl,rfl,rfl⟩
theorem su (m m':Lr):VC E0 127 2 [.ptr 0 0,.ptr 1 0] (JI m m') (RR (.cB []) 2 (JI m {m' with aV:=m.aV})):=by
 refine en L0 Tryz.f127 ?_;exact⟨[],[some 0,some 1],_,_,_,t3,rfl,rfl,rfl⟩
theorem FK (m m':Lr):VC E0 129 2 [.ptr 0 0,.ptr 1 0] (JI m m') (RR (.cB []) 2 (JI m {m' with seq:=m.seq})):=by
 refine en L0 Tryz.f129 ?_;exact⟨[],[some 0,some 1],_,_,_,t3,rfl,rfl,rfl⟩
theorem IJ (m m':Lr):VC E0 130 2 [.ptr 0 0,.ptr 1 0] (JI m m') (RR (.cB []) 2 (JI m {m' with done:=m.done})):=by
 refine en L0 Tryz.f130 ?_;exact⟨[],[some 0,some 1],_,_,_,t3,rfl,rfl,rfl⟩
theorem IK (m m':Lr):VC E0 131 2 [.ptr 0 0,.ptr 1 0] (JI m m') (RR (.cB []) 2 (JI m {m' with slot:=m.slot})):=by
 refine en L0 Tryz.f131 ?_;exact⟨[],[some 0,some 1],_,_,_,t3,rfl,rfl,rfl⟩
theorem M4 (m m':Lr):VC E0 132 2 [.ptr 0 0,.ptr 1 0] (JI m m') (RR (.cB []) 2 (JI m {m' with num:=m.num})):=by
 refine en L0 Tryz.f132 ?_;exact⟨[],[some 0,some 1],_,_,_,t3,rfl,rfl,rfl⟩
theorem Ta (m m':Lr):VC E0 139 2 [.ptr 0 0,.ptr 1 0] (JI m m') (RR (.cB []) 2 (JI m {m' with us:=m.us})):=by
 refine en L0 Tryz.f139 ?_;exact⟨[],[some 0,some 1],_,_,_,t3,rfl,rfl,rfl⟩
theorem Tb (m m':Lr):VC E0 140 2 [.ptr 0 0,.ptr 1 0] (JI m m') (RR (.cB []) 2 (JI m {m' with data:=m.data})):=by
 refine en L0 Tryz.f140 ?_;exact⟨[],[some 0,some 1],_,_,_,t3,rfl,rfl,rfl⟩
theorem M5:IntKind.i64.wrap ↑(BitVec.ofInt IntKind.i64.bits 0|||BitVec.ofInt IntKind.i64.bits 1).toNat=1:=rfl
theorem M6:IntKind.i64.wrap ↑(BitVec.ofInt IntKind.i64.bits 1|||BitVec.ofInt IntKind.i64.bits 2).toNat=3:=rfl
theorem Tc:IntKind.i64.wrap ↑(BitVec.ofInt IntKind.i64.bits 3|||BitVec.ofInt IntKind.i64.bits 8).toNat=11:=rfl
theorem M7:IntKind.i64.wrap ↑(BitVec.ofInt IntKind.i64.bits 11|||BitVec.ofInt IntKind.i64.bits 16).toNat=27:=rfl
theorem Pc:IntKind.i64.wrap ↑(BitVec.ofInt IntKind.i64.bits 27|||BitVec.ofInt IntKind.i64.bits 8192).toNat=8219:=rfl
theorem Td:IntKind.i64.wrap ↑(BitVec.ofInt IntKind.i64.bits 8219|||BitVec.ofInt IntKind.i64.bits 0).toNat=8219:=rfl
theorem WH:IntKind.i64.wrap ↑(BitVec.ofInt IntKind.i64.bits 27|||BitVec.ofInt IntKind.i64.bits 64).toNat=91:=rfl
theorem WI:IntKind.i64.wrap ↑(BitVec.ofInt IntKind.i64.bits 91|||BitVec.ofInt IntKind.i64.bits 32).toNat=123:=rfl
theorem Te:IntKind.i64.wrap ↑(BitVec.ofInt IntKind.i64.bits 3|||BitVec.ofInt IntKind.i64.bits 8192).toNat=8195:=rfl
theorem Tf:IntKind.i64.wrap ↑(BitVec.ofInt IntKind.i64.bits 8195|||BitVec.ofInt IntKind.i64.bits 0).toNat=8195:=rfl
theorem WK:IntKind.i64.wrap ↑(BitVec.ofInt IntKind.i64.bits 11|||BitVec.ofInt IntKind.i64.bits 32).toNat=43:=rfl
theorem WL:IntKind.i64.wrap ↑(BitVec.ofInt IntKind.i64.bits 43|||BitVec.ofInt IntKind.i64.bits 64).toNat=107:=rfl
theorem IL:IntKind.i64.wrap ↑(BitVec.ofInt IntKind.i64.bits 107|||BitVec.ofInt IntKind.i64.bits 16384).toNat=16491:=rfl
@[reducible] def uP (f t ch e s d:Int) (us:List dx):Lr:=⟨12,f,t,ch,e,0,s,d,0,0,0,us,[]⟩
@[reducible] def kL (f t ch e n s d sl:Int):Lr:=⟨13,f,t,ch,e,n,s,d,0,sl,0,[],[]⟩
@[reducible] def uB (f t ch e n s sl:Int) (d:List Int):Lr:=⟨14,f,t,ch,e,n,s,0,0,sl,0,[],d⟩
@[reducible] def GA (f t ch e:Int) (us:List dx):Lr:=⟨17,f,t,ch,e,0,0,0,0,0,0,us,[]⟩
theorem aaP (f t ch e s d:Int) (us:List dx):VC E0 95 0 [.agg (bp (uP f t ch e s d us))] [] (RR (.agg (bp (uP f t ch e s d us))) 0 []):=by
 refine VC.cQ L0 (show E0.func 95=some Tryz.f95 by kernel_rfl) (fun _ _=>rfl) rfl rfl [999999] ?_;refine wh ?_
 repeat(first|(refine⟨by first|decide+kernel|(dsimp only;decide+kernel),?_⟩;have dw:=True.intro;clear dw;(conv=>whnf))|(refine⟨_,rfl,?_⟩;have dw:=True.intro;clear dw;(conv=>whnf))|((try(first|rw[wr0]|rw[wr1]|rw[wr2]|rw[wr3]|rw[wr4]|rw[wr5]|rw[wr6]|rw[wr7]|rw[wr8]|rw[wr9]|rw[wrA]|rw[wrB]|rw[wrC]|rw[wrD]|rw[wrE]));(try rw[M5]);(try rw[M6]);(try rw[Tc]);(try rw[M7]);(try rw[Pc]);(try rw[Td]);first|(refine⟨fun h_=>?_,fun h_=>absurd (by first|decide+kernel|rfl |(dsimp only;decide+kernel)) h_⟩;clear h_;(conv=>whnf))|(refine⟨fun h_=>absurd h_ (by first|decide+kernel|(dsimp only;decide+kernel)),fun h_=>?_⟩;clear h_;(conv=>whnf))))
 refine⟨[],[some 0,some 2],_,_,_,_,sr (uP f t ch e s d us) (uP f t 0 0 0 0 []),t3,cw ?_⟩;refine rn ?_;refine⟨[],[some 0,some 2],_,_,_,_,su (uP f t ch e s d us) (uP f t ch 0 0 0 []),t3,cw ?_⟩;refine rn ?_;refine⟨[],[some 0,some 2],_,_,_,_,FK (uP f t ch e s d us) (uP f t ch e 0 0 []),t3,cw ?_⟩;refine rn ?_;refine⟨[],[some 0,some 2],_,_,_,_,IJ (uP f t ch e s d us) (uP f t ch e s 0 []),t3,cw ?_⟩;refine rn ?_;refine⟨[],[some 0,some 2],_,_,_,_,Ta (uP f t ch e s d us) (uP f t ch e s d []),t3,cw ?_⟩;refine rn ?_;exact⟨[],[],_,_,_,t3,rfl,rfl,rfl⟩
theorem aaQ (f t ch e n s d sl:Int):VC E0 95 0 [.agg (bp (kL f t ch e n s d sl))] [] (RR (.agg (bp (kL f t ch e n s d sl))) 0 []):=by
 refine VC.cQ L0 (show E0.func 95=some Tryz.f95 by kernel_rfl) (fun _ _=>rfl) rfl rfl [999999] ?_;refine wh ?_
 repeat(first|(refine⟨by first|decide+kernel|(dsimp only;decide+kernel),?_⟩;have dw:=True.intro;clear dw;(conv=>whnf))|(refine⟨_,rfl,?_⟩;have dw:=True.intro;clear dw;(conv=>whnf))|((try(first|rw[wr0]|rw[wr1]|rw[wr2]|rw[wr3]|rw[wr4]|rw[wr5]|rw[wr6]|rw[wr7]|rw[wr8]|rw[wr9]|rw[wrA]|rw[wrB]|rw[wrC]|rw[wrD]|rw[wrE]));(try rw[M5]);(try rw[M6]);(try rw[Tc]);(try rw[M7]);(try rw[WH]);(try rw[WI]);first|(refine⟨fun h_=>?_,fun h_=>absurd (by first|decide+kernel|rfl |(dsimp only;decide+kernel)) h_⟩;clear h_;(conv=>whnf))|(refine⟨fun h_=>absurd h_ (by first|decide+kernel|(dsimp only;decide+kernel)),fun h_=>?_⟩;clear h_;(conv=>whnf))))
 refine⟨[],[some 0,some 2],_,_,_,_,sr (kL f t ch e n s d sl) (kL f t 0 0 0 0 0 0),t3,cw ?_⟩;refine rn ?_;refine⟨[],[some 0,some 2],_,_,_,_,su (kL f t ch e n s d sl) (kL f t ch 0 0 0 0 0),t3,cw ?_⟩;refine rn ?_;refine⟨[],[some 0,some 2],_,_,_,_,FK (kL f t ch e n s d sl) (kL f t ch e 0 0 0 0),t3,cw ?_⟩;refine rn ?_;refine⟨[],[some 0,some 2],_,_,_,_,IJ (kL f t ch e n s d sl) (kL f t ch e 0 s 0 0),t3,cw ?_⟩;refine rn ?_;refine⟨[],[some 0,some 2],_,_,_,_,IK (kL f t ch e n s d sl) (kL f t ch e 0 s d 0),t3,cw ?_⟩;refine rn ?_
 refine⟨[],[some 0,some 2],_,_,_,_,M4 (kL f t ch e n s d sl) (kL f t ch e 0 s d sl),t3,cw ?_⟩;refine rn ?_;exact⟨[],[],_,_,_,t3,rfl,rfl,rfl⟩
theorem aaR (f t ch e:Int) (us:List dx):VC E0 95 0 [.agg (bp (GA f t ch e us))] [] (RR (.agg (bp (GA f t ch e us))) 0 []):=by
 refine VC.cQ L0 (show E0.func 95=some Tryz.f95 by kernel_rfl) (fun _ _=>rfl) rfl rfl [999999] ?_;refine wh ?_
 repeat(first|(refine⟨by first|decide+kernel|(dsimp only;decide+kernel),?_⟩;have dw:=True.intro;clear dw;(conv=>whnf))|(refine⟨_,rfl,?_⟩;have dw:=True.intro;clear dw;(conv=>whnf))|((try(first|rw[wr0]|rw[wr1]|rw[wr2]|rw[wr3]|rw[wr4]|rw[wr5]|rw[wr6]|rw[wr7]|rw[wr8]|rw[wr9]|rw[wrA]|rw[wrB]|rw[wrC]|rw[wrD]|rw[wrE]));(try rw[M5]);(try rw[M6]);(try rw[Te]);(try rw[Tf]);first|(refine⟨fun h_=>?_,fun h_=>absurd (by first|decide+kernel|rfl |(dsimp only;decide+kernel)) h_⟩;clear h_;(conv=>whnf))|(refine⟨fun h_=>absurd h_ (by first|decide+kernel|(dsimp only;decide+kernel)),fun h_=>?_⟩;clear h_;(conv=>whnf))))
 refine⟨[],[some 0,some 2],_,_,_,_,sr (GA f t ch e us) (GA f t 0 0 []),t3,cw ?_⟩;refine rn ?_;refine⟨[],[some 0,some 2],_,_,_,_,su (GA f t ch e us) (GA f t ch 0 []),t3,cw ?_⟩;refine rn ?_;refine⟨[],[some 0,some 2],_,_,_,_,Ta (GA f t ch e us) (GA f t ch e []),t3,cw ?_⟩;refine rn ?_;exact⟨[],[],_,_,_,t3,rfl,rfl,rfl⟩
theorem aaS (f t ch e n s sl:Int) (d:List Int):VC E0 95 0 [.agg (bp (uB f t ch e n s sl d))] [] (RR (.agg (bp (uB f t ch e n s sl d))) 0 []):=by
 refine VC.cQ L0 (show E0.func 95=some Tryz.f95 by kernel_rfl) (fun _ _=>rfl) rfl rfl [999999] ?_;refine wh ?_
 repeat(first|(refine⟨by first|decide+kernel|(dsimp only;decide+kernel),?_⟩;have dw:=True.intro;clear dw;(conv=>whnf))|(refine⟨_,rfl,?_⟩;have dw:=True.intro;clear dw;(conv=>whnf))|((try(first|rw[wr0]|rw[wr1]|rw[wr2]|rw[wr3]|rw[wr4]|rw[wr5]|rw[wr6]|rw[wr7]|rw[wr8]|rw[wr9]|rw[wrA]|rw[wrB]|rw[wrC]|rw[wrD]|rw[wrE]));(try rw[M5]);(try rw[M6]);(try rw[Tc]);(try rw[WK]);(try rw[WL]);(try rw[IL]);first|(refine⟨fun h_=>?_,fun h_=>absurd (by first|decide+kernel|rfl |(dsimp only;decide+kernel)) h_⟩;clear h_;(conv=>whnf))|(refine⟨fun h_=>absurd h_ (by first|decide+kernel|(dsimp only;decide+kernel)),fun h_=>?_⟩;clear h_;(conv=>whnf))))
 refine⟨[],[some 0,some 2],_,_,_,_,sr (uB f t ch e n s sl d) (uB f t 0 0 0 0 0 []),t3,cw ?_⟩;refine rn ?_;refine⟨[],[some 0,some 2],_,_,_,_,su (uB f t ch e n s sl d) (uB f t ch 0 0 0 0 []),t3,cw ?_⟩;refine rn ?_;refine⟨[],[some 0,some 2],_,_,_,_,FK (uB f t ch e n s sl d) (uB f t ch e 0 0 0 []),t3,cw ?_⟩;refine rn ?_;refine⟨[],[some 0,some 2],_,_,_,_,IK (uB f t ch e n s sl d) (uB f t ch e 0 s 0 []),t3,cw ?_⟩;refine rn ?_;refine⟨[],[some 0,some 2],_,_,_,_,M4 (uB f t ch e n s sl d) (uB f t ch e 0 s sl []),t3,cw ?_⟩;refine rn ?_
 refine⟨[],[some 0,some 2],_,_,_,_,Tb (uB f t ch e n s sl d) (uB f t ch e n s sl []),t3,cw ?_⟩;refine rn ?_;exact⟨[],[],_,_,_,t3,rfl,rfl,rfl⟩
end Go.M
