/-
  Part 19 of the library that the proof leans on.
-/
import Derived.Test.YteoljjhhdgplnaaGreatDoorL12
import Derived.Test.YteoljjhhdgplnaaGreatDoorL18
namespace Go.M
open Go Go.Proofs
set_option maxRecDepth 100000
set_option maxHeartbeats 4000000
@[reducible] def cS (u:c7):List TV:=[.s (.int .u64 u.seq),.s (.int .i64 u.al),.s (.int .u64 u.num),.s (.int .i64 u.kind),.s (.int .u32 u.key),.s (.int .u64 u.dx),.sl 1 (bA u.data) false]
@[reducible] def bK (m:Lr):List TV:=[.s (.int .i64 m.kind),.s (.int .i64 m.AI),.s (.int .i64 m.to),.s (.int .i64 m.chain),.s (.int .u64 m.bL),.s (.int .u64 0),.s (.int .u64 m.num),.s (.int .u64 m.seq),.s (.int .u64 m.done),.s (.int .u64 m.dx),.s (.int .i64 m.slot),.s (.int .u32 0),.s (.int .i64 m.code),
 .s (.int .i64 0),.s (.int .i64 0),.s (.int .u64 0),.s (.int .i64 0),.s (.int .i64 0),.s (.int .u64 0),.sl 1 [] false,.s (.bool false),.s (.int .i64 0),.sl 6 [] false,.sl 7 (m.us.map cS) false,.sl 1 (bA m.data) false]
@[reducible] def FX (m m':Lr):Ob:=[(0,.cells (bK m)),(1,.cells (bK m'))]
theorem rZ (m m':Lr):VC E0 126 2 [.ptr 0 0,.ptr 1 0] (FX m m') (RR (.dg []) 2 (FX m {m' with chain:=m.chain})):=by
 refine en L0 Tryz.f126 ?_;exact⟨[],[some 0,some 1],_,_,_,t3,rfl,rfl,rfl⟩
theorem r7 (m m':Lr):VC E0 127 2 [.ptr 0 0,.ptr 1 0] (FX m m') (RR (.dg []) 2 (FX m {m' with bL:=m.bL})):=by
 refine en L0 Tryz.f127 ?_;exact⟨[],[some 0,some 1],_,_,_,t3,rfl,rfl,rfl⟩
theorem FY (m m':Lr):VC E0 129 2 [.ptr 0 0,.ptr 1 0] (FX m m') (RR (.dg []) 2 (FX m {m' with seq:=m.seq})):=by
 refine en L0 Tryz.f129 ?_;exact⟨[],[some 0,some 1],_,_,_,t3,rfl,rfl,rfl⟩
theorem Co (m m':Lr):VC E0 130 2 [.ptr 0 0,.ptr 1 0] (FX m m') (RR (.dg []) 2 (FX m {m' with done:=m.done})):=by
 refine en L0 Tryz.f130 ?_;exact⟨[],[some 0,some 1],_,_,_,t3,rfl,rfl,rfl⟩
theorem Ln (m m':Lr):VC E0 131 2 [.ptr 0 0,.ptr 1 0] (FX m m') (RR (.dg []) 2 (FX m {m' with slot:=m.slot})):=by
 refine en L0 Tryz.f131 ?_;exact⟨[],[some 0,some 1],_,_,_,t3,rfl,rfl,rfl⟩
theorem OP (m m':Lr):VC E0 132 2 [.ptr 0 0,.ptr 1 0] (FX m m') (RR (.dg []) 2 (FX m {m' with num:=m.num})):=by
 refine en L0 Tryz.f132 ?_;exact⟨[],[some 0,some 1],_,_,_,t3,rfl,rfl,rfl⟩
theorem Lo (m m':Lr):VC E0 139 2 [.ptr 0 0,.ptr 1 0] (FX m m') (RR (.dg []) 2 (FX m {m' with us:=m.us})):=by
 refine en L0 Tryz.f139 ?_;exact⟨[],[some 0,some 1],_,_,_,t3,rfl,rfl,rfl⟩
theorem Lp:IntKind.i64.wrap ↑(BitVec.ofInt IntKind.i64.bits 0|||BitVec.ofInt IntKind.i64.bits 1).toNat=1:=rfl
theorem Lq:IntKind.i64.wrap ↑(BitVec.ofInt IntKind.i64.bits 1|||BitVec.ofInt IntKind.i64.bits 2).toNat=3:=rfl
theorem QF:IntKind.i64.wrap ↑(BitVec.ofInt IntKind.i64.bits 3|||BitVec.ofInt IntKind.i64.bits 8).toNat=11:=rfl
theorem FZ:IntKind.i64.wrap ↑(BitVec.ofInt IntKind.i64.bits 11|||BitVec.ofInt IntKind.i64.bits 16).toNat=27:=rfl
theorem H4:IntKind.i64.wrap ↑(BitVec.ofInt IntKind.i64.bits 27|||BitVec.ofInt IntKind.i64.bits 8192).toNat=8219:=rfl
theorem Ls:IntKind.i64.wrap ↑(BitVec.ofInt IntKind.i64.bits 8219|||BitVec.ofInt IntKind.i64.bits 0).toNat=8219:=rfl
theorem OQ:IntKind.i64.wrap ↑(BitVec.ofInt IntKind.i64.bits 27|||BitVec.ofInt IntKind.i64.bits 64).toNat=91:=rfl
theorem OS:IntKind.i64.wrap ↑(BitVec.ofInt IntKind.i64.bits 91|||BitVec.ofInt IntKind.i64.bits 32).toNat=123:=rfl
theorem Lt:IntKind.i64.wrap ↑(BitVec.ofInt IntKind.i64.bits 3|||BitVec.ofInt IntKind.i64.bits 8192).toNat=8195:=rfl
theorem Lu:IntKind.i64.wrap ↑(BitVec.ofInt IntKind.i64.bits 8195|||BitVec.ofInt IntKind.i64.bits 0).toNat=8195:=rfl
@[reducible] def r8 (f t ch e s d:Int) (us:List c7):Lr:=⟨12,f,t,ch,e,0,s,d,0,0,0,us,[]⟩
@[reducible] def pB (f t ch e n s d sl:Int):Lr:=⟨13,f,t,ch,e,n,s,d,0,sl,0,[],[]⟩
@[reducible] def AJ (f t ch e:Int) (us:List c7):Lr:=⟨17,f,t,ch,e,0,0,0,0,0,0,us,[]⟩
theorem SQ (f t ch e s d:Int) (us:List c7):VC E0 95 0 [.agg (bK (r8 f t ch e s d us))] [] (RR (.agg (bK (r8 f t ch e s d us))) 0 []):=by
 refine VC.dp L0 (show E0.func 95=some Tryz.f95 by kernel_rfl) (fun _ _=>rfl) rfl rfl [999999] ?_;refine wh ?_
 repeat(first|(refine⟨by first|decide+kernel|(dsimp only;decide+kernel),?_⟩;have eN:=True.intro;clear eN;(conv=>whnf))|(refine⟨_,rfl,?_⟩;have eN:=True.intro;clear eN;(conv=>whnf))|((try(first|rw[Wr]|rw[XN]|rw[XO]|rw[XP]|rw[XQ]|rw[XR]|rw[XS]|rw[XT]|rw[XU]|rw[XV]|rw[XW]|rw[XX]|rw[XY]|rw[XZ]|rw[X0]));(try rw[Lp]);(try rw[Lq]);(try rw[QF]);(try rw[FZ]);(try rw[H4]);(try rw[Ls]);first|(refine⟨fun h_=>?_,fun h_=>absurd (by first|decide+kernel|rfl |(dsimp only;decide+kernel)) h_⟩;clear h_;(conv=>whnf))|(refine⟨fun h_=>absurd h_ (by first|decide+kernel|(dsimp only;decide+kernel)),fun h_=>?_⟩;clear h_;(conv=>whnf))))
 refine⟨[],[some 0,some 2],_,_,_,_,rZ (r8 f t ch e s d us) (r8 f t 0 0 0 0 []),t3,cw ?_⟩;refine rn ?_;refine⟨[],[some 0,some 2],_,_,_,_,r7 (r8 f t ch e s d us) (r8 f t ch 0 0 0 []),t3,cw ?_⟩;refine rn ?_;refine⟨[],[some 0,some 2],_,_,_,_,FY (r8 f t ch e s d us) (r8 f t ch e 0 0 []),t3,cw ?_⟩;refine rn ?_;refine⟨[],[some 0,some 2],_,_,_,_,Co (r8 f t ch e s d us) (r8 f t ch e s 0 []),t3,cw ?_⟩;refine rn ?_;refine⟨[],[some 0,some 2],_,_,_,_,Lo (r8 f t ch e s d us) (r8 f t ch e s d []),t3,cw ?_⟩;refine rn ?_;exact⟨[],[],_,_,_,t3,rfl,rfl,rfl⟩
theorem SR (f t ch e n s d sl:Int):VC E0 95 0 [.agg (bK (pB f t ch e n s d sl))] [] (RR (.agg (bK (pB f t ch e n s d sl))) 0 []):=by
 refine VC.dp L0 (show E0.func 95=some Tryz.f95 by kernel_rfl) (fun _ _=>rfl) rfl rfl [999999] ?_;refine wh ?_
 repeat(first|(refine⟨by first|decide+kernel|(dsimp only;decide+kernel),?_⟩;have eN:=True.intro;clear eN;(conv=>whnf))|(refine⟨_,rfl,?_⟩;have eN:=True.intro;clear eN;(conv=>whnf))|((try(first|rw[Wr]|rw[XN]|rw[XO]|rw[XP]|rw[XQ]|rw[XR]|rw[XS]|rw[XT]|rw[XU]|rw[XV]|rw[XW]|rw[XX]|rw[XY]|rw[XZ]|rw[X0]));(try rw[Lp]);(try rw[Lq]);(try rw[QF]);(try rw[FZ]);(try rw[OQ]);(try rw[OS]);first|(refine⟨fun h_=>?_,fun h_=>absurd (by first|decide+kernel|rfl |(dsimp only;decide+kernel)) h_⟩;clear h_;(conv=>whnf))|(refine⟨fun h_=>absurd h_ (by first|decide+kernel|(dsimp only;decide+kernel)),fun h_=>?_⟩;clear h_;(conv=>whnf))))
 refine⟨[],[some 0,some 2],_,_,_,_,rZ (pB f t ch e n s d sl) (pB f t 0 0 0 0 0 0),t3,cw ?_⟩;refine rn ?_;refine⟨[],[some 0,some 2],_,_,_,_,r7 (pB f t ch e n s d sl) (pB f t ch 0 0 0 0 0),t3,cw ?_⟩;refine rn ?_;refine⟨[],[some 0,some 2],_,_,_,_,FY (pB f t ch e n s d sl) (pB f t ch e 0 0 0 0),t3,cw ?_⟩;refine rn ?_;refine⟨[],[some 0,some 2],_,_,_,_,Co (pB f t ch e n s d sl) (pB f t ch e 0 s 0 0),t3,cw ?_⟩;refine rn ?_;refine⟨[],[some 0,some 2],_,_,_,_,Ln (pB f t ch e n s d sl) (pB f t ch e 0 s d 0),t3,cw ?_⟩;refine rn ?_
 refine⟨[],[some 0,some 2],_,_,_,_,OP (pB f t ch e n s d sl) (pB f t ch e 0 s d sl),t3,cw ?_⟩;refine rn ?_;exact⟨[],[],_,_,_,t3,rfl,rfl,rfl⟩
theorem SU (f t ch e:Int) (us:List c7):VC E0 95 0 [.agg (bK (AJ f t ch e us))] [] (RR (.agg (bK (AJ f t ch e us))) 0 []):=by
 refine VC.dp L0 (show E0.func 95=some Tryz.f95 by kernel_rfl) (fun _ _=>rfl) rfl rfl [999999] ?_;refine wh ?_
 repeat(first|(refine⟨by first|decide+kernel|(dsimp only;decide+kernel),?_⟩;have eN:=True.intro;clear eN;(conv=>whnf))|(refine⟨_,rfl,?_⟩;have eN:=True.intro;clear eN;(conv=>whnf))|((try(first|rw[Wr]|rw[XN]|rw[XO]|rw[XP]|rw[XQ]|rw[XR]|rw[XS]|rw[XT]|rw[XU]|rw[XV]|rw[XW]|rw[XX]|rw[XY]|rw[XZ]|rw[X0]));(try rw[Lp]);(try rw[Lq]);(try rw[Lt]);(try rw[Lu]);first|(refine⟨fun h_=>?_,fun h_=>absurd (by first|decide+kernel|rfl |(dsimp only;decide+kernel)) h_⟩;clear h_;(conv=>whnf))|(refine⟨fun h_=>absurd h_ (by first|decide+kernel|(dsimp only;decide+kernel)),fun h_=>?_⟩;clear h_;(conv=>whnf))))
 refine⟨[],[some 0,some 2],_,_,_,_,rZ (AJ f t ch e us) (AJ f t 0 0 []),t3,cw ?_⟩;refine rn ?_;refine⟨[],[some 0,some 2],_,_,_,_,r7 (AJ f t ch e us) (AJ f t ch 0 []),t3,cw ?_⟩;refine rn ?_;refine⟨[],[some 0,some 2],_,_,_,_,Lo (AJ f t ch e us) (AJ f t ch e []),t3,cw ?_⟩;refine rn ?_;exact⟨[],[],_,_,_,t3,rfl,rfl,rfl⟩
end Go.M
