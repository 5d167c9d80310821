/-
  Part 19 of the library that the proof leans on.
-/
import Derived.Test.YtpkdpgcpmeibpaaGreatDoorL12
import Derived.Test.YtpkdpgcpmeibpaaGreatDoorL17
import Derived.Test.YtpkdpgcpmeibpaaGreatDoorL18
namespace Go.M
open Go Go.Proofs
set_option maxRecDepth 100000
set_option maxHeartbeats 4000000
structure dr where
 kind:Int
 al:Int
 to:Int
 ai:Int
 slot:Int
 cmd:cA
 GS:CF
 fk:List ak
@[reducible] def az (m:dr):List TV:=[.s (.int .i64 m.kind),.s (.int .i64 m.al),.s (.int .i64 m.to),.s (.int .i64 0),.s (.int .u64 0),.s (.int .u64 m.ai),.s (.int .u64 0),.s (.int .u64 0),.s (.int .u64 0),.s (.int .u64 0),.s (.int .i64 m.slot),.s (.int .u32 0),.s (.int .i64 0),
 .s (.int .i64 m.cmd.kind),.s (.int .i64 m.cmd.chain),.s (.int .u64 m.cmd.aq),.s (.int .i64 m.cmd.node),.s (.int .i64 m.GS.chain),.s (.int .u64 m.GS.aq),.sl 1 (m.GS.nodes.map aR) false,.s (.bool m.GS.fresh),.s (.int .i64 m.GS.join),c6 m.fk,.sl 7 [] false,.sl 1 [] false]
@[reducible] def US (m m':dr):Ob:=[(0,.cells (az m)),(1,.cells (az m'))]
theorem jW (m m':dr):VC E0 79 2 [.ptr 0 0,.ptr 1 0] (US m m') (RR (.dk []) 2 (US m {m' with ai:=m.ai})):=by
 refine en L0 Tryz.f79 ?_;exact⟨[],[some 0,some 1],_,_,_,t3,rfl,rfl,rfl⟩
theorem ml (m m':dr):VC E0 82 2 [.ptr 0 0,.ptr 1 0] (US m m') (RR (.dk []) 2 (US m {m' with slot:=m.slot})):=by
 refine en L0 Tryz.f82 ?_;exact⟨[],[some 0,some 1],_,_,_,t3,rfl,rfl,rfl⟩
theorem Ed (m m':dr):VC E0 87 2 [.ptr 0 0,.ptr 1 0] (US m m') (RR (.dk []) 2 (US m {m' with cmd:=m.cmd})):=by
 refine en L0 Tryz.f87 ?_;exact⟨[],[some 0,some 1],_,_,_,t3,rfl,rfl,rfl⟩
theorem Mt (m m':dr):VC E0 89 2 [.ptr 0 0,.ptr 1 0] (US m m') (RR (.dk []) 2 (US m {m' with fk:=m.fk})):=by
 refine en L0 Tryz.f89 ?_;exact⟨[],[some 0,some 1],_,_,_,t3,rfl,rfl,rfl⟩
theorem Cp:IntKind.i64.wrap ↑(BitVec.ofInt IntKind.i64.bits 0|||BitVec.ofInt IntKind.i64.bits 4).toNat=4:=rfl
theorem P6:IntKind.i64.wrap ↑(BitVec.ofInt IntKind.i64.bits 0|||BitVec.ofInt IntKind.i64.bits 32).toNat=32:=rfl
theorem P7:IntKind.i64.wrap ↑(BitVec.ofInt IntKind.i64.bits 0|||BitVec.ofInt IntKind.i64.bits 1024).toNat=1024:=rfl
theorem zX:IntKind.i64.wrap ↑(BitVec.ofInt IntKind.i64.bits 4|||BitVec.ofInt IntKind.i64.bits 32).toNat=36:=rfl
theorem Mu:IntKind.i64.wrap ↑(BitVec.ofInt IntKind.i64.bits 36|||BitVec.ofInt IntKind.i64.bits 4096).toNat=4132:=rfl
theorem Mv:IntKind.i64.wrap ↑(BitVec.ofInt IntKind.i64.bits 36|||BitVec.ofInt IntKind.i64.bits 1024).toNat=1060:=rfl
theorem Mw:IntKind.i64.wrap ↑(BitVec.ofInt IntKind.i64.bits 32|||BitVec.ofInt IntKind.i64.bits 1024).toNat=1056:=rfl
theorem Jk:IntKind.i64.wrap ↑(BitVec.ofInt IntKind.i64.bits 36|||BitVec.ofInt IntKind.i64.bits 0).toNat=36:=rfl
theorem P8:IntKind.i64.wrap ↑(BitVec.ofInt IntKind.i64.bits 4132|||BitVec.ofInt IntKind.i64.bits 0).toNat=4132:=rfl
theorem P9:IntKind.i64.wrap ↑(BitVec.ofInt IntKind.i64.bits 1060|||BitVec.ofInt IntKind.i64.bits 0).toNat=1060:=rfl
theorem Qa:IntKind.i64.wrap ↑(BitVec.ofInt IntKind.i64.bits 1056|||BitVec.ofInt IntKind.i64.bits 0).toNat=1056:=rfl
theorem WO:IntKind.i64.wrap ↑(BitVec.ofInt IntKind.i64.bits 32|||BitVec.ofInt IntKind.i64.bits 0).toNat=32:=rfl
theorem aan:IntKind.i64.wrap ↑(BitVec.ofInt IntKind.i64.bits 4|||BitVec.ofInt IntKind.i64.bits 0).toNat=4:=rfl
theorem Qb:IntKind.i64.wrap ↑(BitVec.ofInt IntKind.i64.bits 1024|||BitVec.ofInt IntKind.i64.bits 0).toNat=1024:=rfl
theorem aao (al to b s:Int):VC E0 40 0 [.agg (az ⟨1,al,to,b,s,aH,aY,[]⟩)] [] (RR (.agg (az ⟨1,al,to,b,s,aH,aY,[]⟩)) 0 []):=by
 refine VC.cV L0 (show E0.func 40=some Tryz.f40 by kernel_rfl) (fun _ _=>rfl) rfl rfl [999999] ?_;refine wh ?_
 repeat(first|(refine⟨by first|decide+kernel|(dsimp only;decide+kernel),?_⟩;have bm:=True.intro;clear bm;(conv=>whnf))|(refine⟨_,rfl,?_⟩;have bm:=True.intro;clear bm;(conv=>whnf))|((try(first|rw[Rc]|rw[Re]|rw[Rf]|rw[Rg]|rw[Rh]|rw[Ri]|rw[Rj]|rw[Rk]|rw[Rl]|rw[Rm]|rw[Rn]|rw[Ro]|rw[Rp]|rw[Rq]|rw[Rr]));(try rw[Cp]);(try rw[zX]);(try rw[Jk]);first|(refine⟨fun h_=>?_,fun h_=>absurd (by first|decide+kernel|rfl |(dsimp only;decide+kernel)) h_⟩;clear h_;(conv=>whnf))|(refine⟨fun h_=>absurd h_ (by first|decide+kernel|(dsimp only;decide+kernel)),fun h_=>?_⟩;clear h_;(conv=>whnf))))
 refine⟨[],[some 0,some 2],_,_,_,_,jW ⟨1,al,to,b,s,aH,aY,[]⟩ ⟨1,al,to,0,0,aH,aY,[]⟩,t3,cw ?_⟩;refine rn ?_;refine⟨[],[some 0,some 2],_,_,_,_,ml ⟨1,al,to,b,s,aH,aY,[]⟩ ⟨1,al,to,b,0,aH,aY,[]⟩,t3,cw ?_⟩;refine rn ?_;exact⟨[],[],_,_,_,t3,rfl,rfl,rfl⟩
theorem aap (al to b s:Int):VC E0 40 0 [.agg (az ⟨4,al,to,b,s,aH,aY,[]⟩)] [] (RR (.agg (az ⟨4,al,to,b,s,aH,aY,[]⟩)) 0 []):=by
 refine VC.cV L0 (show E0.func 40=some Tryz.f40 by kernel_rfl) (fun _ _=>rfl) rfl rfl [999999] ?_;refine wh ?_
 repeat(first|(refine⟨by first|decide+kernel|(dsimp only;decide+kernel),?_⟩;have bm:=True.intro;clear bm;(conv=>whnf))|(refine⟨_,rfl,?_⟩;have bm:=True.intro;clear bm;(conv=>whnf))|((try(first|rw[Rc]|rw[Re]|rw[Rf]|rw[Rg]|rw[Rh]|rw[Ri]|rw[Rj]|rw[Rk]|rw[Rl]|rw[Rm]|rw[Rn]|rw[Ro]|rw[Rp]|rw[Rq]|rw[Rr]));(try rw[Cp]);(try rw[zX]);(try rw[Jk]);first|(refine⟨fun h_=>?_,fun h_=>absurd (by first|decide+kernel|rfl |(dsimp only;decide+kernel)) h_⟩;clear h_;(conv=>whnf))|(refine⟨fun h_=>absurd h_ (by first|decide+kernel|(dsimp only;decide+kernel)),fun h_=>?_⟩;clear h_;(conv=>whnf))))
 refine⟨[],[some 0,some 2],_,_,_,_,jW ⟨4,al,to,b,s,aH,aY,[]⟩ ⟨4,al,to,0,0,aH,aY,[]⟩,t3,cw ?_⟩;refine rn ?_;refine⟨[],[some 0,some 2],_,_,_,_,ml ⟨4,al,to,b,s,aH,aY,[]⟩ ⟨4,al,to,b,0,aH,aY,[]⟩,t3,cw ?_⟩;refine rn ?_;exact⟨[],[],_,_,_,t3,rfl,rfl,rfl⟩
theorem aaq (al to b s:Int):VC E0 40 0 [.agg (az ⟨6,al,to,b,s,aH,aY,[]⟩)] [] (RR (.agg (az ⟨6,al,to,b,s,aH,aY,[]⟩)) 0 []):=by
 refine VC.cV L0 (show E0.func 40=some Tryz.f40 by kernel_rfl) (fun _ _=>rfl) rfl rfl [999999] ?_;refine wh ?_
 repeat(first|(refine⟨by first|decide+kernel|(dsimp only;decide+kernel),?_⟩;have bm:=True.intro;clear bm;(conv=>whnf))|(refine⟨_,rfl,?_⟩;have bm:=True.intro;clear bm;(conv=>whnf))|((try(first|rw[Rc]|rw[Re]|rw[Rf]|rw[Rg]|rw[Rh]|rw[Ri]|rw[Rj]|rw[Rk]|rw[Rl]|rw[Rm]|rw[Rn]|rw[Ro]|rw[Rp]|rw[Rq]|rw[Rr]));(try rw[Cp]);(try rw[zX]);(try rw[Jk]);first|(refine⟨fun h_=>?_,fun h_=>absurd (by first|decide+kernel|rfl |(dsimp only;decide+kernel)) h_⟩;clear h_;(conv=>whnf))|(refine⟨fun h_=>absurd h_ (by first|decide+kernel|(dsimp only;decide+kernel)),fun h_=>?_⟩;clear h_;(conv=>whnf))))
 refine⟨[],[some 0,some 2],_,_,_,_,jW ⟨6,al,to,b,s,aH,aY,[]⟩ ⟨6,al,to,0,0,aH,aY,[]⟩,t3,cw ?_⟩;refine rn ?_;refine⟨[],[some 0,some 2],_,_,_,_,ml ⟨6,al,to,b,s,aH,aY,[]⟩ ⟨6,al,to,b,0,aH,aY,[]⟩,t3,cw ?_⟩;refine rn ?_;exact⟨[],[],_,_,_,t3,rfl,rfl,rfl⟩
theorem aar (al to b s:Int) (vs:List ak):VC E0 40 0 [.agg (az ⟨2,al,to,b,s,aH,aY,vs⟩)] [] (RR (.agg (az ⟨2,al,to,b,s,aH,aY,vs⟩)) 0 []):=by
 refine VC.cV L0 (show E0.func 40=some Tryz.f40 by kernel_rfl) (fun _ _=>rfl) rfl rfl [999999] ?_;refine wh ?_
 repeat(first|(refine⟨by first|decide+kernel|(dsimp only;decide+kernel),?_⟩;have bm:=True.intro;clear bm;(conv=>whnf))|(refine⟨_,rfl,?_⟩;have bm:=True.intro;clear bm;(conv=>whnf))|((try(first|rw[Rc]|rw[Re]|rw[Rf]|rw[Rg]|rw[Rh]|rw[Ri]|rw[Rj]|rw[Rk]|rw[Rl]|rw[Rm]|rw[Rn]|rw[Ro]|rw[Rp]|rw[Rq]|rw[Rr]));(try rw[Cp]);(try rw[zX]);(try rw[Mu]);(try rw[P8]);first|(refine⟨fun h_=>?_,fun h_=>absurd (by first|decide+kernel|rfl |(dsimp only;decide+kernel)) h_⟩;clear h_;(conv=>whnf))|(refine⟨fun h_=>absurd h_ (by first|decide+kernel|(dsimp only;decide+kernel)),fun h_=>?_⟩;clear h_;(conv=>whnf))))
 refine⟨[],[some 0,some 2],_,_,_,_,jW ⟨2,al,to,b,s,aH,aY,vs⟩ ⟨2,al,to,0,0,aH,aY,[]⟩,t3,cw ?_⟩;refine rn ?_;refine⟨[],[some 0,some 2],_,_,_,_,ml ⟨2,al,to,b,s,aH,aY,vs⟩ ⟨2,al,to,b,0,aH,aY,[]⟩,t3,cw ?_⟩;refine rn ?_;refine⟨[],[some 0,some 2],_,_,_,_,Mt ⟨2,al,to,b,s,aH,aY,vs⟩ ⟨2,al,to,b,s,aH,aY,[]⟩,t3,cw ?_⟩;refine rn ?_;exact⟨[],[],_,_,_,t3,rfl,rfl,rfl⟩
theorem aas (al to b s:Int) (c:cA):VC E0 40 0 [.agg (az ⟨3,al,to,b,s,c,aY,[]⟩)] [] (RR (.agg (az ⟨3,al,to,b,s,c,aY,[]⟩)) 0 []):=by
 refine VC.cV L0 (show E0.func 40=some Tryz.f40 by kernel_rfl) (fun _ _=>rfl) rfl rfl [999999] ?_;refine wh ?_
 repeat(first|(refine⟨by first|decide+kernel|(dsimp only;decide+kernel),?_⟩;have bm:=True.intro;clear bm;(conv=>whnf))|(refine⟨_,rfl,?_⟩;have bm:=True.intro;clear bm;(conv=>whnf))|((try(first|rw[Rc]|rw[Re]|rw[Rf]|rw[Rg]|rw[Rh]|rw[Ri]|rw[Rj]|rw[Rk]|rw[Rl]|rw[Rm]|rw[Rn]|rw[Ro]|rw[Rp]|rw[Rq]|rw[Rr]));(try rw[Cp]);(try rw[zX]);(try rw[Mv]);(try rw[P9]);first|(refine⟨fun h_=>?_,fun h_=>absurd (by first|decide+kernel|rfl |(dsimp only;decide+kernel)) h_⟩;clear h_;(conv=>whnf))|(refine⟨fun h_=>absurd h_ (by first|decide+kernel|(dsimp only;decide+kernel)),fun h_=>?_⟩;clear h_;(conv=>whnf))))
 refine⟨[],[some 0,some 2],_,_,_,_,jW ⟨3,al,to,b,s,c,aY,[]⟩ ⟨3,al,to,0,0,aH,aY,[]⟩,t3,cw ?_⟩;refine rn ?_;refine⟨[],[some 0,some 2],_,_,_,_,ml ⟨3,al,to,b,s,c,aY,[]⟩ ⟨3,al,to,b,0,aH,aY,[]⟩,t3,cw ?_⟩;refine rn ?_;refine⟨[],[some 0,some 2],_,_,_,_,Ed ⟨3,al,to,b,s,c,aY,[]⟩ ⟨3,al,to,b,s,aH,aY,[]⟩,t3,cw ?_⟩;refine rn ?_;exact⟨[],[],_,_,_,t3,rfl,rfl,rfl⟩
theorem aat (al to s:Int) (c:cA):VC E0 40 0 [.agg (az ⟨5,al,to,0,s,c,aY,[]⟩)] [] (RR (.agg (az ⟨5,al,to,0,s,c,aY,[]⟩)) 0 []):=by
 refine VC.cV L0 (show E0.func 40=some Tryz.f40 by kernel_rfl) (fun _ _=>rfl) rfl rfl [999999] ?_;refine wh ?_
 repeat(first|(refine⟨by first|decide+kernel|(dsimp only;decide+kernel),?_⟩;have bm:=True.intro;clear bm;(conv=>whnf))|(refine⟨_,rfl,?_⟩;have bm:=True.intro;clear bm;(conv=>whnf))|((try(first|rw[Rc]|rw[Re]|rw[Rf]|rw[Rg]|rw[Rh]|rw[Ri]|rw[Rj]|rw[Rk]|rw[Rl]|rw[Rm]|rw[Rn]|rw[Ro]|rw[Rp]|rw[Rq]|rw[Rr]));(try rw[P6]);(try rw[Mw]);(try rw[Qa]);first|(refine⟨fun h_=>?_,fun h_=>absurd (by first|decide+kernel|rfl |(dsimp only;decide+kernel)) h_⟩;clear h_;(conv=>whnf))|(refine⟨fun h_=>absurd h_ (by first|decide+kernel|(dsimp only;decide+kernel)),fun h_=>?_⟩;clear h_;(conv=>whnf))))
 refine⟨[],[some 0,some 2],_,_,_,_,ml ⟨5,al,to,0,s,c,aY,[]⟩ ⟨5,al,to,0,0,aH,aY,[]⟩,t3,cw ?_⟩;refine rn ?_;refine⟨[],[some 0,some 2],_,_,_,_,Ed ⟨5,al,to,0,s,c,aY,[]⟩ ⟨5,al,to,0,s,aH,aY,[]⟩,t3,cw ?_⟩;refine rn ?_;exact⟨[],[],_,_,_,t3,rfl,rfl,rfl⟩
theorem aau (al to s:Int):VC E0 40 0 [.agg (az ⟨7,al,to,0,s,aH,aY,[]⟩)] [] (RR (.agg (az ⟨7,al,to,0,s,aH,aY,[]⟩)) 0 []):=by
 refine VC.cV L0 (show E0.func 40=some Tryz.f40 by kernel_rfl) (fun _ _=>rfl) rfl rfl [999999] ?_;refine wh ?_
 repeat(first|(refine⟨by first|decide+kernel|(dsimp only;decide+kernel),?_⟩;have bm:=True.intro;clear bm;(conv=>whnf))|(refine⟨_,rfl,?_⟩;have bm:=True.intro;clear bm;(conv=>whnf))|((try(first|rw[Rc]|rw[Re]|rw[Rf]|rw[Rg]|rw[Rh]|rw[Ri]|rw[Rj]|rw[Rk]|rw[Rl]|rw[Rm]|rw[Rn]|rw[Ro]|rw[Rp]|rw[Rq]|rw[Rr]));(try rw[P6]);(try rw[WO]);first|(refine⟨fun h_=>?_,fun h_=>absurd (by first|decide+kernel|rfl |(dsimp only;decide+kernel)) h_⟩;clear h_;(conv=>whnf))|(refine⟨fun h_=>absurd h_ (by first|decide+kernel|(dsimp only;decide+kernel)),fun h_=>?_⟩;clear h_;(conv=>whnf))))
 refine⟨[],[some 0,some 2],_,_,_,_,ml ⟨7,al,to,0,s,aH,aY,[]⟩ ⟨7,al,to,0,0,aH,aY,[]⟩,t3,cw ?_⟩;refine rn ?_;exact⟨[],[],_,_,_,t3,rfl,rfl,rfl⟩
theorem aav (al to b:Int):VC E0 40 0 [.agg (az ⟨8,al,to,b,0,aH,aY,[]⟩)] [] (RR (.agg (az ⟨8,al,to,b,0,aH,aY,[]⟩)) 0 []):=by
 refine VC.cV L0 (show E0.func 40=some Tryz.f40 by kernel_rfl) (fun _ _=>rfl) rfl rfl [999999] ?_;refine wh ?_
 repeat(first|(refine⟨by first|decide+kernel|(dsimp only;decide+kernel),?_⟩;have bm:=True.intro;clear bm;(conv=>whnf))|(refine⟨_,rfl,?_⟩;have bm:=True.intro;clear bm;(conv=>whnf))|((try(first|rw[Rc]|rw[Re]|rw[Rf]|rw[Rg]|rw[Rh]|rw[Ri]|rw[Rj]|rw[Rk]|rw[Rl]|rw[Rm]|rw[Rn]|rw[Ro]|rw[Rp]|rw[Rq]|rw[Rr]));(try rw[Cp]);(try rw[aan]);first|(refine⟨fun h_=>?_,fun h_=>absurd (by first|decide+kernel|rfl |(dsimp only;decide+kernel)) h_⟩;clear h_;(conv=>whnf))|(refine⟨fun h_=>absurd h_ (by first|decide+kernel|(dsimp only;decide+kernel)),fun h_=>?_⟩;clear h_;(conv=>whnf))))
 refine⟨[],[some 0,some 2],_,_,_,_,jW ⟨8,al,to,b,0,aH,aY,[]⟩ ⟨8,al,to,0,0,aH,aY,[]⟩,t3,cw ?_⟩;refine rn ?_;exact⟨[],[],_,_,_,t3,rfl,rfl,rfl⟩
theorem bare9 (al to:Int) (c:cA):VC E0 40 0 [.agg (az ⟨9,al,to,0,0,c,aY,[]⟩)] [] (RR (.agg (az ⟨9,al,to,0,0,c,aY,[]⟩)) 0 []):=by
 refine VC.cV L0 (show E0.func 40=some Tryz.f40 by kernel_rfl) (fun _ _=>rfl) rfl rfl [999999] ?_;refine wh ?_
 repeat(first|(refine⟨by first|decide+kernel|(dsimp only;decide+kernel),?_⟩;have bm:=True.intro;clear bm;(conv=>whnf))|(refine⟨_,rfl,?_⟩;have bm:=True.intro;clear bm;(conv=>whnf))|((try(first|rw[Rc]|rw[Re]|rw[Rf]|rw[Rg]|rw[Rh]|rw[Ri]|rw[Rj]|rw[Rk]|rw[Rl]|rw[Rm]|rw[Rn]|rw[Ro]|rw[Rp]|rw[Rq]|rw[Rr]));(try rw[P7]);(try rw[Qb]);first|(refine⟨fun h_=>?_,fun h_=>absurd (by first|decide+kernel|rfl |(dsimp only;decide+kernel)) h_⟩;clear h_;(conv=>whnf))|(refine⟨fun h_=>absurd h_ (by first|decide+kernel|(dsimp only;decide+kernel)),fun h_=>?_⟩;clear h_;(conv=>whnf))))
 refine⟨[],[some 0,some 2],_,_,_,_,Ed ⟨9,al,to,0,0,c,aY,[]⟩ ⟨9,al,to,0,0,aH,aY,[]⟩,t3,cw ?_⟩;refine rn ?_;exact⟨[],[],_,_,_,t3,rfl,rfl,rfl⟩
end Go.M
