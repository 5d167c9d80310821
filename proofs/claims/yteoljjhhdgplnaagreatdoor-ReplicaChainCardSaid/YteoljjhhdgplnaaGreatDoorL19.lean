/-
  Part 19 of the library that the proof leans on.
-/
import Derived.Test.YteoljjhhdgplnaaGreatDoorL12
import Derived.Test.YteoljjhhdgplnaaGreatDoorL18
namespace Go.M
open Go Go.Proofs
set_option maxRecDepth 100000
set_option maxHeartbeats 4000000
@[reducible] def b7 (u:bo):List TV:=[.s (.int .u64 u.seq),.s (.int .i64 u.ak),.s (.int .u64 u.num),.s (.int .i64 u.kind),.s (.int .u32 u.key),.s (.int .u64 u.cB),.sl 1 (bM u.data) false]
@[reducible] def ai (m:Lr):List TV:=[.s (.int .i64 m.kind),.s (.int .i64 m.DY),.s (.int .i64 m.to),.s (.int .i64 m.chain),.s (.int .u64 m.aB),.s (.int .u64 0),.s (.int .u64 m.num),.s (.int .u64 m.seq),.s (.int .u64 m.done),.s (.int .u64 m.cB),.s (.int .i64 m.slot),.s (.int .u32 0),.s (.int .i64 m.code),
 .s (.int .i64 0),.s (.int .i64 0),.s (.int .u64 0),.s (.int .i64 0),.s (.int .i64 0),.s (.int .u64 0),.sl 1 [] false,.s (.bool false),.s (.int .i64 0),.sl 6 [] false,.sl 7 (m.us.map b7) false,.sl 1 (bM m.data) false]
@[reducible] def Ia (m m':Lr):Ob:=[(0,.cells (ai m)),(1,.cells (ai m'))]
theorem tZ (m m':Lr):VC E0 126 2 [.ptr 0 0,.ptr 1 0] (Ia m m') (RR (.cY []) 2 (Ia m {m' with chain:=m.chain})):=by
 refine en L0 Tryz.f126 ?_;exact⟨[],[some 0,some 1],_,_,_,t3,rfl,rfl,rfl⟩
theorem ua (m m':Lr):VC E0 127 2 [.ptr 0 0,.ptr 1 0] (Ia m m') (RR (.cY []) 2 (Ia m {m' with aB:=m.aB})):=by
 refine en L0 Tryz.f127 ?_;exact⟨[],[some 0,some 1],_,_,_,t3,rfl,rfl,rfl⟩
theorem Ib (m m':Lr):VC E0 129 2 [.ptr 0 0,.ptr 1 0] (Ia m m') (RR (.cY []) 2 (Ia m {m' with seq:=m.seq})):=by
 refine en L0 Tryz.f129 ?_;exact⟨[],[some 0,some 1],_,_,_,t3,rfl,rfl,rfl⟩
theorem D5 (m m':Lr):VC E0 130 2 [.ptr 0 0,.ptr 1 0] (Ia m m') (RR (.cY []) 2 (Ia m {m' with done:=m.done})):=by
 refine en L0 Tryz.f130 ?_;exact⟨[],[some 0,some 1],_,_,_,t3,rfl,rfl,rfl⟩
theorem Nd (m m':Lr):VC E0 131 2 [.ptr 0 0,.ptr 1 0] (Ia m m') (RR (.cY []) 2 (Ia m {m' with slot:=m.slot})):=by
 refine en L0 Tryz.f131 ?_;exact⟨[],[some 0,some 1],_,_,_,t3,rfl,rfl,rfl⟩
theorem Qq (m m':Lr):VC E0 132 2 [.ptr 0 0,.ptr 1 0] (Ia m m') (RR (.cY []) 2 (Ia m {m' with num:=m.num})):=by
 refine en L0 Tryz.f132 ?_;exact⟨[],[some 0,some 1],_,_,_,t3,rfl,rfl,rfl⟩
theorem Nf (m m':Lr):VC E0 139 2 [.ptr 0 0,.ptr 1 0] (Ia m m') (RR (.cY []) 2 (Ia m {m' with us:=m.us})):=by
 refine en L0 Tryz.f139 ?_;exact⟨[],[some 0,some 1],_,_,_,t3,rfl,rfl,rfl⟩
theorem Ng:IntKind.i64.wrap ↑(BitVec.ofInt IntKind.i64.bits 0|||BitVec.ofInt IntKind.i64.bits 1).toNat=1:=rfl
theorem Nh:IntKind.i64.wrap ↑(BitVec.ofInt IntKind.i64.bits 1|||BitVec.ofInt IntKind.i64.bits 2).toNat=3:=rfl
theorem Sw:IntKind.i64.wrap ↑(BitVec.ofInt IntKind.i64.bits 3|||BitVec.ofInt IntKind.i64.bits 8).toNat=11:=rfl
theorem Ic:IntKind.i64.wrap ↑(BitVec.ofInt IntKind.i64.bits 11|||BitVec.ofInt IntKind.i64.bits 16).toNat=27:=rfl
theorem JY:IntKind.i64.wrap ↑(BitVec.ofInt IntKind.i64.bits 27|||BitVec.ofInt IntKind.i64.bits 8192).toNat=8219:=rfl
theorem Nj:IntKind.i64.wrap ↑(BitVec.ofInt IntKind.i64.bits 8219|||BitVec.ofInt IntKind.i64.bits 0).toNat=8219:=rfl
theorem Qr:IntKind.i64.wrap ↑(BitVec.ofInt IntKind.i64.bits 27|||BitVec.ofInt IntKind.i64.bits 64).toNat=91:=rfl
theorem Qs:IntKind.i64.wrap ↑(BitVec.ofInt IntKind.i64.bits 91|||BitVec.ofInt IntKind.i64.bits 32).toNat=123:=rfl
theorem Nk:IntKind.i64.wrap ↑(BitVec.ofInt IntKind.i64.bits 3|||BitVec.ofInt IntKind.i64.bits 8192).toNat=8195:=rfl
theorem Nl:IntKind.i64.wrap ↑(BitVec.ofInt IntKind.i64.bits 8195|||BitVec.ofInt IntKind.i64.bits 0).toNat=8195:=rfl
@[reducible] def rD (f t ch e s d:Int) (us:List bo):Lr:=⟨12,f,t,ch,e,0,s,d,0,0,0,us,[]⟩
@[reducible] def pS (f t ch e n s d sl:Int):Lr:=⟨13,f,t,ch,e,n,s,d,0,sl,0,[],[]⟩
@[reducible] def Af (f t ch e:Int) (us:List bo):Lr:=⟨17,f,t,ch,e,0,0,0,0,0,0,us,[]⟩
theorem UF (f t ch e s d:Int) (us:List bo):VC E0 95 0 [.agg (ai (rD f t ch e s d us))] [] (RR (.agg (ai (rD f t ch e s d us))) 0 []):=by
 refine VC.dM L0 (show E0.func 95=some Tryz.f95 by kernel_rfl) (fun _ _=>rfl) rfl rfl [999999] ?_;refine wh ?_
 repeat(first|(refine⟨by first|decide+kernel|(dsimp only;decide+kernel),?_⟩;have eo:=True.intro;clear eo;(conv=>whnf))|(refine⟨_,rfl,?_⟩;have eo:=True.intro;clear eo;(conv=>whnf))|((try(first|rw[X7]|rw[Zn]|rw[Zo]|rw[Zp]|rw[Zq]|rw[Zr]|rw[Zs]|rw[Zt]|rw[Zu]|rw[Zv]|rw[Zw]|rw[Zx]|rw[Zy]|rw[Zz]|rw[ZA]));(try rw[Ng]);(try rw[Nh]);(try rw[Sw]);(try rw[Ic]);(try rw[JY]);(try rw[Nj]);first|(refine⟨fun h_=>?_,fun h_=>absurd (by first|decide+kernel|rfl |(dsimp only;decide+kernel)) h_⟩;clear h_;(conv=>whnf))|(refine⟨fun h_=>absurd h_ (by first|decide+kernel|(dsimp only;decide+kernel)),fun h_=>?_⟩;clear h_;(conv=>whnf))))
 refine⟨[],[some 0,some 2],_,_,_,_,tZ (rD f t ch e s d us) (rD f t 0 0 0 0 []),t3,cw ?_⟩;refine rn ?_;refine⟨[],[some 0,some 2],_,_,_,_,ua (rD f t ch e s d us) (rD f t ch 0 0 0 []),t3,cw ?_⟩;refine rn ?_;refine⟨[],[some 0,some 2],_,_,_,_,Ib (rD f t ch e s d us) (rD f t ch e 0 0 []),t3,cw ?_⟩;refine rn ?_;refine⟨[],[some 0,some 2],_,_,_,_,D5 (rD f t ch e s d us) (rD f t ch e s 0 []),t3,cw ?_⟩;refine rn ?_;refine⟨[],[some 0,some 2],_,_,_,_,Nf (rD f t ch e s d us) (rD f t ch e s d []),t3,cw ?_⟩;refine rn ?_;exact⟨[],[],_,_,_,t3,rfl,rfl,rfl⟩
theorem UH (f t ch e n s d sl:Int):VC E0 95 0 [.agg (ai (pS f t ch e n s d sl))] [] (RR (.agg (ai (pS f t ch e n s d sl))) 0 []):=by
 refine VC.dM L0 (show E0.func 95=some Tryz.f95 by kernel_rfl) (fun _ _=>rfl) rfl rfl [999999] ?_;refine wh ?_
 repeat(first|(refine⟨by first|decide+kernel|(dsimp only;decide+kernel),?_⟩;have eo:=True.intro;clear eo;(conv=>whnf))|(refine⟨_,rfl,?_⟩;have eo:=True.intro;clear eo;(conv=>whnf))|((try(first|rw[X7]|rw[Zn]|rw[Zo]|rw[Zp]|rw[Zq]|rw[Zr]|rw[Zs]|rw[Zt]|rw[Zu]|rw[Zv]|rw[Zw]|rw[Zx]|rw[Zy]|rw[Zz]|rw[ZA]));(try rw[Ng]);(try rw[Nh]);(try rw[Sw]);(try rw[Ic]);(try rw[Qr]);(try rw[Qs]);first|(refine⟨fun h_=>?_,fun h_=>absurd (by first|decide+kernel|rfl |(dsimp only;decide+kernel)) h_⟩;clear h_;(conv=>whnf))|(refine⟨fun h_=>absurd h_ (by first|decide+kernel|(dsimp only;decide+kernel)),fun h_=>?_⟩;clear h_;(conv=>whnf))))
 refine⟨[],[some 0,some 2],_,_,_,_,tZ (pS f t ch e n s d sl) (pS f t 0 0 0 0 0 0),t3,cw ?_⟩;refine rn ?_;refine⟨[],[some 0,some 2],_,_,_,_,ua (pS f t ch e n s d sl) (pS f t ch 0 0 0 0 0),t3,cw ?_⟩;refine rn ?_;refine⟨[],[some 0,some 2],_,_,_,_,Ib (pS f t ch e n s d sl) (pS f t ch e 0 0 0 0),t3,cw ?_⟩;refine rn ?_;refine⟨[],[some 0,some 2],_,_,_,_,D5 (pS f t ch e n s d sl) (pS f t ch e 0 s 0 0),t3,cw ?_⟩;refine rn ?_;refine⟨[],[some 0,some 2],_,_,_,_,Nd (pS f t ch e n s d sl) (pS f t ch e 0 s d 0),t3,cw ?_⟩;refine rn ?_
 refine⟨[],[some 0,some 2],_,_,_,_,Qq (pS f t ch e n s d sl) (pS f t ch e 0 s d sl),t3,cw ?_⟩;refine rn ?_;exact⟨[],[],_,_,_,t3,rfl,rfl,rfl⟩
theorem UI (f t ch e:Int) (us:List bo):VC E0 95 0 [.agg (ai (Af f t ch e us))] [] (RR (.agg (ai (Af f t ch e us))) 0 []):=by
 refine VC.dM L0 (show E0.func 95=some Tryz.f95 by kernel_rfl) (fun _ _=>rfl) rfl rfl [999999] ?_;refine wh ?_
 repeat(first|(refine⟨by first|decide+kernel|(dsimp only;decide+kernel),?_⟩;have eo:=True.intro;clear eo;(conv=>whnf))|(refine⟨_,rfl,?_⟩;have eo:=True.intro;clear eo;(conv=>whnf))|((try(first|rw[X7]|rw[Zn]|rw[Zo]|rw[Zp]|rw[Zq]|rw[Zr]|rw[Zs]|rw[Zt]|rw[Zu]|rw[Zv]|rw[Zw]|rw[Zx]|rw[Zy]|rw[Zz]|rw[ZA]));(try rw[Ng]);(try rw[Nh]);(try rw[Nk]);(try rw[Nl]);first|(refine⟨fun h_=>?_,fun h_=>absurd (by first|decide+kernel|rfl |(dsimp only;decide+kernel)) h_⟩;clear h_;(conv=>whnf))|(refine⟨fun h_=>absurd h_ (by first|decide+kernel|(dsimp only;decide+kernel)),fun h_=>?_⟩;clear h_;(conv=>whnf))))
 refine⟨[],[some 0,some 2],_,_,_,_,tZ (Af f t ch e us) (Af f t 0 0 []),t3,cw ?_⟩;refine rn ?_;refine⟨[],[some 0,some 2],_,_,_,_,ua (Af f t ch e us) (Af f t ch 0 []),t3,cw ?_⟩;refine rn ?_;refine⟨[],[some 0,some 2],_,_,_,_,Nf (Af f t ch e us) (Af f t ch e []),t3,cw ?_⟩;refine rn ?_;exact⟨[],[],_,_,_,t3,rfl,rfl,rfl⟩
end Go.M
