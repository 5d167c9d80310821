/-
  Part 23 of the library that the proof leans on.
-/
import Derived.Test.YtgjfaieghmigjaaGreatDoorL22
namespace Go.M
open Go Go.Proofs
set_option maxRecDepth 100000
set_option maxHeartbeats 4000000
structure UpR where
 seq:Int
 client:Int
 num:Int
 kind:Int
 key:Int
 ver:Int
 data:List Int
@[reducible] def encU (u:UpR):List TV:=[.s (.int .u64 u.seq),.s (.int .i64 u.client),.s (.int .u64 u.num),.s (.int .i64 u.kind),.s (.int .u32 u.key),.s (.int .u64 u.ver),.sl 1 (encU8 u.data) false]
structure Lt where
 kind:Int
 chain:Int
 epoch:Int
 seq:Int
 done:Int
 us:List (List TV)
@[reducible] def encT (m:Lt):List TV:=[.s (.int .i64 m.kind),.s (.int .i64 1),.s (.int .i64 1),.s (.int .i64 m.chain),.s (.int .u64 m.epoch),.s (.int .u64 0),.s (.int .u64 0),.s (.int .u64 m.seq),.s (.int .u64 m.done),.s (.int .u64 0),.s (.int .i64 0),.s (.int .u32 0),.s (.int .i64 0),
 .s (.int .i64 0),.s (.int .i64 0),.s (.int .u64 0),.s (.int .i64 0),.s (.int .i64 0),.s (.int .u64 0),.sl 1 [] false,.s (.bool false),.s (.int .i64 0),.sl 6 [] false,.sl 7 m.us false,.sl 1 [] false]
@[reducible] def oT2 (m m':Lt):Ob:=[(0,.cells (encT m)),(1,.cells (encT m'))]
theorem wr0:IntKind.i64.wrap (0+1)=1:=rfl
theorem wr1:IntKind.i64.wrap (1+1)=2:=rfl
theorem wr2:IntKind.i64.wrap (2+1)=3:=rfl
theorem wr3:IntKind.i64.wrap (3+1)=4:=rfl
theorem wr4:IntKind.i64.wrap (4+1)=5:=rfl
theorem wr5:IntKind.i64.wrap (5+1)=6:=rfl
theorem wr6:IntKind.i64.wrap (6+1)=7:=rfl
theorem wr7:IntKind.i64.wrap (7+1)=8:=rfl
theorem wr8:IntKind.i64.wrap (8+1)=9:=rfl
theorem wr9:IntKind.i64.wrap (9+1)=10:=rfl
theorem wrA:IntKind.i64.wrap (10+1)=11:=rfl
theorem wrB:IntKind.i64.wrap (11+1)=12:=rfl
theorem wrC:IntKind.i64.wrap (12+1)=13:=rfl
theorem wrD:IntKind.i64.wrap (13+1)=14:=rfl
theorem wrE:IntKind.i64.wrap (14+1)=15:=rfl
end Go.M
