/-
  Part 28 of the library that the proof leans on.
-/
import Derived.Test.YtgjfaieghmigjaaGreatDoorL26
import Derived.Test.YtgjfaieghmigjaaGreatDoorL27
namespace Go.M
open Go Go.Proofs
set_option maxRecDepth 100000
set_option maxHeartbeats 4000000
structure StS where
 e:Int
 bs:List (Int×List Vs)
 t:TabS
@[reducible] def blkV (vs:List Vs):TV:=.own (blkT vs)
@[reducible] def mapT (bs:List (Int×List Vs)):TO:=.maq (kIdx .u32) (bs.map (encA .u32 blkV)) []
@[reducible] def stoC (s:StS):TO:=.cells [.s (.int .u64 s.e),.mp 1,.own (tabT s.t)]
@[reducible] def stO (s:StS):Ob:=[(0,stoC s),(1,mapT s.bs)]
@[reducible] def outO (s:StS) (k:Int) (vs:List Vs):Ob:=[(0,.cells [.s (.int .u64 s.e),.mp 1,.own (tabT s.t)]),(1,.maq (kIdx .u32) (s.bs.map (encA .u32 blkV)) [(.int .u32 k,.ptr 2 0)]),(2,blkT vs)]
theorem block_no (s:StS) (k:Int) (h:lookA s.bs k=none):VC EZ 77 2 [.ptr 0 0,.s (.int .u32 k)] (stO s) (RR nilP 2 (stO s)):=by
 refine VC.enterR LZ (show EZ.func 77=some Tryz.f77 by kernel_rfl) (fun _ _=>rfl) rfl rfl [] ?_
 conv=>whnf
 refine⟨none,by rw[lookM_A,h];rfl,?_⟩
 conv=>whnf
 exact⟨[],[some 0,some 1],_,_,_,t3,rfl,rfl,rfl⟩
theorem block_is (s:StS) (k:Int) (vs:List Vs) (h:lookA s.bs k=some vs):VC EZ 77 2 [.ptr 0 0,.s (.int .u32 k)] (stO s) (RR (.ptr 2 0) 3 (outO s k vs)):=by
 refine VC.enterR LZ (show EZ.func 77=some Tryz.f77 by kernel_rfl) (fun _ _=>rfl) rfl rfl [] ?_
 conv=>whnf
 refine⟨some (blkV vs),by rw[lookM_A,h];rfl,?_⟩
 conv=>whnf
 exact⟨[],[some 0,some 1,some 2],_,_,_,t3,rfl,rfl,rfl⟩
theorem putA_same {bs:List (Int×List Vs)} {k:Int} {vs:List Vs} (h:lookA bs k=some vs):putA bs k vs=bs:=by
 induction bs with
 |nil=>cases h
 |cons e es ih=>
  unfold lookA at h
  unfold putA
  split at h
  ·rename_i he;cases h;rw[if_pos he,he]
  ·rename_i he;rw[if_neg he,ih h]
theorem keep_bs {bs:List (Int×List Vs)} {k:Int} {vs:List Vs} (h:lookA bs k=some vs):apM (bs.map (encA .u32 blkV)) [(.int .u32 k,blkV vs)]=bs.map (encA .u32 blkV):=by
 show putM (bs.map (encA .u32 blkV)) (.int .u32 k) (blkV vs)=_
 rw[putM_A,putA_same h]
theorem atV_nil (i:Int):atV [] i=zeroVs:=by unfold atV;split<;>simp
structure SOk (s:StS):Prop where
 v:∀k vs,lookA s.bs k=some vs→(∀v∈vs,VOk v)∧vs.length<100000
@[reducible] def ofK (s:StS) (k:Int):List Vs:=(lookA s.bs k).getD []
theorem ofK_none {s:StS} {k:Int} (h:lookA s.bs k=none):ofK s k=[]:=by unfold ofK;rw[h];rfl
theorem ofK_some {s:StS} {k:Int} {vs:List Vs} (h:lookA s.bs k=some vs):ofK s k=vs:=by unfold ofK;rw[h];rfl
theorem last_ok (s:StS) (k:Int) (H:SOk s):VC EZ 36 2 [.ptr 0 0,.s (.int .u32 k)] (stO s) (RR (.agg (encV (lastV (ofK s k)))) 2 (stO s)):=by
 cases h:lookA s.bs k with
 |none=>
  rw[ofK_none h]
  refine VC.enterR LZ (show EZ.func 36=some Tryz.f36 by kernel_rfl) (fun _ _=>rfl) rfl rfl [] ?_
  conv=>whnf
  refine⟨[],[some 0,some 1],_,_,_,_,block_no s k h,t3,cR ?_⟩
  conv=>whnf
  refine⟨[],[],_,_,_,_,blast_nil,t3,cR ?_⟩
  conv=>whnf
  exact⟨[],[some 0,some 1],_,_,_,t3,rfl,rfl,rfl⟩
 |some vs=>
  rw[ofK_some h]
  obtain⟨hv,hn⟩:=H.v k vs h
  refine VC.enterR LZ (show EZ.func 36=some Tryz.f36 by kernel_rfl) (fun _ _=>rfl) rfl rfl [] ?_
  conv=>whnf
  refine⟨[],[some 0,some 1],_,_,_,_,block_is s k vs h,t3,cR ?_⟩
  conv=>whnf
  refine⟨[],[some 5],_,_,_,_,blast_ok vs hv (by omega),t3,cR ?_⟩
  conv=>whnf
  refine⟨[],[some 0,some 1],_,_,_,⟨by(repeat' first|exact LF|constructor),.cons (.cells (by(repeat' first|exact LF|constructor))) (.cons (.maq (opc:=[(_,blkV vs)]) .one (Lw.of (keep_bs h)) (.m1 (by rfl) (by(repeat' first|exact LF|constructor)))) .nil),by rfl⟩,⟨rfl,rfl,rfl⟩⟩
end Go.M
namespace Go.M
open Go Go.Proofs
set_option maxRecDepth 100000
set_option maxHeartbeats 4000000
theorem knew_ok:VC EZ 22 0 [] [] (RR (.ptr 0 0) 2 (stO ⟨0,[],zeroTab⟩)):=by
 refine VC.enterR LZ (show EZ.func 22=some Tryz.f22 by kernel_rfl) (fun _ _=>rfl) rfl rfl [] ?_
 conv=>whnf
 refine⟨[],[],_,_,_,_,snew_ok,t3,cR ?_⟩
 conv=>whnf
 exact⟨[],[some 2,some 0],_,_,_,t3,rfl,rfl,rfl⟩
theorem end_ok (s:StS):VC EZ 25 2 [.ptr 0 0] (stO s) (RR (.s (.int .u64 s.e)) 2 (stO s)):=by
 refine VC.enterR LZ (show EZ.func 25=some Tryz.f25 by kernel_rfl) (fun _ _=>rfl) rfl rfl [] ?_
 conv=>whnf
 exact⟨[],[some 0,some 1],_,_,_,t3,rfl,rfl,rfl⟩
theorem mkeys_ok (bs:List (Int×List Vs)):VC EZ 67 1 [.mp 0] [(0,mapT bs)] (RR (.clo 120 [] [.ptr 1 0]) 2 [(0,mapT bs),(1,.cells [.mp 0])]):=by
 refine VC.enterR LZ (show EZ.func 67=some Tryz.f67 by kernel_rfl) (fun _ _=>rfl) rfl rfl [] ?_
 conv=>whnf
 exact⟨[],[some 0,some 1],_,_,_,t3,rfl,rfl,rfl⟩
theorem kkeys_ok (s:StS) (hn:s.bs.length<4096):VC EZ 24 2 [.ptr 0 0] (stO s) (RR (.sl 1 ((sortZ (keysA s.bs)).map encK) false) 2 (stO s)):=by
 have hk:KeysP (keysA s.bs) (mapT s.bs):=⟨rfl,by
  rw[keysM_A]⟩
 refine VC.enterR LZ (show EZ.func 24=some Tryz.f24 by kernel_rfl) (fun _ _=>rfl) rfl rfl [] ?_
 conv=>whnf
 refine⟨[],[some 1],_,_,_,_,mkeys_ok s.bs,t3,cR ?_⟩
 conv=>whnf
 refine⟨[],[some 1,some 3],_,_,_,_,VC.keysU hk (by rw[List.length_map];exact hn),t3,cR ?_⟩
 conv=>whnf
 exact⟨[],[some 0,some 1],_,_,_,t3,rfl,rfl,rfl⟩
@[reducible] def putS (s:StS) (k:Int) (v:Vs):StS:={s with bs:=putA s.bs k (putB (ofK s k) v)}
theorem put_bs (bs:List (Int×List Vs)) (k:Int) (vs:List Vs):apM (bs.map (encA .u32 blkV)) [(.int .u32 k,blkV vs)]=(putA bs k vs).map (encA .u32 blkV):=by
 show putM (bs.map (encA .u32 blkV)) (.int .u32 k) (blkV vs)=_
 rw[putM_A]
theorem kput_ok (s:StS) (k:Int) (v:Vs) (hv:0≤v.ver∧v.ver≤18446744073709551615) (H:SOk s):VC EZ 63 2 [.ptr 0 0,.s (.int .u32 k),.agg (encV v)] (stO s) (RR (.s (.int .i64 (putE (ofK s k) v))) 2 (stO (putS s k v))):=by
 cases h:lookA s.bs k with
 |none=>
  unfold putS
  rw[ofK_none h]
  refine VC.enterR LZ (show EZ.func 63=some Tryz.f63 by kernel_rfl) (fun _ _=>rfl) rfl rfl [] ?_
  conv=>whnf
  refine⟨none,by rw[lookM_A,h];rfl,?_⟩
  conv=>whnf
  refine⟨[],[],_,_,_,_,bnew_ok,t3,cR ?_⟩
  conv=>whnf
  refine⟨[],[some 3],_,_,_,_,bput_ok [] v hv (by decide),t3,cR ?_⟩
  conv=>whnf
  refine⟨[],[some 0,some 1],_,_,_,⟨by(repeat' first|exact LF|constructor),.cons (.cells (by(repeat' first|exact LF|constructor))) (.cons (.maq (opc:=[(_,blkV (putB [] v))]) .one (Lw.of (put_bs _ _ _)) (.m1 (by rfl) (by(repeat' first|exact LF|constructor)))) .nil),by rfl⟩,⟨rfl,rfl,rfl⟩⟩
 |some vs=>
  unfold putS
  rw[ofK_some h]
  obtain⟨_,hn⟩:=H.v k vs h
  refine VC.enterR LZ (show EZ.func 63=some Tryz.f63 by kernel_rfl) (fun _ _=>rfl) rfl rfl [] ?_
  conv=>whnf
  refine⟨some (blkV vs),by rw[lookM_A,h];rfl,?_⟩
  conv=>whnf
  refine⟨[],[some 3],_,_,_,_,bput_ok vs v hv hn,t3,cR ?_⟩
  conv=>whnf
  refine⟨[],[some 0,some 1],_,_,_,⟨by(repeat' first|exact LF|constructor),.cons (.cells (by(repeat' first|exact LF|constructor))) (.cons (.maq (opc:=[(_,blkV (putB vs v))]) .one (Lw.of (put_bs _ _ _)) (.m1 (by rfl) (by(repeat' first|exact LF|constructor)))) .nil),by rfl⟩,⟨rfl,rfl,rfl⟩⟩
end Go.M
namespace Go.M
open Go Go.Proofs
@[reducible] def nz (r:RowS):Bool:=decide (r.num≠0)
@[reducible] def lstT (t:TabS):List RowS:=[t.r1,t.r2,t.r3,t.r4,t.r5,t.r6]
@[reducible] def rowsT (t:TabS):List RowS:=(lstT t).filter nz
theorem row_lst (t:TabS) {c:Int} (h:1≤c∧c≤6):t.row c=(lstT t).getD (c - 1).toNat zeroR:=by
 rcases cases6 h with rfl |rfl |rfl |rfl |rfl |rfl<;>rfl
theorem put_lst (t:TabS) {c:Int} (h:1≤c∧c≤6) (r:RowS):lstT (t.put c r)=(lstT t).set (c - 1).toNat r:=by
 rcases cases6 h with rfl |rfl |rfl |rfl |rfl |rfl<;>rfl
theorem getC_lst (t:TabS) {i:Nat} (h:i<6):getC t ((i+1:Nat):Int)=if((lstT t).getD i zeroR).num=0 then(zeroR,false)else((lstT t).getD i zeroR,true):=by
 unfold getC
 rw[row_lst t (c:=((i+1:Nat):Int)) (by omega),show(((i+1:Nat):Int) - 1).toNat=i from by omega]
 by_cases hz:((lstT t).getD i zeroR).num=0
 ·rw[if_pos hz,if_pos (.inr hz)]
 ·rw[if_neg hz,if_neg (by rintro(q|q);omega;exact hz q)]
theorem lst_next (t:TabS) {i:Nat} (h:i<6):(lstT t).take (i+1)=(lstT t).take i++[(lstT t).getD i zeroR]:=by
 rw[List.take_succ_eq_append_getElem (show i<(lstT t).length from h)]
 simp[List.getD,h]
end Go.M
namespace Go.M
open Go
noncomputable def eqB {α:Type} (a b:α):Bool:=@decide (a=b) (Classical.propDecidable _)
theorem take_snoc {α:Type} (l:List α) (i:Nat) (h:i<l.length):l.take (i+1)=l.take i++[l[i]]:=by rw[List.take_succ_eq_append_getElem h]
end Go.M
