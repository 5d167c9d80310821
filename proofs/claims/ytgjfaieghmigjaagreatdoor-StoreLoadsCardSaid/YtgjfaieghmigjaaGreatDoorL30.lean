/-
  Part 30 of the library that the proof leans on.
-/
import Derived.Test.YtgjfaieghmigjaaGreatDoorL26
import Derived.Test.YtgjfaieghmigjaaGreatDoorL29
import Derived.Test.YtgjfaieghmigjaaGreatDoorL28
import Derived.Test.YtgjfaieghmigjaaGreatDoorL12
namespace Go.M
open Go Go.Proofs
set_option maxRecDepth 100000
set_option maxHeartbeats 4000000
structure StS where
 e:Int
 bs:List (Int×List Vs)
 t:TabS
@[reducible] def blkV (vs:List Vs):TV:=.own (blkT vs)
@[reducible] def mapT (bs:List (Int×List Vs)):TO:=.maq (kIdx .u32) (bs.map (encA .u32 blkV)) []
@[reducible] def stoC (s:StS):TO:=.cells [.s (.int .u64 s.e),.mp 1,.own (tabT s.t)]
@[reducible] def stO (s:StS):Ob:=[(0,stoC s),(1,mapT s.bs)]
@[reducible] def outO (s:StS) (k:Int) (vs:List Vs):Ob:=[(0,.cells [.s (.int .u64 s.e),.mp 1,.own (tabT s.t)]),(1,.maq (kIdx .u32) (s.bs.map (encA .u32 blkV)) [(.int .u32 k,.ptr 2 0)]),(2,blkT vs)]
theorem block_no (s:StS) (k:Int) (h:lookA s.bs k=none):VC EZ 77 2 [.ptr 0 0,.s (.int .u32 k)] (stO s) (RR nilP 2 (stO s)):=by
 refine VC.enterR LZ (show EZ.func 77=some Tryz.f77 by kernel_rfl) (fun _ _=>rfl) rfl rfl [] ?_
 conv=>whnf
 refine⟨none,by rw[lookM_A,h];rfl,?_⟩
 conv=>whnf
 exact⟨[],[some 0,some 1],_,_,_,t3,rfl,rfl,rfl⟩
theorem block_is (s:StS) (k:Int) (vs:List Vs) (h:lookA s.bs k=some vs):VC EZ 77 2 [.ptr 0 0,.s (.int .u32 k)] (stO s) (RR (.ptr 2 0) 3 (outO s k vs)):=by
 refine VC.enterR LZ (show EZ.func 77=some Tryz.f77 by kernel_rfl) (fun _ _=>rfl) rfl rfl [] ?_
 conv=>whnf
 refine⟨some (blkV vs),by rw[lookM_A,h];rfl,?_⟩
 conv=>whnf
 exact⟨[],[some 0,some 1,some 2],_,_,_,t3,rfl,rfl,rfl⟩
theorem putA_same {bs:List (Int×List Vs)} {k:Int} {vs:List Vs} (h:lookA bs k=some vs):putA bs k vs=bs:=by
 induction bs with
 |nil=>cases h
 |cons e es ih=>
  unfold lookA at h
  unfold putA
  split at h
  ·rename_i he;cases h;rw[if_pos he,he]
  ·rename_i he;rw[if_neg he,ih h]
theorem keep_bs {bs:List (Int×List Vs)} {k:Int} {vs:List Vs} (h:lookA bs k=some vs):apM (bs.map (encA .u32 blkV)) [(.int .u32 k,blkV vs)]=bs.map (encA .u32 blkV):=by
 show putM (bs.map (encA .u32 blkV)) (.int .u32 k) (blkV vs)=_
 rw[putM_A,putA_same h]
theorem atV_nil (i:Int):atV [] i=zeroVs:=by unfold atV;split<;>simp
theorem pickV_nil (v d:Int):pickV [] v d=zeroVs:=by
 unfold pickV;rw[atV_nil,atV_nil];split
 ·rfl
 ·split<;>rfl
structure SOk (s:StS):Prop where
 v:∀k vs,lookA s.bs k=some vs→(∀v∈vs,VOk v)∧vs.length<100000
@[reducible] def ofK (s:StS) (k:Int):List Vs:=(lookA s.bs k).getD []
theorem ofK_none {s:StS} {k:Int} (h:lookA s.bs k=none):ofK s k=[]:=by unfold ofK;rw[h];rfl
theorem ofK_some {s:StS} {k:Int} {vs:List Vs} (h:lookA s.bs k=some vs):ofK s k=vs:=by unfold ofK;rw[h];rfl
theorem last_ok (s:StS) (k:Int) (H:SOk s):VC EZ 36 2 [.ptr 0 0,.s (.int .u32 k)] (stO s) (RR (.agg (encV (lastV (ofK s k)))) 2 (stO s)):=by
 cases h:lookA s.bs k with
 |none=>
  rw[ofK_none h]
  refine VC.enterR LZ (show EZ.func 36=some Tryz.f36 by kernel_rfl) (fun _ _=>rfl) rfl rfl [] ?_
  conv=>whnf
  refine⟨[],[some 0,some 1],_,_,_,_,block_no s k h,t3,cR ?_⟩
  conv=>whnf
  refine⟨[],[],_,_,_,_,blast_nil,t3,cR ?_⟩
  conv=>whnf
  exact⟨[],[some 0,some 1],_,_,_,t3,rfl,rfl,rfl⟩
 |some vs=>
  rw[ofK_some h]
  obtain⟨hv,hn⟩:=H.v k vs h
  refine VC.enterR LZ (show EZ.func 36=some Tryz.f36 by kernel_rfl) (fun _ _=>rfl) rfl rfl [] ?_
  conv=>whnf
  refine⟨[],[some 0,some 1],_,_,_,_,block_is s k vs h,t3,cR ?_⟩
  conv=>whnf
  refine⟨[],[some 5],_,_,_,_,blast_ok vs hv (by omega),t3,cR ?_⟩
  conv=>whnf
  refine⟨[],[some 0,some 1],_,_,_,⟨by(repeat' first|exact LF|constructor),.cons (.cells (by(repeat' first|exact LF|constructor))) (.cons (.maq (opc:=[(_,blkV vs)]) .one (Lw.of (keep_bs h)) (.m1 (by rfl) (by(repeat' first|exact LF|constructor)))) .nil),by rfl⟩,⟨rfl,rfl,rfl⟩⟩
theorem clean_ok (s:StS) (k:Int) (d:Int) (H:SOk s):VC EZ 47 2 [.ptr 0 0,.s (.int .u32 k),.s (.int .u64 d)] (stO s) (RR (.agg (encV (atV (ofK s k) (cleanI (ofK s k) d)))) 2 (stO s)):=by
 cases h:lookA s.bs k with
 |none=>
  rw[ofK_none h,atV_nil]
  refine VC.enterR LZ (show EZ.func 47=some Tryz.f47 by kernel_rfl) (fun _ _=>rfl) rfl rfl [] ?_
  conv=>whnf
  refine⟨[],[some 0,some 1],_,_,_,_,block_no s k h,t3,cR ?_⟩
  conv=>whnf
  refine⟨[],[],_,_,_,_,bClean_nil d,t3,cR ?_⟩
  conv=>whnf
  exact⟨[],[some 0,some 1],_,_,_,t3,rfl,rfl,rfl⟩
 |some vs=>
  rw[ofK_some h]
  obtain⟨hv,hn⟩:=H.v k vs h
  refine VC.enterR LZ (show EZ.func 47=some Tryz.f47 by kernel_rfl) (fun _ _=>rfl) rfl rfl [] ?_
  conv=>whnf
  refine⟨[],[some 0,some 1],_,_,_,_,block_is s k vs h,t3,cR ?_⟩
  conv=>whnf
  refine⟨[],[some 5],_,_,_,_,bClean_ok vs d (by omega) hv,t3,cR ?_⟩
  conv=>whnf
  refine⟨[],[some 0,some 1],_,_,_,⟨by(repeat' first|exact LF|constructor),.cons (.cells (by(repeat' first|exact LF|constructor))) (.cons (.maq (opc:=[(_,blkV vs)]) .one (Lw.of (keep_bs h)) (.m1 (by rfl) (by(repeat' first|exact LF|constructor)))) .nil),by rfl⟩,⟨rfl,rfl,rfl⟩⟩
theorem dirty_ok (s:StS) (k:Int) (d:Int) (H:SOk s):VC EZ 48 2 [.ptr 0 0,.s (.int .u32 k),.s (.int .u64 d)] (stO s) (RR (.s (.bool (decide (0<(ofK s k).length∧d<(lastV (ofK s k)).seq)))) 2 (stO s)):=by
 cases h:lookA s.bs k with
 |none=>
  rw[ofK_none h]
  refine VC.enterR LZ (show EZ.func 48=some Tryz.f48 by kernel_rfl) (fun _ _=>rfl) rfl rfl [] ?_
  conv=>whnf
  refine⟨[],[some 0,some 1],_,_,_,_,block_no s k h,t3,cR ?_⟩
  conv=>whnf
  refine⟨[],[],_,_,_,_,bdirty_nil d,t3,cR ?_⟩
  conv=>whnf
  exact⟨[],[some 0,some 1],_,_,_,t3,rfl,rfl,rfl⟩
 |some vs=>
  rw[ofK_some h]
  obtain⟨hv,hn⟩:=H.v k vs h
  refine VC.enterR LZ (show EZ.func 48=some Tryz.f48 by kernel_rfl) (fun _ _=>rfl) rfl rfl [] ?_
  conv=>whnf
  refine⟨[],[some 0,some 1],_,_,_,_,block_is s k vs h,t3,cR ?_⟩
  conv=>whnf
  refine⟨[],[some 4],_,_,_,_,bdirty_ok vs d (by omega),t3,cR ?_⟩
  conv=>whnf
  refine⟨[],[some 0,some 1],_,_,_,⟨by(repeat' first|exact LF|constructor),.cons (.cells (by(repeat' first|exact LF|constructor))) (.cons (.maq (opc:=[(_,blkV vs)]) .one (Lw.of (keep_bs h)) (.m1 (by rfl) (by(repeat' first|exact LF|constructor)))) .nil),by rfl⟩,⟨rfl,rfl,rfl⟩⟩
theorem pick_ok (s:StS) (k:Int) (v d:Int) (H:SOk s):VC EZ 49 2 [.ptr 0 0,.s (.int .u32 k),.s (.int .u64 v),.s (.int .u64 d)] (stO s) (RR (.agg (encV (pickV (ofK s k) v d))) 2 (stO s)):=by
 cases h:lookA s.bs k with
 |none=>
  rw[ofK_none h,pickV_nil]
  refine VC.enterR LZ (show EZ.func 49=some Tryz.f49 by kernel_rfl) (fun _ _=>rfl) rfl rfl [] ?_
  conv=>whnf
  refine⟨[],[some 0,some 1],_,_,_,_,block_no s k h,t3,cR ?_⟩
  conv=>whnf
  refine⟨[],[],_,_,_,_,bpick_nil v d,t3,cR ?_⟩
  conv=>whnf
  exact⟨[],[some 0,some 1],_,_,_,t3,rfl,rfl,rfl⟩
 |some vs=>
  rw[ofK_some h]
  obtain⟨hv,hn⟩:=H.v k vs h
  refine VC.enterR LZ (show EZ.func 49=some Tryz.f49 by kernel_rfl) (fun _ _=>rfl) rfl rfl [] ?_
  conv=>whnf
  refine⟨[],[some 0,some 1],_,_,_,_,block_is s k vs h,t3,cR ?_⟩
  conv=>whnf
  refine⟨[],[some 5],_,_,_,_,bpick_ok vs v d (by omega) hv,t3,cR ?_⟩
  conv=>whnf
  refine⟨[],[some 0,some 1],_,_,_,⟨by(repeat' first|exact LF|constructor),.cons (.cells (by(repeat' first|exact LF|constructor))) (.cons (.maq (opc:=[(_,blkV vs)]) .one (Lw.of (keep_bs h)) (.m1 (by rfl) (by(repeat' first|exact LF|constructor)))) .nil),by rfl⟩,⟨rfl,rfl,rfl⟩⟩
end Go.M
namespace Go.M
open Go Go.Proofs
set_option maxRecDepth 100000
set_option maxHeartbeats 4000000
theorem knew_ok:VC EZ 22 0 [] [] (RR (.ptr 0 0) 2 (stO ⟨0,[],zeroTab⟩)):=by
 refine VC.enterR LZ (show EZ.func 22=some Tryz.f22 by kernel_rfl) (fun _ _=>rfl) rfl rfl [] ?_
 conv=>whnf
 refine⟨[],[],_,_,_,_,snew_ok,t3,cR ?_⟩
 conv=>whnf
 exact⟨[],[some 2,some 0],_,_,_,t3,rfl,rfl,rfl⟩
theorem end_ok (s:StS):VC EZ 25 2 [.ptr 0 0] (stO s) (RR (.s (.int .u64 s.e)) 2 (stO s)):=by
 refine VC.enterR LZ (show EZ.func 25=some Tryz.f25 by kernel_rfl) (fun _ _=>rfl) rfl rfl [] ?_
 conv=>whnf
 exact⟨[],[some 0,some 1],_,_,_,t3,rfl,rfl,rfl⟩
theorem kjudge_ok (s:StS) (c n:Int):VC EZ 50 2 [.ptr 0 0,.s (.int .i64 c),.s (.int .u64 n)] (stO s) (RR (.s (.int .i64 (judgeC s.t c n))) 2 (stO s)):=by
 refine VC.enterR LZ (show EZ.func 50=some Tryz.f50 by kernel_rfl) (fun _ _=>rfl) rfl rfl [] ?_
 conv=>whnf
 refine⟨[],[some 2],_,_,_,_,sjudgeV s.t c n,t3,cR ?_⟩
 conv=>whnf
 exact⟨[],[some 0,some 1],_,_,_,t3,rfl,rfl,rfl⟩
theorem krow_ok (s:StS) (c:Int):VC EZ 44 2 [.ptr 0 0,.s (.int .i64 c)] (stO s) (RR (encG (getC s.t c)) 2 (stO s)):=by
 refine VC.enterR LZ (show EZ.func 44=some Tryz.f44 by kernel_rfl) (fun _ _=>rfl) rfl rfl [] ?_
 conv=>whnf
 refine⟨[],[some 3],_,_,_,_,sget_ok s.t c,t3,cR ?_⟩
 conv=>whnf
 exact⟨[],[some 0,some 1],_,_,_,t3,rfl,rfl,rfl⟩
theorem mkeys_ok (bs:List (Int×List Vs)):VC EZ 67 1 [.mp 0] [(0,mapT bs)] (RR (.clo 120 [] [.ptr 1 0]) 2 [(0,mapT bs),(1,.cells [.mp 0])]):=by
 refine VC.enterR LZ (show EZ.func 67=some Tryz.f67 by kernel_rfl) (fun _ _=>rfl) rfl rfl [] ?_
 conv=>whnf
 exact⟨[],[some 0,some 1],_,_,_,t3,rfl,rfl,rfl⟩
theorem kkeys_ok (s:StS) (hn:s.bs.length<4096):VC EZ 24 2 [.ptr 0 0] (stO s) (RR (.sl 1 ((sortZ (keysA s.bs)).map encK) false) 2 (stO s)):=by
 have hk:KeysP (keysA s.bs) (mapT s.bs):=⟨rfl,by
  rw[keysM_A]⟩
 refine VC.enterR LZ (show EZ.func 24=some Tryz.f24 by kernel_rfl) (fun _ _=>rfl) rfl rfl [] ?_
 conv=>whnf
 refine⟨[],[some 1],_,_,_,_,mkeys_ok s.bs,t3,cR ?_⟩
 conv=>whnf
 refine⟨[],[some 1,some 3],_,_,_,_,VC.keysU hk (by rw[List.length_map];exact hn),t3,cR ?_⟩
 conv=>whnf
 exact⟨[],[some 0,some 1],_,_,_,t3,rfl,rfl,rfl⟩
@[reducible] def putS (s:StS) (k:Int) (v:Vs):StS:={s with bs:=putA s.bs k (putB (ofK s k) v)}
theorem put_bs (bs:List (Int×List Vs)) (k:Int) (vs:List Vs):apM (bs.map (encA .u32 blkV)) [(.int .u32 k,blkV vs)]=(putA bs k vs).map (encA .u32 blkV):=by
 show putM (bs.map (encA .u32 blkV)) (.int .u32 k) (blkV vs)=_
 rw[putM_A]
theorem kput_ok (s:StS) (k:Int) (v:Vs) (hv:0≤v.ver∧v.ver≤18446744073709551615) (H:SOk s):VC EZ 63 2 [.ptr 0 0,.s (.int .u32 k),.agg (encV v)] (stO s) (RR (.s (.int .i64 (putE (ofK s k) v))) 2 (stO (putS s k v))):=by
 cases h:lookA s.bs k with
 |none=>
  unfold putS
  rw[ofK_none h]
  refine VC.enterR LZ (show EZ.func 63=some Tryz.f63 by kernel_rfl) (fun _ _=>rfl) rfl rfl [] ?_
  conv=>whnf
  refine⟨none,by rw[lookM_A,h];rfl,?_⟩
  conv=>whnf
  refine⟨[],[],_,_,_,_,bnew_ok,t3,cR ?_⟩
  conv=>whnf
  refine⟨[],[some 3],_,_,_,_,bput_ok [] v hv (by decide),t3,cR ?_⟩
  conv=>whnf
  refine⟨[],[some 0,some 1],_,_,_,⟨by(repeat' first|exact LF|constructor),.cons (.cells (by(repeat' first|exact LF|constructor))) (.cons (.maq (opc:=[(_,blkV (putB [] v))]) .one (Lw.of (put_bs _ _ _)) (.m1 (by rfl) (by(repeat' first|exact LF|constructor)))) .nil),by rfl⟩,⟨rfl,rfl,rfl⟩⟩
 |some vs=>
  unfold putS
  rw[ofK_some h]
  obtain⟨_,hn⟩:=H.v k vs h
  refine VC.enterR LZ (show EZ.func 63=some Tryz.f63 by kernel_rfl) (fun _ _=>rfl) rfl rfl [] ?_
  conv=>whnf
  refine⟨some (blkV vs),by rw[lookM_A,h];rfl,?_⟩
  conv=>whnf
  refine⟨[],[some 3],_,_,_,_,bput_ok vs v hv hn,t3,cR ?_⟩
  conv=>whnf
  refine⟨[],[some 0,some 1],_,_,_,⟨by(repeat' first|exact LF|constructor),.cons (.cells (by(repeat' first|exact LF|constructor))) (.cons (.maq (opc:=[(_,blkV (putB vs v))]) .one (Lw.of (put_bs _ _ _)) (.m1 (by rfl) (by(repeat' first|exact LF|constructor)))) .nil),by rfl⟩,⟨rfl,rfl,rfl⟩⟩
end Go.M
namespace Go.M
open Go Go.Proofs
@[reducible] def nz (r:RowS):Bool:=decide (r.num≠0)
@[reducible] def lstT (t:TabS):List RowS:=[t.r1,t.r2,t.r3,t.r4,t.r5,t.r6]
@[reducible] def rowsT (t:TabS):List RowS:=(lstT t).filter nz
theorem row_lst (t:TabS) {c:Int} (h:1≤c∧c≤6):t.row c=(lstT t).getD (c - 1).toNat zeroR:=by
 rcases cases6 h with rfl |rfl |rfl |rfl |rfl |rfl<;>rfl
theorem getC_lst (t:TabS) {i:Nat} (h:i<6):getC t ((i+1:Nat):Int)=if((lstT t).getD i zeroR).num=0 then(zeroR,false)else((lstT t).getD i zeroR,true):=by
 unfold getC
 rw[row_lst t (c:=((i+1:Nat):Int)) (by omega),show(((i+1:Nat):Int) - 1).toNat=i from by omega]
 by_cases hz:((lstT t).getD i zeroR).num=0
 ·rw[if_pos hz,if_pos (.inr hz)]
 ·rw[if_neg hz,if_neg (by rintro(q|q);omega;exact hz q)]
theorem lst_next (t:TabS) {i:Nat} (h:i<6):(lstT t).take (i+1)=(lstT t).take i++[(lstT t).getD i zeroR]:=by
 rw[List.take_succ_eq_append_getElem (show i<(lstT t).length from h)]
 simp[List.getD,h]
end Go.M
namespace Go.M
open Go Go.Proofs
set_option maxRecDepth 100000
set_option maxHeartbeats 4000000
theorem rowsT_len (t:TabS):(rowsT t).length≤6:=List.length_filter_le nz (lstT t)
theorem all_ok (t:TabS):VC EZ 127 1 [.ptr 0 0] (stTab t) (RR (.sl 5 ((rowsT t).map encR) false) 1 (stTab t)):=by
 refine VC.enterR LZ (show EZ.func 127=some Tryz.f127 by kernel_rfl) (fun _ _=>rfl) rfl rfl [] ?_
 conv=>whnf
 refine⟨fun k f o c=>∃i:Nat,i≤6∧k=6 - i∧c=2∧f=[(0,.ptr 0 0),(3,.tk 1),(7,.s (.int .i64 i))]∧o=[(0,tabT t),(1,.arr 5 true ((((lstT t).take i).filter nz).map encR))],⟨6,?_⟩,?_⟩
 ·exact⟨[],[some 0,none],_,_,_,t3,⟨0,by decide,rfl,rfl,rfl,rfl⟩⟩
 ·rintro k f1 o1 c1 ⟨i,hi,rfl,rfl,rfl,rfl⟩
  conv=>whnf
  (first|refine⟨?_,?_⟩|refine nsplit ?_ ?_|refine bsplit ?_ ?_)<;>intro h<;>have hz_:=True.intro<;>clear hz_
  ·have h:i<6:=by have h:(i:Int)<6:=h
                  omega
   have hg:=sget_ok t ((i+1:Nat):Int)
   rw[getC_lst t h]at hg
   have hnx:=lst_next t h
   have hfl:(((lstT t).take i).filter nz).length≤i:=Nat.le_trans (List.length_filter_le ..) (List.length_take_le ..)
   generalize (lstT t).getD i zeroR=r at hg hnx
   conv=>whnf
   rw[wrap_small i (by omega)]
   by_cases hz:r.num=0
   ·rw[if_pos hz]at hg
    refine⟨[],[some 0],_,_,_,_,hg,t3,cR ?_⟩
    conv=>whnf
    refine⟨6 - (i+1),?_,by omega⟩
    refine⟨[],[some 0,some 1],?_⟩
    iterate 3 constructor
    refine⟨⟨?_,?_,?_⟩,⟨i+1,h,rfl,rfl,rfl,rfl⟩⟩
    all_goals(repeat' first|exact LF|constructor)
    all_goals exact Lz.of (by rw[hnx,List.filter_append,List.filter_cons_of_neg (by simpa using hz),List.filter_nil,List.append_nil])
   ·rw[if_neg hz]at hg
    refine⟨[],[some 0],_,_,_,_,hg,t3,cR ?_⟩
    conv=>whnf
    refine⟨by simp only[List.length_map];simp;omega,?_⟩
    conv=>whnf
    refine⟨6 - (i+1),?_,by omega⟩
    refine⟨[],[some 0,some 5],?_⟩
    iterate 3 constructor
    refine⟨⟨?_,?_,?_⟩,⟨i+1,h,rfl,rfl,rfl,rfl⟩⟩
    all_goals(repeat' first|exact LF|constructor)
    all_goals exact Lz.of (by rw[hnx,List.filter_append,List.filter_cons_of_pos (by simpa using hz),List.filter_nil,List.map_append];rfl)
  ·obtain rfl:i=6:=by have h:¬(i:Int)<6:=h;omega
   rw[show(lstT t).take 6=lstT t from rfl]
   conv=>whnf
   exact⟨[1],[some 0],_,_,_,t3,rfl,rfl,rfl⟩
theorem slen_ok (t:TabS):VC EZ 138 1 [.ptr 0 0] (stTab t) (RR (.s (.int .i64 ((rowsT t).length:Nat))) 1 (stTab t)):=by
 refine VC.enterR LZ (show EZ.func 138=some Tryz.f138 by kernel_rfl) (fun _ _=>rfl) rfl rfl [] ?_
 conv=>whnf
 refine⟨[],[some 0],_,_,_,_,all_ok t,t3,cR ?_⟩
 conv=>whnf
 refine⟨[],[some 0],?_⟩
 iterate 3 constructor
 refine⟨⟨?_,?_,?_⟩,rfl,rfl,rfl⟩
 all_goals(repeat' first|exact LF|constructor)
 all_goals exact Lz.int (by rw[List.length_map])
@[reducible] def rowB (r:RowS):List Int:=bigL 1 r.client.toNat++bigL 8 r.num.toNat++bigL 8 r.seq.toNat++bigL 1 r.code.toNat++bigL 8 r.ver.toNat
@[reducible] def rowsB (l:List RowS):List Int:=bigL 1 l.length++l.flatMap rowB
structure RowOk (r:RowS):Prop where
 client:0≤r.client∧r.client≤6
 num:0≤r.num∧r.num≤18446744073709551615
 seq:0≤r.seq∧r.seq≤18446744073709551615
 code:0≤r.code∧r.code≤255
 ver:0≤r.ver∧r.ver≤18446744073709551615
theorem rowB_len (r:RowS):(rowB r).length=26:=by simp[rowB,bigL_len]
theorem flat_next {α:Type} (f:α→List Int) {l:List α} {i:Nat} (h:i<l.length):(l.take (i+1)).flatMap f=(l.take i).flatMap f++f l[i]:=by
 rw[List.take_succ_eq_append_getElem h,List.flatMap_append];simp
theorem flat_len26 (l:List RowS):(l.flatMap rowB).length=l.length*26:=by
 induction l with
 |nil=>rfl
 |cons r l ih=>rw[List.flatMap_cons,List.length_append,rowB_len,ih,List.length_cons];omega
@[reducible] def stPut (t:TabS) (s:OutS):Ob:=[(0,tabT t),(1,OutO s)]
theorem sput_ok (t:TabS) (s:OutS) (k:Nat) (hR:Room s k) (hk:157≤k) (hr:∀r∈rowsT t,RowOk r):VC EZ 93 2 [.ptr 0 0,.ptr 1 0] (stPut t s) (RR (.tup []) 2 (stPut t (s.add (rowsB (rowsT t))))):=by
 have hl:=rowsT_len t
 have h256:(2:Nat)≤256:=by decide
 refine VC.enterR LZ (show EZ.func 93=some Tryz.f93 by kernel_rfl) (fun _ _=>rfl) rfl rfl [] ?_
 conv=>whnf
 refine⟨[],[some 0],_,_,_,_,slen_ok t,t3,cR ?_⟩
 conv=>whnf
 rw[show IntKind.u64.wrap (((rowsT t).length:Nat):Int)=(((rowsT t).length:Nat):Int)from IntWalk.u64_in _ (by omega)]
 refine⟨[],[some 1],_,_,_,_,numI_ok s ((rowsT t).length:Nat) 1 k hR (by omega) (by decide) (by decide) (by omega) (by omega) (by rw[Int.toNat_natCast];omega),t3,cR ?_⟩
 conv=>whnf
 rw[Int.toNat_natCast]
 refine⟨[],[some 0],_,_,_,_,all_ok t,t3,cR ?_⟩
 conv=>whnf
 have hR1:Room (s.add (bigL 1 (rowsT t).length)) (k - 1):=hR.add (by rw[bigL_len];omega)
 generalize hrs:rowsT t=rs at hl hr hR1
 refine⟨fun q f o c=>∃i:Nat,i≤rs.length∧q=rs.length - i∧c=2∧f=[(1,.ptr 1 0),(14,.sl 5 (rs.map encR) false),(15,.s (.int .i64 rs.length)),(16,.s (.int .i64 i))]∧o=stPut t ((s.add (bigL 1 rs.length)).add ((rs.take i).flatMap rowB)),⟨rs.length,?_⟩,?_⟩
 ·refine⟨[],[some 0,some 1],?_⟩
  iterate 3 constructor
  refine⟨⟨?_,?_,?_⟩,⟨0,Nat.zero_le _,rfl,rfl,rfl,rfl⟩⟩
  all_goals(repeat' first|exact LF|constructor)
  ·exact Lz.int (by rw[List.length_map])
  ·exact Lz.of (by simp)
 ·rintro q f1 o1 c1 ⟨i,hi,rfl,rfl,rfl,rfl⟩
  conv=>whnf
  (first|refine⟨?_,?_⟩|refine nsplit ?_ ?_|refine bsplit ?_ ?_)<;>intro h<;>have hz_:=True.intro<;>clear hz_
  ·have h:i<rs.length:=by have h:(i:Int)<rs.length:=h
                          omega
   have hx:=hr _ (List.getElem_mem h)
   have hfl:=flat_len26 (rs.take i)
   rw[List.length_take,Nat.min_eq_left hi]at hfl
   have hR2:Room ((s.add (bigL 1 rs.length)).add ((rs.take i).flatMap rowB)) (k - 1 - i*26):=hR1.add (by rw[hfl];omega)
   conv=>whnf
   refine idxI h ?_
   conv=>whnf
   rw[show IntKind.u64.wrap rs[i].client=rs[i].client from IntWalk.u64_in _ (by have:=hx.client;omega)]
   refine⟨[],[some 1],_,_,_,_,numI_ok _ rs[i].client 1 _ hR2 (by omega) (by decide) (by decide) hx.client.1 (by have:=hx.client;omega) (by have:=hx.client;omega),t3,cR ?_⟩
   conv=>whnf
   have hR3:=hR2.add (x:=bigL 1 rs[i].client.toNat) (j:=k - 1 - i*26 - 1) (by rw[bigL_len];omega)
   refine⟨[],[some 1],_,_,_,_,numI_ok _ rs[i].num 8 _ hR3 (by omega) (by decide) (by decide) hx.num.1 hx.num.2 (by have:=hx.num;omega),t3,cR ?_⟩
   conv=>whnf
   have hR4:=hR3.add (x:=bigL 8 rs[i].num.toNat) (j:=k - 1 - i*26 - 9) (by rw[bigL_len];omega)
   refine⟨[],[some 1],_,_,_,_,numI_ok _ rs[i].seq 8 _ hR4 (by omega) (by decide) (by decide) hx.seq.1 hx.seq.2 (by have:=hx.seq;omega),t3,cR ?_⟩
   conv=>whnf
   have hR5:=hR4.add (x:=bigL 8 rs[i].seq.toNat) (j:=k - 1 - i*26 - 17) (by rw[bigL_len];omega)
   rw[show IntKind.u64.wrap rs[i].code=rs[i].code from IntWalk.u64_in _ (by have:=hx.code;omega)]
   refine⟨[],[some 1],_,_,_,_,numI_ok _ rs[i].code 1 _ hR5 (by omega) (by decide) (by decide) hx.code.1 (by have:=hx.code;omega) (by have:=hx.code;omega),t3,cR ?_⟩
   conv=>whnf
   have hR6:=hR5.add (x:=bigL 1 rs[i].code.toNat) (j:=k - 1 - i*26 - 18) (by rw[bigL_len];omega)
   refine⟨[],[some 1],_,_,_,_,numI_ok _ rs[i].ver 8 _ hR6 (by omega) (by decide) (by decide) hx.ver.1 hx.ver.2 (by have:=hx.ver;omega),t3,cR ?_⟩
   conv=>whnf
   refine⟨rs.length - (i+1),?_,by omega⟩
   refine⟨[],[some 0,some 1],?_⟩
   iterate 3 constructor
   refine⟨⟨?_,?_,?_⟩,⟨i+1,h,rfl,rfl,rfl,rfl⟩⟩
   all_goals(repeat' first|exact LF|constructor)
   all_goals exact Lz.of (congrArg (fun x=>TO.arr 1 true (encU8 x)) (by simp only[rowB,flat_next rowB h,List.append_assoc]))
  ·obtain rfl:i=rs.length:=by have h:¬(i:Int)<rs.length:=h;omega
   rw[List.take_length]
   conv=>whnf
   refine⟨[],[some 0,some 1],?_⟩
   iterate 3 constructor
   refine⟨⟨?_,?_,?_⟩,rfl,rfl,rfl⟩
   all_goals(repeat' first|exact LF|constructor)
   all_goals exact Lz.of (congrArg (fun x=>TO.arr 1 true (encU8 x)) (by simp only[rowsB,List.append_assoc]))
end Go.M
namespace Go.M
open Go Go.Proofs
set_option maxRecDepth 100000
set_option maxHeartbeats 4000000
@[reducible] def roomS (s:StS):Bool:=decide (s.bs.length<192)
@[reducible] def outS (s:StS) (u:UpR):Int×Int×Bool:=outC u (lastV (ofK s u.key)).ver (roomS s)
@[reducible] def rowS (s:StS) (u:UpR):RowS:=⟨u.client,u.num,u.seq,(outS s u).1,(outS s u).2.1⟩
@[reducible] def wrote (s:StS) (u:UpR):StS:=if(outS s u).2.2=true then putS {s with e:=u.seq} u.key ⟨(outS s u).2.1,u.seq,u.data⟩else {s with e:=u.seq}
def applyS (s:StS) (u:UpR):(RowS×Int)×StS:=
 if chkU u≠0 then((zeroR,chkU u),s)
 else if u.seq - 1≠s.e then((zeroR,12),s)
 else if judgeC s.t u.client u.num≠0 then((zeroR,0),{s with e:=u.seq})
 else((rowS s u,setC s.t (rowS s u)),{wrote s u with t:=setT s.t (rowS s u)})
@[reducible] def encH (q:RowS×Int):TV:=.tup [.agg (encR q.1),.s (.int .i64 q.2)]
theorem ofK_ok {s:StS} (H:SOk s) (k:Int):(∀v∈ofK s k,VOk v)∧(ofK s k).length<100000:=by
 cases h:lookA s.bs k with
 |none=>rw[ofK_none h];exact⟨by simp,by decide⟩
 |some vs=>rw[ofK_some h];exact H.v k vs h
end Go.M
namespace Go.M
open Go Go.Proofs
set_option maxRecDepth 100000
set_option maxHeartbeats 4000000
def trim1 (s:StS) (d k:Int):StS:=match lookA s.bs k with
 |some vs=>{s with bs:=putA s.bs k (vs.drop (trimN vs d))}
 |none=>s
def trimStep (d:Int) (r:StS×Nat) (k:Int):StS×Nat:=(trim1 r.1 d k,r.2+trimN (ofK r.1 k) d)
def trimA (d:Int) (r:StS×Nat) (ks:List Int):StS×Nat:=ks.foldl (trimStep d) r
end Go.M
namespace Go.M
open Go Go.Proofs
set_option maxHeartbeats 1000000
structure Good (e:Int) (vs:List Vs):Prop where
 up:vs.Pairwise (fun a b=>a.ver<b.ver∧a.seq<b.seq)
 v:∀v∈vs,(1≤v.ver∧v.ver≤18446744073709551615)∧(1≤v.seq∧v.seq≤e)∧v.data.length≤2048
theorem Good.nil (e:Int):Good e []:=⟨.nil,by simp⟩
theorem Good.vok {e:Int} {vs:List Vs} (h:Good e vs) (he:e≤18446744073709551615):∀v∈vs,VOk v:=fun v m=>by
 have:=h.v v m
 exact⟨by omega,by omega,this.2.2⟩
theorem lastV_nil:lastV []=zeroVs:=atV_nil _
theorem Good.last {e:Int} {vs:List Vs} (h:Good e vs) (he:0≤e):0≤(lastV vs).ver∧(lastV vs).ver≤18446744073709551615∧(lastV vs).seq≤e:=by
 rcases two_ends vs with rfl |⟨ws,w,rfl⟩
 ·rw[lastV_nil];exact⟨by decide,by decide,he⟩
 ·rw[lastV_end];have:=h.v w (by simp);omega
structure SInv (s:StS) (n:Nat):Prop where
 e:0≤s.e∧s.e≤18446744073709551615
 nd:(keysA s.bs).Nodup
 len:s.bs.length≤n+192
 g:∀k,Good s.e (ofK s k)
 gl:∀k,(ofK s k).length≤n+1
theorem SInv.ok {s:StS} {n:Nat} (H:SInv s n) (hn:n<90000):SOk s:=⟨fun k vs h=>by
 have g:=H.g k
 have gl:=H.gl k
 rw[ofK_some h]at g gl
 exact⟨g.vok H.e.2,by omega⟩⟩
structure Ext (s t:StS):Prop where
 e:s.e≤t.e
 b:∀k,∃ws,ofK t k=ofK s k++ws∧∀w∈ws,s.e<w.seq
theorem Ext.trans {s t r:StS} (h:Ext s t) (k:Ext t r):Ext s r:=⟨Int.le_trans h.e k.e,fun n=>by
 obtain⟨a,h1,h2⟩:=h.b n
 obtain⟨b,k1,k2⟩:=k.b n
 refine⟨a++b,by rw[k1,h1,List.append_assoc],fun w m=>?_⟩
 rcases List.mem_append.1 m with q|q
 ·exact h2 w q
 ·have:=k2 w q;have:=h.e;omega⟩
theorem getD_app {A B:List Vs} (k:Nat):(A++B).getD k zeroVs=if k<A.length then A.getD k zeroVs else B.getD (k - A.length) zeroVs:=by
 simp only[List.getD,List.getElem?_append]
 split<;>rfl
theorem getD_mem {A:List Vs} {k:Nat} (h:k<A.length):A.getD k zeroVs∈A:=by simp[List.getD,h]
theorem srch_app (p:Vs→Bool) {A B:List Vs} (hA:∀a∈A,p a=false) (hB:∀b∈B,p b=true):srch (fun k=>p ((A++B).getD k zeroVs)) 0 (A++B).length=A.length:=by
 refine srch_eq _ (A++B).length A.length (fun k hk=>?_) (fun k h1 h2=>?_) 0 _ (Nat.zero_le _) (by simp) (Nat.le_refl _)
 ·rw[getD_app,if_pos hk];exact hA _ (getD_mem hk)
 ·rw[getD_app,if_neg (by omega)];rw[List.length_append]at h2;exact hB _ (getD_mem (by omega))
theorem clean_app {A B:List Vs} {d:Int} (hA:∀a∈A,a.seq≤d) (hB:∀b∈B,d<b.seq):cleanI (A++B) d=(A.length:Int) - 1:=by
 unfold cleanI
 rw[srch_app (fun v=>decide (d<v.seq)) (fun a m=>decide_eq_false (by have:=hA a m;omega)) (fun b m=>decide_eq_true (hB b m))]
theorem pick_app {A B:List Vs} {v:Int} (hA:∀a∈A,a.ver<v) (hB:∀b∈B,v≤b.ver):pickI (A++B) v=A.length:=by
 unfold pickI
 rw[srch_app (fun x=>decide (v≤x.ver)) (fun a m=>decide_eq_false (by have:=hA a m;omega)) (fun b m=>decide_eq_true (hB b m))]
theorem atV_last {A B:List Vs}:atV (A++B) ((A.length:Int) - 1)=lastV A:=by
 rcases two_ends A with rfl |⟨ws,w,rfl⟩
 ·rw[lastV_nil];exact atV_out (.inl (by decide))
 ·rw[lastV_end]
  rw[show(((ws++[w]).length:Nat):Int) - 1=((ws.length:Nat):Int)from by simp,atV_in (by simp)]
  simp
theorem atV_mid {A B:List Vs}:atV (A++B) (A.length:Nat)=B.headD zeroVs:=by
 cases B with
 |nil=>rw[List.append_nil];exact atV_out (.inr (Int.le_refl _))
 |cons b B=>rw[atV_in (by simp)];simp
theorem Good.split_seq {e:Int} {vs:List Vs} (h:Good e vs) (d:Int):∃A B,vs=A++B∧(∀a∈A,a.seq≤d)∧∀b∈B,d<b.seq:=by
 obtain⟨hu,_⟩:=h
 induction vs with
 |nil=>exact⟨[],[],rfl,by simp,by simp⟩
 |cons v vs ih=>
  rw[List.pairwise_cons]at hu
  by_cases hv:v.seq≤d
  ·obtain⟨A,B,rfl,h1,h2⟩:=ih hu.2 (fun x m=>by rename_i q;exact q x (List.mem_cons_of_mem _ m))
   exact⟨v::A,B,rfl,by simpa using⟨hv,h1⟩,h2⟩
  ·exact⟨[],v::vs,rfl,by simp,fun b m=>by
    rcases List.mem_cons.1 m with rfl |m
    ·omega
    ·have:=hu.1 b m;omega⟩
theorem Good.split_ver {e:Int} {vs:List Vs} (h:Good e vs) (d:Int):∃A B,vs=A++B∧(∀a∈A,a.ver<d)∧∀b∈B,d≤b.ver:=by
 obtain⟨hu,_⟩:=h
 induction vs with
 |nil=>exact⟨[],[],rfl,by simp,by simp⟩
 |cons v vs ih=>
  rw[List.pairwise_cons]at hu
  by_cases hv:v.ver<d
  ·obtain⟨A,B,rfl,h1,h2⟩:=ih hu.2 (fun x m=>by rename_i q;exact q x (List.mem_cons_of_mem _ m))
   exact⟨v::A,B,rfl,by simpa using⟨hv,h1⟩,h2⟩
  ·exact⟨[],v::vs,rfl,by simp,fun b m=>by
    rcases List.mem_cons.1 m with rfl |m
    ·omega
    ·have:=hu.1 b m;omega⟩
theorem sortZ_mem {l:List Int} {k:Int}:k∈sortZ l↔k∈l:=by unfold sortZ;exact List.mem_mergeSort
theorem sortZ_nodup {l:List Int} (h:l.Nodup):(sortZ l).Nodup:=by unfold sortZ;exact(List.mergeSort_perm l _).nodup_iff.2 h
def trimS (s:StS) (d:Int):StS:=(trimA d (s,0) (sortZ (keysA s.bs))).1
end Go.M
namespace Go.M
open Go Go.Proofs
set_option maxRecDepth 100000
set_option maxHeartbeats 4000000
structure RfS where
 e:Int
 bs:List (Int×List Vs)
 rows:List RowS
@[reducible] def vsL (vs:List Vs):TV:=.sl 3 (vs.map encV) false
@[reducible] def encBl (b:Int×List Vs):List TV:=[.s (.int .u32 b.1),vsL b.2]
@[reducible] def encRf (r:RfS):List TV:=[.s (.int .u64 r.e),.sl 2 (r.bs.map encBl) false,.sl 5 (r.rows.map encR) false]
theorem lookA_at {α:Type} {l:List (Int×α)} {k:Int} {i:Nat} (h:i<l.length) (h0:∀b∈l.take i,b.1≠k) (hk:l[i].1=k):lookA l k=some l[i].2:=by
 induction l generalizing i with
 |nil=>simp at h
 |cons b l ih=>
  unfold lookA
  cases i with
  |zero=>rw[if_pos (by simpa using hk.symm)];rfl
  |succ i=>
   rw[if_neg (by have:=h0 b (by simp);exact fun q=>this q.symm)]
   exact ih (by simpa using h) (fun b' m=>h0 b' (by simp[m])) (by simpa using hk)
theorem lookA_no {α:Type} {l:List (Int×α)} {k:Int} (h0:∀b∈l,b.1≠k):lookA l k=none:=by
 induction l with
 |nil=>rfl
 |cons b l ih=>unfold lookA;rw[if_neg (fun q=>h0 b (by simp) q.symm),ih fun b' m=>h0 b' (by simp[m])]
theorem take_all {α:Type} {l:List α} {P:α→Prop} {i:Nat} (h:i<l.length) (h0:∀b∈l.take i,P b) (hk:P l[i]):∀b∈l.take (i+1),P b:=by
 rw[List.take_succ_eq_append_getElem h]
 intro b m
 rcases List.mem_append.1 m with m|m
 ·exact h0 b m
 ·simp only[List.mem_singleton]at m;subst m;exact hk
@[reducible] def ofR (r:RfS) (k:Int):List Vs:=(lookA r.bs k).getD []
theorem rof_ok (r:RfS) (k:Int) (hn:r.bs.length<1000000):VC EZ 70 0 [.agg (encRf r),.s (.int .u32 k)] [] (RR (vsL (ofR r k)) 0 []):=by
 refine VC.enterR LZ (show EZ.func 70=some Tryz.f70 by kernel_rfl) (fun _ _=>rfl) rfl rfl [] ?_
 conv=>whnf
 refine⟨fun k' f o c=>∃i:Nat,i≤r.bs.length∧k'=r.bs.length - i∧(∀b∈r.bs.take i,b.1≠k)∧c=1∧f=[(1,.s (.int .u32 k)),(2,.ptr 0 0),(5,.s (.int .i64 i))]∧o=[(0,.cells (encRf r))],⟨r.bs.length,?_⟩,?_⟩
 ·exact⟨[],[some 0],_,_,_,t3,⟨0,Nat.zero_le _,rfl,by simp,rfl,rfl,rfl⟩⟩
 ·rintro k' f1 o1 c1 ⟨i,hi,rfl,h0,rfl,rfl,rfl⟩
  conv=>whnf
  (first|refine⟨?_,?_⟩|refine nsplit ?_ ?_|refine bsplit ?_ ?_)<;>intro h<;>have hz_:=True.intro<;>clear hz_
  ·have h:i<r.bs.length:=lenlt.1 h
   conv=>whnf
   refine idxI h ?_
   conv=>whnf
   (first|refine⟨?_,?_⟩|refine nsplit ?_ ?_|refine bsplit ?_ ?_)<;>intro he<;>have hz_:=True.intro<;>clear hz_
   ·have he:r.bs[i].1=k:=he
    conv=>whnf
    refine idxI h ?_
    conv=>whnf
    refine⟨[],[],?_⟩
    iterate 3 constructor
    refine⟨⟨?_,?_,?_⟩,rfl,rfl,rfl⟩
    all_goals(repeat' first|exact LF|constructor)
    exact Lw.of (by unfold ofR;rw[lookA_at h h0 he];rfl)
   ·have he:¬r.bs[i].1=k:=he
    conv=>whnf
    refine⟨r.bs.length - (i+1),?_,by omega⟩
    exact⟨[],[some 0],_,_,_,t3,⟨i+1,h,rfl,take_all h h0 he,rfl,rfl,rfl⟩⟩
  ·have hi':i=r.bs.length:=by have:=mt lenlt.2 h
                              omega
   subst hi'
   rw[List.take_length]at h0
   conv=>whnf
   refine⟨[],[],?_⟩
   iterate 3 constructor
   refine⟨⟨?_,?_,?_⟩,rfl,rfl,rfl⟩
   all_goals(repeat' first|exact LF|constructor)
   exact Lw.of (by unfold ofR;rw[lookA_no h0];rfl)
theorem rlast_ok (vs:List Vs) (hn:vs.length<1000000):VC EZ 72 0 [vsL vs] [] (RR (.agg (encV (lastV vs))) 0 []):=by
 refine VC.enterR LZ (show EZ.func 72=some Tryz.f72 by kernel_rfl) (fun _ _=>rfl) rfl rfl [] ?_
 conv=>whnf
 rcases two_ends vs with rfl |⟨ws,w,rfl⟩
 ·rw[lastV_nil]
  (first|refine⟨?_,?_⟩|refine nsplit ?_ ?_|refine bsplit ?_ ?_)<;>intro h<;>have hz_:=True.intro<;>clear hz_
  ·conv=>whnf
   exact⟨[],[],_,_,_,t3,rfl,rfl,rfl⟩
  ·exact absurd rfl h
 ·rw[lastV_end]
  have hn:ws.length+1<1000000:=by simpa using hn
  have hw:IntKind.i64.wrap ((((ws++[w]).map encV).length:Int) - 1)=((ws.length:Nat):Int):=by rw[IntWalk.i64_in _ (by simp;omega)];simp
  (first|refine⟨?_,?_⟩|refine nsplit ?_ ?_|refine bsplit ?_ ?_)<;>intro h<;>have hz_:=True.intro<;>clear hz_
  ·have h:(((ws++[w]).map encV).length:Int)=0:=h
   rw[List.length_map,List.length_append]at h
   simp at h
   omega
  ·conv=>whnf
   refine⟨encV w,⟨by rw[hw];omega,by rw[hw];simp⟩,?_⟩
   conv=>whnf
   exact⟨[],[],_,_,_,t3,rfl,rfl,rfl⟩
def getR (rows:List RowS) (c:Int):Option RowS:=rows.find? fun r=>decide (r.client=c)
theorem getR_at {rows:List RowS} {c:Int} {i:Nat} (h:i<rows.length) (h0:∀r∈rows.take i,r.client≠c) (hk:rows[i].client=c):getR rows c=some rows[i]:=by
 unfold getR
 rw[List.find?_eq_some_iff_append]
 refine⟨by simpa using hk,rows.take i,rows.drop (i+1),(List.take_append_drop i rows).symm.trans (by rw[List.drop_eq_getElem_cons h]),fun a m=>by simpa using h0 a m⟩
theorem getR_no {rows:List RowS} {c:Int} (h0:∀r∈rows,r.client≠c):getR rows c=none:=by
 unfold getR
 rw[List.find?_eq_none]
 exact fun a m=>by simpa using h0 a m
@[reducible] def rowsL (rows:List RowS):TV:=.sl 5 (rows.map encR) false
@[reducible] def encGR (o:Option RowS):TV:=.tup [.agg (encR (o.getD zeroR)),.s (.bool o.isSome)]
theorem rget_ok (rows:List RowS) (c:Int) (hn:rows.length<1000000):VC EZ 96 0 [rowsL rows,.s (.int .i64 c)] [] (RR (encGR (getR rows c)) 0 []):=by
 refine VC.enterR LZ (show EZ.func 96=some Tryz.f96 by kernel_rfl) (fun _ _=>rfl) rfl rfl [] ?_
 conv=>whnf
 refine⟨fun k' f o cc=>∃i:Nat,i≤rows.length∧k'=rows.length - i∧(∀b∈rows.take i,b.client≠c)∧cc=1∧f=[(0,rowsL rows),(1,.s (.int .i64 c)),(4,.ptr 0 0),(6,.s (.int .i64 i))]∧o=[(0,.cells (encR zeroR))],⟨rows.length,?_⟩,?_⟩
 ·exact⟨[],[some 0],_,_,_,t3,⟨0,Nat.zero_le _,rfl,by simp,rfl,rfl,rfl⟩⟩
 ·rintro k' f1 o1 c1 ⟨i,hi,rfl,h0,rfl,rfl,rfl⟩
  conv=>whnf
  (first|refine⟨?_,?_⟩|refine nsplit ?_ ?_|refine bsplit ?_ ?_)<;>intro h<;>have hz_:=True.intro<;>clear hz_
  ·have h:i<rows.length:=lenlt.1 h
   conv=>whnf
   refine idxI h ?_
   conv=>whnf
   (first|refine⟨?_,?_⟩|refine nsplit ?_ ?_|refine bsplit ?_ ?_)<;>intro he<;>have hz_:=True.intro<;>clear hz_
   ·have he:rows[i].client=c:=he
    rw[getR_at h h0 he]
    conv=>whnf
    refine idxI h ?_
    conv=>whnf
    exact⟨[],[],_,_,_,t3,rfl,rfl,rfl⟩
   ·have he:¬rows[i].client=c:=he
    conv=>whnf
    refine⟨rows.length - (i+1),?_,by omega⟩
    exact⟨[],[some 0],_,_,_,t3,⟨i+1,h,rfl,take_all h h0 he,rfl,rfl,rfl⟩⟩
  ·have hi':i=rows.length:=by have:=mt lenlt.2 h
                              omega
   subst hi'
   rw[List.take_length]at h0
   rw[getR_no h0]
   conv=>whnf
   exact⟨[],[],_,_,_,t3,rfl,rfl,rfl⟩
def judgeR (rows:List RowS) (c n:Int):Int:=if¬(1≤c∧c≤6)∨n=0 then 2 else match getR rows c with
 |none=>0
 |some r=>if r.num<n then 0 else if r.num=n then 1 else 2
theorem rjudge_ok (rows:List RowS) (c n:Int) (hn:rows.length<1000000):VC EZ 69 0 [rowsL rows,.s (.int .i64 c),.s (.int .u64 n)] [] (RR (.s (.int .i64 (judgeR rows c n))) 0 []):=by
 have hg:=rget_ok rows c hn
 refine VC.enterR LZ (show EZ.func 69=some Tryz.f69 by kernel_rfl) (fun _ _=>rfl) rfl rfl [] ?_
 conv=>whnf
 by_cases h0:¬(1≤c∧c≤6)∨n=0
 ·rw[show judgeR rows c n=2 from if_pos h0]
  repeat'(first|((first|(refine⟨fun h=>?_,fun h=>?_⟩)|(refine nsplit (fun h=>?_) (fun h=>?_))|(refine bsplit (fun h=>?_) (fun h=>?_)))<;>(conv=>whnf)))
  all_goals first|(exfalso;simp at*;omega)|skip
  all_goals
   exact⟨[],[],_,_,_,t3,rfl,rfl,rfl⟩
 ·rw[show judgeR rows c n=(match getR rows c with|none=>0|some r=>if r.num<n then 0 else if r.num=n then 1 else 2)from if_neg h0]
  cases hr:getR rows c with
  |none=>
   rw[hr]at hg
   repeat'(first|((first|(refine⟨fun h=>?_,fun h=>?_⟩)|(refine nsplit (fun h=>?_) (fun h=>?_))|(refine bsplit (fun h=>?_) (fun h=>?_)))<;>(conv=>whnf)))
   all_goals first|(exfalso;simp at*;omega)|skip
   all_goals
    refine⟨[],[],_,_,_,_,hg,t3,cR ?_⟩
    conv=>whnf
    exact⟨[],[],_,_,_,t3,rfl,rfl,rfl⟩
  |some r=>
   rw[hr]at hg
   repeat'(first|((first|(refine⟨fun h=>?_,fun h=>?_⟩)|(refine nsplit (fun h=>?_) (fun h=>?_))|(refine bsplit (fun h=>?_) (fun h=>?_)))<;>(conv=>whnf)))
   all_goals first|(exfalso;simp at*;omega)|skip
   all_goals
    refine⟨[],[],_,_,_,_,hg,t3,cR ?_⟩
    conv=>whnf
    repeat'(first|((first|(refine⟨fun h=>?_,fun h=>?_⟩)|(refine nsplit (fun h=>?_) (fun h=>?_))|(refine bsplit (fun h=>?_) (fun h=>?_)))<;>(conv=>whnf)))
    all_goals
     refine⟨[],[],?_⟩
     iterate 3 constructor
     refine⟨⟨?_,?_,?_⟩,rfl,rfl,rfl⟩
     all_goals(repeat' first|exact LF|constructor)
     exact Lz.int (by simp at*;omega)
end Go.M
namespace Go.M
open Go Go.Proofs
set_option maxRecDepth 100000
set_option maxHeartbeats 4000000
@[reducible] def stF (s:StS):Ob:=[(0,stoC s),(1,mapT s.bs),(2,.cells [.ptr 0 0])]
theorem fine1_ok (s:StS) (r:RowS):VC EZ 128 3 [.agg (encR r),.ptr 2 0] (stF s) (RR (.s (.bool (decide (s.e<r.seq)))) 3 (stF s)):=by
 refine VC.enterR LZ (show EZ.func 128=some Tryz.f128 by kernel_rfl) (fun _ _=>rfl) rfl rfl [] ?_
 ((conv=>whnf)<;>repeat(with_reducible refine D1 ?_)<;>conv=>whnf)
 (first|refine⟨?_,?_⟩|refine nsplit ?_ ?_|refine bsplit ?_ ?_)<;>intro h<;>have hz_:=True.intro<;>clear hz_
 all_goals
  ((conv=>whnf)<;>repeat(with_reducible refine D1 ?_)<;>conv=>whnf)
  refine⟨[],[some 0,some 1,some 2],?_⟩
  iterate 3 constructor
  refine⟨⟨?_,?_,?_⟩,rfl,rfl,rfl⟩
  all_goals(repeat' first|exact LF|constructor)
  exact Lz.of (bool_eq (by simp_all))
@[reducible] def lateB (s:StS) (r:RowS):Bool:=decide (s.e<r.seq)
@[reducible] def idxF (s:StS) (l:List RowS):Int:=if l.any (lateB s)then((l.findIdx (lateB s):Nat):Int)else -1
theorem index_ok (s:StS) (l:List RowS) (hl:l.length<1000000):VC EZ 153 3 [.sl 5 (l.map encR) false,.clo 128 [] [.ptr 2 0]] (stF s) (RR (.s (.int .i64 (idxF s l))) 3 (stF s)):=by
 refine VC.enterR LZ (show EZ.func 153=some Tryz.f153 by kernel_rfl) (fun _ _=>rfl) rfl rfl [] ?_
 conv=>whnf
 refine⟨fun q f o c=>∃i:Nat,i≤l.length∧q=l.length - i∧(∀x∈l.take i,¬lateB s x=true)∧c=3∧f=[(0,.sl 5 (l.map encR) false),(1,.clo 128 [] [.ptr 2 0]),(7,.s (.int .i64 l.length)),(8,.s (.int .i64 i))]∧o=stF s,⟨l.length,?_⟩,?_⟩
 ·refine⟨[],[some 0,some 1,some 2],?_⟩
  iterate 3 constructor
  refine⟨⟨?_,?_,?_⟩,⟨0,Nat.zero_le _,rfl,by simp,rfl,rfl,rfl⟩⟩
  all_goals(repeat' first|exact LF|constructor)
  all_goals exact Lz.int (by rw[List.length_map])
 ·rintro q f1 o1 c1 ⟨i,hi,rfl,h0,rfl,rfl,rfl⟩
  conv=>whnf
  (first|refine⟨?_,?_⟩|refine nsplit ?_ ?_|refine bsplit ?_ ?_)<;>intro h<;>have hz_:=True.intro<;>clear hz_
  ·have h:i<l.length:=by have h:(i:Int)<l.length:=h
                         omega
   have hf:=fine1_ok s l[i]
   conv=>whnf
   refine idxI h ?_
   cases hb:lateB s l[i]
   ·rw[show decide (s.e<l[i].seq)=false from hb]at hf
    refine⟨[],[some 0,some 1,some 2],_,_,_,_,hf,t3,cR ?_⟩
    conv=>whnf
    refine⟨l.length - (i+1),?_,by omega⟩
    exact⟨[],[some 0,some 1,some 2],_,_,_,t3,⟨i+1,h,rfl,take_all h h0 (by rw[hb];decide),rfl,rfl,rfl⟩⟩
   ·rw[show decide (s.e<l[i].seq)=true from hb]at hf
    refine⟨[],[some 0,some 1,some 2],_,_,_,_,hf,t3,cR ?_⟩
    conv=>whnf
    refine⟨[],[some 0,some 1,some 2],?_⟩
    iterate 3 constructor
    refine⟨⟨?_,?_,?_⟩,rfl,rfl,rfl⟩
    all_goals(repeat' first|exact LF|constructor)
    all_goals exact Lz.int (by
     unfold idxF
     rw[if_pos (List.any_eq_true.2 ⟨_,List.getElem_mem h,hb⟩)]
     congr 1
     exact Eq.symm ((List.findIdx_eq h).2 ⟨hb,fun j hj=>by
      have:=h0 l[j] (List.mem_take_iff_getElem.2 ⟨j,by omega,rfl⟩)
      simpa using this⟩))
  ·obtain rfl:i=l.length:=by have h:¬(i:Int)<l.length:=h;omega
   rw[List.take_length]at h0
   conv=>whnf
   refine⟨[],[some 0,some 1,some 2],?_⟩
   iterate 3 constructor
   refine⟨⟨?_,?_,?_⟩,rfl,rfl,rfl⟩
   all_goals(repeat' first|exact LF|constructor)
   all_goals exact Lz.int (by
    unfold idxF
    rw[if_neg]
    intro q
    obtain⟨x,m,hx⟩:=List.any_eq_true.1 q
    exact h0 x m hx)
@[reducible] def fineS (s:StS):Bool:= !((rowsT s.t).any (lateB s))
theorem fine_ok (s:StS):VC EZ 86 2 [.ptr 0 0] (stO s) (RR (.s (.bool (fineS s))) 2 (stO s)):=by
 have hi:=index_ok s (rowsT s.t) (by have:=rowsT_len s.t;omega)
 have hidx:0≤idxF s (rowsT s.t)↔(rowsT s.t).any (lateB s)=true:=by
  unfold idxF
  split
  ·rename_i h;exact⟨fun _=>h,fun _=>by omega⟩
  ·rename_i h;exact⟨fun q=>absurd q (by decide),fun q=>absurd q h⟩
 have hcon:VC EZ 126 3 [.sl 5 ((rowsT s.t).map encR) false,.clo 128 [] [.ptr 2 0]] (stF s) (RR (.s (.bool ((rowsT s.t).any (lateB s)))) 3 (stF s)):=by
  generalize idxF s (rowsT s.t)=j at hi hidx
  refine VC.enterR LZ (show EZ.func 126=some Tryz.f126 by kernel_rfl) (fun _ _=>rfl) rfl rfl [] ?_
  conv=>whnf
  refine⟨[],[some 0,some 1,some 2],_,_,_,_,hi,t3,cR ?_⟩
  conv=>whnf
  (first|refine⟨?_,?_⟩|refine nsplit ?_ ?_|refine bsplit ?_ ?_)<;>intro h<;>have hz_:=True.intro<;>clear hz_
  all_goals
   conv=>whnf
   refine⟨[],[some 0,some 1,some 2],?_⟩
   iterate 3 constructor
   refine⟨⟨?_,?_,?_⟩,rfl,rfl,rfl⟩
   all_goals(repeat' first|exact LF|constructor)
   exact Lz.of (bool_eq (by simp_all))
 refine VC.enterR LZ (show EZ.func 86=some Tryz.f86 by kernel_rfl) (fun _ _=>rfl) rfl rfl [] ?_
 conv=>whnf
 refine⟨[],[some 3],_,_,_,_,all_ok s.t,t3,cR ?_⟩
 conv=>whnf
 refine⟨[],[some 0,some 1,some 2],_,_,_,_,hcon,t3,cR ?_⟩
 conv=>whnf
 refine⟨[],[some 0,some 1],?_⟩
 iterate 3 constructor
 refine⟨⟨?_,?_,?_⟩,rfl,rfl,rfl⟩
 all_goals(repeat' first|exact LF|constructor)
 all_goals trace_state
end Go.M
namespace Go.M
open Go Go.Proofs
set_option maxRecDepth 100000
set_option maxHeartbeats 4000000
def rdRow (x:InS):InS×RowS:=
 let p1:=x.get 1
 let p2:=p1.1.get 8
 let p3:=p2.1.get 8
 let p4:=p3.1.get 1
 let p5:=p4.1.get 8
 (p5.1,⟨IntKind.i64.wrap p1.2,p2.2,p3.2,IntKind.i64.wrap p4.2,p5.2⟩)
structure RdS where
 (x:InS) (t:TabS) (last:Int) (ok:Bool)
def rdStep (q:RdS):RdS:=
 let p:=rdRow q.x
 if q.ok=true∧q.last<p.2.client then⟨p.1,setT q.t p.2,p.2.client,decide (setC q.t p.2=0)⟩else⟨p.1,q.t,p.2.client,false⟩
def rdN (q:RdS):Nat→RdS
 |0=>q
 |n+1=>rdStep (rdN q n)
@[reducible] def bytesB (x:InS):Prop:=∀b∈x.b,0≤b∧b<256
theorem get_bytes {x:InS} {w:Nat} (h:bytesB x):bytesB (x.get w).1:=InS.upto_bytes h
theorem rdRow_bytes {x:InS} (h:bytesB x):bytesB (rdRow x).1:=get_bytes (get_bytes (get_bytes (get_bytes (get_bytes h))))
theorem rdStep_x (q:RdS):(rdStep q).x=(rdRow q.x).1:=by unfold rdStep;dsimp only;split<;>rfl
theorem rdN_bytes {q:RdS} (h:bytesB q.x):∀n,bytesB (rdN q n).x
 |0=>h
 |n+1=>by rw[rdN,rdStep_x];exact rdRow_bytes (rdN_bytes h n)
@[reducible] def rd0 (x:InS):RdS:=⟨(x.upto 1 6).1,zeroTab,0,true⟩
@[reducible] def rdAll (x:InS):RdS:=rdN (rd0 x) ((x.upto 1 6).2).toNat
def rdC (x:InS):Int:=if(rdAll x).x.e≠0 then(rdAll x).x.e else if(rdAll x).ok=true then 0 else 4
@[reducible] def stRd (q:RdS):Ob:=[(0,InO q.x),(1,tabT q.t)]
theorem sread_ok (x:InS) (hb:bytesB x):VC EZ 85 1 [.ptr 0 0] [(0,InO x)] (if rdC x=0 then RR (.tup [.ptr 1 0,.s (.int .i64 0)]) 2 (stRd (rdAll x))else RR (.tup [nilP,.s (.int .i64 (rdC x))]) 1 [(0,InO (rdAll x).x)]):=by
 have hup:=upto_ok x 1 6 (by decide) (by decide) hb
 have hr:=InS.upto_range (s:=x) (n:=1) (m:=6)
 have hle:=InS.upto_le (s:=x) (n:=1) (m:=6) (by decide)
 have hbs:=rdN_bytes (q:=rd0 x) (InS.upto_bytes hb)
 have hC:rdC x=if(rdAll x).x.e≠0 then(rdAll x).x.e else if(rdAll x).ok=true then 0 else 4:=rfl
 generalize rdC x=code at hC
 generalize hA:rdAll x=A at hC
 have hA:rdN (rd0 x) ((x.upto 1 6).2).toNat=A:=hA
 generalize hq:rd0 x=q0 at hA hbs
 have hq1:q0=⟨(x.upto 1 6).1,zeroTab,0,true⟩:=hq.symm
 clear hq
 generalize x.upto 1 6=y at hup hr hle hA hq1
 obtain⟨x1,m⟩:=y
 dsimp only at hr hle hA hq1
 obtain⟨n,rfl⟩:∃n:Nat,m=n:=⟨m.toNat,by omega⟩
 rw[Int.toNat_natCast]at hA
 refine VC.enterR LZ (show EZ.func 85=some Tryz.f85 by kernel_rfl) (fun _ _=>rfl) rfl rfl [] ?_
 conv=>whnf
 refine⟨[],[some 0],_,_,_,_,hup,t3,cR ?_⟩
 conv=>whnf
 refine⟨[],[],_,_,_,_,snew_ok,t3,cR ?_⟩
 conv=>whnf
 refine⟨fun k f o c=>∃(i:Nat) (q:RdS),rdN q0 i=q∧i≤n∧k=n - i∧c=2∧f=[(0,.ptr 0 0),(5,.ptr 1 0),(6,.s (.int .i64 q.last)),(7,.s (.bool q.ok)),(13,.s (.int .u64 n)),(14,.s (.int .u64 i))]∧o=stRd q,⟨n,?_⟩,?_⟩
 ·exact⟨[],[some 0,some 2],_,_,_,t3,⟨0,⟨x1,zeroTab,0,true⟩,hq1,Nat.zero_le _,rfl,rfl,rfl,rfl⟩⟩
 ·rintro k f1 o1 c1 ⟨i,q,hq,hi,rfl,rfl,rfl,rfl⟩
  conv=>whnf
  (first|refine⟨?_,?_⟩|refine nsplit ?_ ?_|refine bsplit ?_ ?_)<;>intro h<;>have hz_:=True.intro<;>clear hz_
  ·have h:i<n:=Int.ofNat_lt.1 h
   have hst:rdN q0 (i+1)=rdStep q:=by rw[←hq];rfl
   have hbi:=hbs i
   rw[hq]at hbi
   have hw:IntKind.u64.wrap ((i:Int)+1)=((i+1:Nat):Int):=by rw[IntWalk.u64_in _ (by omega)];omega
   clear hq
   obtain⟨y,t,last,ok⟩:=q
   have g1:=get_ok y 1 (by decide) (by decide) hbi
   have b1:=get_bytes (w:=1) hbi
   have g2:=get_ok _ 8 (by decide) (by decide) b1
   have b2:=get_bytes (w:=8) b1
   have g3:=get_ok _ 8 (by decide) (by decide) b2
   have b3:=get_bytes (w:=8) b2
   have g4:=get_ok _ 1 (by decide) (by decide) b3
   have b4:=get_bytes (w:=1) b3
   have g5:=get_ok _ 8 (by decide) (by decide) b4
   unfold rdStep rdRow at hst
   dsimp only at hst hbi b1 b2 b3 b4 g1 g2 g3 g4 g5
   generalize y.get 1=p1 at hst g1 g2 g3 g4 g5
   generalize p1.1.get 8=p2 at hst g2 g3 g4 g5
   generalize p2.1.get 8=p3 at hst g3 g4 g5
   generalize p3.1.get 1=p4 at hst g4 g5
   generalize p4.1.get 8=p5 at hst g5
   have hset:=sset_ok t ⟨IntKind.i64.wrap p1.2,p2.2,p3.2,IntKind.i64.wrap p4.2,p5.2⟩
   generalize setT t ⟨IntKind.i64.wrap p1.2,p2.2,p3.2,IntKind.i64.wrap p4.2,p5.2⟩=t' at hst hset
   generalize setC t ⟨IntKind.i64.wrap p1.2,p2.2,p3.2,IntKind.i64.wrap p4.2,p5.2⟩=c' at hst hset
   conv=>whnf
   refine⟨[],[some 0],_,_,_,_,g1,t3,cR ?_⟩
   conv=>whnf
   refine⟨[],[some 0],_,_,_,_,g2,t3,cR ?_⟩
   conv=>whnf
   refine⟨[],[some 0],_,_,_,_,g3,t3,cR ?_⟩
   conv=>whnf
   refine⟨[],[some 0],_,_,_,_,g4,t3,cR ?_⟩
   conv=>whnf
   refine⟨[],[some 0],_,_,_,_,g5,t3,cR ?_⟩
   conv=>whnf
   cases ok
   ·rw[if_neg (by simp)]at hst
    conv=>whnf
    rw[hw]
    refine⟨n - (i+1),?_,by omega⟩
    exact⟨[],[some 0,some 1],_,_,_,t3,⟨i+1,_,hst,h,rfl,rfl,rfl,rfl⟩⟩
   ·conv=>whnf
    (first|refine⟨?_,?_⟩|refine nsplit ?_ ?_|refine bsplit ?_ ?_)<;>intro hg<;>have hz_:=True.intro<;>clear hz_
    ·have hg:last<IntKind.i64.wrap p1.2:=hg
     rw[if_pos ⟨rfl,hg⟩]at hst
     conv=>whnf
     refine⟨[],[some 1],_,_,_,_,hset,t3,cR ?_⟩
     conv=>whnf
     (first|refine⟨?_,?_⟩|refine nsplit ?_ ?_|refine bsplit ?_ ?_)<;>intro hz<;>have hz_:=True.intro<;>clear hz_
     ·have hz:c'=0:=hz
      rw[decide_eq_true hz]at hst
      conv=>whnf
      rw[hw]
      refine⟨n - (i+1),?_,by omega⟩
      exact⟨[],[some 0,some 1],_,_,_,t3,⟨i+1,_,hst,h,rfl,rfl,rfl,rfl⟩⟩
     ·have hz:¬c'=0:=hz
      rw[decide_eq_false hz]at hst
      conv=>whnf
      rw[hw]
      refine⟨n - (i+1),?_,by omega⟩
      exact⟨[],[some 0,some 1],_,_,_,t3,⟨i+1,_,hst,h,rfl,rfl,rfl,rfl⟩⟩
    ·have hg:¬last<IntKind.i64.wrap p1.2:=hg
     rw[if_neg (fun q=>hg q.2)]at hst
     conv=>whnf
     rw[hw]
     refine⟨n - (i+1),?_,by omega⟩
     exact⟨[],[some 0,some 1],_,_,_,t3,⟨i+1,_,hst,h,rfl,rfl,rfl,rfl⟩⟩
  ·obtain rfl:i=n:=by have h:¬(i:Int)<n:=h;omega
   rw[hq]at hA
   subst hA
   obtain⟨y,t,last,ok⟩:=q
   dsimp only at hC
   conv=>whnf
   refine⟨[],[some 0],_,_,_,_,err_ok y,t3,cR ?_⟩
   conv=>whnf
   (first|refine⟨?_,?_⟩|refine nsplit ?_ ?_|refine bsplit ?_ ?_)<;>intro he<;>have hz_:=True.intro<;>clear hz_
   ·have he:y.e≠0:=he
    rw[if_pos he]at hC
    conv=>whnf
    rw[hC,if_neg he]
    exact⟨[],[some 0],_,_,_,t3,rfl,rfl,rfl⟩
   ·have he:¬y.e≠0:=he
    rw[if_neg he]at hC
    cases ok
    ·rw[if_neg (by simp)]at hC
     subst hC
     conv=>whnf
     rw[if_neg (by decide)]
     exact⟨[],[some 0],_,_,_,t3,rfl,rfl,rfl⟩
    ·rw[if_pos rfl]at hC
     subst hC
     conv=>whnf
     rw[if_pos rfl]
     exact⟨[],[some 0,some 1],_,_,_,t3,rfl,rfl,rfl⟩
end Go.M
namespace Go.M
open Go Go.Proofs
set_option maxRecDepth 100000
set_option maxHeartbeats 4000000
def insBy {α:Type} (key:α→Int) (x:α):List α→List α
 |[]=>[x]
 |a::l=>if key a<key x then a::insBy key x l else if key a=key x then x::l else x::a::l
@[reducible] def keyRow (r:RowS):Int:=r.client
@[reducible] def keyBl (b:Int×List Vs):Int:=b.1
end Go.M
namespace Go.M
open Go Go.Proofs
set_option maxRecDepth 100000
set_option maxHeartbeats 4000000
theorem rfine_ok (r:RowS):VC EZ 143 0 [.agg (encR r)] [] (RR (.s (.bool (fineB r))) 0 []):=by
 refine VC.enterR LZ (show EZ.func 143=some Tryz.f143 by kernel_rfl) (fun _ _=>rfl) rfl rfl [] ?_
 conv=>whnf
 repeat'(first|((first|(refine⟨fun h=>?_,fun h=>?_⟩)|(refine nsplit (fun h=>?_) (fun h=>?_))|(refine bsplit (fun h=>?_) (fun h=>?_)))<;>(conv=>whnf)))
 all_goals
  refine⟨[],[],?_⟩
  iterate 3 constructor
  refine⟨⟨?_,?_,?_⟩,rfl,rfl,rfl⟩
  all_goals(repeat' first|exact LF|constructor)
  exact Lz.of (bool_eq (by unfold fineB;simp at*;omega))
structure RdL where
 (x:InS) (rows:List RowS) (ok:Bool)
def nextB (rows:List RowS) (r:RowS):Bool:=match rows.getLast? with|none=>true|some p=>decide (p.client<r.client)
def rlStep (q:RdL):RdL:=
 let p:=rdRow q.x
 ⟨p.1,q.rows++[p.2],q.ok&&(fineB p.2&&nextB q.rows p.2)⟩
def rlN (q:RdL):Nat→RdL
 |0=>q
 |n+1=>rlStep (rlN q n)
theorem rlStep_x (q:RdL):(rlStep q).x=(rdRow q.x).1:=rfl
theorem rlN_bytes {q:RdL} (h:bytesB q.x):∀n,bytesB (rlN q n).x
 |0=>h
 |n+1=>rdRow_bytes (rlN_bytes h n)
theorem rlN_len (q:RdL):∀n,(rlN q n).rows.length=q.rows.length+n
 |0=>rfl
 |n+1=>by rw[rlN,rlStep];simp[rlN_len q n];omega
@[reducible] def rl0 (x:InS):RdL:=⟨(x.upto 1 6).1,[],true⟩
@[reducible] def rlAll (x:InS):RdL:=rlN (rl0 x) ((x.upto 1 6).2).toNat
def rlC (x:InS):Int:=if(rlAll x).x.e≠0 then(rlAll x).x.e else if(rlAll x).ok=true then 0 else 4
@[reducible] def InC (s:InS):TO:=.cells [.sl 1 (s.b.map encU1) false,.s (.int .i64 s.e)]
@[reducible] def InZ:TO:=.cells [.sl 0 [] true,.s (.int .i64 0)]
theorem nextB_at {rows:List RowS} (h:0<rows.length) (r:RowS):nextB rows r=decide ((rows[rows.length - 1]'(by omega)).client<r.client):=by
 unfold nextB
 rw[List.getLast?_eq_getElem?,List.getElem?_eq_getElem (by omega)]
theorem nextB_nil (r:RowS):nextB [] r=true:=rfl
theorem rread_ok (x:InS) (hb:bytesB x):VC EZ 106 0 [InA x] [] (RR (.tup [InA (rlAll x).x,rowsL (if rlC x=0 then(rlAll x).rows else []),.s (.int .i64 (rlC x))]) 0 []):=by
 have hup:=refUpto_ok x 1 6 (by decide) (by decide)
 have hr:=InS.upto_range (s:=x) (n:=1) (m:=6)
 have hle:=InS.upto_le (s:=x) (n:=1) (m:=6) (by decide)
 have hbs:=rlN_bytes (q:=rl0 x) (InS.upto_bytes hb)
 have hln:=rlN_len (rl0 x)
 have hC:rlC x=if(rlAll x).x.e≠0 then(rlAll x).x.e else if(rlAll x).ok=true then 0 else 4:=rfl
 generalize rlC x=code at hC
 generalize hA:rlAll x=A at hC
 have hA:rlN (rl0 x) ((x.upto 1 6).2).toNat=A:=hA
 generalize hq:rl0 x=q0 at hA hbs hln
 have hq1:q0=⟨(x.upto 1 6).1,[],true⟩:=hq.symm
 clear hq
 generalize x.upto 1 6=y at hup hr hle hA hq1
 obtain⟨x1,m⟩:=y
 dsimp only at hr hle hA hq1
 obtain⟨n,rfl⟩:∃n:Nat,m=n:=⟨m.toNat,by omega⟩
 rw[Int.toNat_natCast]at hA
 have hl0:q0.rows=[]:=by rw[hq1]
 refine VC.enterR LZ (show EZ.func 106=some Tryz.f106 by kernel_rfl) (fun _ _=>rfl) rfl rfl [] ?_
 conv=>whnf
 refine⟨[],[],_,_,_,_,hup,t3,cR ?_⟩
 conv=>whnf
 refine⟨fun k f o c=>∃(i:Nat) (q:RdL),rlN q0 i=q∧i≤n∧k=n - i∧c=3∧f=[(1,.ptr 0 0),(2,.ptr 1 0),(5,.s (.int .u64 n)),(6,.tk 2),(7,.s (.bool q.ok)),(8,.s (.int .u64 i))]∧o=[(0,InC q.x),(1,InZ),(2,.arr 5 true (q.rows.map encR))],⟨n,?_⟩,?_⟩
 ·exact⟨[],[some 0,some 1,none],_,_,_,t3,⟨0,⟨x1,[],true⟩,hq1,Nat.zero_le _,rfl,rfl,rfl,rfl⟩⟩
 ·rintro k f1 o1 c1 ⟨i,q,hq,hi,rfl,rfl,rfl,rfl⟩
  conv=>whnf
  (first|refine⟨?_,?_⟩|refine nsplit ?_ ?_|refine bsplit ?_ ?_)<;>intro h<;>have hz_:=True.intro<;>clear hz_
  ·have h:i<n:=Int.ofNat_lt.1 h
   have hst:rlN q0 (i+1)=rlStep q:=by rw[←hq];rfl
   have hbi:=hbs i
   have hli:=hln i
   rw[hq]at hbi hli
   rw[hl0,List.length_nil,Nat.zero_add]at hli
   have hw:IntKind.u64.wrap ((i:Int)+1)=((i+1:Nat):Int):=by rw[IntWalk.u64_in _ (by omega)];omega
   clear hq
   obtain⟨y,rows,ok⟩:=q
   dsimp only at hli
   have g1:=refGet_ok y 1 (by decide) (by decide)
   have g2:=refGet_ok (y.get 1).1 8 (by decide) (by decide)
   have g3:=refGet_ok ((y.get 1).1.get 8).1 8 (by decide) (by decide)
   have g4:=refGet_ok (((y.get 1).1.get 8).1.get 8).1 1 (by decide) (by decide)
   have g5:=refGet_ok ((((y.get 1).1.get 8).1.get 8).1.get 1).1 8 (by decide) (by decide)
   unfold rlStep rdRow at hst
   dsimp only at hst hbi g1 g2 g3 g4 g5
   generalize y.get 1=p1 at hst g1 g2 g3 g4 g5
   generalize p1.1.get 8=p2 at hst g2 g3 g4 g5
   generalize p2.1.get 8=p3 at hst g3 g4 g5
   generalize p3.1.get 1=p4 at hst g4 g5
   generalize p4.1.get 8=p5 at hst g5
   have hf:=rfine_ok ⟨IntKind.i64.wrap p1.2,p2.2,p3.2,IntKind.i64.wrap p4.2,p5.2⟩
   generalize hbf:fineB ⟨IntKind.i64.wrap p1.2,p2.2,p3.2,IntKind.i64.wrap p4.2,p5.2⟩=bf at hst hf
   conv=>whnf
   refine⟨[],[],_,_,_,_,g1,t3,cR ?_⟩
   conv=>whnf
   refine⟨[],[],_,_,_,_,g2,t3,cR ?_⟩
   conv=>whnf
   refine⟨[],[],_,_,_,_,g3,t3,cR ?_⟩
   conv=>whnf
   refine⟨[],[],_,_,_,_,g4,t3,cR ?_⟩
   conv=>whnf
   refine⟨[],[],_,_,_,_,g5,t3,cR ?_⟩
   ((conv=>whnf)<;>repeat(with_reducible refine D1 ?_)<;>conv=>whnf)
   cases bf
   ·rw[Bool.false_and,Bool.and_false]at hst
    refine⟨[],[],_,_,_,_,hf,t3,cR ?_⟩
    ((conv=>whnf)<;>repeat(with_reducible refine D1 ?_)<;>conv=>whnf)
    refine⟨by simp;omega,?_⟩
    conv=>whnf
    rw[hw]
    refine⟨n - (i+1),?_,by omega⟩
    refine⟨[],[some 0,some 1,some 6],?_⟩
    iterate 3 constructor
    refine⟨⟨?_,?_,?_⟩,⟨i+1,_,hst,h,rfl,rfl,rfl,rfl⟩⟩
    all_goals(repeat' first|exact LF|constructor)
    all_goals exact Lz.of (by rw[List.map_append];rfl)
   ·rw[Bool.true_and]at hst
    refine⟨[],[],_,_,_,_,hf,t3,cR ?_⟩
    conv=>whnf
    (first|refine⟨?_,?_⟩|refine nsplit ?_ ?_|refine bsplit ?_ ?_)<;>intro h2<;>have hz_:=True.intro<;>clear hz_
    ·have h2:0<rows.length:=by have h2:(((rows.map encR).length:Nat):Int)>0:=h2
                               rw[List.length_map]at h2;omega
     rw[nextB_at h2]at hst
     conv=>whnf
     rw[show IntKind.i64.wrap ((((rows.map encR).length:Nat):Int) - 1)=((rows.length - 1:Nat):Int)from by rw[List.length_map,IntWalk.i64_in _ (by omega)];omega]
     refine⟨⟨by omega,by simp;omega⟩,encR (rows[rows.length - 1]'(by omega)),by simp[show rows.length - 1<rows.length by omega],?_⟩
     conv=>whnf
     (first|refine⟨?_,?_⟩|refine nsplit ?_ ?_|refine bsplit ?_ ?_)<;>intro h3<;>have hz_:=True.intro<;>clear hz_
     ·have h3:¬(rows[rows.length - 1]'(by omega)).client<IntKind.i64.wrap p1.2:=Int.not_lt.2 h3
      rw[decide_eq_false h3,Bool.and_false]at hst
      ((conv=>whnf)<;>repeat(with_reducible refine D1 ?_)<;>conv=>whnf)
      refine⟨by simp;omega,?_⟩
      conv=>whnf
      rw[hw]
      refine⟨n - (i+1),?_,by omega⟩
      refine⟨[],[some 0,some 1,some 6],?_⟩
      iterate 3 constructor
      refine⟨⟨?_,?_,?_⟩,⟨i+1,_,hst,h,rfl,rfl,rfl,rfl⟩⟩
      all_goals(repeat' first|exact LF|constructor)
      all_goals exact Lz.of (by rw[List.map_append];rfl)
     ·have h3:(rows[rows.length - 1]'(by omega)).client<IntKind.i64.wrap p1.2:=Int.not_le.1 h3
      rw[decide_eq_true h3,Bool.and_true]at hst
      ((conv=>whnf)<;>repeat(with_reducible refine D1 ?_)<;>conv=>whnf)
      refine⟨by simp;omega,?_⟩
      conv=>whnf
      rw[hw]
      refine⟨n - (i+1),?_,by omega⟩
      refine⟨[],[some 0,some 1,some 6],?_⟩
      iterate 3 constructor
      refine⟨⟨?_,?_,?_⟩,⟨i+1,_,hst,h,rfl,rfl,rfl,rfl⟩⟩
      all_goals(repeat' first|exact LF|constructor)
      all_goals exact Lz.of (by rw[List.map_append];rfl)
    ·obtain rfl:rows=[]:=by have h2:¬(((rows.map encR).length:Nat):Int)>0:=h2
                            rw[List.length_map]at h2;exact List.length_eq_zero_iff.1 (by omega)
     rw[nextB_nil,Bool.and_true]at hst
     ((conv=>whnf)<;>repeat(with_reducible refine D1 ?_)<;>conv=>whnf)
     refine⟨by simp,?_⟩
     conv=>whnf
     rw[hw]
     refine⟨n - (i+1),?_,by omega⟩
     exact⟨[],[some 0,some 1,some 6],_,_,_,t3,⟨i+1,_,hst,h,rfl,rfl,rfl,rfl⟩⟩
  ·obtain rfl:i=n:=by have h:¬(i:Int)<n:=h;omega
   rw[hq]at hA
   subst hA
   obtain⟨y,rows,ok⟩:=q
   dsimp only at hC
   conv=>whnf
   (first|refine⟨?_,?_⟩|refine nsplit ?_ ?_|refine bsplit ?_ ?_)<;>intro he<;>have hz_:=True.intro<;>clear hz_
   ·have he:y.e≠0:=he
    rw[if_pos he]at hC
    ((conv=>whnf)<;>repeat(with_reducible refine D1 ?_)<;>conv=>whnf)
    rw[hC,if_neg he]
    exact⟨[],[],_,_,_,t3,rfl,rfl,rfl⟩
   ·have he:¬y.e≠0:=he
    rw[if_neg he]at hC
    cases ok
    ·rw[if_neg (by simp)]at hC
     subst hC
     conv=>whnf
     rw[if_neg (by decide)]
     exact⟨[],[],_,_,_,t3,rfl,rfl,rfl⟩
    ·rw[if_pos rfl]at hC
     subst hC
     conv=>whnf
     rw[if_pos rfl]
     exact⟨[2],[],_,_,_,t3,rfl,rfl,rfl⟩
end Go.M
namespace Go.M
open Go Go.Proofs
set_option maxRecDepth 100000
set_option maxHeartbeats 4000000
theorem find_at {α:Type} {p:α→Bool} {l:List α} {i:Nat} (h:i<l.length) (h0:∀a∈l.take i,¬p a=true) (hk:p l[i]=true):l.find? p=some l[i]:=by
 rw[List.find?_eq_some_iff_append]
 exact⟨hk,l.take i,l.drop (i+1),(List.take_append_drop i l).symm.trans (by rw[List.drop_eq_getElem_cons h]),fun a m=>by simpa using h0 a m⟩
def cleanR (vs:List Vs) (d:Int):Vs:=lastV (vs.filter fun v=>decide (v.seq≤d))
theorem cleanR_next {vs:List Vs} {d:Int} {i:Nat} (h:i<vs.length):cleanR (vs.take (i+1)) d=if vs[i].seq≤d then vs[i]else cleanR (vs.take i) d:=by
 unfold cleanR
 rw[List.take_succ_eq_append_getElem h,List.filter_append]
 split
 ·rename_i q;rw[List.filter_cons_of_pos (by simpa using q),List.filter_nil,lastV_end]
 ·rename_i q;rw[List.filter_cons_of_neg (by simpa using q),List.filter_nil,List.append_nil]
theorem rclean_ok (vs:List Vs) (d:Int) (hn:vs.length<1000000):VC EZ 97 0 [vsL vs,.s (.int .u64 d)] [] (RR (.agg (encV (cleanR vs d))) 0 []):=by
 refine VC.enterR LZ (show EZ.func 97=some Tryz.f97 by kernel_rfl) (fun _ _=>rfl) rfl rfl [] ?_
 conv=>whnf
 refine⟨fun k' f o cc=>∃i:Nat,i≤vs.length∧k'=vs.length - i∧cc=2∧f=[(0,vsL vs),(1,.s (.int .u64 d)),(4,.ptr 0 0),(5,.ptr 1 0),(6,.s (.int .i64 i))]∧o=[(0,.cells (encV zeroVs)),(1,.cells (encV (cleanR (vs.take i) d)))],⟨vs.length,?_⟩,?_⟩
 ·exact⟨[],[some 0,some 1],_,_,_,t3,⟨0,Nat.zero_le _,rfl,rfl,rfl,rfl⟩⟩
 ·rintro k' f1 o1 c1 ⟨i,hi,rfl,rfl,rfl,rfl⟩
  conv=>whnf
  (first|refine⟨?_,?_⟩|refine nsplit ?_ ?_|refine bsplit ?_ ?_)<;>intro h<;>have hz_:=True.intro<;>clear hz_
  ·have h:i<vs.length:=lenlt.1 h
   have hnx:=cleanR_next (d:=d) h
   conv=>whnf
   refine idxI h ?_
   conv=>whnf
   (first|refine⟨?_,?_⟩|refine nsplit ?_ ?_|refine bsplit ?_ ?_)<;>intro he<;>have hz_:=True.intro<;>clear hz_
   ·have he:vs[i].seq≤d:=he
    rw[if_pos he]at hnx
    conv=>whnf
    refine idxI h ?_
    conv=>whnf
    refine⟨vs.length - (i+1),?_,by omega⟩
    rw[←hnx]
    exact⟨[],[some 0,some 1],_,_,_,t3,⟨i+1,h,rfl,rfl,rfl,rfl⟩⟩
   ·have he:¬vs[i].seq≤d:=he
    rw[if_neg he]at hnx
    conv=>whnf
    refine⟨vs.length - (i+1),?_,by omega⟩
    rw[←hnx]
    exact⟨[],[some 0,some 1],_,_,_,t3,⟨i+1,h,rfl,rfl,rfl,rfl⟩⟩
  ·obtain rfl:i=vs.length:=by have:=mt lenlt.2 h;omega
   rw[List.take_length]
   conv=>whnf
   exact⟨[],[],_,_,_,t3,rfl,rfl,rfl⟩
theorem rdirty_ok (vs:List Vs) (d:Int) (hn:vs.length<1000000):VC EZ 80 0 [vsL vs,.s (.int .u64 d)] [] (RR (.s (.bool (decide (0<vs.length∧d<(lastV vs).seq)))) 0 []):=by
 have hl:=rlast_ok vs hn
 refine VC.enterR LZ (show EZ.func 80=some Tryz.f80 by kernel_rfl) (fun _ _=>rfl) rfl rfl [] ?_
 conv=>whnf
 (first|refine⟨?_,?_⟩|refine nsplit ?_ ?_|refine bsplit ?_ ?_)<;>intro h<;>have hz_:=True.intro<;>clear hz_
 ·have h:0<vs.length:=by have h:(0:Int)<(((vs.map encV).length:Nat):Int):=h
                         rw[List.length_map]at h;omega
  conv=>whnf
  refine⟨[],[],_,_,_,_,hl,t3,cR ?_⟩
  conv=>whnf
  (first|refine⟨?_,?_⟩|refine nsplit ?_ ?_|refine bsplit ?_ ?_)<;>intro h2<;>have hz_:=True.intro<;>clear hz_
  ·have h2:d<(lastV vs).seq:=h2
   conv=>whnf
   refine⟨[],[],?_⟩
   iterate 3 constructor
   refine⟨⟨?_,?_,?_⟩,rfl,rfl,rfl⟩
   all_goals(repeat' first|exact LF|constructor)
   exact Lz.of (bool_eq (decide_eq_true ⟨h,h2⟩).symm)
  ·have h2:¬d<(lastV vs).seq:=h2
   conv=>whnf
   refine⟨[],[],?_⟩
   iterate 3 constructor
   refine⟨⟨?_,?_,?_⟩,rfl,rfl,rfl⟩
   all_goals(repeat' first|exact LF|constructor)
   exact Lz.of (bool_eq (decide_eq_false fun q=>h2 q.2).symm)
 ·have h:¬0<vs.length:=fun q=>h (show(0:Int)<(((vs.map encV).length:Nat):Int) by rw[List.length_map];omega)
  conv=>whnf
  refine⟨[],[],?_⟩
  iterate 3 constructor
  refine⟨⟨?_,?_,?_⟩,rfl,rfl,rfl⟩
  all_goals(repeat' first|exact LF|constructor)
  exact Lz.of (bool_eq (decide_eq_false fun q=>h q.1).symm)
def pickR (vs:List Vs) (v d:Int):Vs:=match vs.find? fun x=>decide (x.ver=v)with
 |some x=>x
 |none=>if v<(cleanR vs d).ver then cleanR vs d else zeroVs
theorem rpick_ok (vs:List Vs) (v d:Int) (hn:vs.length<1000000):VC EZ 81 0 [vsL vs,.s (.int .u64 v),.s (.int .u64 d)] [] (RR (.agg (encV (pickR vs v d))) 0 []):=by
 refine VC.enterR LZ (show EZ.func 81=some Tryz.f81 by kernel_rfl) (fun _ _=>rfl) rfl rfl [] ?_
 conv=>whnf
 refine⟨fun k' f o cc=>∃i:Nat,i≤vs.length∧k'=vs.length - i∧(∀x∈vs.take i,¬decide (x.ver=v)=true)∧cc=1∧f=[(0,vsL vs),(1,.s (.int .u64 v)),(2,.s (.int .u64 d)),(6,.ptr 0 0),(7,.s (.int .i64 i))]∧o=[(0,.cells (encV zeroVs))],⟨vs.length,?_⟩,?_⟩
 ·exact⟨[],[some 0],_,_,_,t3,⟨0,Nat.zero_le _,rfl,by simp,rfl,rfl,rfl⟩⟩
 ·rintro k' f1 o1 c1 ⟨i,hi,rfl,h0,rfl,rfl,rfl⟩
  conv=>whnf
  (first|refine⟨?_,?_⟩|refine nsplit ?_ ?_|refine bsplit ?_ ?_)<;>intro h<;>have hz_:=True.intro<;>clear hz_
  ·have h:i<vs.length:=lenlt.1 h
   conv=>whnf
   refine idxI h ?_
   conv=>whnf
   (first|refine⟨?_,?_⟩|refine nsplit ?_ ?_|refine bsplit ?_ ?_)<;>intro he<;>have hz_:=True.intro<;>clear hz_
   ·have he:vs[i].ver=v:=he
    rw[show pickR vs v d=vs[i]from by unfold pickR;rw[find_at h h0 (by simpa using he)]]
    conv=>whnf
    refine idxI h ?_
    conv=>whnf
    exact⟨[],[],_,_,_,t3,rfl,rfl,rfl⟩
   ·have he:¬vs[i].ver=v:=he
    conv=>whnf
    refine⟨vs.length - (i+1),?_,by omega⟩
    exact⟨[],[some 0],_,_,_,t3,⟨i+1,h,rfl,take_all h h0 (by simpa using he),rfl,rfl,rfl⟩⟩
  ·obtain rfl:i=vs.length:=by have:=mt lenlt.2 h;omega
   rw[List.take_length]at h0
   have hno:vs.find? (fun x=>decide (x.ver=v))=none:=List.find?_eq_none.2 h0
   have hc:=rclean_ok vs d hn
   rw[show pickR vs v d=if v<(cleanR vs d).ver then cleanR vs d else zeroVs from by unfold pickR;rw[hno]]
   generalize cleanR vs d=c at hc
   conv=>whnf
   refine⟨[],[],_,_,_,_,hc,t3,cR ?_⟩
   conv=>whnf
   (first|refine⟨?_,?_⟩|refine nsplit ?_ ?_|refine bsplit ?_ ?_)<;>intro h2<;>have hz_:=True.intro<;>clear hz_
   ·have h2:v<c.ver:=h2
    rw[if_pos h2]
    conv=>whnf
    exact⟨[],[],_,_,_,t3,rfl,rfl,rfl⟩
   ·have h2:¬v<c.ver:=h2
    rw[if_neg h2]
    conv=>whnf
    exact⟨[],[],_,_,_,t3,rfl,rfl,rfl⟩
def keepR (c:Vs) (vs:List Vs):List Vs:=vs.filter fun v=>decide (c.seq≤v.seq)
end Go.M
namespace Go.M
open Go Go.Proofs
set_option maxRecDepth 100000
set_option maxHeartbeats 4000000
@[reducible] def encA2 (q:Vs×Bool):TV:=.tup [.agg (encV q.1),.s (.bool q.2)]
@[reducible] def nowS (s:StS) (k d:Int):Vs×Bool:=if 0<(ofK s k).length∧d<(lastV (ofK s k)).seq then(zeroVs,false)else(lastV (ofK s k),true)
@[reducible] def thenS (s:StS) (k v d:Int):Vs×Bool:=(pickV (ofK s k) v d,decide (v=0∨(pickV (ofK s k) v d).ver≠0))
end Go.M
namespace Go.M
open Go Go.Proofs
set_option maxRecDepth 100000
set_option maxHeartbeats 4000000
@[reducible] def outRf (r:RfS) (u:UpR):Int×Int×Bool:=outC u (lastV (ofR r u.key)).ver (decide (r.bs.length<192))
@[reducible] def rowRf (r:RfS) (u:UpR):RowS:=⟨u.client,u.num,u.seq,(outRf r u).1,(outRf r u).2.1⟩
@[reducible] def wroteRf (r:RfS) (u:UpR):List (Int×List Vs):=if(outRf r u).2.2=true then insBy keyBl (u.key,putB (ofR r u.key) ⟨(outRf r u).2.1,u.seq,u.data⟩) r.bs else r.bs
def applyR (r:RfS) (u:UpR):(RfS×RowS)×Int:=
 if chkU u≠0 then((r,zeroR),chkU u)
 else if u.seq - 1≠r.e then((r,zeroR),12)
 else if judgeR r.rows u.client u.num≠0 then(({r with e:=u.seq},zeroR),0)
 else((⟨u.seq,wroteRf r u,insBy keyRow (rowRf r u) r.rows⟩,rowRf r u),0)
@[reducible] def encRA (q:(RfS×RowS)×Int):TV:=.tup [.agg (encRf q.1.1),.agg (encR q.1.2),.s (.int .i64 q.2)]
structure ROk (r:RfS):Prop where
 b:r.bs.length<900
 w:r.rows.length<900
 l:∀k,(ofR r k).length<900∧0≤(lastV (ofR r k)).ver∧(lastV (ofR r k)).ver≤18446744073709551615
@[reducible] def keptOf (d:Int) (b:Int×List Vs):Int×List Vs:=(b.1,keepR (cleanR b.2 d) b.2)
@[reducible] def dropOf (d:Int) (b:Int×List Vs):Nat:=b.2.length - (keepR (cleanR b.2 d) b.2).length
def sumN (l:List Nat):Nat:=l.sum
end Go.M
namespace Go.M
open Go Go.Proofs
set_option maxHeartbeats 1000000
@[reducible] def nxU (s:StS) (u:UpR):UpR:={u with seq:=s.e+1}
def nxS (s:StS) (u:UpR):StS:=(applyS s (nxU s u)).2
def runS (l:List UpR):StS:=l.foldl nxS ⟨0,[],zeroTab⟩
structure URng (u:UpR):Prop where
 num:0≤u.num∧u.num≤18446744073709551615
 ver:0≤u.ver∧u.ver≤18446744073709551615
 key:0≤u.key∧u.key≤4294967295
theorem URng.ok {u:UpR} (h:URng u) {s:StS} (h0:0≤s.e) (h1:s.e<1000000):UOk (nxU s u):=⟨by show 0≤s.e+1∧s.e+1≤_;omega,h.num,h.ver,h.key⟩
end Go.M
namespace Go.M
open Go Go.Proofs
set_option maxHeartbeats 1000000
theorem list_of {α:Type} {enc:α→List TV} {P:α→Prop} {ss:List Sh} (h:∀r,Fits ss r→∃a,r=enc a∧P a):∀{es:List (List TV)},(∀r∈es,Fits ss r)→∃l:List α,es=l.map enc∧∀a∈l,P a
 |[],_=>⟨[],rfl,by simp⟩
 |r::es,hr=>by
  obtain⟨a,rfl,ha⟩:=h r (hr r List.mem_cons_self)
  obtain⟨l,rfl,hl⟩:=list_of h (es:=es) fun r hr'=>hr r (List.mem_cons_of_mem _ hr')
  exact⟨a::l,rfl,fun b hb=>by rcases List.mem_cons.1 hb with rfl |hb;exact ha;exact hl b hb⟩
theorem cons_of {s:Sh} {ss:List Sh} {r:List TV} (h:Fits (s::ss) r):∃t r',r=t::r'∧Fit s t∧Fits ss r':=by
 unfold Fits at h;exact h
theorem nil_of {r:List TV} (h:Fits [] r):r=[]:=by
 unfold Fits at h;exact h
theorem byte_of {r:List TV} (h:Fits [.int .u8] r):∃n:Int,r=[.s (.int .u8 n)]∧0≤n∧n<256:=by
 simp only[Fits,Fit]at h
 obtain⟨_,_,rfl,⟨c,h1,h2,rfl⟩,rfl⟩:=h
 exact⟨c,rfl,h1,Int.lt_of_le_of_lt h2 (by decide)⟩
theorem bytes_of {es:List (List TV)} (h:∀r∈es,Fits [.int .u8] r):∃l:List Int,es=encU8 l∧∀n∈l,0≤n∧n<256:=
 list_of (fun _ hr=>byte_of hr) h
@[reducible] def shU:List Sh:=[.int .u64,.int .i64,.int .u64,.int .i64,.int .u32,.int .u64,.sl [.int .u8]]
structure UAll (u:UpR):Prop where
 rng:URng u
 seq:0≤u.seq∧u.seq≤18446744073709551615
 bytes:∀n∈u.data,0≤n∧n<256
end Go.M
namespace Go.M
open Go Go.Proofs
set_option maxHeartbeats 1000000
def Std:Int→List RowS→Prop
 |_,[]=>True
 |i,r::l=>(r.num≠0→r.client=i)∧0≤r.num∧Std (i+1) l
theorem Std.low {i:Int} {l:List RowS} (h:Std i l):∀r∈l.filter nz,i≤r.client:=by
 induction l generalizing i with
 |nil=>simp
 |cons r l ih=>
  obtain⟨h1,_,h2⟩:=h
  intro x m
  rw[List.mem_filter]at m
  obtain⟨m,hx⟩:=m
  have hx:x.num≠0:=by simpa using hx
  rcases List.mem_cons.1 m with rfl |m
  ·rw[h1 hx];exact Int.le_refl _
  ·have:=ih h2 x (List.mem_filter.2 ⟨m,by simpa using hx⟩);omega
theorem Std.get {i:Int} {l:List RowS} (h:Std i l) {c:Int} (h1:i≤c) (h2:c<i+l.length):
 getR (l.filter nz) c=if(l.getD (c - i).toNat zeroR).num=0 then none else some (l.getD (c - i).toNat zeroR):=by
 induction l generalizing i with
 |nil=>simp at h2;omega
 |cons r l ih=>
  obtain⟨q1,q0,q2⟩:=h
  by_cases e:c=i
  ·subst e
   rw[show(c - c).toNat=0 from by omega]
   show _=if r.num=0 then none else some r
   by_cases hr:r.num=0
   ·rw[List.filter_cons_of_neg (by simpa using hr),if_pos hr]
    exact getR_no fun x m=>by have:=q2.low x m;omega
   ·rw[List.filter_cons_of_pos (by simpa using hr),if_neg hr]
    exact getR_at (i:=0) (by simp) (by simp) (q1 hr)
  ·have ih':=ih q2 (by omega) (by simp at h2;omega)
   rw[show(c - i).toNat=(c - (i+1)).toNat+1 from by omega]
   show _=if(l.getD (c - (i+1)).toNat zeroR).num=0 then none else some (l.getD (c - (i+1)).toNat zeroR)
   by_cases hr:r.num=0
   ·rw[List.filter_cons_of_neg (by simpa using hr)];exact ih'
   ·rw[List.filter_cons_of_pos (by simpa using hr)]
    have:=q1 hr
    rw[←ih']
    unfold getR
    rw[List.find?_cons_of_neg (by simp;omega)]
theorem judge_rows {t:TabS} (H:Std 1 (lstT t)) (c n:Int) (hn:0≤n):judgeR (rowsT t) c n=judgeC t c n:=by
 unfold judgeR judgeC
 split
 ·rfl
 ·rename_i h
  have hc:1≤c∧c≤6:=Decidable.not_not.1 (fun q=>h (.inl q))
  have hn0:n≠0:=fun q=>h (.inr q)
  rw[H.get hc.1 (by show c<1+6;omega),row_lst t hc]
  generalize (lstT t).getD (c - 1).toNat zeroR=r
  by_cases hr:r.num=0
  ·rw[if_pos hr,if_pos (by omega)]
  ·rw[if_neg hr]
   show(if r.num<n then 0 else if r.num=n then 1 else 2)=if r.num<n then 0 else if n=r.num then 1 else 2
   split
   ·rfl
   ·split<;>split<;>omega
structure Rel (s:StS) (r:RfS):Prop where
 e:r.e=s.e
 up:r.bs.Pairwise fun a b=>a.1<b.1
 lk:∀k,lookA r.bs k=lookA s.bs k
 len:r.bs.length=s.bs.length
 std:Std 1 (lstT s.t)
 rows:r.rows=rowsT s.t
theorem Rel.of {s:StS} {r:RfS} (H:Rel s r) (k:Int):ofR r k=ofK s k:=by unfold ofR ofK;rw[H.lk]
theorem rows_len (t:TabS):(rowsT t).length≤6:=List.length_filter_le nz (lstT t)
theorem Rel.ok {s:StS} {r:RfS} {n:Nat} (H:Rel s r) (I:SInv s n) (hn:n<500):ROk r:=⟨by rw[H.len];have:=I.len;omega,by rw[H.rows];have:=rows_len s.t;omega,fun k=>by
 rw[H.of]
 have g:=(I.g k).last I.e.1
 have gl:=I.gl k
 exact⟨by omega,g.1,g.2.1⟩⟩
end Go.M
namespace Go.M
open Go Go.Proofs
set_option maxHeartbeats 1000000
theorem cleanR_app {A B:List Vs} {d:Int} (hA:∀a∈A,a.seq≤d) (hB:∀b∈B,d<b.seq):cleanR (A++B) d=lastV A:=by
 unfold cleanR
 rw[List.filter_append,List.filter_eq_self.2 (fun a m=>by simpa using hA a m),List.filter_eq_nil_iff.2 (fun b m=>by have:=hB b m;simp;omega),List.append_nil]
theorem clean_eq {e:Int} {vs:List Vs} (g:Good e vs) (d:Int):atV vs (cleanI vs d)=cleanR vs d:=by
 obtain⟨A,B,rfl,h1,h2⟩:=g.split_seq d
 rw[clean_app h1 h2,cleanR_app h1 h2,atV_last]
theorem pick_eq {e:Int} {vs:List Vs} (g:Good e vs) (v d:Int):pickV vs v d=pickR vs v d:=by
 obtain⟨A,B,hab,h1,h2⟩:=g.split_ver v
 have hc:=clean_eq g d
 have hp:atV vs (pickI vs v)=B.headD zeroVs:=by rw[hab,pick_app h1 h2,atV_mid]
 unfold pickV pickR
 rw[hp,hc]
 have hA:A.find? (fun x=>decide (x.ver=v))=none:=List.find?_eq_none.2 fun a m=>by have:=h1 a m;simp;omega
 cases B with
 |nil=>
  rw[show vs.find? (fun x=>decide (x.ver=v))=none from by rw[hab,List.find?_append,hA];rfl]
  show(if(0:Int)=v then zeroVs else _)=(if v<(cleanR vs d).ver then cleanR vs d else zeroVs)
  split
  ·rename_i q
   have:vs=[]:=by
    rw[hab,List.append_nil]
    cases A with
    |nil=>rfl
    |cons a A=>have q1:=h1 a (by simp);have q2:=(g.v a (by rw[hab];simp)).1;omega
   rw[this]
   show zeroVs=if v<(lastV []).ver then lastV []else zeroVs
   rw[lastV_nil,if_neg (by show¬v<0;omega)]
  ·rfl
 |cons b B=>
  show(if b.ver=v then b else _)=_
  split
  ·rename_i q
   rw[show vs.find? (fun x=>decide (x.ver=v))=some b from by rw[hab,List.find?_append,hA,List.find?_cons_of_pos (by simpa using q)];rfl]
  ·rename_i q
   have hb:=h2 b (by simp)
   have hu:=g.up
   rw[hab,List.pairwise_append,List.pairwise_cons]at hu
   rw[show vs.find? (fun x=>decide (x.ver=v))=none from by
    rw[hab,List.find?_append,hA,List.find?_cons_of_neg (by simpa using q)]
    exact List.find?_eq_none.2 fun a m=>by have:=(hu.2.1.1 a m).1;simp;omega]
end Go.M
namespace Go.M
open Go Go.Proofs
set_option maxRecDepth 100000
set_option maxHeartbeats 4000000
theorem same_ok (l:List Int) (hl:l.length<1000000):VC EZ 40 0 [.sl 1 (encU8 l) false,.sl 1 (encU8 l) false] [] (RR (.s (.bool true)) 0 []):=by
 have hlen:(encU8 l).length=l.length:=by unfold encU8;rw[List.length_map]
 refine VC.enterR LZ (show EZ.func 40=some Tryz.f40 by kernel_rfl) (fun _ _=>rfl) rfl rfl [] ?_
 conv=>whnf
 (first|refine⟨?_,?_⟩|refine nsplit ?_ ?_|refine bsplit ?_ ?_)<;>intro h0<;>have hz_:=True.intro<;>clear hz_
 ·exact absurd rfl h0
 ·conv=>whnf
  refine⟨fun k f o c=>∃i:Nat,i≤l.length∧k=l.length - i∧c=0∧f=[(0,.sl 1 (encU8 l) false),(1,.sl 1 (encU8 l) false),(5,.s (.int .i64 i))]∧o=[],⟨l.length,?_⟩,?_⟩
  ·exact⟨[],[],_,_,_,t3,⟨0,Nat.zero_le _,rfl,rfl,rfl,rfl⟩⟩
  ·rintro k f1 o1 c1 ⟨i,hi,rfl,rfl,rfl,rfl⟩
   conv=>whnf
   (first|refine⟨?_,?_⟩|refine nsplit ?_ ?_|refine bsplit ?_ ?_)<;>intro h<;>have hz_:=True.intro<;>clear hz_
   ·have h:i<l.length:=by have h:(i:Int)<(((encU8 l).length:Nat):Int):=h
                          rw[hlen]at h;omega
    ((conv=>whnf)<;>repeat(with_reducible refine D1 ?_)<;>conv=>whnf)
    refine idxI h ?_
    conv=>whnf
    refine idxI h ?_
    conv=>whnf
    (first|refine⟨?_,?_⟩|refine nsplit ?_ ?_|refine bsplit ?_ ?_)<;>intro hv<;>have hz_:=True.intro<;>clear hz_
    ·exact absurd rfl hv
    ·((conv=>whnf)<;>repeat(with_reducible refine D1 ?_)<;>conv=>whnf)
     refine⟨l.length - (i+1),?_,by omega⟩
     exact⟨[],[],_,_,_,t3,⟨i+1,h,rfl,rfl,rfl,rfl⟩⟩
   ·conv=>whnf
    exact⟨[],[],_,_,_,t3,rfl,rfl,rfl⟩
theorem vsame_ok (v:Vs) (hl:v.data.length<1000000):VC EZ 34 0 [.agg (encV v),.agg (encV v)] [] (RR (.s (.bool true)) 0 []):=by
 refine VC.enterR LZ (show EZ.func 34=some Tryz.f34 by kernel_rfl) (fun _ _=>rfl) rfl rfl [] ?_
 conv=>whnf
 (first|refine⟨?_,?_⟩|refine nsplit ?_ ?_|refine bsplit ?_ ?_)<;>intro h<;>have hz_:=True.intro<;>clear hz_
 ·conv=>whnf
  (first|refine⟨?_,?_⟩|refine nsplit ?_ ?_|refine bsplit ?_ ?_)<;>intro h2<;>have hz_:=True.intro<;>clear hz_
  ·conv=>whnf
   refine⟨[],[],_,_,_,_,same_ok v.data hl,t3,cR ?_⟩
   conv=>whnf
   exact⟨[],[],_,_,_,t3,rfl,rfl,rfl⟩
  ·exact absurd rfl h2
 ·exact absurd rfl h
end Go.M
