/-
  Part 27 of the library that the proof leans on.
-/
import Derived.Test.YtgjfaieghmigjaaGreatDoorL25
import Derived.Test.YtgjfaieghmigjaaGreatDoorL26
import Derived.Test.YtgjfaieghmigjaaGreatDoorL11
namespace Go.M
open Go Go.Proofs
set_option maxRecDepth 100000
set_option maxHeartbeats 4000000
structure StS where
 e:Int
 bs:List (Int×List Vs)
 t:TabS
@[reducible] def blkV (vs:List Vs):TV:=.own (blkT vs)
@[reducible] def mapT (bs:List (Int×List Vs)):TO:=.maq (kIdx .u32) (bs.map (encA .u32 blkV)) []
@[reducible] def stoC (s:StS):TO:=.cells [.s (.int .u64 s.e),.mp 1,.own (tabT s.t)]
@[reducible] def stO (s:StS):Ob:=[(0,stoC s),(1,mapT s.bs)]
@[reducible] def outO (s:StS) (k:Int) (vs:List Vs):Ob:=[(0,.cells [.s (.int .u64 s.e),.mp 1,.own (tabT s.t)]),(1,.maq (kIdx .u32) (s.bs.map (encA .u32 blkV)) [(.int .u32 k,.ptr 2 0)]),(2,blkT vs)]
theorem block_no (s:StS) (k:Int) (h:lookA s.bs k=none):VC EZ 77 2 [.ptr 0 0,.s (.int .u32 k)] (stO s) (RR nilP 2 (stO s)):=by
 refine VC.enterR LZ (show EZ.func 77=some Tryz.f77 by kernel_rfl) (fun _ _=>rfl) rfl rfl [] ?_
 ((conv=>whnf)<;>repeat(with_reducible refine D1 ?_)<;>conv=>whnf)
 refine⟨none,by rw[lookM_A,h];rfl,?_⟩
 ((conv=>whnf)<;>repeat(with_reducible refine D1 ?_)<;>conv=>whnf)
 exact⟨[],[some 0,some 1],_,_,_,t3,rfl,rfl,rfl⟩
theorem block_is (s:StS) (k:Int) (vs:List Vs) (h:lookA s.bs k=some vs):VC EZ 77 2 [.ptr 0 0,.s (.int .u32 k)] (stO s) (RR (.ptr 2 0) 3 (outO s k vs)):=by
 refine VC.enterR LZ (show EZ.func 77=some Tryz.f77 by kernel_rfl) (fun _ _=>rfl) rfl rfl [] ?_
 ((conv=>whnf)<;>repeat(with_reducible refine D1 ?_)<;>conv=>whnf)
 refine⟨some (blkV vs),by rw[lookM_A,h];rfl,?_⟩
 ((conv=>whnf)<;>repeat(with_reducible refine D1 ?_)<;>conv=>whnf)
 exact⟨[],[some 0,some 1,some 2],_,_,_,t3,rfl,rfl,rfl⟩
theorem putA_same {bs:List (Int×List Vs)} {k:Int} {vs:List Vs} (h:lookA bs k=some vs):putA bs k vs=bs:=by
 induction bs with
 |nil=>cases h
 |cons e es ih=>
  unfold lookA at h
  unfold putA
  split at h
  ·rename_i he;cases h;rw[if_pos he,he]
  ·rename_i he;rw[if_neg he,ih h]
theorem keep_bs {bs:List (Int×List Vs)} {k:Int} {vs:List Vs} (h:lookA bs k=some vs):apM (bs.map (encA .u32 blkV)) [(.int .u32 k,blkV vs)]=bs.map (encA .u32 blkV):=by
 show putM (bs.map (encA .u32 blkV)) (.int .u32 k) (blkV vs)=_
 rw[putM_A,putA_same h]
theorem atV_nil (i:Int):atV [] i=zeroVs:=by unfold atV;split<;>simp
theorem pickV_nil (v d:Int):pickV [] v d=zeroVs:=by
 unfold pickV;rw[atV_nil,atV_nil];split
 ·rfl
 ·split<;>rfl
structure SOk (s:StS):Prop where
 v:∀k vs,lookA s.bs k=some vs→(∀v∈vs,VOk v)∧vs.length<100000
@[reducible] def ofK (s:StS) (k:Int):List Vs:=(lookA s.bs k).getD []
theorem ofK_none {s:StS} {k:Int} (h:lookA s.bs k=none):ofK s k=[]:=by unfold ofK;rw[h];rfl
theorem ofK_some {s:StS} {k:Int} {vs:List Vs} (h:lookA s.bs k=some vs):ofK s k=vs:=by unfold ofK;rw[h];rfl
theorem last_ok (s:StS) (k:Int) (H:SOk s):VC EZ 36 2 [.ptr 0 0,.s (.int .u32 k)] (stO s) (RR (.agg (encV (lastV (ofK s k)))) 2 (stO s)):=by
 cases h:lookA s.bs k with
 |none=>
  rw[ofK_none h]
  refine VC.enterR LZ (show EZ.func 36=some Tryz.f36 by kernel_rfl) (fun _ _=>rfl) rfl rfl [] ?_
  ((conv=>whnf)<;>repeat(with_reducible refine D1 ?_)<;>conv=>whnf)
  refine⟨[],[some 0,some 1],_,_,_,_,block_no s k h,t3,?_⟩
  rintro r o' c' ⟨rfl,rfl,rfl⟩
  ((conv=>whnf)<;>repeat(with_reducible refine D1 ?_)<;>conv=>whnf)
  refine⟨[],[],_,_,_,_,blast_nil,t3,?_⟩
  rintro r o' c' ⟨rfl,rfl,rfl⟩
  ((conv=>whnf)<;>repeat(with_reducible refine D1 ?_)<;>conv=>whnf)
  exact⟨[],[some 0,some 1],_,_,_,t3,rfl,rfl,rfl⟩
 |some vs=>
  rw[ofK_some h]
  obtain⟨hv,hn⟩:=H.v k vs h
  refine VC.enterR LZ (show EZ.func 36=some Tryz.f36 by kernel_rfl) (fun _ _=>rfl) rfl rfl [] ?_
  ((conv=>whnf)<;>repeat(with_reducible refine D1 ?_)<;>conv=>whnf)
  refine⟨[],[some 0,some 1],_,_,_,_,block_is s k vs h,t3,?_⟩
  rintro r o' c' ⟨rfl,rfl,rfl⟩
  ((conv=>whnf)<;>repeat(with_reducible refine D1 ?_)<;>conv=>whnf)
  refine⟨[],[some 5],_,_,_,_,blast_ok vs hv (by omega),t3,?_⟩
  rintro r o' c' ⟨rfl,rfl,rfl⟩
  ((conv=>whnf)<;>repeat(with_reducible refine D1 ?_)<;>conv=>whnf)
  refine⟨[],[some 0,some 1],_,_,_,⟨by(repeat' first|with_reducible exact Lz.rfl|exact Lw.rfl|exact Lz.wrap (by omega)|(unfold goInt;with_reducible exact Lz.rfl)|exact flx _|constructor),.cons (.cells (by(repeat' first|with_reducible exact Lz.rfl|exact Lw.rfl|exact Lz.wrap (by omega)|(unfold goInt;with_reducible exact Lz.rfl)|exact flx _|constructor))) (.cons (.maq (opc:=[(_,blkV vs)]) .one (Lw.of (keep_bs h)) (.m1 (by rfl) (by(repeat' first|with_reducible exact Lz.rfl|exact Lw.rfl|exact Lz.wrap (by omega)|(unfold goInt;with_reducible exact Lz.rfl)|exact flx _|constructor)))) .nil),by rfl⟩,⟨rfl,rfl,rfl⟩⟩
theorem dirty_ok (s:StS) (k:Int) (d:Int) (H:SOk s):VC EZ 48 2 [.ptr 0 0,.s (.int .u32 k),.s (.int .u64 d)] (stO s) (RR (.s (.bool (decide (0<(ofK s k).length∧d<(lastV (ofK s k)).seq)))) 2 (stO s)):=by
 cases h:lookA s.bs k with
 |none=>
  rw[ofK_none h]
  refine VC.enterR LZ (show EZ.func 48=some Tryz.f48 by kernel_rfl) (fun _ _=>rfl) rfl rfl [] ?_
  ((conv=>whnf)<;>repeat(with_reducible refine D1 ?_)<;>conv=>whnf)
  refine⟨[],[some 0,some 1],_,_,_,_,block_no s k h,t3,?_⟩
  rintro r o' c' ⟨rfl,rfl,rfl⟩
  ((conv=>whnf)<;>repeat(with_reducible refine D1 ?_)<;>conv=>whnf)
  refine⟨[],[],_,_,_,_,bdirty_nil d,t3,?_⟩
  rintro r o' c' ⟨rfl,rfl,rfl⟩
  ((conv=>whnf)<;>repeat(with_reducible refine D1 ?_)<;>conv=>whnf)
  exact⟨[],[some 0,some 1],_,_,_,t3,rfl,rfl,rfl⟩
 |some vs=>
  rw[ofK_some h]
  obtain⟨hv,hn⟩:=H.v k vs h
  refine VC.enterR LZ (show EZ.func 48=some Tryz.f48 by kernel_rfl) (fun _ _=>rfl) rfl rfl [] ?_
  ((conv=>whnf)<;>repeat(with_reducible refine D1 ?_)<;>conv=>whnf)
  refine⟨[],[some 0,some 1],_,_,_,_,block_is s k vs h,t3,?_⟩
  rintro r o' c' ⟨rfl,rfl,rfl⟩
  ((conv=>whnf)<;>repeat(with_reducible refine D1 ?_)<;>conv=>whnf)
  refine⟨[],[some 4],_,_,_,_,bdirty_ok vs d (by omega),t3,?_⟩
  rintro r o' c' ⟨rfl,rfl,rfl⟩
  ((conv=>whnf)<;>repeat(with_reducible refine D1 ?_)<;>conv=>whnf)
  refine⟨[],[some 0,some 1],_,_,_,⟨by(repeat' first|with_reducible exact Lz.rfl|exact Lw.rfl|exact Lz.wrap (by omega)|(unfold goInt;with_reducible exact Lz.rfl)|exact flx _|constructor),.cons (.cells (by(repeat' first|with_reducible exact Lz.rfl|exact Lw.rfl|exact Lz.wrap (by omega)|(unfold goInt;with_reducible exact Lz.rfl)|exact flx _|constructor))) (.cons (.maq (opc:=[(_,blkV vs)]) .one (Lw.of (keep_bs h)) (.m1 (by rfl) (by(repeat' first|with_reducible exact Lz.rfl|exact Lw.rfl|exact Lz.wrap (by omega)|(unfold goInt;with_reducible exact Lz.rfl)|exact flx _|constructor)))) .nil),by rfl⟩,⟨rfl,rfl,rfl⟩⟩
theorem pick_ok (s:StS) (k:Int) (v d:Int) (H:SOk s):VC EZ 49 2 [.ptr 0 0,.s (.int .u32 k),.s (.int .u64 v),.s (.int .u64 d)] (stO s) (RR (.agg (encV (pickV (ofK s k) v d))) 2 (stO s)):=by
 cases h:lookA s.bs k with
 |none=>
  rw[ofK_none h,pickV_nil]
  refine VC.enterR LZ (show EZ.func 49=some Tryz.f49 by kernel_rfl) (fun _ _=>rfl) rfl rfl [] ?_
  ((conv=>whnf)<;>repeat(with_reducible refine D1 ?_)<;>conv=>whnf)
  refine⟨[],[some 0,some 1],_,_,_,_,block_no s k h,t3,?_⟩
  rintro r o' c' ⟨rfl,rfl,rfl⟩
  ((conv=>whnf)<;>repeat(with_reducible refine D1 ?_)<;>conv=>whnf)
  refine⟨[],[],_,_,_,_,bpick_nil v d,t3,?_⟩
  rintro r o' c' ⟨rfl,rfl,rfl⟩
  ((conv=>whnf)<;>repeat(with_reducible refine D1 ?_)<;>conv=>whnf)
  exact⟨[],[some 0,some 1],_,_,_,t3,rfl,rfl,rfl⟩
 |some vs=>
  rw[ofK_some h]
  obtain⟨hv,hn⟩:=H.v k vs h
  refine VC.enterR LZ (show EZ.func 49=some Tryz.f49 by kernel_rfl) (fun _ _=>rfl) rfl rfl [] ?_
  ((conv=>whnf)<;>repeat(with_reducible refine D1 ?_)<;>conv=>whnf)
  refine⟨[],[some 0,some 1],_,_,_,_,block_is s k vs h,t3,?_⟩
  rintro r o' c' ⟨rfl,rfl,rfl⟩
  ((conv=>whnf)<;>repeat(with_reducible refine D1 ?_)<;>conv=>whnf)
  refine⟨[],[some 5],_,_,_,_,bpick_ok vs v d (by omega) hv,t3,?_⟩
  rintro r o' c' ⟨rfl,rfl,rfl⟩
  ((conv=>whnf)<;>repeat(with_reducible refine D1 ?_)<;>conv=>whnf)
  refine⟨[],[some 0,some 1],_,_,_,⟨by(repeat' first|with_reducible exact Lz.rfl|exact Lw.rfl|exact Lz.wrap (by omega)|(unfold goInt;with_reducible exact Lz.rfl)|exact flx _|constructor),.cons (.cells (by(repeat' first|with_reducible exact Lz.rfl|exact Lw.rfl|exact Lz.wrap (by omega)|(unfold goInt;with_reducible exact Lz.rfl)|exact flx _|constructor))) (.cons (.maq (opc:=[(_,blkV vs)]) .one (Lw.of (keep_bs h)) (.m1 (by rfl) (by(repeat' first|with_reducible exact Lz.rfl|exact Lw.rfl|exact Lz.wrap (by omega)|(unfold goInt;with_reducible exact Lz.rfl)|exact flx _|constructor)))) .nil),by rfl⟩,⟨rfl,rfl,rfl⟩⟩
end Go.M
namespace Go.M
open Go Go.Proofs
set_option maxRecDepth 100000
set_option maxHeartbeats 4000000
theorem knew_ok:VC EZ 22 0 [] [] (RR (.ptr 0 0) 2 (stO ⟨0,[],zeroTab⟩)):=by
 refine VC.enterR LZ (show EZ.func 22=some Tryz.f22 by kernel_rfl) (fun _ _=>rfl) rfl rfl [] ?_
 ((conv=>whnf)<;>repeat(with_reducible refine D1 ?_)<;>conv=>whnf)
 refine⟨[],[],_,_,_,_,snew_ok,t3,?_⟩
 rintro r o' c' ⟨rfl,rfl,rfl⟩
 ((conv=>whnf)<;>repeat(with_reducible refine D1 ?_)<;>conv=>whnf)
 exact⟨[],[some 2,some 0],_,_,_,t3,rfl,rfl,rfl⟩
theorem end_ok (s:StS):VC EZ 25 2 [.ptr 0 0] (stO s) (RR (.s (.int .u64 s.e)) 2 (stO s)):=by
 refine VC.enterR LZ (show EZ.func 25=some Tryz.f25 by kernel_rfl) (fun _ _=>rfl) rfl rfl [] ?_
 ((conv=>whnf)<;>repeat(with_reducible refine D1 ?_)<;>conv=>whnf)
 exact⟨[],[some 0,some 1],_,_,_,t3,rfl,rfl,rfl⟩
theorem mkeys_ok (bs:List (Int×List Vs)):VC EZ 67 1 [.mp 0] [(0,mapT bs)] (RR (.clo 120 [] [.ptr 1 0]) 2 [(0,mapT bs),(1,.cells [.mp 0])]):=by
 refine VC.enterR LZ (show EZ.func 67=some Tryz.f67 by kernel_rfl) (fun _ _=>rfl) rfl rfl [] ?_
 ((conv=>whnf)<;>repeat(with_reducible refine D1 ?_)<;>conv=>whnf)
 exact⟨[],[some 0,some 1],_,_,_,t3,rfl,rfl,rfl⟩
theorem kkeys_ok (s:StS) (hn:s.bs.length<4096):VC EZ 24 2 [.ptr 0 0] (stO s) (RR (.sl 1 ((sortZ (keysA s.bs)).map encK) false) 2 (stO s)):=by
 have hk:KeysP (keysA s.bs) (mapT s.bs):=⟨rfl,by
  rw[keysM_A]⟩
 refine VC.enterR LZ (show EZ.func 24=some Tryz.f24 by kernel_rfl) (fun _ _=>rfl) rfl rfl [] ?_
 ((conv=>whnf)<;>repeat(with_reducible refine D1 ?_)<;>conv=>whnf)
 refine⟨[],[some 1],_,_,_,_,mkeys_ok s.bs,t3,?_⟩
 rintro r o' c' ⟨rfl,rfl,rfl⟩
 ((conv=>whnf)<;>repeat(with_reducible refine D1 ?_)<;>conv=>whnf)
 refine⟨[],[some 1,some 3],_,_,_,_,VC.keysU hk (by rw[List.length_map];exact hn),t3,?_⟩
 rintro r o' c' ⟨rfl,rfl,rfl⟩
 ((conv=>whnf)<;>repeat(with_reducible refine D1 ?_)<;>conv=>whnf)
 exact⟨[],[some 0,some 1],_,_,_,t3,rfl,rfl,rfl⟩
@[reducible] def putS (s:StS) (k:Int) (v:Vs):StS:={s with bs:=putA s.bs k (putB (ofK s k) v)}
theorem put_bs (bs:List (Int×List Vs)) (k:Int) (vs:List Vs):apM (bs.map (encA .u32 blkV)) [(.int .u32 k,blkV vs)]=(putA bs k vs).map (encA .u32 blkV):=by
 show putM (bs.map (encA .u32 blkV)) (.int .u32 k) (blkV vs)=_
 rw[putM_A]
theorem kput_ok (s:StS) (k:Int) (v:Vs) (hv:0≤v.ver∧v.ver≤18446744073709551615) (H:SOk s):VC EZ 63 2 [.ptr 0 0,.s (.int .u32 k),.agg (encV v)] (stO s) (RR (.s (.int .i64 (putE (ofK s k) v))) 2 (stO (putS s k v))):=by
 cases h:lookA s.bs k with
 |none=>
  unfold putS
  rw[ofK_none h]
  refine VC.enterR LZ (show EZ.func 63=some Tryz.f63 by kernel_rfl) (fun _ _=>rfl) rfl rfl [] ?_
  ((conv=>whnf)<;>repeat(with_reducible refine D1 ?_)<;>conv=>whnf)
  refine⟨none,by rw[lookM_A,h];rfl,?_⟩
  ((conv=>whnf)<;>repeat(with_reducible refine D1 ?_)<;>conv=>whnf)
  refine⟨[],[],_,_,_,_,bnew_ok,t3,?_⟩
  rintro r o' c' ⟨rfl,rfl,rfl⟩
  ((conv=>whnf)<;>repeat(with_reducible refine D1 ?_)<;>conv=>whnf)
  refine⟨[],[some 3],_,_,_,_,bput_ok [] v hv (by decide),t3,?_⟩
  rintro r o' c' ⟨rfl,rfl,rfl⟩
  ((conv=>whnf)<;>repeat(with_reducible refine D1 ?_)<;>conv=>whnf)
  refine⟨[],[some 0,some 1],_,_,_,⟨by(repeat' first|with_reducible exact Lz.rfl|exact Lw.rfl|exact Lz.wrap (by omega)|(unfold goInt;with_reducible exact Lz.rfl)|exact flx _|constructor),.cons (.cells (by(repeat' first|with_reducible exact Lz.rfl|exact Lw.rfl|exact Lz.wrap (by omega)|(unfold goInt;with_reducible exact Lz.rfl)|exact flx _|constructor))) (.cons (.maq (opc:=[(_,blkV (putB [] v))]) .one (Lw.of (put_bs _ _ _)) (.m1 (by rfl) (by(repeat' first|with_reducible exact Lz.rfl|exact Lw.rfl|exact Lz.wrap (by omega)|(unfold goInt;with_reducible exact Lz.rfl)|exact flx _|constructor)))) .nil),by rfl⟩,⟨rfl,rfl,rfl⟩⟩
 |some vs=>
  unfold putS
  rw[ofK_some h]
  obtain⟨_,hn⟩:=H.v k vs h
  refine VC.enterR LZ (show EZ.func 63=some Tryz.f63 by kernel_rfl) (fun _ _=>rfl) rfl rfl [] ?_
  ((conv=>whnf)<;>repeat(with_reducible refine D1 ?_)<;>conv=>whnf)
  refine⟨some (blkV vs),by rw[lookM_A,h];rfl,?_⟩
  ((conv=>whnf)<;>repeat(with_reducible refine D1 ?_)<;>conv=>whnf)
  refine⟨[],[some 3],_,_,_,_,bput_ok vs v hv hn,t3,?_⟩
  rintro r o' c' ⟨rfl,rfl,rfl⟩
  ((conv=>whnf)<;>repeat(with_reducible refine D1 ?_)<;>conv=>whnf)
  refine⟨[],[some 0,some 1],_,_,_,⟨by(repeat' first|with_reducible exact Lz.rfl|exact Lw.rfl|exact Lz.wrap (by omega)|(unfold goInt;with_reducible exact Lz.rfl)|exact flx _|constructor),.cons (.cells (by(repeat' first|with_reducible exact Lz.rfl|exact Lw.rfl|exact Lz.wrap (by omega)|(unfold goInt;with_reducible exact Lz.rfl)|exact flx _|constructor))) (.cons (.maq (opc:=[(_,blkV (putB vs v))]) .one (Lw.of (put_bs _ _ _)) (.m1 (by rfl) (by(repeat' first|with_reducible exact Lz.rfl|exact Lw.rfl|exact Lz.wrap (by omega)|(unfold goInt;with_reducible exact Lz.rfl)|exact flx _|constructor)))) .nil),by rfl⟩,⟨rfl,rfl,rfl⟩⟩
end Go.M
namespace Go.M
open Go Go.Proofs
set_option maxRecDepth 100000
set_option maxHeartbeats 4000000
@[reducible] def roomS (s:StS):Bool:=decide (s.bs.length<192)
@[reducible] def outS (s:StS) (u:UpR):Int×Int×Bool:=outC u (lastV (ofK s u.key)).ver (roomS s)
@[reducible] def rowS (s:StS) (u:UpR):RowS:=⟨u.client,u.num,u.seq,(outS s u).1,(outS s u).2.1⟩
@[reducible] def wrote (s:StS) (u:UpR):StS:=if(outS s u).2.2=true then putS {s with e:=u.seq} u.key ⟨(outS s u).2.1,u.seq,u.data⟩else {s with e:=u.seq}
def applyS (s:StS) (u:UpR):(RowS×Int)×StS:=
 if chkU u≠0 then((zeroR,chkU u),s)
 else if u.seq - 1≠s.e then((zeroR,12),s)
 else if judgeC s.t u.client u.num≠0 then((zeroR,0),{s with e:=u.seq})
 else((rowS s u,setC s.t (rowS s u)),{wrote s u with t:=setT s.t (rowS s u)})
@[reducible] def encH (q:RowS×Int):TV:=.tup [.agg (encR q.1),.s (.int .i64 q.2)]
theorem okU_seq {u:UpR} (h:chkU u=0):u.seq≠0∧u.data.length≤2048:=by
 unfold chkU okU at h
 split at h
 ·split at h
  ·omega
  ·split at h
   ·rename_i h2;simp at h2;omega
   ·omega
 ·omega
theorem outC_range {u:UpR} {ver:Int} {b:Bool} (h:0≤ver∧ver≤18446744073709551615):0≤(outC u ver b).2.1∧(outC u ver b).2.1≤18446744073709551615:=by
 unfold outC
 split
 ·split
  ·exact h
  ·split
   ·exact h
   ·simp;omega
 ·exact h
theorem lastV_range {vs:List Vs} (hv:∀v∈vs,VOk v):0≤(lastV vs).ver∧(lastV vs).ver≤18446744073709551615:=by
 rcases two_ends vs with rfl |⟨ws,w,rfl⟩
 ·exact⟨by decide,by decide⟩
 ·rw[lastV_end];exact(hv w (by simp)).ver
theorem ofK_ok {s:StS} (H:SOk s) (k:Int):(∀v∈ofK s k,VOk v)∧(ofK s k).length<100000:=by
 cases h:lookA s.bs k with
 |none=>rw[ofK_none h];exact⟨by simp,by decide⟩
 |some vs=>rw[ofK_some h];exact H.v k vs h
theorem room_t {s:StS} (h:(((s.bs.map (encA .u32 blkV)).length:Nat):Int)<192):roomS s=true:=decide_eq_true (by rw[List.length_map]at h;omega)
theorem room_i {s:StS} (h:roomS s=true):(((s.bs.map (encA .u32 blkV)).length:Nat):Int)<192:=by
 have:s.bs.length<192:=of_decide_eq_true h
 rw[List.length_map];omega
theorem apply_ok (s:StS) (u:UpR) (H:SOk s) (hu:UOk u):VC EZ 23 2 [.ptr 0 0,.agg (encU u)] (stO s) (RR (encH (applyS s u).1) 2 (stO (applyS s u).2)):=by
 have hs:=hu.seq
 unfold applyS
 by_cases h0:chkU u=0
 ·rw[if_neg (not_not_intro h0)]
  have hc:=check_ok u
  rw[h0]at hc
  obtain⟨hs1,hdl⟩:=okU_seq h0
  have hw:IntKind.u64.wrap (u.seq - 1)=u.seq - 1:=IntWalk.u64_in _ (by omega)
  by_cases h1:u.seq - 1=s.e
  ·rw[if_neg (not_not_intro h1)]
   have hj:=sjudgeV s.t u.client u.num
   have hl:=last_ok {s with e:=u.seq} u.key ⟨H.v⟩
   have hlr:=lastV_range (ofK_ok H u.key).1
   have ho:=outcome_ok u (lastV (ofK s u.key)).ver (roomS s) hlr
   refine VC.enterR LZ (show EZ.func 23=some Tryz.f23 by kernel_rfl) (fun _ _=>rfl) rfl rfl [] ?_
   ((conv=>whnf)<;>repeat(with_reducible refine D1 ?_)<;>conv=>whnf)
   refine⟨[],[],_,_,_,_,hc,t3,?_⟩
   rintro r o' c' ⟨rfl,rfl,rfl⟩
   ((conv=>whnf)<;>repeat(with_reducible refine D1 ?_)<;>conv=>whnf)
   (first|refine⟨?_,?_⟩|refine nsplit ?_ ?_|refine bsplit ?_ ?_)<;>intro h2<;>have hz_:=True.intro<;>clear hz_
   ·exact absurd rfl h2
   ·((conv=>whnf)<;>repeat(with_reducible refine D1 ?_)<;>conv=>whnf)
    (first|refine⟨?_,?_⟩|refine nsplit ?_ ?_|refine bsplit ?_ ?_)<;>intro h3<;>have hz_:=True.intro<;>clear hz_
    ·have h3:IntKind.u64.wrap (u.seq - 1)≠s.e:=h3
     rw[hw]at h3
     exact absurd h1 h3
    ·((conv=>whnf)<;>repeat(with_reducible refine D1 ?_)<;>conv=>whnf)
     refine⟨[],[some 4],_,_,_,_,hj,t3,?_⟩
     rintro r o' c' ⟨rfl,rfl,rfl⟩
     ((conv=>whnf)<;>repeat(with_reducible refine D1 ?_)<;>conv=>whnf)
     (first|refine⟨?_,?_⟩|refine nsplit ?_ ?_|refine bsplit ?_ ?_)<;>intro h4<;>have hz_:=True.intro<;>clear hz_
     ·have h4:judgeC s.t u.client u.num≠0:=h4
      rw[if_pos h4]
      ((conv=>whnf)<;>repeat(with_reducible refine D1 ?_)<;>conv=>whnf)
      exact⟨[],[some 0,some 1],_,_,_,t3,rfl,rfl,rfl⟩
     ·have h4:¬judgeC s.t u.client u.num≠0:=h4
      rw[if_neg h4]
      ((conv=>whnf)<;>repeat(with_reducible refine D1 ?_)<;>conv=>whnf)
      refine⟨[],[some 0,some 1],_,_,_,_,hl,t3,?_⟩
      rintro r o' c' ⟨rfl,rfl,rfl⟩
      ((conv=>whnf)<;>repeat(with_reducible refine D1 ?_)<;>conv=>whnf)
      rcases hq:outS s u with⟨qc,qv,qb⟩
      rw[show outC u (lastV (ofK s u.key)).ver (roomS s)=(qc,qv,qb)from hq]at ho
      have hqv:0≤qv∧qv≤18446744073709551615:=by
       have:=outC_range (u:=u) (b:=roomS s) hlr
       rw[show outC u (lastV (ofK s u.key)).ver (roomS s)=(qc,qv,qb)from hq]at this
       exact this
      have hrow:rowS s u=⟨u.client,u.num,u.seq,qc,qv⟩:=by unfold rowS;rw[hq]
      have hwr:wrote s u=if qb=true then putS {s with e:=u.seq} u.key ⟨qv,u.seq,u.data⟩else {s with e:=u.seq}:=by unfold wrote;rw[hq]
      rw[hrow,hwr]
      cases qb
      ·rw[if_neg Bool.false_ne_true]
       cases hr:roomS s
       ·rw[hr]at ho
        (first|refine⟨?_,?_⟩|refine nsplit ?_ ?_|refine bsplit ?_ ?_)<;>intro h5<;>have hz_:=True.intro<;>clear hz_
        ·exact absurd ((room_t h5).symm.trans hr) (by decide)
        ·((conv=>whnf)<;>repeat(with_reducible refine D1 ?_)<;>conv=>whnf)
         refine⟨[],[],_,_,_,_,ho,t3,?_⟩
         rintro r o' c' ⟨rfl,rfl,rfl⟩
         ((conv=>whnf)<;>repeat(with_reducible refine D1 ?_)<;>conv=>whnf)
         refine⟨[],[some 9],_,_,_,_,sset_ok s.t ⟨u.client,u.num,u.seq,qc,qv⟩,t3,?_⟩
         rintro r o' c' ⟨rfl,rfl,rfl⟩
         ((conv=>whnf)<;>repeat(with_reducible refine D1 ?_)<;>conv=>whnf)
         exact⟨[],[some 0,some 1],_,_,_,t3,rfl,rfl,rfl⟩
       ·rw[hr]at ho
        (first|refine⟨?_,?_⟩|refine nsplit ?_ ?_|refine bsplit ?_ ?_)<;>intro h5<;>have hz_:=True.intro<;>clear hz_
        ·((conv=>whnf)<;>repeat(with_reducible refine D1 ?_)<;>conv=>whnf)
         refine⟨[],[],_,_,_,_,ho,t3,?_⟩
         rintro r o' c' ⟨rfl,rfl,rfl⟩
         ((conv=>whnf)<;>repeat(with_reducible refine D1 ?_)<;>conv=>whnf)
         refine⟨[],[some 9],_,_,_,_,sset_ok s.t ⟨u.client,u.num,u.seq,qc,qv⟩,t3,?_⟩
         rintro r o' c' ⟨rfl,rfl,rfl⟩
         ((conv=>whnf)<;>repeat(with_reducible refine D1 ?_)<;>conv=>whnf)
         exact⟨[],[some 0,some 1],_,_,_,t3,rfl,rfl,rfl⟩
        ·exact absurd (room_i hr) h5
      ·rw[if_pos rfl]
       cases hr:roomS s
       ·rw[hr]at ho
        (first|refine⟨?_,?_⟩|refine nsplit ?_ ?_|refine bsplit ?_ ?_)<;>intro h5<;>have hz_:=True.intro<;>clear hz_
        ·exact absurd ((room_t h5).symm.trans hr) (by decide)
        ·((conv=>whnf)<;>repeat(with_reducible refine D1 ?_)<;>conv=>whnf)
         refine⟨[],[],_,_,_,_,ho,t3,?_⟩
         rintro r o' c' ⟨rfl,rfl,rfl⟩
         ((conv=>whnf)<;>repeat(with_reducible refine D1 ?_)<;>conv=>whnf)
         refine⟨[],[],_,_,_,_,made_ok u qv (by omega),t3,?_⟩
         rintro r o' c' ⟨rfl,rfl,rfl⟩
         ((conv=>whnf)<;>repeat(with_reducible refine D1 ?_)<;>conv=>whnf)
         refine⟨[],[some 0,some 1],_,_,_,_,kput_ok {s with e:=u.seq} u.key ⟨qv,u.seq,u.data⟩ hqv ⟨H.v⟩,t3,?_⟩
         rintro r o' c' ⟨rfl,rfl,rfl⟩
         ((conv=>whnf)<;>repeat(with_reducible refine D1 ?_)<;>conv=>whnf)
         refine⟨[],[some 11],_,_,_,_,sset_ok s.t ⟨u.client,u.num,u.seq,qc,qv⟩,t3,?_⟩
         rintro r o' c' ⟨rfl,rfl,rfl⟩
         ((conv=>whnf)<;>repeat(with_reducible refine D1 ?_)<;>conv=>whnf)
         exact⟨[],[some 0,some 1],_,_,_,t3,rfl,rfl,rfl⟩
       ·rw[hr]at ho
        (first|refine⟨?_,?_⟩|refine nsplit ?_ ?_|refine bsplit ?_ ?_)<;>intro h5<;>have hz_:=True.intro<;>clear hz_
        ·((conv=>whnf)<;>repeat(with_reducible refine D1 ?_)<;>conv=>whnf)
         refine⟨[],[],_,_,_,_,ho,t3,?_⟩
         rintro r o' c' ⟨rfl,rfl,rfl⟩
         ((conv=>whnf)<;>repeat(with_reducible refine D1 ?_)<;>conv=>whnf)
         refine⟨[],[],_,_,_,_,made_ok u qv (by omega),t3,?_⟩
         rintro r o' c' ⟨rfl,rfl,rfl⟩
         ((conv=>whnf)<;>repeat(with_reducible refine D1 ?_)<;>conv=>whnf)
         refine⟨[],[some 0,some 1],_,_,_,_,kput_ok {s with e:=u.seq} u.key ⟨qv,u.seq,u.data⟩ hqv ⟨H.v⟩,t3,?_⟩
         rintro r o' c' ⟨rfl,rfl,rfl⟩
         ((conv=>whnf)<;>repeat(with_reducible refine D1 ?_)<;>conv=>whnf)
         refine⟨[],[some 11],_,_,_,_,sset_ok s.t ⟨u.client,u.num,u.seq,qc,qv⟩,t3,?_⟩
         rintro r o' c' ⟨rfl,rfl,rfl⟩
         ((conv=>whnf)<;>repeat(with_reducible refine D1 ?_)<;>conv=>whnf)
         exact⟨[],[some 0,some 1],_,_,_,t3,rfl,rfl,rfl⟩
        ·exact absurd (room_i hr) h5
  ·rw[if_pos h1]
   refine VC.enterR LZ (show EZ.func 23=some Tryz.f23 by kernel_rfl) (fun _ _=>rfl) rfl rfl [] ?_
   ((conv=>whnf)<;>repeat(with_reducible refine D1 ?_)<;>conv=>whnf)
   refine⟨[],[],_,_,_,_,hc,t3,?_⟩
   rintro r o' c' ⟨rfl,rfl,rfl⟩
   ((conv=>whnf)<;>repeat(with_reducible refine D1 ?_)<;>conv=>whnf)
   (first|refine⟨?_,?_⟩|refine nsplit ?_ ?_|refine bsplit ?_ ?_)<;>intro h2<;>have hz_:=True.intro<;>clear hz_
   ·exact absurd rfl h2
   ·((conv=>whnf)<;>repeat(with_reducible refine D1 ?_)<;>conv=>whnf)
    (first|refine⟨?_,?_⟩|refine nsplit ?_ ?_|refine bsplit ?_ ?_)<;>intro h3<;>have hz_:=True.intro<;>clear hz_
    ·((conv=>whnf)<;>repeat(with_reducible refine D1 ?_)<;>conv=>whnf)
     exact⟨[],[some 0,some 1],_,_,_,t3,rfl,rfl,rfl⟩
    ·have h3:¬IntKind.u64.wrap (u.seq - 1)≠s.e:=h3
     rw[hw]at h3
     exact absurd h1 h3
 ·rw[if_pos h0]
  have hc:=check_ok u
  refine VC.enterR LZ (show EZ.func 23=some Tryz.f23 by kernel_rfl) (fun _ _=>rfl) rfl rfl [] ?_
  ((conv=>whnf)<;>repeat(with_reducible refine D1 ?_)<;>conv=>whnf)
  refine⟨[],[],_,_,_,_,hc,t3,?_⟩
  rintro r o' c' ⟨rfl,rfl,rfl⟩
  ((conv=>whnf)<;>repeat(with_reducible refine D1 ?_)<;>conv=>whnf)
  (first|refine⟨?_,?_⟩|refine nsplit ?_ ?_|refine bsplit ?_ ?_)<;>intro h2<;>have hz_:=True.intro<;>clear hz_
  ·((conv=>whnf)<;>repeat(with_reducible refine D1 ?_)<;>conv=>whnf)
   exact⟨[],[some 0,some 1],_,_,_,t3,rfl,rfl,rfl⟩
  ·exact absurd h0 h2
end Go.M
namespace Go.M
open Go Go.Proofs
set_option maxRecDepth 100000
set_option maxHeartbeats 4000000
def trim1 (s:StS) (d k:Int):StS:=match lookA s.bs k with
 |some vs=>{s with bs:=putA s.bs k (vs.drop (trimN vs d))}
 |none=>s
def trimStep (d:Int) (r:StS×Nat) (k:Int):StS×Nat:=(trim1 r.1 d k,r.2+trimN (ofK r.1 k) d)
def trimA (d:Int) (r:StS×Nat) (ks:List Int):StS×Nat:=ks.foldl (trimStep d) r
theorem trimA_next (d:Int) (r:StS×Nat) (ks:List Int) (i:Nat) (h:i<ks.length):trimA d r (ks.take (i+1))=trimStep d (trimA d r (ks.take i)) ks[i]:=by
 unfold trimA
 rw[List.take_succ_eq_append_getElem h,List.foldl_append];rfl
theorem SOk.put {s:StS} (H:SOk s) {k:Int} {vs:List Vs} (hv:∀v∈vs,VOk v) (hn:vs.length<100000):SOk {s with bs:=putA s.bs k vs}:=⟨fun k' ws h=>by
 rw[lookA_put]at h
 split at h
 ·cases h;exact⟨hv,hn⟩
 ·exact H.v k' ws h⟩
theorem SOk.trim1 {s:StS} (H:SOk s) (d k:Int):SOk (trim1 s d k):=by
 unfold Go.M.trim1
 split
 ·rename_i vs h
  obtain⟨hv,hn⟩:=H.v k vs h
  exact H.put (fun v m=>hv v (List.mem_of_mem_drop m)) (by rw[List.length_drop];omega)
 ·exact H
theorem trimN_nil (d:Int):trimN [] d=0:=by
 show(cleanI [] d).toNat=0
 unfold cleanI;rw[srch_n (by decide)];rfl
theorem trimN_le (vs:List Vs) (d:Int):trimN vs d≤vs.length:=by
 have hle:=srch_le (fun k=>decide (d<(vs.getD k zeroVs).seq)) 0 vs.length (Nat.zero_le _)
 unfold trimN cleanI;omega
theorem trimA_ok {s:StS} (H:SOk s) (d:Int) (ks:List Int):∀i,i≤ks.length→SOk (trimA d (s,0) (ks.take i)).1∧(trimA d (s,0) (ks.take i)).2≤i*100000
 |0,_=>⟨H,Nat.le_refl _⟩
 |i+1,hi=>by
  obtain⟨h1,h2⟩:=trimA_ok H d ks i (by omega)
  rw[trimA_next d _ ks i (by omega)]
  refine⟨h1.trim1 d _,?_⟩
  show _+trimN _ d≤_
  have:=trimN_le (ofK (trimA d (s,0) (ks.take i)).1 ks[i]) d
  have:=(ofK_ok h1 ks[i]).2
  omega
theorem ktrim_ok (s:StS) (d:Int) (H:SOk s) (hn:s.bs.length<4096):VC EZ 28 2 [.ptr 0 0,.s (.int .u64 d)] (stO s)
 (RR (.s (.int .i64 (trimA d (s,0) (sortZ (keysA s.bs))).2)) 2 (stO (trimA d (s,0) (sortZ (keysA s.bs))).1)):=by
 have hk:=kkeys_ok s hn
 have hlen:(sortZ (keysA s.bs)).length<4096:=by unfold sortZ;rw[List.length_mergeSort,List.length_map];exact hn
 generalize sortZ (keysA s.bs)=ks at hk hlen
 have hall:=trimA_ok H d ks
 refine VC.enterR LZ (show EZ.func 28=some Tryz.f28 by kernel_rfl) (fun _ _=>rfl) rfl rfl [] ?_
 ((conv=>whnf)<;>repeat(with_reducible refine D1 ?_)<;>conv=>whnf)
 refine⟨[],[some 0,some 1],_,_,_,_,hk,t3,?_⟩
 rintro r o' c' ⟨rfl,rfl,rfl⟩
 ((conv=>whnf)<;>repeat(with_reducible refine D1 ?_)<;>conv=>whnf)
 refine⟨fun k f o c=>∃(i:Nat) (r:StS) (n:Nat),trimA d (s,0) (ks.take i)=(r,n)∧i≤ks.length∧k=ks.length - i∧c=2∧f=[(0,.ptr 0 0),(1,.s (.int .u64 d)),(5,.s (.int .i64 n)),(9,.sl 1 (ks.map encK) false),(10,.s (.int .i64 ks.length)),(11,.s (.int .i64 i))]∧o=stO r,⟨ks.length,?_⟩,?_⟩
 ·refine⟨[],[some 0,some 1],?_⟩
  iterate 3 constructor
  refine⟨⟨?_,?_,?_⟩,⟨0,s,0,rfl,Nat.zero_le _,rfl,rfl,rfl,rfl⟩⟩
  all_goals(repeat' first|with_reducible exact Lz.rfl|exact Lw.rfl|exact Lz.wrap (by omega)|(unfold goInt;with_reducible exact Lz.rfl)|exact flx _|constructor)
  all_goals exact Lz.int (by simp)
 ·rintro k f1 o1 c1 ⟨i,r,n,hr,hi,rfl,rfl,rfl,rfl⟩
  obtain⟨hs,hb⟩:=hall i hi
  rw[hr]at hs hb
  have hs:SOk r:=hs
  have hb:n≤i*100000:=hb
  ((conv=>whnf)<;>repeat(with_reducible refine D1 ?_)<;>conv=>whnf)
  (first|refine⟨?_,?_⟩|refine nsplit ?_ ?_|refine bsplit ?_ ?_)<;>intro hlt<;>have hz_:=True.intro<;>clear hz_
  ·have hlt:i<ks.length:=by exact Int.ofNat_lt.1 hlt
   have hnx:=trimA_next d (s,0) ks i hlt
   rw[hr]at hnx
   ((conv=>whnf)<;>repeat(with_reducible refine D1 ?_)<;>conv=>whnf)
   refine⟨encK ks[i],⟨by omega,by simp[hlt]⟩,?_⟩
   ((conv=>whnf)<;>repeat(with_reducible refine D1 ?_)<;>conv=>whnf)
   cases h:lookA r.bs ks[i]with
   |none=>
    refine⟨[],[some 0,some 1],_,_,_,_,block_no r ks[i] h,t3,?_⟩
    rintro r o' c' ⟨rfl,rfl,rfl⟩
    ((conv=>whnf)<;>repeat(with_reducible refine D1 ?_)<;>conv=>whnf)
    refine⟨[],[],_,_,_,_,btrim_nil d,t3,?_⟩
    rintro r o' c' ⟨rfl,rfl,rfl⟩
    ((conv=>whnf)<;>repeat(with_reducible refine D1 ?_)<;>conv=>whnf)
    refine⟨ks.length - (i+1),?_,by omega⟩
    rw[show trimStep d (r,n) ks[i]=(r,n)from by unfold trimStep;rw[show trim1 r d ks[i]=r from by unfold trim1;rw[h]];rw[ofK_none h,trimN_nil];rfl]at hnx
    rw[show IntKind.i64.wrap ((n:Int)+0)=(n:Int)from by rw[IntWalk.i64_in _ (by omega)];omega]
    exact⟨[],[some 0,some 1],_,_,_,t3,⟨i+1,r,n,hnx,by omega,rfl,rfl,rfl,rfl⟩⟩
   |some vs=>
    obtain⟨hv,hvn⟩:=hs.v _ vs h
    have hm:=trimN_le vs d
    refine⟨[],[some 0,some 1],_,_,_,_,block_is r ks[i] vs h,t3,?_⟩
    rintro r o' c' ⟨rfl,rfl,rfl⟩
    ((conv=>whnf)<;>repeat(with_reducible refine D1 ?_)<;>conv=>whnf)
    refine⟨[],[some 4],_,_,_,_,btrim_ok vs d (by omega),t3,?_⟩
    rintro r o' c' ⟨rfl,rfl,rfl⟩
    ((conv=>whnf)<;>repeat(with_reducible refine D1 ?_)<;>conv=>whnf)
    refine⟨ks.length - (i+1),?_,by omega⟩
    have hst:trimStep d (r,n) ks[i]=({r with bs:=putA r.bs ks[i] (vs.drop (trimN vs d))},n+trimN vs d):=by
     unfold trimStep;rw[show trim1 r d ks[i]={r with bs:=putA r.bs ks[i] (vs.drop (trimN vs d))}from by unfold trim1;rw[h]];rw[ofK_some h]
    rw[hst]at hnx
    rw[show IntKind.i64.wrap ((n:Int)+((trimN vs d:Nat):Int))=((n+trimN vs d:Nat):Int)from by rw[IntWalk.i64_in _ (by omega)];omega]
    rw[show IntKind.i64.wrap ((i:Int)+1)=((i+1:Nat):Int)from by rw[IntWalk.i64_in _ (by omega)];omega]
    refine⟨[],[some 0,some 1],_,_,_,⟨by(repeat' first|with_reducible exact Lz.rfl|exact Lw.rfl|exact Lz.wrap (by omega)|(unfold goInt;with_reducible exact Lz.rfl)|exact flx _|constructor),.cons (.cells (by(repeat' first|with_reducible exact Lz.rfl|exact Lw.rfl|exact Lz.wrap (by omega)|(unfold goInt;with_reducible exact Lz.rfl)|exact flx _|constructor))) (.cons (.maq (opc:=[(_,blkV (vs.drop (trimN vs d)))]) .one (Lw.of (put_bs r.bs ks[i] _)) (.m1 (by rfl) (by(repeat' first|with_reducible exact Lz.rfl|exact Lw.rfl|exact Lz.wrap (by omega)|(unfold goInt;with_reducible exact Lz.rfl)|exact flx _|constructor)))) .nil),by rfl⟩,⟨i+1,{r with bs:=putA r.bs ks[i] (vs.drop (trimN vs d))},n+trimN vs d,hnx,by omega,rfl,rfl,rfl,rfl⟩⟩
  ·have hlt:¬i<ks.length:=fun q=>hlt (Int.ofNat_lt.2 q)
   have:i=ks.length:=by omega
   subst this
   rw[List.take_length]at hr
   rw[hr]
   ((conv=>whnf)<;>repeat(with_reducible refine D1 ?_)<;>conv=>whnf)
   exact⟨[],[some 0,some 1],_,_,_,t3,rfl,rfl,rfl⟩
end Go.M
namespace Go.M
open Go Go.Proofs
set_option maxHeartbeats 1000000
structure Good (e:Int) (vs:List Vs):Prop where
 up:vs.Pairwise (fun a b=>a.ver<b.ver∧a.seq<b.seq)
 v:∀v∈vs,(1≤v.ver∧v.ver≤18446744073709551615)∧(1≤v.seq∧v.seq≤e)∧v.data.length≤2048
theorem Good.nil (e:Int):Good e []:=⟨.nil,by simp⟩
theorem Good.mono {e e':Int} {vs:List Vs} (h:Good e vs) (he:e≤e'):Good e' vs:=⟨h.up,fun v m=>by have:=h.v v m;omega⟩
theorem Good.drop {e:Int} {vs:List Vs} (h:Good e vs) (n:Nat):Good e (vs.drop n):=⟨h.up.sublist (List.drop_sublist ..),fun v m=>h.v v (List.mem_of_mem_drop m)⟩
theorem Good.vok {e:Int} {vs:List Vs} (h:Good e vs) (he:e≤18446744073709551615):∀v∈vs,VOk v:=fun v m=>by
 have:=h.v v m
 exact⟨by omega,by omega,this.2.2⟩
theorem lastV_nil:lastV []=zeroVs:=atV_nil _
theorem Good.new {e:Int} {vs:List Vs} (h:Good e vs) {d:List Int} (hd:d.length≤2048) (he:0≤e) (hv:(lastV vs).ver<18446744073709551615):Good (e+1) (vs++[⟨(lastV vs).ver+1,e+1,d⟩]):=by
 rcases two_ends vs with rfl |⟨ws,w,rfl⟩
 ·rw[lastV_nil]
  exact⟨by simp,by simp;omega⟩
 ·rw[lastV_end]at hv ⊢
  have hw:=h.v w (by simp)
  have hu:=h.up
  rw[List.pairwise_append]at hu
  refine⟨?_,fun v m=>?_⟩
  ·rw[List.pairwise_append]
   refine⟨h.up,by simp,fun a ha b hb=>?_⟩
   simp only[List.mem_singleton]at hb
   subst hb
   have ha':=h.v a ha
   show a.ver<w.ver+1∧a.seq<e+1
   rcases List.mem_append.1 ha with q|q
   ·have:=hu.2.2 a q w (by simp);omega
   ·simp only[List.mem_singleton]at q;subst q;omega
  ·rcases List.mem_append.1 m with q|q
   ·have:=h.v v q;omega
   ·simp only[List.mem_singleton]at q;subst q
    exact⟨⟨by show 1≤w.ver+1;omega,by show w.ver+1≤_;omega⟩,⟨by show 1≤e+1;omega,Int.le_refl _⟩,hd⟩
theorem Good.last {e:Int} {vs:List Vs} (h:Good e vs) (he:0≤e):0≤(lastV vs).ver∧(lastV vs).ver≤18446744073709551615∧(lastV vs).seq≤e:=by
 rcases two_ends vs with rfl |⟨ws,w,rfl⟩
 ·rw[lastV_nil];exact⟨by decide,by decide,he⟩
 ·rw[lastV_end];have:=h.v w (by simp);omega
theorem putB_new {e:Int} {vs:List Vs} (h:Good e vs) (he:0≤e) {d:List Int} (hd:d.length≤2048):putB vs ⟨(lastV vs).ver+1,e+1,d⟩=vs++[⟨(lastV vs).ver+1,e+1,d⟩]:=by
 have hl:=h.last he
 unfold putB
 rw[if_pos]
 unfold putE
 rw[if_neg (by show¬2048<d.length;omega),if_neg (by show¬((lastV vs).ver+1=0∨e+1=0);omega),if_neg]
 show¬(0<vs.length∧((lastV vs).ver+1 - 1≠(lastV vs).ver∨e+1≤(lastV vs).seq))
 omega
theorem outC_made {u:UpR} {ver:Int} {b:Bool} (h:(outC u ver b).2.2=true):(outC u ver b).2.1=ver+1∧ver≠18446744073709551615∧(b=true∨ver≠0):=by
 unfold outC at h ⊢
 split
 ·rename_i hk
  rw[if_pos hk]at h
  split
  ·rename_i h2;rw[if_pos h2]at h;cases h
  ·rename_i h2;rw[if_neg h2]at h
   split
   ·rename_i h3;rw[if_pos h3]at h;cases h
   ·rename_i h3
    refine⟨rfl,fun q=>h3 (.inr q),?_⟩
    cases b
    ·exact .inr fun q=>h3 (.inl ⟨q,rfl⟩)
    ·exact .inl rfl
 ·rename_i hk;rw[if_neg hk]at h;cases h
structure SInv (s:StS) (n:Nat):Prop where
 e:0≤s.e∧s.e≤18446744073709551615
 nd:(keysA s.bs).Nodup
 len:s.bs.length≤n+192
 g:∀k,Good s.e (ofK s k)
 gl:∀k,(ofK s k).length≤n+1
theorem SInv.ok {s:StS} {n:Nat} (H:SInv s n) (hn:n<90000):SOk s:=⟨fun k vs h=>by
 have g:=H.g k
 have gl:=H.gl k
 rw[ofK_some h]at g gl
 exact⟨g.vok H.e.2,by omega⟩⟩
theorem SInv.zero:SInv ⟨0,[],zeroTab⟩ 0:=⟨⟨by decide,by decide⟩,.nil,by decide,fun k=>.nil _,fun k=>Nat.zero_le _⟩
theorem ofK_put {s:StS} {k k':Int} {vs:List Vs}:ofK {s with bs:=putA s.bs k vs} k'=if k'=k then vs else ofK s k':=by
 unfold ofK
 rw[lookA_put]
 split<;>rfl
theorem applyS_cases (s:StS) (u:UpR) (H:∀k,Good s.e (ofK s k)) (he:0≤s.e):
 (applyS s u).2=s∨(u.seq=s.e+1∧((∃t,(applyS s u).2={s with e:=u.seq,t:=t})∨
  ∃t,u.data.length≤2048∧(lastV (ofK s u.key)).ver≠18446744073709551615∧(s.bs.length<192∨(lastV (ofK s u.key)).ver≠0)∧(applyS s u).2={e:=u.seq,t:=t,bs:=putA s.bs u.key (ofK s u.key++[⟨(lastV (ofK s u.key)).ver+1,u.seq,u.data⟩])})):=by
 unfold applyS
 split
 ·exact .inl rfl
 ·rename_i h0
  have h0:chkU u=0:=Decidable.not_not.1 h0
  split
  ·exact .inl rfl
  ·rename_i h1
   have h1:u.seq=s.e+1:=by have:=Decidable.not_not.1 h1;omega
   refine .inr ⟨h1,?_⟩
   split
   ·exact .inl ⟨s.t,rfl⟩
   ·by_cases hm:(outS s u).2.2=true
    ·obtain⟨hv,hx,hr⟩:=outC_made hm
     refine .inr ⟨setT s.t (rowS s u),(okU_seq h0).2,hx,?_,?_⟩
     ·rcases hr with hr|hr
      ·exact .inl (of_decide_eq_true hr)
      ·exact .inr hr
     ·show {wrote s u with t:=setT s.t (rowS s u)}=_
      unfold wrote
      rw[if_pos hm]
      have:(outS s u).2.1=(lastV (ofK s u.key)).ver+1:=hv
      rw[this]
      have hp:=putB_new (H u.key) he (okU_seq h0).2
      rw[←h1]at hp
      show(⟨u.seq,putA s.bs u.key (putB (ofK s u.key) ⟨(lastV (ofK s u.key)).ver+1,u.seq,u.data⟩),_⟩:StS)=_
      rw[hp]
    ·refine .inl ⟨setT s.t (rowS s u),?_⟩
     show {wrote s u with t:=setT s.t (rowS s u)}=_
     unfold wrote
     rw[if_neg hm]
theorem SInv.apply {s:StS} {n:Nat} (H:SInv s n) (u:UpR) (hu:UOk u):SInv (applyS s u).2 (n+1):=by
 have hl:=H.len
 rcases applyS_cases s u H.g H.e.1 with h|⟨h1,⟨t,h⟩|⟨t,hd,hm,_,h⟩⟩
 ·rw[h];exact⟨H.e,H.nd,by omega,H.g,fun k=>Nat.le_succ_of_le (H.gl k)⟩
 ·rw[h]
  exact⟨hu.seq,H.nd,by show s.bs.length≤_;omega,fun k=>(H.g k).mono (by show _≤u.seq;omega),fun k=>Nat.le_succ_of_le (H.gl k)⟩
 ·have hof:∀k',ofK (⟨u.seq,putA s.bs u.key (ofK s u.key++[⟨(lastV (ofK s u.key)).ver+1,u.seq,u.data⟩]),t⟩:StS) k'=if k'=u.key then ofK s u.key++[⟨(lastV (ofK s u.key)).ver+1,u.seq,u.data⟩]else ofK s k':=fun k'=>ofK_put (s:=s)
  rw[h]
  refine⟨hu.seq,putA_nodup H.nd,?_,fun k=>?_,fun k=>?_⟩
  ·have:=putA_len s.bs u.key (ofK s u.key++[⟨(lastV (ofK s u.key)).ver+1,u.seq,u.data⟩])
   show(putA _ _ _).length≤_
   omega
  ·rw[hof]
   split
   ·rw[h1];exact(H.g _).new hd H.e.1 (by have:=(H.g u.key).last H.e.1;omega)
   ·exact(H.g k).mono (by show _≤u.seq;omega)
  ·rw[hof]
   split
   ·have:=H.gl u.key;rw[List.length_append];show _+1≤_;omega
   ·exact Nat.le_succ_of_le (H.gl k)
structure Ext (s t:StS):Prop where
 e:s.e≤t.e
 b:∀k,∃ws,ofK t k=ofK s k++ws∧∀w∈ws,s.e<w.seq
theorem Ext.trans {s t r:StS} (h:Ext s t) (k:Ext t r):Ext s r:=⟨Int.le_trans h.e k.e,fun n=>by
 obtain⟨a,h1,h2⟩:=h.b n
 obtain⟨b,k1,k2⟩:=k.b n
 refine⟨a++b,by rw[k1,h1,List.append_assoc],fun w m=>?_⟩
 rcases List.mem_append.1 m with q|q
 ·exact h2 w q
 ·have:=k2 w q;have:=h.e;omega⟩
theorem getD_app {A B:List Vs} (k:Nat):(A++B).getD k zeroVs=if k<A.length then A.getD k zeroVs else B.getD (k - A.length) zeroVs:=by
 simp only[List.getD,List.getElem?_append]
 split<;>rfl
theorem getD_mem {A:List Vs} {k:Nat} (h:k<A.length):A.getD k zeroVs∈A:=by simp[List.getD,h]
theorem srch_app (p:Vs→Bool) {A B:List Vs} (hA:∀a∈A,p a=false) (hB:∀b∈B,p b=true):srch (fun k=>p ((A++B).getD k zeroVs)) 0 (A++B).length=A.length:=by
 refine srch_eq _ (A++B).length A.length (fun k hk=>?_) (fun k h1 h2=>?_) 0 _ (Nat.zero_le _) (by simp) (Nat.le_refl _)
 ·rw[getD_app,if_pos hk];exact hA _ (getD_mem hk)
 ·rw[getD_app,if_neg (by omega)];rw[List.length_append]at h2;exact hB _ (getD_mem (by omega))
theorem clean_app {A B:List Vs} {d:Int} (hA:∀a∈A,a.seq≤d) (hB:∀b∈B,d<b.seq):cleanI (A++B) d=(A.length:Int) - 1:=by
 unfold cleanI
 rw[srch_app (fun v=>decide (d<v.seq)) (fun a m=>decide_eq_false (by have:=hA a m;omega)) (fun b m=>decide_eq_true (hB b m))]
theorem pick_app {A B:List Vs} {v:Int} (hA:∀a∈A,a.ver<v) (hB:∀b∈B,v≤b.ver):pickI (A++B) v=A.length:=by
 unfold pickI
 rw[srch_app (fun x=>decide (v≤x.ver)) (fun a m=>decide_eq_false (by have:=hA a m;omega)) (fun b m=>decide_eq_true (hB b m))]
theorem atV_last {A B:List Vs}:atV (A++B) ((A.length:Int) - 1)=lastV A:=by
 rcases two_ends A with rfl |⟨ws,w,rfl⟩
 ·rw[lastV_nil];exact atV_out (.inl (by decide))
 ·rw[lastV_end]
  rw[show(((ws++[w]).length:Nat):Int) - 1=((ws.length:Nat):Int)from by simp,atV_in (by simp)]
  simp
theorem atV_mid {A B:List Vs}:atV (A++B) (A.length:Nat)=B.headD zeroVs:=by
 cases B with
 |nil=>rw[List.append_nil];exact atV_out (.inr (Int.le_refl _))
 |cons b B=>rw[atV_in (by simp)];simp
theorem Good.split_seq {e:Int} {vs:List Vs} (h:Good e vs) (d:Int):∃A B,vs=A++B∧(∀a∈A,a.seq≤d)∧∀b∈B,d<b.seq:=by
 obtain⟨hu,_⟩:=h
 induction vs with
 |nil=>exact⟨[],[],rfl,by simp,by simp⟩
 |cons v vs ih=>
  rw[List.pairwise_cons]at hu
  by_cases hv:v.seq≤d
  ·obtain⟨A,B,rfl,h1,h2⟩:=ih hu.2 (fun x m=>by rename_i q;exact q x (List.mem_cons_of_mem _ m))
   exact⟨v::A,B,rfl,by simpa using⟨hv,h1⟩,h2⟩
  ·exact⟨[],v::vs,rfl,by simp,fun b m=>by
    rcases List.mem_cons.1 m with rfl |m
    ·omega
    ·have:=hu.1 b m;omega⟩
theorem Good.split_ver {e:Int} {vs:List Vs} (h:Good e vs) (d:Int):∃A B,vs=A++B∧(∀a∈A,a.ver<d)∧∀b∈B,d≤b.ver:=by
 obtain⟨hu,_⟩:=h
 induction vs with
 |nil=>exact⟨[],[],rfl,by simp,by simp⟩
 |cons v vs ih=>
  rw[List.pairwise_cons]at hu
  by_cases hv:v.ver<d
  ·obtain⟨A,B,rfl,h1,h2⟩:=ih hu.2 (fun x m=>by rename_i q;exact q x (List.mem_cons_of_mem _ m))
   exact⟨v::A,B,rfl,by simpa using⟨hv,h1⟩,h2⟩
  ·exact⟨[],v::vs,rfl,by simp,fun b m=>by
    rcases List.mem_cons.1 m with rfl |m
    ·omega
    ·have:=hu.1 b m;omega⟩
theorem ofK_trim1 (s:StS) (d k k':Int):ofK (trim1 s d k) k'=if k'=k then(ofK s k).drop (trimN (ofK s k) d)else ofK s k':=by
 unfold trim1
 split
 ·rename_i vs h
  rw[ofK_put,ofK_some h]
 ·rename_i h
  split
  ·rename_i hk;rw[hk,ofK_none h];simp
  ·rfl
theorem trim1_e (s:StS) (d k:Int):(trim1 s d k).e=s.e∧(trim1 s d k).t=s.t:=by unfold trim1;split<;>exact⟨rfl,rfl⟩
theorem trim1_keys (s:StS) (d k:Int):keysA (trim1 s d k).bs=keysA s.bs:=by
 unfold trim1
 split
 ·rename_i vs h
  show keysA (putA _ _ _)=_
  rw[putA_keys,if_pos]
  have:=mt (lookA_none (n:=k) (es:=s.bs)).2
  refine Decidable.not_not.1 fun q=>?_
  rw[lookA_none.2 q]at h;cases h
 ·rfl
theorem trimA_keys (d:Int):∀(ks:List Int) (r:StS×Nat),keysA (trimA d r ks).1.bs=keysA r.1.bs∧(trimA d r ks).1.e=r.1.e∧(trimA d r ks).1.t=r.1.t
 |[],r=>⟨rfl,rfl,rfl⟩
 |k::ks,r=>by
  obtain⟨h1,h2,h3⟩:=trimA_keys d ks (trimStep d r k)
  refine⟨h1.trans (trim1_keys ..),h2.trans (trim1_e ..).1,h3.trans (trim1_e ..).2⟩
theorem trimA_of (d:Int):∀(ks:List Int) (r:StS×Nat),ks.Nodup→∀k,ofK (trimA d r ks).1 k=if k∈ks then(ofK r.1 k).drop (trimN (ofK r.1 k) d)else ofK r.1 k
 |[],r,_,k=>by simp[trimA]
 |k0::ks,r,hn,k=>by
  rw[List.nodup_cons]at hn
  have ih:=trimA_of d ks (trimStep d r k0) hn.2 k
  rw[show trimA d r (k0::ks)=trimA d (trimStep d r k0) ks from rfl,ih]
  have h1:ofK (trimStep d r k0).1 k=if k=k0 then(ofK r.1 k0).drop (trimN (ofK r.1 k0) d)else ofK r.1 k:=ofK_trim1 ..
  rw[h1]
  by_cases hk:k=k0
  ·subst hk;simp[hn.1]
  ·simp[hk]
theorem sortZ_mem {l:List Int} {k:Int}:k∈sortZ l↔k∈l:=by unfold sortZ;exact List.mem_mergeSort
theorem sortZ_nodup {l:List Int} (h:l.Nodup):(sortZ l).Nodup:=by unfold sortZ;exact(List.mergeSort_perm l _).nodup_iff.2 h
def trimS (s:StS) (d:Int):StS:=(trimA d (s,0) (sortZ (keysA s.bs))).1
theorem trimS_of {s:StS} (hn:(keysA s.bs).Nodup) (d k:Int):ofK (trimS s d) k=(ofK s k).drop (trimN (ofK s k) d):=by
 unfold trimS
 rw[trimA_of d _ _ (sortZ_nodup hn)]
 split
 ·rfl
 ·rename_i h
  rw[sortZ_mem]at h
  rw[ofK_none (lookA_none.2 h)];simp
theorem SInv.trim {s:StS} {n:Nat} (H:SInv s n) (d:Int):SInv (trimS s d) n:=by
 obtain⟨h1,h2,h3⟩:=trimA_keys d (sortZ (keysA s.bs)) (s,0)
 have h1:keysA (trimS s d).bs=keysA s.bs:=h1
 have h2:(trimS s d).e=s.e:=h2
 refine⟨by rw[h2];exact H.e,by rw[h1];exact H.nd,?_,fun k=>?_,fun k=>?_⟩
 ·have:=congrArg List.length h1
  simp only[keysA,List.length_map]at this
  rw[this];exact H.len
 ·rw[trimS_of H.nd,h2];exact(H.g k).drop _
 ·rw[trimS_of H.nd,List.length_drop];have:=H.gl k;omega
end Go.M
namespace Go.M
open Go Go.Proofs
set_option maxRecDepth 100000
set_option maxHeartbeats 4000000
structure RfS where
 e:Int
 bs:List (Int×List Vs)
 rows:List RowS
@[reducible] def vsL (vs:List Vs):TV:=.sl 3 (vs.map encV) false
@[reducible] def encBl (b:Int×List Vs):List TV:=[.s (.int .u32 b.1),vsL b.2]
@[reducible] def encRf (r:RfS):List TV:=[.s (.int .u64 r.e),.sl 2 (r.bs.map encBl) false,.sl 5 (r.rows.map encR) false]
theorem lookA_at {α:Type} {l:List (Int×α)} {k:Int} {i:Nat} (h:i<l.length) (h0:∀b∈l.take i,b.1≠k) (hk:l[i].1=k):lookA l k=some l[i].2:=by
 induction l generalizing i with
 |nil=>simp at h
 |cons b l ih=>
  unfold lookA
  cases i with
  |zero=>rw[if_pos (by simpa using hk.symm)];rfl
  |succ i=>
   rw[if_neg (by have:=h0 b (by simp);exact fun q=>this q.symm)]
   exact ih (by simpa using h) (fun b' m=>h0 b' (by simp[m])) (by simpa using hk)
theorem lookA_no {α:Type} {l:List (Int×α)} {k:Int} (h0:∀b∈l,b.1≠k):lookA l k=none:=by
 induction l with
 |nil=>rfl
 |cons b l ih=>unfold lookA;rw[if_neg (fun q=>h0 b (by simp) q.symm),ih fun b' m=>h0 b' (by simp[m])]
theorem take_all {α:Type} {l:List α} {P:α→Prop} {i:Nat} (h:i<l.length) (h0:∀b∈l.take i,P b) (hk:P l[i]):∀b∈l.take (i+1),P b:=by
 rw[List.take_succ_eq_append_getElem h]
 intro b m
 rcases List.mem_append.1 m with m|m
 ·exact h0 b m
 ·simp only[List.mem_singleton]at m;subst m;exact hk
@[reducible] def ofR (r:RfS) (k:Int):List Vs:=(lookA r.bs k).getD []
theorem rof_ok (r:RfS) (k:Int) (hn:r.bs.length<1000000):VC EZ 70 0 [.agg (encRf r),.s (.int .u32 k)] [] (RR (vsL (ofR r k)) 0 []):=by
 refine VC.enterR LZ (show EZ.func 70=some Tryz.f70 by kernel_rfl) (fun _ _=>rfl) rfl rfl [] ?_
 ((conv=>whnf)<;>repeat(with_reducible refine D1 ?_)<;>conv=>whnf)
 refine⟨fun k' f o c=>∃i:Nat,i≤r.bs.length∧k'=r.bs.length - i∧(∀b∈r.bs.take i,b.1≠k)∧c=1∧f=[(1,.s (.int .u32 k)),(2,.ptr 0 0),(5,.s (.int .i64 i))]∧o=[(0,.cells (encRf r))],⟨r.bs.length,?_⟩,?_⟩
 ·exact⟨[],[some 0],_,_,_,t3,⟨0,Nat.zero_le _,rfl,by simp,rfl,rfl,rfl⟩⟩
 ·rintro k' f1 o1 c1 ⟨i,hi,rfl,h0,rfl,rfl,rfl⟩
  ((conv=>whnf)<;>repeat(with_reducible refine D1 ?_)<;>conv=>whnf)
  (first|refine⟨?_,?_⟩|refine nsplit ?_ ?_|refine bsplit ?_ ?_)<;>intro h<;>have hz_:=True.intro<;>clear hz_
  ·have h:i<r.bs.length:=lenlt.1 h
   ((conv=>whnf)<;>repeat(with_reducible refine D1 ?_)<;>conv=>whnf)
   refine idxI h ?_
   ((conv=>whnf)<;>repeat(with_reducible refine D1 ?_)<;>conv=>whnf)
   (first|refine⟨?_,?_⟩|refine nsplit ?_ ?_|refine bsplit ?_ ?_)<;>intro he<;>have hz_:=True.intro<;>clear hz_
   ·have he:r.bs[i].1=k:=he
    ((conv=>whnf)<;>repeat(with_reducible refine D1 ?_)<;>conv=>whnf)
    refine idxI h ?_
    ((conv=>whnf)<;>repeat(with_reducible refine D1 ?_)<;>conv=>whnf)
    refine⟨[],[],?_⟩
    iterate 3 constructor
    refine⟨⟨?_,?_,?_⟩,rfl,rfl,rfl⟩
    all_goals(repeat' first|with_reducible exact Lz.rfl|exact Lw.rfl|exact Lz.wrap (by omega)|(unfold goInt;with_reducible exact Lz.rfl)|exact flx _|constructor)
    exact Lw.of (by unfold ofR;rw[lookA_at h h0 he];rfl)
   ·have he:¬r.bs[i].1=k:=he
    ((conv=>whnf)<;>repeat(with_reducible refine D1 ?_)<;>conv=>whnf)
    refine⟨r.bs.length - (i+1),?_,by omega⟩
    exact⟨[],[some 0],_,_,_,t3,⟨i+1,h,rfl,take_all h h0 he,rfl,rfl,rfl⟩⟩
  ·have hi':i=r.bs.length:=by have:=mt lenlt.2 h
                              omega
   subst hi'
   rw[List.take_length]at h0
   ((conv=>whnf)<;>repeat(with_reducible refine D1 ?_)<;>conv=>whnf)
   refine⟨[],[],?_⟩
   iterate 3 constructor
   refine⟨⟨?_,?_,?_⟩,rfl,rfl,rfl⟩
   all_goals(repeat' first|with_reducible exact Lz.rfl|exact Lw.rfl|exact Lz.wrap (by omega)|(unfold goInt;with_reducible exact Lz.rfl)|exact flx _|constructor)
   exact Lw.of (by unfold ofR;rw[lookA_no h0];rfl)
theorem rlast_ok (vs:List Vs) (hn:vs.length<1000000):VC EZ 72 0 [vsL vs] [] (RR (.agg (encV (lastV vs))) 0 []):=by
 refine VC.enterR LZ (show EZ.func 72=some Tryz.f72 by kernel_rfl) (fun _ _=>rfl) rfl rfl [] ?_
 ((conv=>whnf)<;>repeat(with_reducible refine D1 ?_)<;>conv=>whnf)
 rcases two_ends vs with rfl |⟨ws,w,rfl⟩
 ·rw[lastV_nil]
  (first|refine⟨?_,?_⟩|refine nsplit ?_ ?_|refine bsplit ?_ ?_)<;>intro h<;>have hz_:=True.intro<;>clear hz_
  ·((conv=>whnf)<;>repeat(with_reducible refine D1 ?_)<;>conv=>whnf)
   exact⟨[],[],_,_,_,t3,rfl,rfl,rfl⟩
  ·exact absurd rfl h
 ·rw[lastV_end]
  have hn:ws.length+1<1000000:=by simpa using hn
  have hw:IntKind.i64.wrap ((((ws++[w]).map encV).length:Int) - 1)=((ws.length:Nat):Int):=by rw[IntWalk.i64_in _ (by simp;omega)];simp
  (first|refine⟨?_,?_⟩|refine nsplit ?_ ?_|refine bsplit ?_ ?_)<;>intro h<;>have hz_:=True.intro<;>clear hz_
  ·have h:(((ws++[w]).map encV).length:Int)=0:=h
   rw[List.length_map,List.length_append]at h
   simp at h
   omega
  ·((conv=>whnf)<;>repeat(with_reducible refine D1 ?_)<;>conv=>whnf)
   refine⟨encV w,⟨by rw[hw];omega,by rw[hw];simp⟩,?_⟩
   ((conv=>whnf)<;>repeat(with_reducible refine D1 ?_)<;>conv=>whnf)
   exact⟨[],[],_,_,_,t3,rfl,rfl,rfl⟩
def getR (rows:List RowS) (c:Int):Option RowS:=rows.find? fun r=>decide (r.client=c)
theorem getR_at {rows:List RowS} {c:Int} {i:Nat} (h:i<rows.length) (h0:∀r∈rows.take i,r.client≠c) (hk:rows[i].client=c):getR rows c=some rows[i]:=by
 unfold getR
 rw[List.find?_eq_some_iff_append]
 refine⟨by simpa using hk,rows.take i,rows.drop (i+1),(List.take_append_drop i rows).symm.trans (by rw[List.drop_eq_getElem_cons h]),fun a m=>by simpa using h0 a m⟩
theorem getR_no {rows:List RowS} {c:Int} (h0:∀r∈rows,r.client≠c):getR rows c=none:=by
 unfold getR
 rw[List.find?_eq_none]
 exact fun a m=>by simpa using h0 a m
@[reducible] def rowsL (rows:List RowS):TV:=.sl 5 (rows.map encR) false
@[reducible] def encGR (o:Option RowS):TV:=.tup [.agg (encR (o.getD zeroR)),.s (.bool o.isSome)]
theorem rget_ok (rows:List RowS) (c:Int) (hn:rows.length<1000000):VC EZ 96 0 [rowsL rows,.s (.int .i64 c)] [] (RR (encGR (getR rows c)) 0 []):=by
 refine VC.enterR LZ (show EZ.func 96=some Tryz.f96 by kernel_rfl) (fun _ _=>rfl) rfl rfl [] ?_
 ((conv=>whnf)<;>repeat(with_reducible refine D1 ?_)<;>conv=>whnf)
 refine⟨fun k' f o cc=>∃i:Nat,i≤rows.length∧k'=rows.length - i∧(∀b∈rows.take i,b.client≠c)∧cc=1∧f=[(0,rowsL rows),(1,.s (.int .i64 c)),(4,.ptr 0 0),(6,.s (.int .i64 i))]∧o=[(0,.cells (encR zeroR))],⟨rows.length,?_⟩,?_⟩
 ·exact⟨[],[some 0],_,_,_,t3,⟨0,Nat.zero_le _,rfl,by simp,rfl,rfl,rfl⟩⟩
 ·rintro k' f1 o1 c1 ⟨i,hi,rfl,h0,rfl,rfl,rfl⟩
  ((conv=>whnf)<;>repeat(with_reducible refine D1 ?_)<;>conv=>whnf)
  (first|refine⟨?_,?_⟩|refine nsplit ?_ ?_|refine bsplit ?_ ?_)<;>intro h<;>have hz_:=True.intro<;>clear hz_
  ·have h:i<rows.length:=lenlt.1 h
   ((conv=>whnf)<;>repeat(with_reducible refine D1 ?_)<;>conv=>whnf)
   refine idxI h ?_
   ((conv=>whnf)<;>repeat(with_reducible refine D1 ?_)<;>conv=>whnf)
   (first|refine⟨?_,?_⟩|refine nsplit ?_ ?_|refine bsplit ?_ ?_)<;>intro he<;>have hz_:=True.intro<;>clear hz_
   ·have he:rows[i].client=c:=he
    rw[getR_at h h0 he]
    ((conv=>whnf)<;>repeat(with_reducible refine D1 ?_)<;>conv=>whnf)
    refine idxI h ?_
    ((conv=>whnf)<;>repeat(with_reducible refine D1 ?_)<;>conv=>whnf)
    exact⟨[],[],_,_,_,t3,rfl,rfl,rfl⟩
   ·have he:¬rows[i].client=c:=he
    ((conv=>whnf)<;>repeat(with_reducible refine D1 ?_)<;>conv=>whnf)
    refine⟨rows.length - (i+1),?_,by omega⟩
    exact⟨[],[some 0],_,_,_,t3,⟨i+1,h,rfl,take_all h h0 he,rfl,rfl,rfl⟩⟩
  ·have hi':i=rows.length:=by have:=mt lenlt.2 h
                              omega
   subst hi'
   rw[List.take_length]at h0
   rw[getR_no h0]
   ((conv=>whnf)<;>repeat(with_reducible refine D1 ?_)<;>conv=>whnf)
   exact⟨[],[],_,_,_,t3,rfl,rfl,rfl⟩
def judgeR (rows:List RowS) (c n:Int):Int:=if¬(1≤c∧c≤6)∨n=0 then 2 else match getR rows c with
 |none=>0
 |some r=>if r.num<n then 0 else if r.num=n then 1 else 2
theorem rjudge_ok (rows:List RowS) (c n:Int) (hn:rows.length<1000000):VC EZ 69 0 [rowsL rows,.s (.int .i64 c),.s (.int .u64 n)] [] (RR (.s (.int .i64 (judgeR rows c n))) 0 []):=by
 have hg:=rget_ok rows c hn
 refine VC.enterR LZ (show EZ.func 69=some Tryz.f69 by kernel_rfl) (fun _ _=>rfl) rfl rfl [] ?_
 ((conv=>whnf)<;>repeat(with_reducible refine D1 ?_)<;>conv=>whnf)
 by_cases h0:¬(1≤c∧c≤6)∨n=0
 ·rw[show judgeR rows c n=2 from if_pos h0]
  repeat'(first|((first|(refine⟨fun h=>?_,fun h=>?_⟩)|(refine nsplit (fun h=>?_) (fun h=>?_))|(refine bsplit (fun h=>?_) (fun h=>?_)))<;>((conv=>whnf)<;>repeat(with_reducible refine D1 ?_)<;>conv=>whnf)))
  all_goals first|(exfalso;simp at*;omega)|skip
  all_goals
   exact⟨[],[],_,_,_,t3,rfl,rfl,rfl⟩
 ·rw[show judgeR rows c n=(match getR rows c with|none=>0|some r=>if r.num<n then 0 else if r.num=n then 1 else 2)from if_neg h0]
  cases hr:getR rows c with
  |none=>
   rw[hr]at hg
   repeat'(first|((first|(refine⟨fun h=>?_,fun h=>?_⟩)|(refine nsplit (fun h=>?_) (fun h=>?_))|(refine bsplit (fun h=>?_) (fun h=>?_)))<;>((conv=>whnf)<;>repeat(with_reducible refine D1 ?_)<;>conv=>whnf)))
   all_goals first|(exfalso;simp at*;omega)|skip
   all_goals
    refine⟨[],[],_,_,_,_,hg,t3,?_⟩
    rintro r o' c' ⟨rfl,rfl,rfl⟩
    ((conv=>whnf)<;>repeat(with_reducible refine D1 ?_)<;>conv=>whnf)
    exact⟨[],[],_,_,_,t3,rfl,rfl,rfl⟩
  |some r=>
   rw[hr]at hg
   repeat'(first|((first|(refine⟨fun h=>?_,fun h=>?_⟩)|(refine nsplit (fun h=>?_) (fun h=>?_))|(refine bsplit (fun h=>?_) (fun h=>?_)))<;>((conv=>whnf)<;>repeat(with_reducible refine D1 ?_)<;>conv=>whnf)))
   all_goals first|(exfalso;simp at*;omega)|skip
   all_goals
    refine⟨[],[],_,_,_,_,hg,t3,?_⟩
    rintro r o' c' ⟨rfl,rfl,rfl⟩
    ((conv=>whnf)<;>repeat(with_reducible refine D1 ?_)<;>conv=>whnf)
    repeat'(first|((first|(refine⟨fun h=>?_,fun h=>?_⟩)|(refine nsplit (fun h=>?_) (fun h=>?_))|(refine bsplit (fun h=>?_) (fun h=>?_)))<;>((conv=>whnf)<;>repeat(with_reducible refine D1 ?_)<;>conv=>whnf)))
    all_goals
     refine⟨[],[],?_⟩
     iterate 3 constructor
     refine⟨⟨?_,?_,?_⟩,rfl,rfl,rfl⟩
     all_goals(repeat' first|with_reducible exact Lz.rfl|exact Lw.rfl|exact Lz.wrap (by omega)|(unfold goInt;with_reducible exact Lz.rfl)|exact flx _|constructor)
     exact Lz.int (by simp at*;omega)
end Go.M
namespace Go.M
open Go Go.Proofs
set_option maxRecDepth 100000
set_option maxHeartbeats 4000000
def insBy {α:Type} (key:α→Int) (x:α):List α→List α
 |[]=>[x]
 |a::l=>if key a<key x then a::insBy key x l else if key a=key x then x::l else x::a::l
theorem insBy_at {α:Type} {key:α→Int} {x:α} {l:List α} {i:Nat} (h0:∀a∈l.take i,key a<key x) (h:i<l.length) (h1:¬key l[i]<key x):
 insBy key x l=l.take i++x::l.drop (if key l[i]=key x then i+1 else i):=by
 induction l generalizing i with
 |nil=>simp at h
 |cons a l ih=>
  cases i with
  |zero=>
   have h1:¬key a<key x:=h1
   show(if key a<key x then _ else _)=_
   rw[if_neg h1]
   show _=x::(a::l).drop (if key a=key x then 0+1 else 0)
   split<;>rfl
  |succ i=>
   have ha:key a<key x:=h0 a (by simp)
   have h:i<l.length:=Nat.lt_of_succ_lt_succ h
   show(if key a<key x then _ else _)=_
   rw[if_pos ha,ih (i:=i) (fun b m=>h0 b (by simp[m])) h (by simpa using h1)]
   show _=a::(l.take i++x::(a::l).drop (if key l[i]=key x then i+1+1 else i+1))
   split<;>rfl
theorem insBy_end {α:Type} {key:α→Int} {x:α} {l:List α} (h0:∀a∈l,key a<key x):insBy key x l=l++[x]:=by
 induction l with
 |nil=>rfl
 |cons a l ih=>
  show(if key a<key x then _ else _)=_
  rw[if_pos (h0 a (by simp)),ih fun b m=>h0 b (by simp[m])];rfl
@[reducible] def keyRow (r:RowS):Int:=r.client
theorem rput16_ok (l:List RowS) (x:RowS) (hn:l.length<1000):VC EZ 76 0 [rowsL l,.agg (encR x)] [] (RR (rowsL (insBy keyRow x l)) 0 []):=by
 refine VC.enterR LZ (show EZ.func 76=some Tryz.f76 by kernel_rfl) (fun _ _=>rfl) rfl rfl [] ?_
 ((conv=>whnf)<;>repeat(with_reducible refine D1 ?_)<;>conv=>whnf)
 refine⟨fun k' f o cc=>∃i:Nat,i≤l.length∧k'=l.length - i∧(∀b∈l.take i,keyRow b<keyRow x)∧cc=2∧f=[(0,.sl 5 (l.map encR) false),(3,.ptr 0 0),(5,.tk 1),(6,.s (.int .i64 i))]∧o=[(0,.cells (encR x)),(1,.arr 5 true ((l.take i).map encR))],⟨l.length,?_⟩,?_⟩
 ·exact⟨[],[some 0,none],_,_,_,t3,⟨0,Nat.zero_le _,rfl,by simp,rfl,rfl,rfl⟩⟩
 ·rintro k' f1 o1 c1 ⟨i,hi,rfl,h0,rfl,rfl,rfl⟩
  ((conv=>whnf)<;>repeat(with_reducible refine D1 ?_)<;>conv=>whnf)
  (first|refine⟨?_,?_⟩|refine nsplit ?_ ?_|refine bsplit ?_ ?_)<;>intro h<;>have hz_:=True.intro<;>clear hz_
  ·have h:i<l.length:=lenlt.1 h
   ((conv=>whnf)<;>repeat(with_reducible refine D1 ?_)<;>conv=>whnf)
   refine idxI h ?_
   ((conv=>whnf)<;>repeat(with_reducible refine D1 ?_)<;>conv=>whnf)
   (first|refine⟨?_,?_⟩|refine nsplit ?_ ?_|refine bsplit ?_ ?_)<;>intro he<;>have hz_:=True.intro<;>clear hz_
   ·have he:keyRow l[i]<keyRow x:=he
    ((conv=>whnf)<;>repeat(with_reducible refine D1 ?_)<;>conv=>whnf)
    refine idxI h ?_
    ((conv=>whnf)<;>repeat(with_reducible refine D1 ?_)<;>conv=>whnf)
    refine⟨by simp;omega,?_⟩
    ((conv=>whnf)<;>repeat(with_reducible refine D1 ?_)<;>conv=>whnf)
    refine⟨l.length - (i+1),?_,by omega⟩
    refine⟨[],[some 0,some 3],?_⟩
    iterate 3 constructor
    refine⟨⟨?_,?_,?_⟩,⟨i+1,h,rfl,take_all h h0 he,rfl,rfl,rfl⟩⟩
    all_goals(repeat' first|with_reducible exact Lz.rfl|exact Lw.rfl|exact Lz.wrap (by omega)|(unfold goInt;with_reducible exact Lz.rfl)|exact flx _|constructor)
    all_goals exact Lz.of (by rw[List.take_succ_eq_append_getElem h,List.map_append];rfl)
   ·have he:¬keyRow l[i]<keyRow x:=he
    rw[insBy_at h0 h he]
    ((conv=>whnf)<;>repeat(with_reducible refine D1 ?_)<;>conv=>whnf)
    refine⟨by simp;omega,?_⟩
    ((conv=>whnf)<;>repeat(with_reducible refine D1 ?_)<;>conv=>whnf)
    (first|refine⟨?_,?_⟩|refine nsplit ?_ ?_|refine bsplit ?_ ?_)<;>intro h2<;>have hz_:=True.intro<;>clear hz_
    ·((conv=>whnf)<;>repeat(with_reducible refine D1 ?_)<;>conv=>whnf)
     refine idxI h ?_
     ((conv=>whnf)<;>repeat(with_reducible refine D1 ?_)<;>conv=>whnf)
     (first|refine⟨?_,?_⟩|refine nsplit ?_ ?_|refine bsplit ?_ ?_)<;>intro h3<;>have hz_:=True.intro<;>clear hz_
     ·have h3:keyRow l[i]=keyRow x:=h3
      rw[if_pos h3]
      ((conv=>whnf)<;>repeat(with_reducible refine D1 ?_)<;>conv=>whnf)
      rw[show IntKind.i64.wrap ((i:Int)+1)=((i+1:Nat):Int)from wrap_small i (by omega)]
      refine⟨⟨by omega,by rw[List.length_map];omega,Int.le_refl _⟩,?_⟩
      ((conv=>whnf)<;>repeat(with_reducible refine D1 ?_)<;>conv=>whnf)
      refine⟨by simp;omega,?_⟩
      ((conv=>whnf)<;>repeat(with_reducible refine D1 ?_)<;>conv=>whnf)
      refine⟨[4],[],?_⟩
      iterate 3 constructor
      refine⟨⟨?_,?_,?_⟩,rfl,rfl,rfl⟩
      all_goals(repeat' first|with_reducible exact Lz.rfl|exact Lw.rfl|exact Lz.wrap (by omega)|(unfold goInt;with_reducible exact Lz.rfl)|exact flx _|constructor)
      all_goals exact Lz.of (by rw[Int.toNat_natCast,Int.toNat_natCast,List.take_length,←List.map_drop];simp)
     ·have h3:¬keyRow l[i]=keyRow x:=h3
      rw[if_neg h3]
      ((conv=>whnf)<;>repeat(with_reducible refine D1 ?_)<;>conv=>whnf)
      refine⟨⟨by omega,by rw[List.length_map];omega,Int.le_refl _⟩,?_⟩
      ((conv=>whnf)<;>repeat(with_reducible refine D1 ?_)<;>conv=>whnf)
      refine⟨by simp;omega,?_⟩
      ((conv=>whnf)<;>repeat(with_reducible refine D1 ?_)<;>conv=>whnf)
      refine⟨[4],[],?_⟩
      iterate 3 constructor
      refine⟨⟨?_,?_,?_⟩,rfl,rfl,rfl⟩
      all_goals(repeat' first|with_reducible exact Lz.rfl|exact Lw.rfl|exact Lz.wrap (by omega)|(unfold goInt;with_reducible exact Lz.rfl)|exact flx _|constructor)
      all_goals exact Lz.of (by rw[Int.toNat_natCast,Int.toNat_natCast,List.take_length,←List.map_drop];simp)
    ·exact absurd (lenlt.2 h) h2
  ·obtain rfl:i=l.length:=by have:=mt lenlt.2 h;omega
   rw[List.take_length]at h0
   rw[List.take_length]
   rw[insBy_end h0]
   ((conv=>whnf)<;>repeat(with_reducible refine D1 ?_)<;>conv=>whnf)
   refine⟨by simp;omega,?_⟩
   ((conv=>whnf)<;>repeat(with_reducible refine D1 ?_)<;>conv=>whnf)
   (first|refine⟨?_,?_⟩|refine nsplit ?_ ?_|refine bsplit ?_ ?_)<;>intro h2<;>have hz_:=True.intro<;>clear hz_
   ·exact absurd h2 h
   ·((conv=>whnf)<;>repeat(with_reducible refine D1 ?_)<;>conv=>whnf)
    refine⟨⟨by omega,by rw[List.length_map];omega,Int.le_refl _⟩,?_⟩
    ((conv=>whnf)<;>repeat(with_reducible refine D1 ?_)<;>conv=>whnf)
    refine⟨by simp;omega,?_⟩
    ((conv=>whnf)<;>repeat(with_reducible refine D1 ?_)<;>conv=>whnf)
    refine⟨[4],[],?_⟩
    iterate 3 constructor
    refine⟨⟨?_,?_,?_⟩,rfl,rfl,rfl⟩
    all_goals(repeat' first|with_reducible exact Lz.rfl|exact Lw.rfl|exact Lz.wrap (by omega)|(unfold goInt;with_reducible exact Lz.rfl)|exact flx _|constructor)
    all_goals exact Lz.of (by rw[Int.toNat_natCast,Int.toNat_natCast,List.take_length,←List.map_drop];simp)
@[reducible] def keyBl (b:Int×List Vs):Int:=b.1
theorem rwith_ok (l:List (Int×List Vs)) (x:Int×List Vs) (hn:l.length<1000):VC EZ 75 0 [.sl 2 (l.map encBl) false,.agg (encBl x)] [] (RR (.sl 2 ((insBy keyBl x l).map encBl) false) 0 []):=by
 refine VC.enterR LZ (show EZ.func 75=some Tryz.f75 by kernel_rfl) (fun _ _=>rfl) rfl rfl [] ?_
 ((conv=>whnf)<;>repeat(with_reducible refine D1 ?_)<;>conv=>whnf)
 refine⟨fun k' f o cc=>∃i:Nat,i≤l.length∧k'=l.length - i∧(∀b∈l.take i,keyBl b<keyBl x)∧cc=2∧f=[(0,.sl 2 (l.map encBl) false),(3,.ptr 0 0),(5,.tk 1),(6,.s (.int .i64 i))]∧o=[(0,.cells (encBl x)),(1,.arr 2 true ((l.take i).map encBl))],⟨l.length,?_⟩,?_⟩
 ·exact⟨[],[some 0,none],_,_,_,t3,⟨0,Nat.zero_le _,rfl,by simp,rfl,rfl,rfl⟩⟩
 ·rintro k' f1 o1 c1 ⟨i,hi,rfl,h0,rfl,rfl,rfl⟩
  ((conv=>whnf)<;>repeat(with_reducible refine D1 ?_)<;>conv=>whnf)
  (first|refine⟨?_,?_⟩|refine nsplit ?_ ?_|refine bsplit ?_ ?_)<;>intro h<;>have hz_:=True.intro<;>clear hz_
  ·have h:i<l.length:=lenlt.1 h
   ((conv=>whnf)<;>repeat(with_reducible refine D1 ?_)<;>conv=>whnf)
   refine idxI h ?_
   ((conv=>whnf)<;>repeat(with_reducible refine D1 ?_)<;>conv=>whnf)
   (first|refine⟨?_,?_⟩|refine nsplit ?_ ?_|refine bsplit ?_ ?_)<;>intro he<;>have hz_:=True.intro<;>clear hz_
   ·have he:keyBl l[i]<keyBl x:=he
    ((conv=>whnf)<;>repeat(with_reducible refine D1 ?_)<;>conv=>whnf)
    refine idxI h ?_
    ((conv=>whnf)<;>repeat(with_reducible refine D1 ?_)<;>conv=>whnf)
    refine⟨by simp;omega,?_⟩
    ((conv=>whnf)<;>repeat(with_reducible refine D1 ?_)<;>conv=>whnf)
    refine⟨l.length - (i+1),?_,by omega⟩
    refine⟨[],[some 0,some 3],?_⟩
    iterate 3 constructor
    refine⟨⟨?_,?_,?_⟩,⟨i+1,h,rfl,take_all h h0 he,rfl,rfl,rfl⟩⟩
    all_goals(repeat' first|with_reducible exact Lz.rfl|exact Lw.rfl|exact Lz.wrap (by omega)|(unfold goInt;with_reducible exact Lz.rfl)|exact flx _|constructor)
    all_goals exact Lz.of (by rw[List.take_succ_eq_append_getElem h,List.map_append];rfl)
   ·have he:¬keyBl l[i]<keyBl x:=he
    rw[insBy_at h0 h he]
    ((conv=>whnf)<;>repeat(with_reducible refine D1 ?_)<;>conv=>whnf)
    refine⟨by simp;omega,?_⟩
    ((conv=>whnf)<;>repeat(with_reducible refine D1 ?_)<;>conv=>whnf)
    (first|refine⟨?_,?_⟩|refine nsplit ?_ ?_|refine bsplit ?_ ?_)<;>intro h2<;>have hz_:=True.intro<;>clear hz_
    ·((conv=>whnf)<;>repeat(with_reducible refine D1 ?_)<;>conv=>whnf)
     refine idxI h ?_
     ((conv=>whnf)<;>repeat(with_reducible refine D1 ?_)<;>conv=>whnf)
     (first|refine⟨?_,?_⟩|refine nsplit ?_ ?_|refine bsplit ?_ ?_)<;>intro h3<;>have hz_:=True.intro<;>clear hz_
     ·have h3:keyBl l[i]=keyBl x:=h3
      rw[if_pos h3]
      ((conv=>whnf)<;>repeat(with_reducible refine D1 ?_)<;>conv=>whnf)
      rw[show IntKind.i64.wrap ((i:Int)+1)=((i+1:Nat):Int)from wrap_small i (by omega)]
      refine⟨⟨by omega,by rw[List.length_map];omega,Int.le_refl _⟩,?_⟩
      ((conv=>whnf)<;>repeat(with_reducible refine D1 ?_)<;>conv=>whnf)
      refine⟨by simp;omega,?_⟩
      ((conv=>whnf)<;>repeat(with_reducible refine D1 ?_)<;>conv=>whnf)
      refine⟨[4],[],?_⟩
      iterate 3 constructor
      refine⟨⟨?_,?_,?_⟩,rfl,rfl,rfl⟩
      all_goals(repeat' first|with_reducible exact Lz.rfl|exact Lw.rfl|exact Lz.wrap (by omega)|(unfold goInt;with_reducible exact Lz.rfl)|exact flx _|constructor)
      all_goals exact Lz.of (by rw[Int.toNat_natCast,Int.toNat_natCast,List.take_length,←List.map_drop];simp)
     ·have h3:¬keyBl l[i]=keyBl x:=h3
      rw[if_neg h3]
      ((conv=>whnf)<;>repeat(with_reducible refine D1 ?_)<;>conv=>whnf)
      refine⟨⟨by omega,by rw[List.length_map];omega,Int.le_refl _⟩,?_⟩
      ((conv=>whnf)<;>repeat(with_reducible refine D1 ?_)<;>conv=>whnf)
      refine⟨by simp;omega,?_⟩
      ((conv=>whnf)<;>repeat(with_reducible refine D1 ?_)<;>conv=>whnf)
      refine⟨[4],[],?_⟩
      iterate 3 constructor
      refine⟨⟨?_,?_,?_⟩,rfl,rfl,rfl⟩
      all_goals(repeat' first|with_reducible exact Lz.rfl|exact Lw.rfl|exact Lz.wrap (by omega)|(unfold goInt;with_reducible exact Lz.rfl)|exact flx _|constructor)
      all_goals exact Lz.of (by rw[Int.toNat_natCast,Int.toNat_natCast,List.take_length,←List.map_drop];simp)
    ·exact absurd (lenlt.2 h) h2
  ·obtain rfl:i=l.length:=by have:=mt lenlt.2 h;omega
   rw[List.take_length]at h0
   rw[List.take_length]
   rw[insBy_end h0]
   ((conv=>whnf)<;>repeat(with_reducible refine D1 ?_)<;>conv=>whnf)
   refine⟨by simp;omega,?_⟩
   ((conv=>whnf)<;>repeat(with_reducible refine D1 ?_)<;>conv=>whnf)
   (first|refine⟨?_,?_⟩|refine nsplit ?_ ?_|refine bsplit ?_ ?_)<;>intro h2<;>have hz_:=True.intro<;>clear hz_
   ·exact absurd h2 h
   ·((conv=>whnf)<;>repeat(with_reducible refine D1 ?_)<;>conv=>whnf)
    refine⟨⟨by omega,by rw[List.length_map];omega,Int.le_refl _⟩,?_⟩
    ((conv=>whnf)<;>repeat(with_reducible refine D1 ?_)<;>conv=>whnf)
    refine⟨by simp;omega,?_⟩
    ((conv=>whnf)<;>repeat(with_reducible refine D1 ?_)<;>conv=>whnf)
    refine⟨[4],[],?_⟩
    iterate 3 constructor
    refine⟨⟨?_,?_,?_⟩,rfl,rfl,rfl⟩
    all_goals(repeat' first|with_reducible exact Lz.rfl|exact Lw.rfl|exact Lz.wrap (by omega)|(unfold goInt;with_reducible exact Lz.rfl)|exact flx _|constructor)
    all_goals exact Lz.of (by rw[Int.toNat_natCast,Int.toNat_natCast,List.take_length,←List.map_drop];simp)
end Go.M
namespace Go.M
open Go Go.Proofs
set_option maxRecDepth 100000
set_option maxHeartbeats 4000000
theorem find_at {α:Type} {p:α→Bool} {l:List α} {i:Nat} (h:i<l.length) (h0:∀a∈l.take i,¬p a=true) (hk:p l[i]=true):l.find? p=some l[i]:=by
 rw[List.find?_eq_some_iff_append]
 exact⟨hk,l.take i,l.drop (i+1),(List.take_append_drop i l).symm.trans (by rw[List.drop_eq_getElem_cons h]),fun a m=>by simpa using h0 a m⟩
def cleanR (vs:List Vs) (d:Int):Vs:=lastV (vs.filter fun v=>decide (v.seq≤d))
theorem cleanR_next {vs:List Vs} {d:Int} {i:Nat} (h:i<vs.length):cleanR (vs.take (i+1)) d=if vs[i].seq≤d then vs[i]else cleanR (vs.take i) d:=by
 unfold cleanR
 rw[List.take_succ_eq_append_getElem h,List.filter_append]
 split
 ·rename_i q;rw[List.filter_cons_of_pos (by simpa using q),List.filter_nil,lastV_end]
 ·rename_i q;rw[List.filter_cons_of_neg (by simpa using q),List.filter_nil,List.append_nil]
theorem rclean_ok (vs:List Vs) (d:Int) (hn:vs.length<1000000):VC EZ 97 0 [vsL vs,.s (.int .u64 d)] [] (RR (.agg (encV (cleanR vs d))) 0 []):=by
 refine VC.enterR LZ (show EZ.func 97=some Tryz.f97 by kernel_rfl) (fun _ _=>rfl) rfl rfl [] ?_
 ((conv=>whnf)<;>repeat(with_reducible refine D1 ?_)<;>conv=>whnf)
 refine⟨fun k' f o cc=>∃i:Nat,i≤vs.length∧k'=vs.length - i∧cc=2∧f=[(0,vsL vs),(1,.s (.int .u64 d)),(4,.ptr 0 0),(5,.ptr 1 0),(6,.s (.int .i64 i))]∧o=[(0,.cells (encV zeroVs)),(1,.cells (encV (cleanR (vs.take i) d)))],⟨vs.length,?_⟩,?_⟩
 ·exact⟨[],[some 0,some 1],_,_,_,t3,⟨0,Nat.zero_le _,rfl,rfl,rfl,rfl⟩⟩
 ·rintro k' f1 o1 c1 ⟨i,hi,rfl,rfl,rfl,rfl⟩
  ((conv=>whnf)<;>repeat(with_reducible refine D1 ?_)<;>conv=>whnf)
  (first|refine⟨?_,?_⟩|refine nsplit ?_ ?_|refine bsplit ?_ ?_)<;>intro h<;>have hz_:=True.intro<;>clear hz_
  ·have h:i<vs.length:=lenlt.1 h
   have hnx:=cleanR_next (d:=d) h
   ((conv=>whnf)<;>repeat(with_reducible refine D1 ?_)<;>conv=>whnf)
   refine idxI h ?_
   ((conv=>whnf)<;>repeat(with_reducible refine D1 ?_)<;>conv=>whnf)
   (first|refine⟨?_,?_⟩|refine nsplit ?_ ?_|refine bsplit ?_ ?_)<;>intro he<;>have hz_:=True.intro<;>clear hz_
   ·have he:vs[i].seq≤d:=he
    rw[if_pos he]at hnx
    ((conv=>whnf)<;>repeat(with_reducible refine D1 ?_)<;>conv=>whnf)
    refine idxI h ?_
    ((conv=>whnf)<;>repeat(with_reducible refine D1 ?_)<;>conv=>whnf)
    refine⟨vs.length - (i+1),?_,by omega⟩
    rw[←hnx]
    exact⟨[],[some 0,some 1],_,_,_,t3,⟨i+1,h,rfl,rfl,rfl,rfl⟩⟩
   ·have he:¬vs[i].seq≤d:=he
    rw[if_neg he]at hnx
    ((conv=>whnf)<;>repeat(with_reducible refine D1 ?_)<;>conv=>whnf)
    refine⟨vs.length - (i+1),?_,by omega⟩
    rw[←hnx]
    exact⟨[],[some 0,some 1],_,_,_,t3,⟨i+1,h,rfl,rfl,rfl,rfl⟩⟩
  ·obtain rfl:i=vs.length:=by have:=mt lenlt.2 h;omega
   rw[List.take_length]
   ((conv=>whnf)<;>repeat(with_reducible refine D1 ?_)<;>conv=>whnf)
   exact⟨[],[],_,_,_,t3,rfl,rfl,rfl⟩
theorem rdirty_ok (vs:List Vs) (d:Int) (hn:vs.length<1000000):VC EZ 80 0 [vsL vs,.s (.int .u64 d)] [] (RR (.s (.bool (decide (0<vs.length∧d<(lastV vs).seq)))) 0 []):=by
 have hl:=rlast_ok vs hn
 refine VC.enterR LZ (show EZ.func 80=some Tryz.f80 by kernel_rfl) (fun _ _=>rfl) rfl rfl [] ?_
 ((conv=>whnf)<;>repeat(with_reducible refine D1 ?_)<;>conv=>whnf)
 (first|refine⟨?_,?_⟩|refine nsplit ?_ ?_|refine bsplit ?_ ?_)<;>intro h<;>have hz_:=True.intro<;>clear hz_
 ·have h:0<vs.length:=by have h:(0:Int)<(((vs.map encV).length:Nat):Int):=h
                         rw[List.length_map]at h;omega
  ((conv=>whnf)<;>repeat(with_reducible refine D1 ?_)<;>conv=>whnf)
  refine⟨[],[],_,_,_,_,hl,t3,?_⟩
  rintro r o' c' ⟨rfl,rfl,rfl⟩
  ((conv=>whnf)<;>repeat(with_reducible refine D1 ?_)<;>conv=>whnf)
  (first|refine⟨?_,?_⟩|refine nsplit ?_ ?_|refine bsplit ?_ ?_)<;>intro h2<;>have hz_:=True.intro<;>clear hz_
  ·have h2:d<(lastV vs).seq:=h2
   ((conv=>whnf)<;>repeat(with_reducible refine D1 ?_)<;>conv=>whnf)
   refine⟨[],[],?_⟩
   iterate 3 constructor
   refine⟨⟨?_,?_,?_⟩,rfl,rfl,rfl⟩
   all_goals(repeat' first|with_reducible exact Lz.rfl|exact Lw.rfl|exact Lz.wrap (by omega)|(unfold goInt;with_reducible exact Lz.rfl)|exact flx _|constructor)
   exact Lz.of (bool_eq (decide_eq_true ⟨h,h2⟩).symm)
  ·have h2:¬d<(lastV vs).seq:=h2
   ((conv=>whnf)<;>repeat(with_reducible refine D1 ?_)<;>conv=>whnf)
   refine⟨[],[],?_⟩
   iterate 3 constructor
   refine⟨⟨?_,?_,?_⟩,rfl,rfl,rfl⟩
   all_goals(repeat' first|with_reducible exact Lz.rfl|exact Lw.rfl|exact Lz.wrap (by omega)|(unfold goInt;with_reducible exact Lz.rfl)|exact flx _|constructor)
   exact Lz.of (bool_eq (decide_eq_false fun q=>h2 q.2).symm)
 ·have h:¬0<vs.length:=fun q=>h (show(0:Int)<(((vs.map encV).length:Nat):Int) by rw[List.length_map];omega)
  ((conv=>whnf)<;>repeat(with_reducible refine D1 ?_)<;>conv=>whnf)
  refine⟨[],[],?_⟩
  iterate 3 constructor
  refine⟨⟨?_,?_,?_⟩,rfl,rfl,rfl⟩
  all_goals(repeat' first|with_reducible exact Lz.rfl|exact Lw.rfl|exact Lz.wrap (by omega)|(unfold goInt;with_reducible exact Lz.rfl)|exact flx _|constructor)
  exact Lz.of (bool_eq (decide_eq_false fun q=>h q.1).symm)
def pickR (vs:List Vs) (v d:Int):Vs:=match vs.find? fun x=>decide (x.ver=v)with
 |some x=>x
 |none=>if v<(cleanR vs d).ver then cleanR vs d else zeroVs
theorem rpick_ok (vs:List Vs) (v d:Int) (hn:vs.length<1000000):VC EZ 81 0 [vsL vs,.s (.int .u64 v),.s (.int .u64 d)] [] (RR (.agg (encV (pickR vs v d))) 0 []):=by
 refine VC.enterR LZ (show EZ.func 81=some Tryz.f81 by kernel_rfl) (fun _ _=>rfl) rfl rfl [] ?_
 ((conv=>whnf)<;>repeat(with_reducible refine D1 ?_)<;>conv=>whnf)
 refine⟨fun k' f o cc=>∃i:Nat,i≤vs.length∧k'=vs.length - i∧(∀x∈vs.take i,¬decide (x.ver=v)=true)∧cc=1∧f=[(0,vsL vs),(1,.s (.int .u64 v)),(2,.s (.int .u64 d)),(6,.ptr 0 0),(7,.s (.int .i64 i))]∧o=[(0,.cells (encV zeroVs))],⟨vs.length,?_⟩,?_⟩
 ·exact⟨[],[some 0],_,_,_,t3,⟨0,Nat.zero_le _,rfl,by simp,rfl,rfl,rfl⟩⟩
 ·rintro k' f1 o1 c1 ⟨i,hi,rfl,h0,rfl,rfl,rfl⟩
  ((conv=>whnf)<;>repeat(with_reducible refine D1 ?_)<;>conv=>whnf)
  (first|refine⟨?_,?_⟩|refine nsplit ?_ ?_|refine bsplit ?_ ?_)<;>intro h<;>have hz_:=True.intro<;>clear hz_
  ·have h:i<vs.length:=lenlt.1 h
   ((conv=>whnf)<;>repeat(with_reducible refine D1 ?_)<;>conv=>whnf)
   refine idxI h ?_
   ((conv=>whnf)<;>repeat(with_reducible refine D1 ?_)<;>conv=>whnf)
   (first|refine⟨?_,?_⟩|refine nsplit ?_ ?_|refine bsplit ?_ ?_)<;>intro he<;>have hz_:=True.intro<;>clear hz_
   ·have he:vs[i].ver=v:=he
    rw[show pickR vs v d=vs[i]from by unfold pickR;rw[find_at h h0 (by simpa using he)]]
    ((conv=>whnf)<;>repeat(with_reducible refine D1 ?_)<;>conv=>whnf)
    refine idxI h ?_
    ((conv=>whnf)<;>repeat(with_reducible refine D1 ?_)<;>conv=>whnf)
    exact⟨[],[],_,_,_,t3,rfl,rfl,rfl⟩
   ·have he:¬vs[i].ver=v:=he
    ((conv=>whnf)<;>repeat(with_reducible refine D1 ?_)<;>conv=>whnf)
    refine⟨vs.length - (i+1),?_,by omega⟩
    exact⟨[],[some 0],_,_,_,t3,⟨i+1,h,rfl,take_all h h0 (by simpa using he),rfl,rfl,rfl⟩⟩
  ·obtain rfl:i=vs.length:=by have:=mt lenlt.2 h;omega
   rw[List.take_length]at h0
   have hno:vs.find? (fun x=>decide (x.ver=v))=none:=List.find?_eq_none.2 h0
   have hc:=rclean_ok vs d hn
   rw[show pickR vs v d=if v<(cleanR vs d).ver then cleanR vs d else zeroVs from by unfold pickR;rw[hno]]
   generalize cleanR vs d=c at hc
   ((conv=>whnf)<;>repeat(with_reducible refine D1 ?_)<;>conv=>whnf)
   refine⟨[],[],_,_,_,_,hc,t3,?_⟩
   rintro r o' c' ⟨rfl,rfl,rfl⟩
   ((conv=>whnf)<;>repeat(with_reducible refine D1 ?_)<;>conv=>whnf)
   (first|refine⟨?_,?_⟩|refine nsplit ?_ ?_|refine bsplit ?_ ?_)<;>intro h2<;>have hz_:=True.intro<;>clear hz_
   ·have h2:v<c.ver:=h2
    rw[if_pos h2]
    ((conv=>whnf)<;>repeat(with_reducible refine D1 ?_)<;>conv=>whnf)
    exact⟨[],[],_,_,_,t3,rfl,rfl,rfl⟩
   ·have h2:¬v<c.ver:=h2
    rw[if_neg h2]
    ((conv=>whnf)<;>repeat(with_reducible refine D1 ?_)<;>conv=>whnf)
    exact⟨[],[],_,_,_,t3,rfl,rfl,rfl⟩
def keepR (c:Vs) (vs:List Vs):List Vs:=vs.filter fun v=>decide (c.seq≤v.seq)
theorem keepR_next {vs:List Vs} {c:Vs} {i:Nat} (h:i<vs.length):keepR c (vs.take (i+1))=if c.seq≤vs[i].seq then keepR c (vs.take i)++[vs[i]]else keepR c (vs.take i):=by
 unfold keepR
 rw[List.take_succ_eq_append_getElem h,List.filter_append]
 split
 ·rename_i q;rw[List.filter_cons_of_pos (by simpa using q),List.filter_nil]
 ·rename_i q;rw[List.filter_cons_of_neg (by simpa using q),List.filter_nil,List.append_nil]
theorem keepR_len (c:Vs) (vs:List Vs):(keepR c vs).length≤vs.length:=List.length_filter_le ..
theorem rtrim_ok (vs:List Vs) (d:Int) (hn:vs.length<1000):VC EZ 79 0 [vsL vs,.s (.int .u64 d)] [] (RR (.tup [vsL (keepR (cleanR vs d) vs),.s (.int .i64 ((vs.length - (keepR (cleanR vs d) vs).length:Nat):Int))]) 0 []):=by
 have hc:=rclean_ok vs d (by omega)
 generalize cleanR vs d=c at hc
 refine VC.enterR LZ (show EZ.func 79=some Tryz.f79 by kernel_rfl) (fun _ _=>rfl) rfl rfl [] ?_
 ((conv=>whnf)<;>repeat(with_reducible refine D1 ?_)<;>conv=>whnf)
 refine⟨[],[],_,_,_,_,hc,t3,?_⟩
 rintro r o' c' ⟨rfl,rfl,rfl⟩
 ((conv=>whnf)<;>repeat(with_reducible refine D1 ?_)<;>conv=>whnf)
 refine⟨fun k' f o cc=>∃i:Nat,i≤vs.length∧k'=vs.length - i∧cc=2∧f=[(0,vsL vs),(6,.ptr 0 0),(7,.tk 1),(8,.s (.int .i64 i))]∧o=[(0,.cells (encV c)),(1,.arr 3 true ((keepR c (vs.take i)).map encV))],⟨vs.length,?_⟩,?_⟩
 ·exact⟨[],[some 0,none],_,_,_,t3,⟨0,Nat.zero_le _,rfl,rfl,rfl,rfl⟩⟩
 ·rintro k' f1 o1 c1 ⟨i,hi,rfl,rfl,rfl,rfl⟩
  ((conv=>whnf)<;>repeat(with_reducible refine D1 ?_)<;>conv=>whnf)
  (first|refine⟨?_,?_⟩|refine nsplit ?_ ?_|refine bsplit ?_ ?_)<;>intro h<;>have hz_:=True.intro<;>clear hz_
  ·have h:i<vs.length:=lenlt.1 h
   have hnx:=keepR_next (c:=c) h
   have hkl:=keepR_len c (vs.take i)
   rw[List.length_take]at hkl
   ((conv=>whnf)<;>repeat(with_reducible refine D1 ?_)<;>conv=>whnf)
   refine idxI h ?_
   ((conv=>whnf)<;>repeat(with_reducible refine D1 ?_)<;>conv=>whnf)
   (first|refine⟨?_,?_⟩|refine nsplit ?_ ?_|refine bsplit ?_ ?_)<;>intro he<;>have hz_:=True.intro<;>clear hz_
   ·have he:c.seq≤vs[i].seq:=he
    rw[if_pos he]at hnx
    ((conv=>whnf)<;>repeat(with_reducible refine D1 ?_)<;>conv=>whnf)
    refine idxI h ?_
    ((conv=>whnf)<;>repeat(with_reducible refine D1 ?_)<;>conv=>whnf)
    refine⟨by simp;omega,?_⟩
    ((conv=>whnf)<;>repeat(with_reducible refine D1 ?_)<;>conv=>whnf)
    refine⟨vs.length - (i+1),?_,by omega⟩
    refine⟨[],[some 0,some 3],?_⟩
    iterate 3 constructor
    refine⟨⟨?_,?_,?_⟩,⟨i+1,h,rfl,rfl,rfl,rfl⟩⟩
    all_goals(repeat' first|with_reducible exact Lz.rfl|exact Lw.rfl|exact Lz.wrap (by omega)|(unfold goInt;with_reducible exact Lz.rfl)|exact flx _|constructor)
    all_goals exact Lz.of (by rw[hnx,List.map_append];rfl)
   ·have he:¬c.seq≤vs[i].seq:=he
    rw[if_neg he]at hnx
    ((conv=>whnf)<;>repeat(with_reducible refine D1 ?_)<;>conv=>whnf)
    refine⟨vs.length - (i+1),?_,by omega⟩
    rw[←hnx]
    exact⟨[],[some 0,some 1],_,_,_,t3,⟨i+1,h,rfl,rfl,rfl,rfl⟩⟩
  ·obtain rfl:i=vs.length:=by have:=mt lenlt.2 h;omega
   rw[List.take_length]
   have hkl:=keepR_len c vs
   ((conv=>whnf)<;>repeat(with_reducible refine D1 ?_)<;>conv=>whnf)
   refine⟨[1],[],?_⟩
   iterate 3 constructor
   refine⟨⟨?_,?_,?_⟩,rfl,rfl,rfl⟩
   all_goals(repeat' first|with_reducible exact Lz.rfl|exact Lw.rfl|exact Lz.wrap (by omega)|(unfold goInt;with_reducible exact Lz.rfl)|exact flx _|constructor)
   all_goals exact Lz.int (by rw[List.length_map,List.length_map,IntWalk.i64_in _ (by omega)];omega)
end Go.M
namespace Go.M
open Go Go.Proofs
set_option maxRecDepth 100000
set_option maxHeartbeats 4000000
@[reducible] def encA2 (q:Vs×Bool):TV:=.tup [.agg (encV q.1),.s (.bool q.2)]
@[reducible] def nowS (s:StS) (k d:Int):Vs×Bool:=if 0<(ofK s k).length∧d<(lastV (ofK s k)).seq then(zeroVs,false)else(lastV (ofK s k),true)
theorem now_ok (s:StS) (k d:Int) (H:SOk s):VC EZ 30 2 [.ptr 0 0,.s (.int .u32 k),.s (.int .u64 d)] (stO s) (RR (encA2 (nowS s k d)) 2 (stO s)):=by
 have hd:=dirty_ok s k d H
 have hl:=last_ok s k H
 by_cases h:0<(ofK s k).length∧d<(lastV (ofK s k)).seq
 ·rw[decide_eq_true h]at hd
  rw[show nowS s k d=(zeroVs,false)from if_pos h]
  refine VC.enterR LZ (show EZ.func 30=some Tryz.f30 by kernel_rfl) (fun _ _=>rfl) rfl rfl [] ?_
  ((conv=>whnf)<;>repeat(with_reducible refine D1 ?_)<;>conv=>whnf)
  refine⟨[],[some 0,some 1],_,_,_,_,hd,t3,?_⟩
  rintro r o' c' ⟨rfl,rfl,rfl⟩
  ((conv=>whnf)<;>repeat(with_reducible refine D1 ?_)<;>conv=>whnf)
  exact⟨[],[some 0,some 1],_,_,_,t3,rfl,rfl,rfl⟩
 ·rw[decide_eq_false h]at hd
  rw[show nowS s k d=(lastV (ofK s k),true)from if_neg h]
  refine VC.enterR LZ (show EZ.func 30=some Tryz.f30 by kernel_rfl) (fun _ _=>rfl) rfl rfl [] ?_
  ((conv=>whnf)<;>repeat(with_reducible refine D1 ?_)<;>conv=>whnf)
  refine⟨[],[some 0,some 1],_,_,_,_,hd,t3,?_⟩
  rintro r o' c' ⟨rfl,rfl,rfl⟩
  ((conv=>whnf)<;>repeat(with_reducible refine D1 ?_)<;>conv=>whnf)
  refine⟨[],[some 0,some 1],_,_,_,_,hl,t3,?_⟩
  rintro r o' c' ⟨rfl,rfl,rfl⟩
  ((conv=>whnf)<;>repeat(with_reducible refine D1 ?_)<;>conv=>whnf)
  exact⟨[],[some 0,some 1],_,_,_,t3,rfl,rfl,rfl⟩
@[reducible] def thenS (s:StS) (k v d:Int):Vs×Bool:=(pickV (ofK s k) v d,decide (v=0∨(pickV (ofK s k) v d).ver≠0))
theorem then_ok (s:StS) (k v d:Int) (H:SOk s):VC EZ 32 2 [.ptr 0 0,.s (.int .u32 k),.s (.int .u64 v),.s (.int .u64 d)] (stO s) (RR (encA2 (thenS s k v d)) 2 (stO s)):=by
 have hp:=pick_ok s k v d H
 show VC EZ _ _ _ _ (RR (.tup [.agg (encV (pickV (ofK s k) v d)),.s (.bool (decide (v=0∨(pickV (ofK s k) v d).ver≠0)))]) _ _)
 generalize pickV (ofK s k) v d=p at hp
 refine VC.enterR LZ (show EZ.func 32=some Tryz.f32 by kernel_rfl) (fun _ _=>rfl) rfl rfl [] ?_
 ((conv=>whnf)<;>repeat(with_reducible refine D1 ?_)<;>conv=>whnf)
 refine⟨[],[some 0,some 1],_,_,_,_,hp,t3,?_⟩
 rintro r o' c' ⟨rfl,rfl,rfl⟩
 ((conv=>whnf)<;>repeat(with_reducible refine D1 ?_)<;>conv=>whnf)
 (first|refine⟨?_,?_⟩|refine nsplit ?_ ?_|refine bsplit ?_ ?_)<;>intro h0<;>have hz_:=True.intro<;>clear hz_
 ·((conv=>whnf)<;>repeat(with_reducible refine D1 ?_)<;>conv=>whnf)
  refine⟨[],[some 0,some 1],?_⟩
  iterate 3 constructor
  refine⟨⟨?_,?_,?_⟩,rfl,rfl,rfl⟩
  all_goals(repeat' first|with_reducible exact Lz.rfl|exact Lw.rfl|exact Lz.wrap (by omega)|(unfold goInt;with_reducible exact Lz.rfl)|exact flx _|constructor)
  exact Lz.of (bool_eq (by have h0:v=0:=h0
                           simp[h0]))
 ·((conv=>whnf)<;>repeat(with_reducible refine D1 ?_)<;>conv=>whnf)
  (first|refine⟨?_,?_⟩|refine nsplit ?_ ?_|refine bsplit ?_ ?_)<;>intro h1<;>have hz_:=True.intro<;>clear hz_
  ·((conv=>whnf)<;>repeat(with_reducible refine D1 ?_)<;>conv=>whnf)
   refine⟨[],[some 0,some 1],?_⟩
   iterate 3 constructor
   refine⟨⟨?_,?_,?_⟩,rfl,rfl,rfl⟩
   all_goals(repeat' first|with_reducible exact Lz.rfl|exact Lw.rfl|exact Lz.wrap (by omega)|(unfold goInt;with_reducible exact Lz.rfl)|exact flx _|constructor)
   exact Lz.of (bool_eq (by have h1:p.ver≠0:=h1
                            simp[h1]))
  ·((conv=>whnf)<;>repeat(with_reducible refine D1 ?_)<;>conv=>whnf)
   refine⟨[],[some 0,some 1],?_⟩
   iterate 3 constructor
   refine⟨⟨?_,?_,?_⟩,rfl,rfl,rfl⟩
   all_goals(repeat' first|with_reducible exact Lz.rfl|exact Lw.rfl|exact Lz.wrap (by omega)|(unfold goInt;with_reducible exact Lz.rfl)|exact flx _|constructor)
   exact Lz.of (bool_eq (by have h0:¬v=0:=h0
                            have h1:p.ver=0:=Decidable.not_not.1 h1
                            simp[h0,h1]))
end Go.M
namespace Go.M
open Go
noncomputable def eqB {α:Type} (a b:α):Bool:=@decide (a=b) (Classical.propDecidable _)
end Go.M
namespace Go.M
open Go Go.Proofs
set_option maxRecDepth 100000
set_option maxHeartbeats 4000000
theorem rput_ok (vs:List Vs) (v:Vs) (hv:0≤v.ver∧v.ver≤18446744073709551615) (hn:vs.length<1000):VC EZ 73 0 [vsL vs,.agg (encV v)] [] (RR (.tup [vsL (putB vs v),.s (.int .i64 (putE vs v))]) 0 []):=by
 have hl:=rlast_ok vs (by omega)
 refine VC.enterR LZ (show EZ.func 73=some Tryz.f73 by kernel_rfl) (fun _ _=>rfl) rfl rfl [] ?_
 ((conv=>whnf)<;>repeat(with_reducible refine D1 ?_)<;>conv=>whnf)
 (first|refine⟨?_,?_⟩|refine nsplit ?_ ?_|refine bsplit ?_ ?_)<;>intro h0<;>have hz_:=True.intro<;>clear hz_
 ·have h0:2048<v.data.length:=by simp[encU8]at h0;omega
  rw[show putB vs v=vs from by simp[putB,putE,h0],show putE vs v=6 from by simp[putE,h0]]
  ((conv=>whnf)<;>repeat(with_reducible refine D1 ?_)<;>conv=>whnf)
  exact⟨[],[],_,_,_,t3,rfl,rfl,rfl⟩
 ·have h0:¬2048<v.data.length:=by simp[encU8]at h0;omega
  ((conv=>whnf)<;>repeat(with_reducible refine D1 ?_)<;>conv=>whnf)
  by_cases h1:v.ver=0∨v.seq=0
  ·rw[show putB vs v=vs from by simp[putB,putE,h0,h1],show putE vs v=1 from by simp[putE,h0,h1]]
   repeat'(first|((first|(refine⟨fun h=>?_,fun h=>?_⟩)|(refine nsplit (fun h=>?_) (fun h=>?_))|(refine bsplit (fun h=>?_) (fun h=>?_)))<;>((conv=>whnf)<;>repeat(with_reducible refine D1 ?_)<;>conv=>whnf)))
   all_goals first|(exfalso;simp at*;omega)|skip
   all_goals
    exact⟨[],[],_,_,_,t3,rfl,rfl,rfl⟩
  ·have h1':=not_or.1 h1
   by_cases h2:0<vs.length∧(v.ver - 1≠(lastV vs).ver∨v.seq≤(lastV vs).seq)
   ·have hp:putE vs v=12:=by unfold putE;rw[if_neg h0,if_neg h1,if_pos h2]
    rw[show putB vs v=vs from by unfold putB;rw[if_neg (by rw[hp];decide)],hp]
    have hw:IntKind.u64.wrap (v.ver - 1)=v.ver - 1:=IntWalk.u64_in _ (by omega)
    (first|refine⟨?_,?_⟩|refine nsplit ?_ ?_|refine bsplit ?_ ?_)<;>intro h3<;>have hz_:=True.intro<;>clear hz_
    ·exact absurd h3 h1'.1
    ·((conv=>whnf)<;>repeat(with_reducible refine D1 ?_)<;>conv=>whnf)
     (first|refine⟨?_,?_⟩|refine nsplit ?_ ?_|refine bsplit ?_ ?_)<;>intro h4<;>have hz_:=True.intro<;>clear hz_
     ·exact absurd h4 h1'.2
     ·((conv=>whnf)<;>repeat(with_reducible refine D1 ?_)<;>conv=>whnf)
      (first|refine⟨?_,?_⟩|refine nsplit ?_ ?_|refine bsplit ?_ ?_)<;>intro h5<;>have hz_:=True.intro<;>clear hz_
      ·((conv=>whnf)<;>repeat(with_reducible refine D1 ?_)<;>conv=>whnf)
       refine⟨[],[],_,_,_,_,hl,t3,?_⟩
       rintro r o' c' ⟨rfl,rfl,rfl⟩
       ((conv=>whnf)<;>repeat(with_reducible refine D1 ?_)<;>conv=>whnf)
       (first|refine⟨?_,?_⟩|refine nsplit ?_ ?_|refine bsplit ?_ ?_)<;>intro h6<;>have hz_:=True.intro<;>clear hz_
       ·((conv=>whnf)<;>repeat(with_reducible refine D1 ?_)<;>conv=>whnf)
        exact⟨[],[],_,_,_,t3,rfl,rfl,rfl⟩
       ·have h6:¬IntKind.u64.wrap (v.ver - 1)≠(lastV vs).ver:=h6
        rw[hw]at h6
        ((conv=>whnf)<;>repeat(with_reducible refine D1 ?_)<;>conv=>whnf)
        refine⟨[],[],_,_,_,_,hl,t3,?_⟩
        rintro r o' c' ⟨rfl,rfl,rfl⟩
        ((conv=>whnf)<;>repeat(with_reducible refine D1 ?_)<;>conv=>whnf)
        (first|refine⟨?_,?_⟩|refine nsplit ?_ ?_|refine bsplit ?_ ?_)<;>intro h7<;>have hz_:=True.intro<;>clear hz_
        ·((conv=>whnf)<;>repeat(with_reducible refine D1 ?_)<;>conv=>whnf)
         exact⟨[],[],_,_,_,t3,rfl,rfl,rfl⟩
        ·exact absurd (h2.2.resolve_left h6) h7
      ·exact absurd (show(0:Int)<(((vs.map encV).length:Nat):Int) by rw[List.length_map];omega) h5
   ·have hp:putE vs v=0:=by unfold putE;rw[if_neg h0,if_neg h1,if_neg h2]
    rw[show putB vs v=vs++[v]from by unfold putB;rw[if_pos hp],hp]
    have hw:IntKind.u64.wrap (v.ver - 1)=v.ver - 1:=IntWalk.u64_in _ (by omega)
    (first|refine⟨?_,?_⟩|refine nsplit ?_ ?_|refine bsplit ?_ ?_)<;>intro h3<;>have hz_:=True.intro<;>clear hz_
    ·exact absurd h3 h1'.1
    ·((conv=>whnf)<;>repeat(with_reducible refine D1 ?_)<;>conv=>whnf)
     (first|refine⟨?_,?_⟩|refine nsplit ?_ ?_|refine bsplit ?_ ?_)<;>intro h4<;>have hz_:=True.intro<;>clear hz_
     ·exact absurd h4 h1'.2
     ·((conv=>whnf)<;>repeat(with_reducible refine D1 ?_)<;>conv=>whnf)
      (first|refine⟨?_,?_⟩|refine nsplit ?_ ?_|refine bsplit ?_ ?_)<;>intro h5<;>have hz_:=True.intro<;>clear hz_
      ·have h5:0<vs.length:=by have h:(0:Int)<(((vs.map encV).length:Nat):Int):=h5
                               rw[List.length_map]at h;omega
       have h8:=not_or.1 (fun q=>h2 ⟨h5,q⟩)
       ((conv=>whnf)<;>repeat(with_reducible refine D1 ?_)<;>conv=>whnf)
       refine⟨[],[],_,_,_,_,hl,t3,?_⟩
       rintro r o' c' ⟨rfl,rfl,rfl⟩
       ((conv=>whnf)<;>repeat(with_reducible refine D1 ?_)<;>conv=>whnf)
       (first|refine⟨?_,?_⟩|refine nsplit ?_ ?_|refine bsplit ?_ ?_)<;>intro h6<;>have hz_:=True.intro<;>clear hz_
       ·have h6:IntKind.u64.wrap (v.ver - 1)≠(lastV vs).ver:=h6
        rw[hw]at h6
        exact absurd h6 h8.1
       ·((conv=>whnf)<;>repeat(with_reducible refine D1 ?_)<;>conv=>whnf)
        refine⟨[],[],_,_,_,_,hl,t3,?_⟩
        rintro r o' c' ⟨rfl,rfl,rfl⟩
        ((conv=>whnf)<;>repeat(with_reducible refine D1 ?_)<;>conv=>whnf)
        (first|refine⟨?_,?_⟩|refine nsplit ?_ ?_|refine bsplit ?_ ?_)<;>intro h7<;>have hz_:=True.intro<;>clear hz_
        ·exact absurd h7 h8.2
        ·((conv=>whnf)<;>repeat(with_reducible refine D1 ?_)<;>conv=>whnf)
         refine⟨by rw[List.length_map];omega,?_⟩
         ((conv=>whnf)<;>repeat(with_reducible refine D1 ?_)<;>conv=>whnf)
         refine⟨by simp;omega,?_⟩
         ((conv=>whnf)<;>repeat(with_reducible refine D1 ?_)<;>conv=>whnf)
         refine⟨[3],[],?_⟩
         iterate 3 constructor
         refine⟨⟨?_,?_,?_⟩,rfl,rfl,rfl⟩
         all_goals(repeat' first|with_reducible exact Lz.rfl|exact Lw.rfl|exact Lz.wrap (by omega)|(unfold goInt;with_reducible exact Lz.rfl)|exact flx _|constructor)
         all_goals exact Lz.of (by simp)
      ·((conv=>whnf)<;>repeat(with_reducible refine D1 ?_)<;>conv=>whnf)
       refine⟨by rw[List.length_map];omega,?_⟩
       ((conv=>whnf)<;>repeat(with_reducible refine D1 ?_)<;>conv=>whnf)
       refine⟨by simp;omega,?_⟩
       ((conv=>whnf)<;>repeat(with_reducible refine D1 ?_)<;>conv=>whnf)
       refine⟨[3],[],?_⟩
       iterate 3 constructor
       refine⟨⟨?_,?_,?_⟩,rfl,rfl,rfl⟩
       all_goals(repeat' first|with_reducible exact Lz.rfl|exact Lw.rfl|exact Lz.wrap (by omega)|(unfold goInt;with_reducible exact Lz.rfl)|exact flx _|constructor)
       all_goals exact Lz.of (by simp)
@[reducible] def outRf (r:RfS) (u:UpR):Int×Int×Bool:=outC u (lastV (ofR r u.key)).ver (decide (r.bs.length<192))
@[reducible] def rowRf (r:RfS) (u:UpR):RowS:=⟨u.client,u.num,u.seq,(outRf r u).1,(outRf r u).2.1⟩
@[reducible] def wroteRf (r:RfS) (u:UpR):List (Int×List Vs):=if(outRf r u).2.2=true then insBy keyBl (u.key,putB (ofR r u.key) ⟨(outRf r u).2.1,u.seq,u.data⟩) r.bs else r.bs
def applyR (r:RfS) (u:UpR):(RfS×RowS)×Int:=
 if chkU u≠0 then((r,zeroR),chkU u)
 else if u.seq - 1≠r.e then((r,zeroR),12)
 else if judgeR r.rows u.client u.num≠0 then(({r with e:=u.seq},zeroR),0)
 else((⟨u.seq,wroteRf r u,insBy keyRow (rowRf r u) r.rows⟩,rowRf r u),0)
@[reducible] def encRA (q:(RfS×RowS)×Int):TV:=.tup [.agg (encRf q.1.1),.agg (encR q.1.2),.s (.int .i64 q.2)]
structure ROk (r:RfS):Prop where
 b:r.bs.length<900
 w:r.rows.length<900
 l:∀k,(ofR r k).length<900∧0≤(lastV (ofR r k)).ver∧(lastV (ofR r k)).ver≤18446744073709551615
theorem roomR_t {r:RfS} (h:(((r.bs.map encBl).length:Nat):Int)<192):decide (r.bs.length<192)=true:=decide_eq_true (by rw[List.length_map]at h;omega)
theorem roomR_i {r:RfS} (h:decide (r.bs.length<192)=true):(((r.bs.map encBl).length:Nat):Int)<192:=by
 have:r.bs.length<192:=of_decide_eq_true h
 rw[List.length_map];omega
theorem rapply_ok (r:RfS) (u:UpR) (H:ROk r) (hu:UOk u):VC EZ 27 0 [.agg (encRf r),.agg (encU u)] [] (RR (encRA (applyR r u)) 0 []):=by
 have hb:=H.b
 have hw:=H.w
 have hseq:=hu.seq
 have hc:=rcheck_ok u hu
 unfold applyR
 by_cases h0:chkU u=0
 ·rw[if_neg (not_not_intro h0)]
  rw[h0]at hc
  obtain⟨hs1,hdl⟩:=okU_seq h0
  have hwr:IntKind.u64.wrap (u.seq - 1)=u.seq - 1:=IntWalk.u64_in _ (by omega)
  by_cases h1:u.seq - 1=r.e
  ·rw[if_neg (not_not_intro h1)]
   have hj:=rjudge_ok r.rows u.client u.num (by omega)
   obtain⟨hll,hlr⟩:=H.l u.key
   have hof:=rof_ok {r with e:=u.seq} u.key (by show r.bs.length<_;omega)
   have hof:VC EZ 70 0 [.agg (encRf {r with e:=u.seq}),.s (.int .u32 u.key)] [] (RR (vsL (ofR r u.key)) 0 []):=hof
   have hla:=rlast_ok (ofR r u.key) (by omega)
   have ho:=routcome_ok u (lastV (ofR r u.key)).ver (decide (r.bs.length<192)) hlr
   refine VC.enterR LZ (show EZ.func 27=some Tryz.f27 by kernel_rfl) (fun _ _=>rfl) rfl rfl [] ?_
   ((conv=>whnf)<;>repeat(with_reducible refine D1 ?_)<;>conv=>whnf)
   refine⟨[],[],_,_,_,_,hc,t3,?_⟩
   rintro r o' c' ⟨rfl,rfl,rfl⟩
   ((conv=>whnf)<;>repeat(with_reducible refine D1 ?_)<;>conv=>whnf)
   (first|refine⟨?_,?_⟩|refine nsplit ?_ ?_|refine bsplit ?_ ?_)<;>intro h2<;>have hz_:=True.intro<;>clear hz_
   ·exact absurd rfl h2
   ·((conv=>whnf)<;>repeat(with_reducible refine D1 ?_)<;>conv=>whnf)
    (first|refine⟨?_,?_⟩|refine nsplit ?_ ?_|refine bsplit ?_ ?_)<;>intro h3<;>have hz_:=True.intro<;>clear hz_
    ·have h3:IntKind.u64.wrap (u.seq - 1)≠r.e:=h3
     rw[hwr]at h3
     exact absurd h1 h3
    ·((conv=>whnf)<;>repeat(with_reducible refine D1 ?_)<;>conv=>whnf)
     refine⟨[],[],_,_,_,_,hj,t3,?_⟩
     rintro r o' c' ⟨rfl,rfl,rfl⟩
     ((conv=>whnf)<;>repeat(with_reducible refine D1 ?_)<;>conv=>whnf)
     (first|refine⟨?_,?_⟩|refine nsplit ?_ ?_|refine bsplit ?_ ?_)<;>intro h4<;>have hz_:=True.intro<;>clear hz_
     ·have h4:judgeR r.rows u.client u.num≠0:=h4
      rw[if_pos h4]
      ((conv=>whnf)<;>repeat(with_reducible refine D1 ?_)<;>conv=>whnf)
      exact⟨[],[],_,_,_,t3,rfl,rfl,rfl⟩
     ·have h4:¬judgeR r.rows u.client u.num≠0:=h4
      rw[if_neg h4]
      ((conv=>whnf)<;>repeat(with_reducible refine D1 ?_)<;>conv=>whnf)
      refine⟨[],[],_,_,_,_,hof,t3,?_⟩
      rintro r o' c' ⟨rfl,rfl,rfl⟩
      ((conv=>whnf)<;>repeat(with_reducible refine D1 ?_)<;>conv=>whnf)
      refine⟨[],[],_,_,_,_,hla,t3,?_⟩
      rintro r o' c' ⟨rfl,rfl,rfl⟩
      ((conv=>whnf)<;>repeat(with_reducible refine D1 ?_)<;>conv=>whnf)
      have hqr:=outC_range (u:=u) (b:=decide (r.bs.length<192)) hlr
      rcases hq:outRf r u with⟨qc,qv,qb⟩
      rw[show outC u (lastV (ofR r u.key)).ver (decide (r.bs.length<192))=(qc,qv,qb)from hq]at ho hqr
      have hqv:0≤qv∧qv≤18446744073709551615:=hqr
      have hrow:rowRf r u=⟨u.client,u.num,u.seq,qc,qv⟩:=by unfold rowRf;rw[hq]
      have hwr:wroteRf r u=if qb=true then insBy keyBl (u.key,putB (ofR r u.key) ⟨qv,u.seq,u.data⟩) r.bs else r.bs:=by unfold wroteRf;rw[hq]
      rw[hrow,hwr]
      cases qb
      ·rw[if_neg Bool.false_ne_true]
       cases hr:decide (r.bs.length<192)
       ·rw[hr]at ho
        (first|refine⟨?_,?_⟩|refine nsplit ?_ ?_|refine bsplit ?_ ?_)<;>intro h5<;>have hz_:=True.intro<;>clear hz_
        ·exact absurd ((roomR_t h5).symm.trans hr) (by decide)
        ·((conv=>whnf)<;>repeat(with_reducible refine D1 ?_)<;>conv=>whnf)
         refine⟨[],[],_,_,_,_,ho,t3,?_⟩
         rintro r o' c' ⟨rfl,rfl,rfl⟩
         ((conv=>whnf)<;>repeat(with_reducible refine D1 ?_)<;>conv=>whnf)
         refine⟨[],[],_,_,_,_,rput16_ok r.rows ⟨u.client,u.num,u.seq,qc,qv⟩ (by omega),t3,?_⟩
         rintro r o' c' ⟨rfl,rfl,rfl⟩
         ((conv=>whnf)<;>repeat(with_reducible refine D1 ?_)<;>conv=>whnf)
         exact⟨[],[],_,_,_,t3,rfl,rfl,rfl⟩
       ·rw[hr]at ho
        (first|refine⟨?_,?_⟩|refine nsplit ?_ ?_|refine bsplit ?_ ?_)<;>intro h5<;>have hz_:=True.intro<;>clear hz_
        ·((conv=>whnf)<;>repeat(with_reducible refine D1 ?_)<;>conv=>whnf)
         refine⟨[],[],_,_,_,_,ho,t3,?_⟩
         rintro r o' c' ⟨rfl,rfl,rfl⟩
         ((conv=>whnf)<;>repeat(with_reducible refine D1 ?_)<;>conv=>whnf)
         refine⟨[],[],_,_,_,_,rput16_ok r.rows ⟨u.client,u.num,u.seq,qc,qv⟩ (by omega),t3,?_⟩
         rintro r o' c' ⟨rfl,rfl,rfl⟩
         ((conv=>whnf)<;>repeat(with_reducible refine D1 ?_)<;>conv=>whnf)
         exact⟨[],[],_,_,_,t3,rfl,rfl,rfl⟩
        ·exact absurd (roomR_i hr) h5
      ·rw[if_pos rfl]
       cases hr:decide (r.bs.length<192)
       ·rw[hr]at ho
        (first|refine⟨?_,?_⟩|refine nsplit ?_ ?_|refine bsplit ?_ ?_)<;>intro h5<;>have hz_:=True.intro<;>clear hz_
        ·exact absurd ((roomR_t h5).symm.trans hr) (by decide)
        ·((conv=>whnf)<;>repeat(with_reducible refine D1 ?_)<;>conv=>whnf)
         refine⟨[],[],_,_,_,_,ho,t3,?_⟩
         rintro r o' c' ⟨rfl,rfl,rfl⟩
         ((conv=>whnf)<;>repeat(with_reducible refine D1 ?_)<;>conv=>whnf)
         refine⟨[],[],_,_,_,_,rmade_ok u qv,t3,?_⟩
         rintro r o' c' ⟨rfl,rfl,rfl⟩
         ((conv=>whnf)<;>repeat(with_reducible refine D1 ?_)<;>conv=>whnf)
         refine⟨[],[],_,_,_,_,rput_ok (ofR r u.key) ⟨qv,u.seq,u.data⟩ hqv (by omega),t3,?_⟩
         rintro r o' c' ⟨rfl,rfl,rfl⟩
         ((conv=>whnf)<;>repeat(with_reducible refine D1 ?_)<;>conv=>whnf)
         refine⟨[],[],_,_,_,_,rwith_ok r.bs (u.key,putB (ofR r u.key) ⟨qv,u.seq,u.data⟩) (by omega),t3,?_⟩
         rintro r o' c' ⟨rfl,rfl,rfl⟩
         ((conv=>whnf)<;>repeat(with_reducible refine D1 ?_)<;>conv=>whnf)
         refine⟨[],[],_,_,_,_,rput16_ok r.rows ⟨u.client,u.num,u.seq,qc,qv⟩ (by omega),t3,?_⟩
         rintro r o' c' ⟨rfl,rfl,rfl⟩
         ((conv=>whnf)<;>repeat(with_reducible refine D1 ?_)<;>conv=>whnf)
         exact⟨[],[],_,_,_,t3,rfl,rfl,rfl⟩
       ·rw[hr]at ho
        (first|refine⟨?_,?_⟩|refine nsplit ?_ ?_|refine bsplit ?_ ?_)<;>intro h5<;>have hz_:=True.intro<;>clear hz_
        ·((conv=>whnf)<;>repeat(with_reducible refine D1 ?_)<;>conv=>whnf)
         refine⟨[],[],_,_,_,_,ho,t3,?_⟩
         rintro r o' c' ⟨rfl,rfl,rfl⟩
         ((conv=>whnf)<;>repeat(with_reducible refine D1 ?_)<;>conv=>whnf)
         refine⟨[],[],_,_,_,_,rmade_ok u qv,t3,?_⟩
         rintro r o' c' ⟨rfl,rfl,rfl⟩
         ((conv=>whnf)<;>repeat(with_reducible refine D1 ?_)<;>conv=>whnf)
         refine⟨[],[],_,_,_,_,rput_ok (ofR r u.key) ⟨qv,u.seq,u.data⟩ hqv (by omega),t3,?_⟩
         rintro r o' c' ⟨rfl,rfl,rfl⟩
         ((conv=>whnf)<;>repeat(with_reducible refine D1 ?_)<;>conv=>whnf)
         refine⟨[],[],_,_,_,_,rwith_ok r.bs (u.key,putB (ofR r u.key) ⟨qv,u.seq,u.data⟩) (by omega),t3,?_⟩
         rintro r o' c' ⟨rfl,rfl,rfl⟩
         ((conv=>whnf)<;>repeat(with_reducible refine D1 ?_)<;>conv=>whnf)
         refine⟨[],[],_,_,_,_,rput16_ok r.rows ⟨u.client,u.num,u.seq,qc,qv⟩ (by omega),t3,?_⟩
         rintro r o' c' ⟨rfl,rfl,rfl⟩
         ((conv=>whnf)<;>repeat(with_reducible refine D1 ?_)<;>conv=>whnf)
         exact⟨[],[],_,_,_,t3,rfl,rfl,rfl⟩
        ·exact absurd (roomR_i hr) h5
  ·rw[if_pos h1]
   refine VC.enterR LZ (show EZ.func 27=some Tryz.f27 by kernel_rfl) (fun _ _=>rfl) rfl rfl [] ?_
   ((conv=>whnf)<;>repeat(with_reducible refine D1 ?_)<;>conv=>whnf)
   refine⟨[],[],_,_,_,_,hc,t3,?_⟩
   rintro r o' c' ⟨rfl,rfl,rfl⟩
   ((conv=>whnf)<;>repeat(with_reducible refine D1 ?_)<;>conv=>whnf)
   (first|refine⟨?_,?_⟩|refine nsplit ?_ ?_|refine bsplit ?_ ?_)<;>intro h2<;>have hz_:=True.intro<;>clear hz_
   ·exact absurd rfl h2
   ·((conv=>whnf)<;>repeat(with_reducible refine D1 ?_)<;>conv=>whnf)
    (first|refine⟨?_,?_⟩|refine nsplit ?_ ?_|refine bsplit ?_ ?_)<;>intro h3<;>have hz_:=True.intro<;>clear hz_
    ·((conv=>whnf)<;>repeat(with_reducible refine D1 ?_)<;>conv=>whnf)
     exact⟨[],[],_,_,_,t3,rfl,rfl,rfl⟩
    ·have h3:¬IntKind.u64.wrap (u.seq - 1)≠r.e:=h3
     rw[hwr]at h3
     exact absurd h1 h3
 ·rw[if_pos h0]
  refine VC.enterR LZ (show EZ.func 27=some Tryz.f27 by kernel_rfl) (fun _ _=>rfl) rfl rfl [] ?_
  ((conv=>whnf)<;>repeat(with_reducible refine D1 ?_)<;>conv=>whnf)
  refine⟨[],[],_,_,_,_,hc,t3,?_⟩
  rintro r o' c' ⟨rfl,rfl,rfl⟩
  ((conv=>whnf)<;>repeat(with_reducible refine D1 ?_)<;>conv=>whnf)
  (first|refine⟨?_,?_⟩|refine nsplit ?_ ?_|refine bsplit ?_ ?_)<;>intro h2<;>have hz_:=True.intro<;>clear hz_
  ·((conv=>whnf)<;>repeat(with_reducible refine D1 ?_)<;>conv=>whnf)
   exact⟨[],[],_,_,_,t3,rfl,rfl,rfl⟩
  ·exact absurd h0 h2
@[reducible] def keptOf (d:Int) (b:Int×List Vs):Int×List Vs:=(b.1,keepR (cleanR b.2 d) b.2)
@[reducible] def dropOf (d:Int) (b:Int×List Vs):Nat:=b.2.length - (keepR (cleanR b.2 d) b.2).length
def sumN (l:List Nat):Nat:=l.sum
theorem sumN_snoc (l:List Nat) (n:Nat):sumN (l++[n])=sumN l+n:=by unfold sumN;rw[List.sum_append];simp
theorem drops_le (d:Int):∀(l:List (Int×List Vs)),(∀b∈l,b.2.length<1000)→sumN (l.map (dropOf d))≤l.length*1000
 |[],_=>Nat.le_refl _
 |b::l,h=>by
  have:=drops_le d l fun x m=>h x (by simp[m])
  have:=h b (by simp)
  show(b.2.length - _)+sumN (l.map (dropOf d))≤(l.length+1)*1000
  omega
theorem rtrimS_ok (r:RfS) (d:Int) (hb:r.bs.length<900) (hl:∀b∈r.bs,b.2.length<1000):VC EZ 29 0 [.agg (encRf r),.s (.int .u64 d)] []
 (RR (.tup [.agg (encRf {r with bs:=r.bs.map (keptOf d)}),.s (.int .i64 ((sumN (r.bs.map (dropOf d)):Nat):Int))]) 0 []):=by
 refine VC.enterR LZ (show EZ.func 29=some Tryz.f29 by kernel_rfl) (fun _ _=>rfl) rfl rfl [] ?_
 ((conv=>whnf)<;>repeat(with_reducible refine D1 ?_)<;>conv=>whnf)
 refine⟨fun k' f o cc=>∃i:Nat,i≤r.bs.length∧k'=r.bs.length - i∧cc=3∧f=[(1,.s (.int .u64 d)),(2,.ptr 0 0),(4,.ptr 1 0),(6,.s (.int .i64 ((sumN ((r.bs.take i).map (dropOf d)):Nat):Int))),(7,.tk 2),(8,.s (.int .i64 i))]∧o=[(0,.cells (encRf r)),(1,.cells (encRf ⟨0,[],[]⟩)),(2,.arr 2 true (((r.bs.take i).map (keptOf d)).map encBl))],⟨r.bs.length,?_⟩,?_⟩
 ·exact⟨[],[some 0,some 1,none],_,_,_,t3,⟨0,Nat.zero_le _,rfl,rfl,rfl,rfl⟩⟩
 ·rintro k' f1 o1 c1 ⟨i,hi,rfl,rfl,rfl,rfl⟩
  ((conv=>whnf)<;>repeat(with_reducible refine D1 ?_)<;>conv=>whnf)
  (first|refine⟨?_,?_⟩|refine nsplit ?_ ?_|refine bsplit ?_ ?_)<;>intro h<;>have hz_:=True.intro<;>clear hz_
  ·have h:i<r.bs.length:=lenlt.1 h
   have hs:=drops_le d (r.bs.take i) (fun b m=>hl b (List.mem_of_mem_take m))
   rw[List.length_take]at hs
   have hlb:=hl _ (List.getElem_mem h)
   have ht:=rtrim_ok r.bs[i].2 d hlb
   have hnx:(r.bs.take (i+1)).map (keptOf d)=(r.bs.take i).map (keptOf d)++[keptOf d r.bs[i]]:=by rw[List.take_succ_eq_append_getElem h,List.map_append];rfl
   have hnd:sumN ((r.bs.take (i+1)).map (dropOf d))=sumN ((r.bs.take i).map (dropOf d))+(r.bs[i].2.length - (keepR (cleanR r.bs[i].2 d) r.bs[i].2).length):=by rw[List.take_succ_eq_append_getElem h,List.map_append,List.map_singleton,sumN_snoc]
   ((conv=>whnf)<;>repeat(with_reducible refine D1 ?_)<;>conv=>whnf)
   refine idxI h ?_
   ((conv=>whnf)<;>repeat(with_reducible refine D1 ?_)<;>conv=>whnf)
   refine⟨[],[],_,_,_,_,ht,t3,?_⟩
   rintro r o' c' ⟨rfl,rfl,rfl⟩
   ((conv=>whnf)<;>repeat(with_reducible refine D1 ?_)<;>conv=>whnf)
   refine idxI h ?_
   ((conv=>whnf)<;>repeat(with_reducible refine D1 ?_)<;>conv=>whnf)
   refine⟨by simp;omega,?_⟩
   ((conv=>whnf)<;>repeat(with_reducible refine D1 ?_)<;>conv=>whnf)
   refine⟨r.bs.length - (i+1),?_,by omega⟩
   refine⟨[],[some 0,some 1,some 4],?_⟩
   iterate 3 constructor
   refine⟨⟨?_,?_,?_⟩,⟨i+1,h,rfl,rfl,rfl,rfl⟩⟩
   all_goals(repeat' first|with_reducible exact Lz.rfl|exact Lw.rfl|exact Lz.wrap (by omega)|(unfold goInt;with_reducible exact Lz.rfl)|exact flx _|constructor)
   all_goals first|exact Lz.int (by rw[hnd,IntWalk.i64_in _ (by omega)];omega)|exact Lz.of (by rw[hnx,List.map_append];rfl)|trace_state
  ·obtain rfl:i=r.bs.length:=by have:=mt lenlt.2 h;omega
   rw[List.take_length]
   ((conv=>whnf)<;>repeat(with_reducible refine D1 ?_)<;>conv=>whnf)
   exact⟨[2],[],_,_,_,t3,rfl,rfl,rfl⟩
theorem rnow_ok (r:RfS) (k d:Int) (H:ROk r):VC EZ 31 0 [.agg (encRf r),.s (.int .u32 k),.s (.int .u64 d)] [] (RR (encA2 (if 0<(ofR r k).length∧d<(lastV (ofR r k)).seq then(zeroVs,false)else(lastV (ofR r k),true))) 0 []):=by
 have hof:=rof_ok r k (by have:=H.b;omega)
 have hl:=(H.l k).1
 have hd:=rdirty_ok (ofR r k) d (by omega)
 have hla:=rlast_ok (ofR r k) (by omega)
 by_cases h:0<(ofR r k).length∧d<(lastV (ofR r k)).seq
 ·rw[decide_eq_true h]at hd
  rw[if_pos h]
  refine VC.enterR LZ (show EZ.func 31=some Tryz.f31 by kernel_rfl) (fun _ _=>rfl) rfl rfl [] ?_
  ((conv=>whnf)<;>repeat(with_reducible refine D1 ?_)<;>conv=>whnf)
  refine⟨[],[],_,_,_,_,hof,t3,?_⟩
  rintro r o' c' ⟨rfl,rfl,rfl⟩
  ((conv=>whnf)<;>repeat(with_reducible refine D1 ?_)<;>conv=>whnf)
  refine⟨[],[],_,_,_,_,hd,t3,?_⟩
  rintro r o' c' ⟨rfl,rfl,rfl⟩
  ((conv=>whnf)<;>repeat(with_reducible refine D1 ?_)<;>conv=>whnf)
  exact⟨[],[],_,_,_,t3,rfl,rfl,rfl⟩
 ·rw[decide_eq_false h]at hd
  rw[if_neg h]
  refine VC.enterR LZ (show EZ.func 31=some Tryz.f31 by kernel_rfl) (fun _ _=>rfl) rfl rfl [] ?_
  ((conv=>whnf)<;>repeat(with_reducible refine D1 ?_)<;>conv=>whnf)
  refine⟨[],[],_,_,_,_,hof,t3,?_⟩
  rintro r o' c' ⟨rfl,rfl,rfl⟩
  ((conv=>whnf)<;>repeat(with_reducible refine D1 ?_)<;>conv=>whnf)
  refine⟨[],[],_,_,_,_,hd,t3,?_⟩
  rintro r o' c' ⟨rfl,rfl,rfl⟩
  ((conv=>whnf)<;>repeat(with_reducible refine D1 ?_)<;>conv=>whnf)
  refine⟨[],[],_,_,_,_,hla,t3,?_⟩
  rintro r o' c' ⟨rfl,rfl,rfl⟩
  ((conv=>whnf)<;>repeat(with_reducible refine D1 ?_)<;>conv=>whnf)
  exact⟨[],[],_,_,_,t3,rfl,rfl,rfl⟩
theorem rthen_ok (r:RfS) (k v d:Int) (H:ROk r) (hp0:0≤(pickR (ofR r k) v d).ver):VC EZ 33 0 [.agg (encRf r),.s (.int .u32 k),.s (.int .u64 v),.s (.int .u64 d)] [] (RR (encA2 (pickR (ofR r k) v d,decide (v=0∨(pickR (ofR r k) v d).ver≠0))) 0 []):=by
 have hof:=rof_ok r k (by have:=H.b;omega)
 have hl:=(H.l k).1
 have hp:=rpick_ok (ofR r k) v d (by omega)
 generalize pickR (ofR r k) v d=p at hp hp0
 refine VC.enterR LZ (show EZ.func 33=some Tryz.f33 by kernel_rfl) (fun _ _=>rfl) rfl rfl [] ?_
 ((conv=>whnf)<;>repeat(with_reducible refine D1 ?_)<;>conv=>whnf)
 refine⟨[],[],_,_,_,_,hof,t3,?_⟩
 rintro r o' c' ⟨rfl,rfl,rfl⟩
 ((conv=>whnf)<;>repeat(with_reducible refine D1 ?_)<;>conv=>whnf)
 refine⟨[],[],_,_,_,_,hp,t3,?_⟩
 rintro r o' c' ⟨rfl,rfl,rfl⟩
 ((conv=>whnf)<;>repeat(with_reducible refine D1 ?_)<;>conv=>whnf)
 (first|refine⟨?_,?_⟩|refine nsplit ?_ ?_|refine bsplit ?_ ?_)<;>intro h0<;>have hz_:=True.intro<;>clear hz_
 ·have h0:0<p.ver:=h0
  ((conv=>whnf)<;>repeat(with_reducible refine D1 ?_)<;>conv=>whnf)
  refine⟨[],[],?_⟩
  iterate 3 constructor
  refine⟨⟨?_,?_,?_⟩,rfl,rfl,rfl⟩
  all_goals(repeat' first|with_reducible exact Lz.rfl|exact Lw.rfl|exact Lz.wrap (by omega)|(unfold goInt;with_reducible exact Lz.rfl)|exact flx _|constructor)
  exact Lz.of (bool_eq (decide_eq_true (.inr (by omega))).symm)
 ·have h0:¬0<p.ver:=h0
  ((conv=>whnf)<;>repeat(with_reducible refine D1 ?_)<;>conv=>whnf)
  (first|refine⟨?_,?_⟩|refine nsplit ?_ ?_|refine bsplit ?_ ?_)<;>intro h1<;>have hz_:=True.intro<;>clear hz_
  ·have h1:v=0:=h1
   ((conv=>whnf)<;>repeat(with_reducible refine D1 ?_)<;>conv=>whnf)
   refine⟨[],[],?_⟩
   iterate 3 constructor
   refine⟨⟨?_,?_,?_⟩,rfl,rfl,rfl⟩
   all_goals(repeat' first|with_reducible exact Lz.rfl|exact Lw.rfl|exact Lz.wrap (by omega)|(unfold goInt;with_reducible exact Lz.rfl)|exact flx _|constructor)
   exact Lz.of (bool_eq (decide_eq_true (.inl h1)).symm)
  ·have h1:¬v=0:=h1
   ((conv=>whnf)<;>repeat(with_reducible refine D1 ?_)<;>conv=>whnf)
   refine⟨[],[],?_⟩
   iterate 3 constructor
   refine⟨⟨?_,?_,?_⟩,rfl,rfl,rfl⟩
   all_goals(repeat' first|with_reducible exact Lz.rfl|exact Lw.rfl|exact Lz.wrap (by omega)|(unfold goInt;with_reducible exact Lz.rfl)|exact flx _|constructor)
   exact Lz.of (bool_eq (decide_eq_false (by rintro(q|q);exact h1 q;exact q (by omega))).symm)
end Go.M
namespace Go.M
open Go Go.Proofs
set_option maxHeartbeats 1000000
@[reducible] def nxU (s:StS) (u:UpR):UpR:={u with seq:=s.e+1}
def nxS (s:StS) (u:UpR):StS:=(applyS s (nxU s u)).2
def runS (l:List UpR):StS:=l.foldl nxS ⟨0,[],zeroTab⟩
theorem runS_next (l:List UpR) (i:Nat) (h:i<l.length):runS (l.take (i+1))=nxS (runS (l.take i)) l[i]:=by
 unfold runS
 rw[List.take_succ_eq_append_getElem h,List.foldl_append];rfl
structure URng (u:UpR):Prop where
 num:0≤u.num∧u.num≤18446744073709551615
 ver:0≤u.ver∧u.ver≤18446744073709551615
 key:0≤u.key∧u.key≤4294967295
theorem URng.ok {u:UpR} (h:URng u) {s:StS} (h0:0≤s.e) (h1:s.e<1000000):UOk (nxU s u):=⟨by show 0≤s.e+1∧s.e+1≤_;omega,h.num,h.ver,h.key⟩
theorem nxS_e (s:StS) (u:UpR) (H:∀k,Good s.e (ofK s k)) (he:0≤s.e):(nxS s u).e≤s.e+1:=by
 unfold nxS
 rcases applyS_cases s (nxU s u) H he with h|⟨h1,⟨t,h⟩|⟨t,_,_,_,h⟩⟩<;>rw[h]
 ·omega
 ·exact Int.le_refl _
 ·exact Int.le_refl _
theorem run_inv (l:List UpR) (hl:∀u∈l,URng u) (hn:l.length<1000):∀i,i≤l.length→SInv (runS (l.take i)) i∧(runS (l.take i)).e≤i
 |0,_=>⟨SInv.zero,Int.le_refl _⟩
 |i+1,h=>by
  obtain⟨h1,h2⟩:=run_inv l hl hn i (by omega)
  rw[runS_next l i h]
  refine⟨h1.apply _ ((hl _ (List.getElem_mem h)).ok h1.e.1 (by omega)),?_⟩
  have:=nxS_e (runS (l.take i)) l[i] h1.g h1.e.1
  omega
end Go.M
namespace Go.M
open Go Go.Proofs
set_option maxHeartbeats 1000000
theorem list_of {α:Type} {enc:α→List TV} {P:α→Prop} {ss:List Sh} (h:∀r,Fits ss r→∃a,r=enc a∧P a):∀{es:List (List TV)},(∀r∈es,Fits ss r)→∃l:List α,es=l.map enc∧∀a∈l,P a
 |[],_=>⟨[],rfl,by simp⟩
 |r::es,hr=>by
  obtain⟨a,rfl,ha⟩:=h r (hr r List.mem_cons_self)
  obtain⟨l,rfl,hl⟩:=list_of h (es:=es) fun r hr'=>hr r (List.mem_cons_of_mem _ hr')
  exact⟨a::l,rfl,fun b hb=>by rcases List.mem_cons.1 hb with rfl |hb;exact ha;exact hl b hb⟩
theorem cons_of {s:Sh} {ss:List Sh} {r:List TV} (h:Fits (s::ss) r):∃t r',r=t::r'∧Fit s t∧Fits ss r':=by
 unfold Fits at h;exact h
theorem nil_of {r:List TV} (h:Fits [] r):r=[]:=by
 unfold Fits at h;exact h
theorem byte_of {r:List TV} (h:Fits [.int .u8] r):∃n:Int,r=[.s (.int .u8 n)]∧0≤n∧n<256:=by
 simp only[Fits,Fit]at h
 obtain⟨_,_,rfl,⟨c,h1,h2,rfl⟩,rfl⟩:=h
 exact⟨c,rfl,h1,Int.lt_of_le_of_lt h2 (by decide)⟩
theorem bytes_of {es:List (List TV)} (h:∀r∈es,Fits [.int .u8] r):∃l:List Int,es=encU8 l∧∀n∈l,0≤n∧n<256:=
 list_of (fun _ hr=>byte_of hr) h
@[reducible] def shU:List Sh:=[.int .u64,.int .i64,.int .u64,.int .i64,.int .u32,.int .u64,.sl [.int .u8]]
structure UAll (u:UpR):Prop where
 rng:URng u
 seq:0≤u.seq∧u.seq≤18446744073709551615
 bytes:∀n∈u.data,0≤n∧n<256
theorem upd_of {r:List TV} (h:Fits shU r):∃u:UpR,r=encU u∧UAll u:=by
 obtain⟨t1,r1,rfl,h1,h⟩:=cons_of h
 obtain⟨t2,r2,rfl,h2,h⟩:=cons_of h
 obtain⟨t3,r3,rfl,h3,h⟩:=cons_of h
 obtain⟨t4,r4,rfl,h4,h⟩:=cons_of h
 obtain⟨t5,r5,rfl,h5,h⟩:=cons_of h
 obtain⟨t6,r6,rfl,h6,h⟩:=cons_of h
 obtain⟨t7,r7,rfl,h7,h⟩:=cons_of h
 cases nil_of h
 unfold Fit at h1 h2 h3 h4 h5 h6 h7
 obtain⟨a,a1,a2,rfl⟩:=h1
 obtain⟨b,b1,b2,rfl⟩:=h2
 obtain⟨c,c1,c2,rfl⟩:=h3
 obtain⟨d,d1,d2,rfl⟩:=h4
 obtain⟨e,e1,e2,rfl⟩:=h5
 obtain⟨f,f1,f2,rfl⟩:=h6
 obtain⟨es,_,hes,rfl⟩:=h7
 obtain⟨l,rfl,hl⟩:=bytes_of hes
 exact⟨⟨a,b,c,d,e,f,l⟩,rfl,⟨⟨c1,c2⟩,⟨f1,f2⟩,⟨e1,e2⟩⟩,⟨a1,a2⟩,hl⟩
theorem upds_of {es:List (List TV)} (h:∀r∈es,Fits shU r):∃l:List UpR,es=l.map encU∧∀u∈l,UAll u:=
 list_of (fun _ hr=>upd_of hr) h
end Go.M
