/-
  Part 27 of the library that the proof leans on.
-/
import Derived.Test.YtgjfaieghmigjaaGreatDoorL25
import Derived.Test.YtgjfaieghmigjaaGreatDoorL26
namespace Go.M
open Go Go.Proofs
set_option maxRecDepth 100000
set_option maxHeartbeats 4000000
structure StS where
 e:Int
 bs:List (Int×List Vs)
 t:TabS
@[reducible] def blkV (vs:List Vs):TV:=.own (blkT vs)
@[reducible] def mapT (bs:List (Int×List Vs)):TO:=.maq (kIdx .u32) (bs.map (encA .u32 blkV)) []
@[reducible] def stoC (s:StS):TO:=.cells [.s (.int .u64 s.e),.mp 1,.own (tabT s.t)]
@[reducible] def stO (s:StS):Ob:=[(0,stoC s),(1,mapT s.bs)]
@[reducible] def outO (s:StS) (k:Int) (vs:List Vs):Ob:=[(0,.cells [.s (.int .u64 s.e),.mp 1,.own (tabT s.t)]),(1,.maq (kIdx .u32) (s.bs.map (encA .u32 blkV)) [(.int .u32 k,.ptr 2 0)]),(2,blkT vs)]
theorem block_no (s:StS) (k:Int) (h:lookA s.bs k=none):VC EZ 77 2 [.ptr 0 0,.s (.int .u32 k)] (stO s) (RR nilP 2 (stO s)):=by
 refine VC.enterR LZ (show EZ.func 77=some Tryz.f77 by kernel_rfl) (fun _ _=>rfl) rfl rfl [] ?_
 ((conv=>whnf)<;>repeat(with_reducible refine D1 ?_)<;>conv=>whnf)
 refine⟨none,by rw[lookM_A,h];rfl,?_⟩
 ((conv=>whnf)<;>repeat(with_reducible refine D1 ?_)<;>conv=>whnf)
 exact⟨[],[some 0,some 1],_,_,_,t3,rfl,rfl,rfl⟩
theorem block_is (s:StS) (k:Int) (vs:List Vs) (h:lookA s.bs k=some vs):VC EZ 77 2 [.ptr 0 0,.s (.int .u32 k)] (stO s) (RR (.ptr 2 0) 3 (outO s k vs)):=by
 refine VC.enterR LZ (show EZ.func 77=some Tryz.f77 by kernel_rfl) (fun _ _=>rfl) rfl rfl [] ?_
 ((conv=>whnf)<;>repeat(with_reducible refine D1 ?_)<;>conv=>whnf)
 refine⟨some (blkV vs),by rw[lookM_A,h];rfl,?_⟩
 ((conv=>whnf)<;>repeat(with_reducible refine D1 ?_)<;>conv=>whnf)
 exact⟨[],[some 0,some 1,some 2],_,_,_,t3,rfl,rfl,rfl⟩
theorem putA_same {bs:List (Int×List Vs)} {k:Int} {vs:List Vs} (h:lookA bs k=some vs):putA bs k vs=bs:=by
 induction bs with
 |nil=>cases h
 |cons e es ih=>
  unfold lookA at h
  unfold putA
  split at h
  ·rename_i he;cases h;rw[if_pos he,he]
  ·rename_i he;rw[if_neg he,ih h]
theorem keep_bs {bs:List (Int×List Vs)} {k:Int} {vs:List Vs} (h:lookA bs k=some vs):apM (bs.map (encA .u32 blkV)) [(.int .u32 k,blkV vs)]=bs.map (encA .u32 blkV):=by
 show putM (bs.map (encA .u32 blkV)) (.int .u32 k) (blkV vs)=_
 rw[putM_A,putA_same h]
theorem atV_nil (i:Int):atV [] i=zeroVs:=by unfold atV;split<;>simp
theorem pickV_nil (v d:Int):pickV [] v d=zeroVs:=by
 unfold pickV;rw[atV_nil,atV_nil];split
 ·rfl
 ·split<;>rfl
structure SOk (s:StS):Prop where
 v:∀k vs,lookA s.bs k=some vs→(∀v∈vs,VOk v)∧vs.length<100000
@[reducible] def ofK (s:StS) (k:Int):List Vs:=(lookA s.bs k).getD []
theorem ofK_none {s:StS} {k:Int} (h:lookA s.bs k=none):ofK s k=[]:=by unfold ofK;rw[h];rfl
theorem ofK_some {s:StS} {k:Int} {vs:List Vs} (h:lookA s.bs k=some vs):ofK s k=vs:=by unfold ofK;rw[h];rfl
theorem last_ok (s:StS) (k:Int) (H:SOk s):VC EZ 36 2 [.ptr 0 0,.s (.int .u32 k)] (stO s) (RR (.agg (encV (lastV (ofK s k)))) 2 (stO s)):=by
 cases h:lookA s.bs k with
 |none=>
  rw[ofK_none h]
  refine VC.enterR LZ (show EZ.func 36=some Tryz.f36 by kernel_rfl) (fun _ _=>rfl) rfl rfl [] ?_
  ((conv=>whnf)<;>repeat(with_reducible refine D1 ?_)<;>conv=>whnf)
  refine⟨[],[some 0,some 1],_,_,_,_,block_no s k h,t3,?_⟩
  rintro r o' c' ⟨rfl,rfl,rfl⟩
  ((conv=>whnf)<;>repeat(with_reducible refine D1 ?_)<;>conv=>whnf)
  refine⟨[],[],_,_,_,_,blast_nil,t3,?_⟩
  rintro r o' c' ⟨rfl,rfl,rfl⟩
  ((conv=>whnf)<;>repeat(with_reducible refine D1 ?_)<;>conv=>whnf)
  exact⟨[],[some 0,some 1],_,_,_,t3,rfl,rfl,rfl⟩
 |some vs=>
  rw[ofK_some h]
  obtain⟨hv,hn⟩:=H.v k vs h
  refine VC.enterR LZ (show EZ.func 36=some Tryz.f36 by kernel_rfl) (fun _ _=>rfl) rfl rfl [] ?_
  ((conv=>whnf)<;>repeat(with_reducible refine D1 ?_)<;>conv=>whnf)
  refine⟨[],[some 0,some 1],_,_,_,_,block_is s k vs h,t3,?_⟩
  rintro r o' c' ⟨rfl,rfl,rfl⟩
  ((conv=>whnf)<;>repeat(with_reducible refine D1 ?_)<;>conv=>whnf)
  refine⟨[],[some 5],_,_,_,_,blast_ok vs hv (by omega),t3,?_⟩
  rintro r o' c' ⟨rfl,rfl,rfl⟩
  ((conv=>whnf)<;>repeat(with_reducible refine D1 ?_)<;>conv=>whnf)
  refine⟨[],[some 0,some 1],_,_,_,⟨by(repeat' first|with_reducible exact Lz.rfl|exact Lw.rfl|exact Lz.wrap (by omega)|(unfold goInt;with_reducible exact Lz.rfl)|exact flx _|constructor),.cons (.cells (by(repeat' first|with_reducible exact Lz.rfl|exact Lw.rfl|exact Lz.wrap (by omega)|(unfold goInt;with_reducible exact Lz.rfl)|exact flx _|constructor))) (.cons (.maq (opc:=[(_,blkV vs)]) .one (Lw.of (keep_bs h)) (.m1 (by rfl) (by(repeat' first|with_reducible exact Lz.rfl|exact Lw.rfl|exact Lz.wrap (by omega)|(unfold goInt;with_reducible exact Lz.rfl)|exact flx _|constructor)))) .nil),by rfl⟩,⟨rfl,rfl,rfl⟩⟩
theorem dirty_ok (s:StS) (k:Int) (d:Int) (H:SOk s):VC EZ 48 2 [.ptr 0 0,.s (.int .u32 k),.s (.int .u64 d)] (stO s) (RR (.s (.bool (decide (0<(ofK s k).length∧d<(lastV (ofK s k)).seq)))) 2 (stO s)):=by
 cases h:lookA s.bs k with
 |none=>
  rw[ofK_none h]
  refine VC.enterR LZ (show EZ.func 48=some Tryz.f48 by kernel_rfl) (fun _ _=>rfl) rfl rfl [] ?_
  ((conv=>whnf)<;>repeat(with_reducible refine D1 ?_)<;>conv=>whnf)
  refine⟨[],[some 0,some 1],_,_,_,_,block_no s k h,t3,?_⟩
  rintro r o' c' ⟨rfl,rfl,rfl⟩
  ((conv=>whnf)<;>repeat(with_reducible refine D1 ?_)<;>conv=>whnf)
  refine⟨[],[],_,_,_,_,bdirty_nil d,t3,?_⟩
  rintro r o' c' ⟨rfl,rfl,rfl⟩
  ((conv=>whnf)<;>repeat(with_reducible refine D1 ?_)<;>conv=>whnf)
  exact⟨[],[some 0,some 1],_,_,_,t3,rfl,rfl,rfl⟩
 |some vs=>
  rw[ofK_some h]
  obtain⟨hv,hn⟩:=H.v k vs h
  refine VC.enterR LZ (show EZ.func 48=some Tryz.f48 by kernel_rfl) (fun _ _=>rfl) rfl rfl [] ?_
  ((conv=>whnf)<;>repeat(with_reducible refine D1 ?_)<;>conv=>whnf)
  refine⟨[],[some 0,some 1],_,_,_,_,block_is s k vs h,t3,?_⟩
  rintro r o' c' ⟨rfl,rfl,rfl⟩
  ((conv=>whnf)<;>repeat(with_reducible refine D1 ?_)<;>conv=>whnf)
  refine⟨[],[some 4],_,_,_,_,bdirty_ok vs d (by omega),t3,?_⟩
  rintro r o' c' ⟨rfl,rfl,rfl⟩
  ((conv=>whnf)<;>repeat(with_reducible refine D1 ?_)<;>conv=>whnf)
  refine⟨[],[some 0,some 1],_,_,_,⟨by(repeat' first|with_reducible exact Lz.rfl|exact Lw.rfl|exact Lz.wrap (by omega)|(unfold goInt;with_reducible exact Lz.rfl)|exact flx _|constructor),.cons (.cells (by(repeat' first|with_reducible exact Lz.rfl|exact Lw.rfl|exact Lz.wrap (by omega)|(unfold goInt;with_reducible exact Lz.rfl)|exact flx _|constructor))) (.cons (.maq (opc:=[(_,blkV vs)]) .one (Lw.of (keep_bs h)) (.m1 (by rfl) (by(repeat' first|with_reducible exact Lz.rfl|exact Lw.rfl|exact Lz.wrap (by omega)|(unfold goInt;with_reducible exact Lz.rfl)|exact flx _|constructor)))) .nil),by rfl⟩,⟨rfl,rfl,rfl⟩⟩
theorem pick_ok (s:StS) (k:Int) (v d:Int) (H:SOk s):VC EZ 49 2 [.ptr 0 0,.s (.int .u32 k),.s (.int .u64 v),.s (.int .u64 d)] (stO s) (RR (.agg (encV (pickV (ofK s k) v d))) 2 (stO s)):=by
 cases h:lookA s.bs k with
 |none=>
  rw[ofK_none h,pickV_nil]
  refine VC.enterR LZ (show EZ.func 49=some Tryz.f49 by kernel_rfl) (fun _ _=>rfl) rfl rfl [] ?_
  ((conv=>whnf)<;>repeat(with_reducible refine D1 ?_)<;>conv=>whnf)
  refine⟨[],[some 0,some 1],_,_,_,_,block_no s k h,t3,?_⟩
  rintro r o' c' ⟨rfl,rfl,rfl⟩
  ((conv=>whnf)<;>repeat(with_reducible refine D1 ?_)<;>conv=>whnf)
  refine⟨[],[],_,_,_,_,bpick_nil v d,t3,?_⟩
  rintro r o' c' ⟨rfl,rfl,rfl⟩
  ((conv=>whnf)<;>repeat(with_reducible refine D1 ?_)<;>conv=>whnf)
  exact⟨[],[some 0,some 1],_,_,_,t3,rfl,rfl,rfl⟩
 |some vs=>
  rw[ofK_some h]
  obtain⟨hv,hn⟩:=H.v k vs h
  refine VC.enterR LZ (show EZ.func 49=some Tryz.f49 by kernel_rfl) (fun _ _=>rfl) rfl rfl [] ?_
  ((conv=>whnf)<;>repeat(with_reducible refine D1 ?_)<;>conv=>whnf)
  refine⟨[],[some 0,some 1],_,_,_,_,block_is s k vs h,t3,?_⟩
  rintro r o' c' ⟨rfl,rfl,rfl⟩
  ((conv=>whnf)<;>repeat(with_reducible refine D1 ?_)<;>conv=>whnf)
  refine⟨[],[some 5],_,_,_,_,bpick_ok vs v d (by omega) hv,t3,?_⟩
  rintro r o' c' ⟨rfl,rfl,rfl⟩
  ((conv=>whnf)<;>repeat(with_reducible refine D1 ?_)<;>conv=>whnf)
  refine⟨[],[some 0,some 1],_,_,_,⟨by(repeat' first|with_reducible exact Lz.rfl|exact Lw.rfl|exact Lz.wrap (by omega)|(unfold goInt;with_reducible exact Lz.rfl)|exact flx _|constructor),.cons (.cells (by(repeat' first|with_reducible exact Lz.rfl|exact Lw.rfl|exact Lz.wrap (by omega)|(unfold goInt;with_reducible exact Lz.rfl)|exact flx _|constructor))) (.cons (.maq (opc:=[(_,blkV vs)]) .one (Lw.of (keep_bs h)) (.m1 (by rfl) (by(repeat' first|with_reducible exact Lz.rfl|exact Lw.rfl|exact Lz.wrap (by omega)|(unfold goInt;with_reducible exact Lz.rfl)|exact flx _|constructor)))) .nil),by rfl⟩,⟨rfl,rfl,rfl⟩⟩
end Go.M
namespace Go.M
open Go Go.Proofs
set_option maxRecDepth 100000
set_option maxHeartbeats 4000000
theorem knew_ok:VC EZ 22 0 [] [] (RR (.ptr 0 0) 2 (stO ⟨0,[],zeroTab⟩)):=by
 refine VC.enterR LZ (show EZ.func 22=some Tryz.f22 by kernel_rfl) (fun _ _=>rfl) rfl rfl [] ?_
 ((conv=>whnf)<;>repeat(with_reducible refine D1 ?_)<;>conv=>whnf)
 refine⟨[],[],_,_,_,_,snew_ok,t3,?_⟩
 rintro r o' c' ⟨rfl,rfl,rfl⟩
 ((conv=>whnf)<;>repeat(with_reducible refine D1 ?_)<;>conv=>whnf)
 exact⟨[],[some 2,some 0],_,_,_,t3,rfl,rfl,rfl⟩
theorem end_ok (s:StS):VC EZ 25 2 [.ptr 0 0] (stO s) (RR (.s (.int .u64 s.e)) 2 (stO s)):=by
 refine VC.enterR LZ (show EZ.func 25=some Tryz.f25 by kernel_rfl) (fun _ _=>rfl) rfl rfl [] ?_
 ((conv=>whnf)<;>repeat(with_reducible refine D1 ?_)<;>conv=>whnf)
 exact⟨[],[some 0,some 1],_,_,_,t3,rfl,rfl,rfl⟩
theorem mkeys_ok (bs:List (Int×List Vs)):VC EZ 67 1 [.mp 0] [(0,mapT bs)] (RR (.clo 120 [] [.ptr 1 0]) 2 [(0,mapT bs),(1,.cells [.mp 0])]):=by
 refine VC.enterR LZ (show EZ.func 67=some Tryz.f67 by kernel_rfl) (fun _ _=>rfl) rfl rfl [] ?_
 ((conv=>whnf)<;>repeat(with_reducible refine D1 ?_)<;>conv=>whnf)
 exact⟨[],[some 0,some 1],_,_,_,t3,rfl,rfl,rfl⟩
theorem kkeys_ok (s:StS) (hn:s.bs.length<4096):VC EZ 24 2 [.ptr 0 0] (stO s) (RR (.sl 1 ((sortZ (keysA s.bs)).map encK) false) 2 (stO s)):=by
 have hk:KeysP (keysA s.bs) (mapT s.bs):=⟨rfl,by
  rw[keysM_A]⟩
 refine VC.enterR LZ (show EZ.func 24=some Tryz.f24 by kernel_rfl) (fun _ _=>rfl) rfl rfl [] ?_
 ((conv=>whnf)<;>repeat(with_reducible refine D1 ?_)<;>conv=>whnf)
 refine⟨[],[some 1],_,_,_,_,mkeys_ok s.bs,t3,?_⟩
 rintro r o' c' ⟨rfl,rfl,rfl⟩
 ((conv=>whnf)<;>repeat(with_reducible refine D1 ?_)<;>conv=>whnf)
 refine⟨[],[some 1,some 3],_,_,_,_,VC.keysU hk (by rw[List.length_map];exact hn),t3,?_⟩
 rintro r o' c' ⟨rfl,rfl,rfl⟩
 ((conv=>whnf)<;>repeat(with_reducible refine D1 ?_)<;>conv=>whnf)
 exact⟨[],[some 0,some 1],_,_,_,t3,rfl,rfl,rfl⟩
@[reducible] def putS (s:StS) (k:Int) (v:Vs):StS:={s with bs:=putA s.bs k (putB (ofK s k) v)}
theorem put_bs (bs:List (Int×List Vs)) (k:Int) (vs:List Vs):apM (bs.map (encA .u32 blkV)) [(.int .u32 k,blkV vs)]=(putA bs k vs).map (encA .u32 blkV):=by
 show putM (bs.map (encA .u32 blkV)) (.int .u32 k) (blkV vs)=_
 rw[putM_A]
theorem kput_ok (s:StS) (k:Int) (v:Vs) (hv:0≤v.ver∧v.ver≤18446744073709551615) (H:SOk s):VC EZ 63 2 [.ptr 0 0,.s (.int .u32 k),.agg (encV v)] (stO s) (RR (.s (.int .i64 (putE (ofK s k) v))) 2 (stO (putS s k v))):=by
 cases h:lookA s.bs k with
 |none=>
  unfold putS
  rw[ofK_none h]
  refine VC.enterR LZ (show EZ.func 63=some Tryz.f63 by kernel_rfl) (fun _ _=>rfl) rfl rfl [] ?_
  ((conv=>whnf)<;>repeat(with_reducible refine D1 ?_)<;>conv=>whnf)
  refine⟨none,by rw[lookM_A,h];rfl,?_⟩
  ((conv=>whnf)<;>repeat(with_reducible refine D1 ?_)<;>conv=>whnf)
  refine⟨[],[],_,_,_,_,bnew_ok,t3,?_⟩
  rintro r o' c' ⟨rfl,rfl,rfl⟩
  ((conv=>whnf)<;>repeat(with_reducible refine D1 ?_)<;>conv=>whnf)
  refine⟨[],[some 3],_,_,_,_,bput_ok [] v hv (by decide),t3,?_⟩
  rintro r o' c' ⟨rfl,rfl,rfl⟩
  ((conv=>whnf)<;>repeat(with_reducible refine D1 ?_)<;>conv=>whnf)
  refine⟨[],[some 0,some 1],_,_,_,⟨by(repeat' first|with_reducible exact Lz.rfl|exact Lw.rfl|exact Lz.wrap (by omega)|(unfold goInt;with_reducible exact Lz.rfl)|exact flx _|constructor),.cons (.cells (by(repeat' first|with_reducible exact Lz.rfl|exact Lw.rfl|exact Lz.wrap (by omega)|(unfold goInt;with_reducible exact Lz.rfl)|exact flx _|constructor))) (.cons (.maq (opc:=[(_,blkV (putB [] v))]) .one (Lw.of (put_bs _ _ _)) (.m1 (by rfl) (by(repeat' first|with_reducible exact Lz.rfl|exact Lw.rfl|exact Lz.wrap (by omega)|(unfold goInt;with_reducible exact Lz.rfl)|exact flx _|constructor)))) .nil),by rfl⟩,⟨rfl,rfl,rfl⟩⟩
 |some vs=>
  unfold putS
  rw[ofK_some h]
  obtain⟨_,hn⟩:=H.v k vs h
  refine VC.enterR LZ (show EZ.func 63=some Tryz.f63 by kernel_rfl) (fun _ _=>rfl) rfl rfl [] ?_
  ((conv=>whnf)<;>repeat(with_reducible refine D1 ?_)<;>conv=>whnf)
  refine⟨some (blkV vs),by rw[lookM_A,h];rfl,?_⟩
  ((conv=>whnf)<;>repeat(with_reducible refine D1 ?_)<;>conv=>whnf)
  refine⟨[],[some 3],_,_,_,_,bput_ok vs v hv hn,t3,?_⟩
  rintro r o' c' ⟨rfl,rfl,rfl⟩
  ((conv=>whnf)<;>repeat(with_reducible refine D1 ?_)<;>conv=>whnf)
  refine⟨[],[some 0,some 1],_,_,_,⟨by(repeat' first|with_reducible exact Lz.rfl|exact Lw.rfl|exact Lz.wrap (by omega)|(unfold goInt;with_reducible exact Lz.rfl)|exact flx _|constructor),.cons (.cells (by(repeat' first|with_reducible exact Lz.rfl|exact Lw.rfl|exact Lz.wrap (by omega)|(unfold goInt;with_reducible exact Lz.rfl)|exact flx _|constructor))) (.cons (.maq (opc:=[(_,blkV (putB vs v))]) .one (Lw.of (put_bs _ _ _)) (.m1 (by rfl) (by(repeat' first|with_reducible exact Lz.rfl|exact Lw.rfl|exact Lz.wrap (by omega)|(unfold goInt;with_reducible exact Lz.rfl)|exact flx _|constructor)))) .nil),by rfl⟩,⟨rfl,rfl,rfl⟩⟩
end Go.M
namespace Go.M
open Go Go.Proofs
set_option maxRecDepth 100000
set_option maxHeartbeats 4000000
@[reducible] def roomS (s:StS):Bool:=decide (s.bs.length<192)
@[reducible] def outS (s:StS) (u:UpR):Int×Int×Bool:=outC u (lastV (ofK s u.key)).ver (roomS s)
@[reducible] def rowS (s:StS) (u:UpR):RowS:=⟨u.client,u.num,u.seq,(outS s u).1,(outS s u).2.1⟩
@[reducible] def wrote (s:StS) (u:UpR):StS:=if(outS s u).2.2=true then putS {s with e:=u.seq} u.key ⟨(outS s u).2.1,u.seq,u.data⟩else {s with e:=u.seq}
def applyS (s:StS) (u:UpR):(RowS×Int)×StS:=
 if chkU u≠0 then((zeroR,chkU u),s)
 else if u.seq - 1≠s.e then((zeroR,12),s)
 else if judgeC s.t u.client u.num≠0 then((zeroR,0),{s with e:=u.seq})
 else((rowS s u,setC s.t (rowS s u)),{wrote s u with t:=setT s.t (rowS s u)})
@[reducible] def encH (q:RowS×Int):TV:=.tup [.agg (encR q.1),.s (.int .i64 q.2)]
theorem okU_seq {u:UpR} (h:chkU u=0):u.seq≠0∧u.data.length≤2048:=by
 unfold chkU okU at h
 split at h
 ·split at h
  ·omega
  ·split at h
   ·rename_i h2;simp at h2;omega
   ·omega
 ·omega
theorem outC_range {u:UpR} {ver:Int} {b:Bool} (h:0≤ver∧ver≤18446744073709551615):0≤(outC u ver b).2.1∧(outC u ver b).2.1≤18446744073709551615:=by
 unfold outC
 split
 ·split
  ·exact h
  ·split
   ·exact h
   ·simp;omega
 ·exact h
theorem lastV_range {vs:List Vs} (hv:∀v∈vs,VOk v):0≤(lastV vs).ver∧(lastV vs).ver≤18446744073709551615:=by
 rcases two_ends vs with rfl |⟨ws,w,rfl⟩
 ·exact⟨by decide,by decide⟩
 ·rw[lastV_end];exact(hv w (by simp)).ver
theorem ofK_ok {s:StS} (H:SOk s) (k:Int):(∀v∈ofK s k,VOk v)∧(ofK s k).length<100000:=by
 cases h:lookA s.bs k with
 |none=>rw[ofK_none h];exact⟨by simp,by decide⟩
 |some vs=>rw[ofK_some h];exact H.v k vs h
theorem room_t {s:StS} (h:(((s.bs.map (encA .u32 blkV)).length:Nat):Int)<192):roomS s=true:=decide_eq_true (by rw[List.length_map]at h;omega)
theorem room_i {s:StS} (h:roomS s=true):(((s.bs.map (encA .u32 blkV)).length:Nat):Int)<192:=by
 have:s.bs.length<192:=of_decide_eq_true h
 rw[List.length_map];omega
theorem apply_ok (s:StS) (u:UpR) (H:SOk s) (hu:UOk u):VC EZ 23 2 [.ptr 0 0,.agg (encU u)] (stO s) (RR (encH (applyS s u).1) 2 (stO (applyS s u).2)):=by
 have hs:=hu.seq
 unfold applyS
 by_cases h0:chkU u=0
 ·rw[if_neg (not_not_intro h0)]
  have hc:=check_ok u
  rw[h0]at hc
  obtain⟨hs1,hdl⟩:=okU_seq h0
  have hw:IntKind.u64.wrap (u.seq - 1)=u.seq - 1:=IntWalk.u64_in _ (by omega)
  by_cases h1:u.seq - 1=s.e
  ·rw[if_neg (not_not_intro h1)]
   have hj:=sjudgeV s.t u.client u.num
   have hl:=last_ok {s with e:=u.seq} u.key ⟨H.v⟩
   have hlr:=lastV_range (ofK_ok H u.key).1
   have ho:=outcome_ok u (lastV (ofK s u.key)).ver (roomS s) hlr
   refine VC.enterR LZ (show EZ.func 23=some Tryz.f23 by kernel_rfl) (fun _ _=>rfl) rfl rfl [] ?_
   ((conv=>whnf)<;>repeat(with_reducible refine D1 ?_)<;>conv=>whnf)
   refine⟨[],[],_,_,_,_,hc,t3,?_⟩
   rintro r o' c' ⟨rfl,rfl,rfl⟩
   ((conv=>whnf)<;>repeat(with_reducible refine D1 ?_)<;>conv=>whnf)
   (first|refine⟨?_,?_⟩|refine nsplit ?_ ?_|refine bsplit ?_ ?_)<;>intro h2<;>have hz_:=True.intro<;>clear hz_
   ·exact absurd rfl h2
   ·((conv=>whnf)<;>repeat(with_reducible refine D1 ?_)<;>conv=>whnf)
    (first|refine⟨?_,?_⟩|refine nsplit ?_ ?_|refine bsplit ?_ ?_)<;>intro h3<;>have hz_:=True.intro<;>clear hz_
    ·have h3:IntKind.u64.wrap (u.seq - 1)≠s.e:=h3
     rw[hw]at h3
     exact absurd h1 h3
    ·((conv=>whnf)<;>repeat(with_reducible refine D1 ?_)<;>conv=>whnf)
     refine⟨[],[some 4],_,_,_,_,hj,t3,?_⟩
     rintro r o' c' ⟨rfl,rfl,rfl⟩
     ((conv=>whnf)<;>repeat(with_reducible refine D1 ?_)<;>conv=>whnf)
     (first|refine⟨?_,?_⟩|refine nsplit ?_ ?_|refine bsplit ?_ ?_)<;>intro h4<;>have hz_:=True.intro<;>clear hz_
     ·have h4:judgeC s.t u.client u.num≠0:=h4
      rw[if_pos h4]
      ((conv=>whnf)<;>repeat(with_reducible refine D1 ?_)<;>conv=>whnf)
      exact⟨[],[some 0,some 1],_,_,_,t3,rfl,rfl,rfl⟩
     ·have h4:¬judgeC s.t u.client u.num≠0:=h4
      rw[if_neg h4]
      ((conv=>whnf)<;>repeat(with_reducible refine D1 ?_)<;>conv=>whnf)
      refine⟨[],[some 0,some 1],_,_,_,_,hl,t3,?_⟩
      rintro r o' c' ⟨rfl,rfl,rfl⟩
      ((conv=>whnf)<;>repeat(with_reducible refine D1 ?_)<;>conv=>whnf)
      rcases hq:outS s u with⟨qc,qv,qb⟩
      rw[show outC u (lastV (ofK s u.key)).ver (roomS s)=(qc,qv,qb)from hq]at ho
      have hqv:0≤qv∧qv≤18446744073709551615:=by
       have:=outC_range (u:=u) (b:=roomS s) hlr
       rw[show outC u (lastV (ofK s u.key)).ver (roomS s)=(qc,qv,qb)from hq]at this
       exact this
      have hrow:rowS s u=⟨u.client,u.num,u.seq,qc,qv⟩:=by unfold rowS;rw[hq]
      have hwr:wrote s u=if qb=true then putS {s with e:=u.seq} u.key ⟨qv,u.seq,u.data⟩else {s with e:=u.seq}:=by unfold wrote;rw[hq]
      rw[hrow,hwr]
      cases qb
      ·rw[if_neg Bool.false_ne_true]
       cases hr:roomS s
       ·rw[hr]at ho
        (first|refine⟨?_,?_⟩|refine nsplit ?_ ?_|refine bsplit ?_ ?_)<;>intro h5<;>have hz_:=True.intro<;>clear hz_
        ·exact absurd ((room_t h5).symm.trans hr) (by decide)
        ·((conv=>whnf)<;>repeat(with_reducible refine D1 ?_)<;>conv=>whnf)
         refine⟨[],[],_,_,_,_,ho,t3,?_⟩
         rintro r o' c' ⟨rfl,rfl,rfl⟩
         ((conv=>whnf)<;>repeat(with_reducible refine D1 ?_)<;>conv=>whnf)
         refine⟨[],[some 9],_,_,_,_,sset_ok s.t ⟨u.client,u.num,u.seq,qc,qv⟩,t3,?_⟩
         rintro r o' c' ⟨rfl,rfl,rfl⟩
         ((conv=>whnf)<;>repeat(with_reducible refine D1 ?_)<;>conv=>whnf)
         exact⟨[],[some 0,some 1],_,_,_,t3,rfl,rfl,rfl⟩
       ·rw[hr]at ho
        (first|refine⟨?_,?_⟩|refine nsplit ?_ ?_|refine bsplit ?_ ?_)<;>intro h5<;>have hz_:=True.intro<;>clear hz_
        ·((conv=>whnf)<;>repeat(with_reducible refine D1 ?_)<;>conv=>whnf)
         refine⟨[],[],_,_,_,_,ho,t3,?_⟩
         rintro r o' c' ⟨rfl,rfl,rfl⟩
         ((conv=>whnf)<;>repeat(with_reducible refine D1 ?_)<;>conv=>whnf)
         refine⟨[],[some 9],_,_,_,_,sset_ok s.t ⟨u.client,u.num,u.seq,qc,qv⟩,t3,?_⟩
         rintro r o' c' ⟨rfl,rfl,rfl⟩
         ((conv=>whnf)<;>repeat(with_reducible refine D1 ?_)<;>conv=>whnf)
         exact⟨[],[some 0,some 1],_,_,_,t3,rfl,rfl,rfl⟩
        ·exact absurd (room_i hr) h5
      ·rw[if_pos rfl]
       cases hr:roomS s
       ·rw[hr]at ho
        (first|refine⟨?_,?_⟩|refine nsplit ?_ ?_|refine bsplit ?_ ?_)<;>intro h5<;>have hz_:=True.intro<;>clear hz_
        ·exact absurd ((room_t h5).symm.trans hr) (by decide)
        ·((conv=>whnf)<;>repeat(with_reducible refine D1 ?_)<;>conv=>whnf)
         refine⟨[],[],_,_,_,_,ho,t3,?_⟩
         rintro r o' c' ⟨rfl,rfl,rfl⟩
         ((conv=>whnf)<;>repeat(with_reducible refine D1 ?_)<;>conv=>whnf)
         refine⟨[],[],_,_,_,_,made_ok u qv (by omega),t3,?_⟩
         rintro r o' c' ⟨rfl,rfl,rfl⟩
         ((conv=>whnf)<;>repeat(with_reducible refine D1 ?_)<;>conv=>whnf)
         refine⟨[],[some 0,some 1],_,_,_,_,kput_ok {s with e:=u.seq} u.key ⟨qv,u.seq,u.data⟩ hqv ⟨H.v⟩,t3,?_⟩
         rintro r o' c' ⟨rfl,rfl,rfl⟩
         ((conv=>whnf)<;>repeat(with_reducible refine D1 ?_)<;>conv=>whnf)
         refine⟨[],[some 11],_,_,_,_,sset_ok s.t ⟨u.client,u.num,u.seq,qc,qv⟩,t3,?_⟩
         rintro r o' c' ⟨rfl,rfl,rfl⟩
         ((conv=>whnf)<;>repeat(with_reducible refine D1 ?_)<;>conv=>whnf)
         exact⟨[],[some 0,some 1],_,_,_,t3,rfl,rfl,rfl⟩
       ·rw[hr]at ho
        (first|refine⟨?_,?_⟩|refine nsplit ?_ ?_|refine bsplit ?_ ?_)<;>intro h5<;>have hz_:=True.intro<;>clear hz_
        ·((conv=>whnf)<;>repeat(with_reducible refine D1 ?_)<;>conv=>whnf)
         refine⟨[],[],_,_,_,_,ho,t3,?_⟩
         rintro r o' c' ⟨rfl,rfl,rfl⟩
         ((conv=>whnf)<;>repeat(with_reducible refine D1 ?_)<;>conv=>whnf)
         refine⟨[],[],_,_,_,_,made_ok u qv (by omega),t3,?_⟩
         rintro r o' c' ⟨rfl,rfl,rfl⟩
         ((conv=>whnf)<;>repeat(with_reducible refine D1 ?_)<;>conv=>whnf)
         refine⟨[],[some 0,some 1],_,_,_,_,kput_ok {s with e:=u.seq} u.key ⟨qv,u.seq,u.data⟩ hqv ⟨H.v⟩,t3,?_⟩
         rintro r o' c' ⟨rfl,rfl,rfl⟩
         ((conv=>whnf)<;>repeat(with_reducible refine D1 ?_)<;>conv=>whnf)
         refine⟨[],[some 11],_,_,_,_,sset_ok s.t ⟨u.client,u.num,u.seq,qc,qv⟩,t3,?_⟩
         rintro r o' c' ⟨rfl,rfl,rfl⟩
         ((conv=>whnf)<;>repeat(with_reducible refine D1 ?_)<;>conv=>whnf)
         exact⟨[],[some 0,some 1],_,_,_,t3,rfl,rfl,rfl⟩
        ·exact absurd (room_i hr) h5
  ·rw[if_pos h1]
   refine VC.enterR LZ (show EZ.func 23=some Tryz.f23 by kernel_rfl) (fun _ _=>rfl) rfl rfl [] ?_
   ((conv=>whnf)<;>repeat(with_reducible refine D1 ?_)<;>conv=>whnf)
   refine⟨[],[],_,_,_,_,hc,t3,?_⟩
   rintro r o' c' ⟨rfl,rfl,rfl⟩
   ((conv=>whnf)<;>repeat(with_reducible refine D1 ?_)<;>conv=>whnf)
   (first|refine⟨?_,?_⟩|refine nsplit ?_ ?_|refine bsplit ?_ ?_)<;>intro h2<;>have hz_:=True.intro<;>clear hz_
   ·exact absurd rfl h2
   ·((conv=>whnf)<;>repeat(with_reducible refine D1 ?_)<;>conv=>whnf)
    (first|refine⟨?_,?_⟩|refine nsplit ?_ ?_|refine bsplit ?_ ?_)<;>intro h3<;>have hz_:=True.intro<;>clear hz_
    ·((conv=>whnf)<;>repeat(with_reducible refine D1 ?_)<;>conv=>whnf)
     exact⟨[],[some 0,some 1],_,_,_,t3,rfl,rfl,rfl⟩
    ·have h3:¬IntKind.u64.wrap (u.seq - 1)≠s.e:=h3
     rw[hw]at h3
     exact absurd h1 h3
 ·rw[if_pos h0]
  have hc:=check_ok u
  refine VC.enterR LZ (show EZ.func 23=some Tryz.f23 by kernel_rfl) (fun _ _=>rfl) rfl rfl [] ?_
  ((conv=>whnf)<;>repeat(with_reducible refine D1 ?_)<;>conv=>whnf)
  refine⟨[],[],_,_,_,_,hc,t3,?_⟩
  rintro r o' c' ⟨rfl,rfl,rfl⟩
  ((conv=>whnf)<;>repeat(with_reducible refine D1 ?_)<;>conv=>whnf)
  (first|refine⟨?_,?_⟩|refine nsplit ?_ ?_|refine bsplit ?_ ?_)<;>intro h2<;>have hz_:=True.intro<;>clear hz_
  ·((conv=>whnf)<;>repeat(with_reducible refine D1 ?_)<;>conv=>whnf)
   exact⟨[],[some 0,some 1],_,_,_,t3,rfl,rfl,rfl⟩
  ·exact absurd h0 h2
end Go.M
namespace Go.M
open Go Go.Proofs
set_option maxRecDepth 100000
set_option maxHeartbeats 4000000
def trim1 (s:StS) (d k:Int):StS:=match lookA s.bs k with
 |some vs=>{s with bs:=putA s.bs k (vs.drop (trimN vs d))}
 |none=>s
def trimStep (d:Int) (r:StS×Nat) (k:Int):StS×Nat:=(trim1 r.1 d k,r.2+trimN (ofK r.1 k) d)
def trimA (d:Int) (r:StS×Nat) (ks:List Int):StS×Nat:=ks.foldl (trimStep d) r
theorem trimA_next (d:Int) (r:StS×Nat) (ks:List Int) (i:Nat) (h:i<ks.length):trimA d r (ks.take (i+1))=trimStep d (trimA d r (ks.take i)) ks[i]:=by
 unfold trimA
 rw[List.take_succ_eq_append_getElem h,List.foldl_append];rfl
theorem SOk.put {s:StS} (H:SOk s) {k:Int} {vs:List Vs} (hv:∀v∈vs,VOk v) (hn:vs.length<100000):SOk {s with bs:=putA s.bs k vs}:=⟨fun k' ws h=>by
 rw[lookA_put]at h
 split at h
 ·cases h;exact⟨hv,hn⟩
 ·exact H.v k' ws h⟩
theorem SOk.trim1 {s:StS} (H:SOk s) (d k:Int):SOk (trim1 s d k):=by
 unfold Go.M.trim1
 split
 ·rename_i vs h
  obtain⟨hv,hn⟩:=H.v k vs h
  exact H.put (fun v m=>hv v (List.mem_of_mem_drop m)) (by rw[List.length_drop];omega)
 ·exact H
theorem trimN_nil (d:Int):trimN [] d=0:=by
 show(cleanI [] d).toNat=0
 unfold cleanI;rw[srch_n (by decide)];rfl
theorem trimN_le (vs:List Vs) (d:Int):trimN vs d≤vs.length:=by
 have hle:=srch_le (fun k=>decide (d<(vs.getD k zeroVs).seq)) 0 vs.length (Nat.zero_le _)
 unfold trimN cleanI;omega
theorem trimA_ok {s:StS} (H:SOk s) (d:Int) (ks:List Int):∀i,i≤ks.length→SOk (trimA d (s,0) (ks.take i)).1∧(trimA d (s,0) (ks.take i)).2≤i*100000
 |0,_=>⟨H,Nat.le_refl _⟩
 |i+1,hi=>by
  obtain⟨h1,h2⟩:=trimA_ok H d ks i (by omega)
  rw[trimA_next d _ ks i (by omega)]
  refine⟨h1.trim1 d _,?_⟩
  show _+trimN _ d≤_
  have:=trimN_le (ofK (trimA d (s,0) (ks.take i)).1 ks[i]) d
  have:=(ofK_ok h1 ks[i]).2
  omega
theorem ktrim_ok (s:StS) (d:Int) (H:SOk s) (hn:s.bs.length<4096):VC EZ 28 2 [.ptr 0 0,.s (.int .u64 d)] (stO s)
 (RR (.s (.int .i64 (trimA d (s,0) (sortZ (keysA s.bs))).2)) 2 (stO (trimA d (s,0) (sortZ (keysA s.bs))).1)):=by
 have hk:=kkeys_ok s hn
 have hlen:(sortZ (keysA s.bs)).length<4096:=by unfold sortZ;rw[List.length_mergeSort,List.length_map];exact hn
 generalize sortZ (keysA s.bs)=ks at hk hlen
 have hall:=trimA_ok H d ks
 refine VC.enterR LZ (show EZ.func 28=some Tryz.f28 by kernel_rfl) (fun _ _=>rfl) rfl rfl [] ?_
 ((conv=>whnf)<;>repeat(with_reducible refine D1 ?_)<;>conv=>whnf)
 refine⟨[],[some 0,some 1],_,_,_,_,hk,t3,?_⟩
 rintro r o' c' ⟨rfl,rfl,rfl⟩
 ((conv=>whnf)<;>repeat(with_reducible refine D1 ?_)<;>conv=>whnf)
 refine⟨fun k f o c=>∃(i:Nat) (r:StS) (n:Nat),trimA d (s,0) (ks.take i)=(r,n)∧i≤ks.length∧k=ks.length - i∧c=2∧f=[(0,.ptr 0 0),(1,.s (.int .u64 d)),(5,.s (.int .i64 n)),(9,.sl 1 (ks.map encK) false),(10,.s (.int .i64 ks.length)),(11,.s (.int .i64 i))]∧o=stO r,⟨ks.length,?_⟩,?_⟩
 ·refine⟨[],[some 0,some 1],?_⟩
  iterate 3 constructor
  refine⟨⟨?_,?_,?_⟩,⟨0,s,0,rfl,Nat.zero_le _,rfl,rfl,rfl,rfl⟩⟩
  all_goals(repeat' first|with_reducible exact Lz.rfl|exact Lw.rfl|exact Lz.wrap (by omega)|(unfold goInt;with_reducible exact Lz.rfl)|exact flx _|constructor)
  all_goals exact Lz.int (by simp)
 ·rintro k f1 o1 c1 ⟨i,r,n,hr,hi,rfl,rfl,rfl,rfl⟩
  obtain⟨hs,hb⟩:=hall i hi
  rw[hr]at hs hb
  have hs:SOk r:=hs
  have hb:n≤i*100000:=hb
  ((conv=>whnf)<;>repeat(with_reducible refine D1 ?_)<;>conv=>whnf)
  (first|refine⟨?_,?_⟩|refine nsplit ?_ ?_|refine bsplit ?_ ?_)<;>intro hlt<;>have hz_:=True.intro<;>clear hz_
  ·have hlt:i<ks.length:=by exact Int.ofNat_lt.1 hlt
   have hnx:=trimA_next d (s,0) ks i hlt
   rw[hr]at hnx
   ((conv=>whnf)<;>repeat(with_reducible refine D1 ?_)<;>conv=>whnf)
   refine⟨encK ks[i],⟨by omega,by simp[hlt]⟩,?_⟩
   ((conv=>whnf)<;>repeat(with_reducible refine D1 ?_)<;>conv=>whnf)
   cases h:lookA r.bs ks[i]with
   |none=>
    refine⟨[],[some 0,some 1],_,_,_,_,block_no r ks[i] h,t3,?_⟩
    rintro r o' c' ⟨rfl,rfl,rfl⟩
    ((conv=>whnf)<;>repeat(with_reducible refine D1 ?_)<;>conv=>whnf)
    refine⟨[],[],_,_,_,_,btrim_nil d,t3,?_⟩
    rintro r o' c' ⟨rfl,rfl,rfl⟩
    ((conv=>whnf)<;>repeat(with_reducible refine D1 ?_)<;>conv=>whnf)
    refine⟨ks.length - (i+1),?_,by omega⟩
    rw[show trimStep d (r,n) ks[i]=(r,n)from by unfold trimStep;rw[show trim1 r d ks[i]=r from by unfold trim1;rw[h]];rw[ofK_none h,trimN_nil];rfl]at hnx
    rw[show IntKind.i64.wrap ((n:Int)+0)=(n:Int)from by rw[IntWalk.i64_in _ (by omega)];omega]
    exact⟨[],[some 0,some 1],_,_,_,t3,⟨i+1,r,n,hnx,by omega,rfl,rfl,rfl,rfl⟩⟩
   |some vs=>
    obtain⟨hv,hvn⟩:=hs.v _ vs h
    have hm:=trimN_le vs d
    refine⟨[],[some 0,some 1],_,_,_,_,block_is r ks[i] vs h,t3,?_⟩
    rintro r o' c' ⟨rfl,rfl,rfl⟩
    ((conv=>whnf)<;>repeat(with_reducible refine D1 ?_)<;>conv=>whnf)
    refine⟨[],[some 4],_,_,_,_,btrim_ok vs d (by omega),t3,?_⟩
    rintro r o' c' ⟨rfl,rfl,rfl⟩
    ((conv=>whnf)<;>repeat(with_reducible refine D1 ?_)<;>conv=>whnf)
    refine⟨ks.length - (i+1),?_,by omega⟩
    have hst:trimStep d (r,n) ks[i]=({r with bs:=putA r.bs ks[i] (vs.drop (trimN vs d))},n+trimN vs d):=by
     unfold trimStep;rw[show trim1 r d ks[i]={r with bs:=putA r.bs ks[i] (vs.drop (trimN vs d))}from by unfold trim1;rw[h]];rw[ofK_some h]
    rw[hst]at hnx
    rw[show IntKind.i64.wrap ((n:Int)+((trimN vs d:Nat):Int))=((n+trimN vs d:Nat):Int)from by rw[IntWalk.i64_in _ (by omega)];omega]
    rw[show IntKind.i64.wrap ((i:Int)+1)=((i+1:Nat):Int)from by rw[IntWalk.i64_in _ (by omega)];omega]
    refine⟨[],[some 0,some 1],_,_,_,⟨by(repeat' first|with_reducible exact Lz.rfl|exact Lw.rfl|exact Lz.wrap (by omega)|(unfold goInt;with_reducible exact Lz.rfl)|exact flx _|constructor),.cons (.cells (by(repeat' first|with_reducible exact Lz.rfl|exact Lw.rfl|exact Lz.wrap (by omega)|(unfold goInt;with_reducible exact Lz.rfl)|exact flx _|constructor))) (.cons (.maq (opc:=[(_,blkV (vs.drop (trimN vs d)))]) .one (Lw.of (put_bs r.bs ks[i] _)) (.m1 (by rfl) (by(repeat' first|with_reducible exact Lz.rfl|exact Lw.rfl|exact Lz.wrap (by omega)|(unfold goInt;with_reducible exact Lz.rfl)|exact flx _|constructor)))) .nil),by rfl⟩,⟨i+1,{r with bs:=putA r.bs ks[i] (vs.drop (trimN vs d))},n+trimN vs d,hnx,by omega,rfl,rfl,rfl,rfl⟩⟩
  ·have hlt:¬i<ks.length:=fun q=>hlt (Int.ofNat_lt.2 q)
   have:i=ks.length:=by omega
   subst this
   rw[List.take_length]at hr
   rw[hr]
   ((conv=>whnf)<;>repeat(with_reducible refine D1 ?_)<;>conv=>whnf)
   exact⟨[],[some 0,some 1],_,_,_,t3,rfl,rfl,rfl⟩
end Go.M
