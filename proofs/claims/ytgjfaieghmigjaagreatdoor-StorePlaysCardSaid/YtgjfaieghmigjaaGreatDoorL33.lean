/-
  Part 33 of the library that the proof leans on.
-/
import Derived.Test.YtgjfaieghmigjaaGreatDoorL22
import Derived.Test.YtgjfaieghmigjaaGreatDoorL32
import Derived.Test.YtgjfaieghmigjaaGreatDoorL30
import Derived.Test.YtgjfaieghmigjaaGreatDoorL31
namespace Go.M
open Go Go.Proofs
set_option maxRecDepth 1000000
theorem orcZ (base B:Nat):OrcOk Tryz.prog EZ base B:=by
 refine orcX_ok tabsB0 (fun g hg=>?_) (fun base B=>orcY_ok mixed0 base B) base B
 simp only[List.mem_cons,List.not_mem_nil,or_false]at hg
 rcases hg with rfl |rfl
 ·exact awake18
 ·exact awake22
theorem awake18_ok:VC EZ 26 0 [] [] (RR (.s (.bool true)) 0 []):=VC.mono (R:=fun r o c=>r= .s (.bool true)∧o=[]∧c=0)
 (VC.awakeX (g:=26) (aw:=[26,21]) tabsB0 (by show(Tryz.prog.funcs[26]?).isSome=true;kernel_rfl) rfl) fun _ _ _ h=>⟨h.1,h.2.2,h.2.1⟩
end Go.M
namespace Go.M
open Go Go.Proofs
set_option maxRecDepth 100000
set_option maxHeartbeats 4000000
@[reducible] def st2 (s t:StS):Ob:=[(0,stoC s),(1,mapT s.bs),(2,.cells [.s (.int .u64 t.e),.mp 3,.own (tabT t.t)]),(3,mapT t.bs)]
end Go.M
namespace Go.M
open Go Go.Proofs
set_option maxRecDepth 100000
set_option maxHeartbeats 4000000
theorem lastV_or (vs:List Vs):lastV vs=zeroVs∨lastV vs∈vs:=by
 rcases two_ends vs with rfl |⟨ws,w,rfl⟩
 ·exact .inl lastV_nil
 ·rw[lastV_end];exact .inr (by simp)
theorem pickR_or (vs:List Vs) (v d:Int):pickR vs v d=zeroVs∨pickR vs v d∈vs:=by
 unfold pickR
 split
 ·rename_i x h;exact .inr (List.mem_of_find?_eq_some h)
 ·split
  ·rcases lastV_or (vs.filter fun v=>decide (v.seq≤d))with h|h
   ·exact .inl h
   ·exact .inr (List.mem_filter.1 h).1
  ·exact .inl rfl
theorem small_of {e:Int} {vs:List Vs} (g:Good e vs) {x:Vs} (h:x=zeroVs∨x∈vs):0≤x.ver∧x.data.length<1000000:=by
 rcases h with rfl |h
 ·exact⟨by decide,by decide⟩
 ·have:=g.v x h;omega
@[reducible] def askT (k v d:Int):List TV:=[.s (.int .u32 k),.s (.int .u64 v),.s (.int .u64 d)]
@[reducible] def stA (s:StS) (r:RfS) (k v d:Int):Ob:=[(0,.cells (askT k v d)),(1,.cells [.s (.int .u64 s.e),.mp 2,.own (tabT s.t)]),(2,mapT s.bs),(3,.cells (encRf r))]
end Go.M
namespace Go.M
open Go Go.Proofs
set_option maxRecDepth 100000
set_option maxHeartbeats 4000000
@[reducible] def verB (k:Int) (v:Vs):List Int:=bigL 4 k.toNat++bigL 8 v.ver.toNat++bigL 8 v.seq.toNat++(bigL 2 v.data.length++v.data)
@[reducible] def keyB (s:StS) (k:Int):List Int:=verB k (lastV (ofK s k))
@[reducible] def headB (e:Int) (rows:List RowS) (n:Nat):List Int:=bigL 8 e.toNat++rowsB rows++bigL 2 n
@[reducible] def picB (s:StS):List Int:=headB s.e (rowsT s.t) s.bs.length++(sortZ (keysA s.bs)).flatMap (keyB s)
structure PicOk (s:StS):Prop where
 ok:SOk s
 e:0≤s.e∧s.e≤18446744073709551615
 rows:∀r∈rowsT s.t,RowOk r
 n:s.bs.length≤300
 keys:∀k∈keysA s.bs,0≤k∧k≤4294967295
theorem PicOk.last {s:StS} (H:PicOk s) (k:Int):VOk (lastV (ofK s k)):=by
 rcases lastV_or (ofK s k)with h|h
 ·rw[h];exact⟨by decide,by decide,by decide⟩
 ·exact(ofK_ok H.ok k).1 _ h
theorem verB_len {k:Int} {v:Vs} (h:v.data.length≤2048):(verB k v).length≤2070:=by simp[verB,bigL_len];omega
theorem flatK_len {s:StS} (H:PicOk s) (l:List Int):(l.flatMap (keyB s)).length≤l.length*2070:=by
 induction l with
 |nil=>simp
 |cons k l ih=>
  rw[List.flatMap_cons,List.length_append,List.length_cons]
  have:=verB_len (k:=k) (H.last k).len
  show(verB k _).length+_≤_
  omega
@[reducible] def stPic (s:StS) (x:OutS):Ob:=[(0,stoC s),(1,mapT s.bs),(2,OutO x)]
theorem new1M_ok:VC EZ 91 0 [.s (.int .i64 1048576)] [] (RR (.ptr 0 0) 1 [(0,OutO ⟨[],1048576,0⟩)]):=new_ok 1048576
@[reducible] def xH (s:StS):OutS:=⟨headB s.e (rowsT s.t) s.bs.length,1048576,0⟩
theorem picture_ok (s:StS) (H:PicOk s):VC EZ 39 2 [.ptr 0 0] (stO s) (RR (.sl 1 (encU8 (picB s)) false) 2 (stO s)):=by
 have hn:=H.n
 have hkeys:∀k∈sortZ (keysA s.bs),0≤k∧k≤4294967295:=fun k m=>H.keys k (by unfold sortZ at m;exact List.mem_mergeSort.1 m)
 have hsl:(sortZ (keysA s.bs)).length=s.bs.length:=by unfold sortZ;rw[List.length_mergeSort,List.length_map]
 have hkk:=kkeys_ok s (by omega)
 have hrl:=rowsT_len s.t
 have hf26:=flat_len26 (rowsT s.t)
 have R0:Room ⟨[],1048576,0⟩ 800000:=⟨rfl,rfl,by decide⟩
 have R1:Room (OutS.add ⟨[],1048576,0⟩ (bigL 8 s.e.toNat)) 799992:=R0.add (by rw[bigL_len];decide)
 have R2:Room ((OutS.add ⟨[],1048576,0⟩ (bigL 8 s.e.toNat)).add (rowsB (rowsT s.t))) 799000:=R1.add (by unfold rowsB;rw[List.length_append,bigL_len,hf26];omega)
 have R3:Room (xH s) 700000:=by
  have:=R2.add (x:=bigL 2 s.bs.length) (j:=700000) (by rw[bigL_len];decide)
  exact this
 refine VC.enterR LZ (show EZ.func 39=some Tryz.f39 by kernel_rfl) (fun _ _=>rfl) rfl rfl [] ?_
 conv=>whnf
 refine⟨[],[],_,_,_,_,new1M_ok,t3,cR ?_⟩
 conv=>whnf
 refine⟨[],[some 2],_,_,_,_,numI_ok ⟨[],1048576,0⟩ s.e 8 800000 R0 (by decide) (by decide) (by decide) H.e.1 H.e.2 (by have:=H.e;omega),t3,cR ?_⟩
 conv=>whnf
 refine⟨[],[some 4,some 2],_,_,_,_,sput_ok s.t _ 799992 R1 (by decide) H.rows,t3,cR ?_⟩
 conv=>whnf
 conv=>whnf
 rw[List.length_map,show IntKind.u64.wrap ((s.bs.length:Nat):Int)=((s.bs.length:Nat):Int)from IntWalk.u64_in _ (by omega)]
 refine⟨[],[some 2],_,_,_,_,numI_ok _ ((s.bs.length:Nat):Int) 2 799000 R2 (by decide) (by decide) (by decide) (by omega) (by omega) (by rw[Int.toNat_natCast];omega),t3,cR ?_⟩
 conv=>whnf
 refine⟨[],[some 0,some 1],_,_,_,_,hkk,t3,cR ?_⟩
 conv=>whnf
 rw[show(((OutS.add ⟨[],1048576,0⟩ (bigL 8 s.e.toNat)).add (rowsB (rowsT s.t))).add (bigL 2 ((s.bs.length:Nat):Int).toNat))=xH s from by rw[Int.toNat_natCast];simp only[OutS.add,xH,headB,List.nil_append]]
 have hpic:picB s=((xH s).add ((sortZ (keysA s.bs)).flatMap (keyB s))).b:=rfl
 rw[hpic]
 have hfk:=fun n=>flatK_len H ((sortZ (keysA s.bs)).take n)
 generalize sortZ (keysA s.bs)=ks at hkeys hsl hfk
 refine⟨fun q f o c=>∃i:Nat,i≤ks.length∧q=ks.length - i∧c=3∧f=[(0,.ptr 0 0),(3,.ptr 2 0),(33,.sl 1 (ks.map encK) false),(34,.s (.int .i64 ks.length)),(35,.s (.int .i64 i))]∧o=stPic s ((xH s).add ((ks.take i).flatMap (keyB s))),⟨ks.length,?_⟩,?_⟩
 ·refine⟨[],[some 0,some 1,some 2],?_⟩
  iterate 3 constructor
  refine⟨⟨?_,?_,?_⟩,⟨0,Nat.zero_le _,rfl,rfl,rfl,rfl⟩⟩
  all_goals(repeat' first|exact LF|constructor)
  ·exact Lz.int (by rw[List.length_map])
  ·exact Lz.of (by simp)
 ·rintro q f1 o1 c1 ⟨i,hi,rfl,rfl,rfl,rfl⟩
  conv=>whnf
  (first|refine⟨?_,?_⟩|refine nsplit ?_ ?_|refine bsplit ?_ ?_)<;>intro h<;>have hz_:=True.intro<;>clear hz_
  ·have h:i<ks.length:=by have h:(i:Int)<ks.length:=h
                          omega
   have hx:=hkeys _ (List.getElem_mem h)
   have hfl:=hfk i
   rw[List.length_take,Nat.min_eq_left hi]at hfl
   have hlast:=last_ok s ks[i] H.ok
   have hv:=H.last ks[i]
   have hnx:=flat_next (keyB s) h
   rw[show keyB s ks[i]=verB ks[i] (lastV (ofK s ks[i]))from rfl]at hnx
   have R4:Room ((xH s).add ((ks.take i).flatMap (keyB s))) 3000:=R3.add (by omega)
   generalize hX:(xH s).add ((ks.take i).flatMap (keyB s))=X at R4
   generalize lastV (ofK s ks[i])=v at hlast hv hnx
   conv=>whnf
   refine idxI h ?_
   refine⟨[],[some 0,some 1],_,_,_,_,hlast,t3,cR ?_⟩
   conv=>whnf
   rw[show IntKind.u64.wrap ks[i]=ks[i]from IntWalk.u64_in _ (by omega)]
   refine⟨[],[some 2],_,_,_,_,numI_ok X ks[i] 4 3000 R4 (by decide) (by decide) (by decide) hx.1 (by omega) (by omega),t3,cR ?_⟩
   conv=>whnf
   have R5:=R4.add (x:=bigL 4 ks[i].toNat) (j:=2990) (by rw[bigL_len];decide)
   refine⟨[],[some 2],_,_,_,_,numI_ok _ v.ver 8 2990 R5 (by decide) (by decide) (by decide) hv.ver.1 hv.ver.2 (by have:=hv.ver;omega),t3,cR ?_⟩
   conv=>whnf
   have R6:=R5.add (x:=bigL 8 v.ver.toNat) (j:=2980) (by rw[bigL_len];decide)
   refine⟨[],[some 2],_,_,_,_,numI_ok _ v.seq 8 2980 R6 (by decide) (by decide) (by decide) hv.seq.1 hv.seq.2 (by have:=hv.seq;omega),t3,cR ?_⟩
   conv=>whnf
   have R7:=R6.add (x:=bigL 8 v.seq.toNat) (j:=2970) (by rw[bigL_len];decide)
   refine⟨[],[some 2],_,_,_,_,outText_ok _ v.data 2970 R7 (by have:=hv.len;omega) (by have:=hv.len;omega),t3,cR ?_⟩
   conv=>whnf
   rw[show((((X.add (bigL 4 ks[i].toNat)).add (bigL 8 v.ver.toNat)).add (bigL 8 v.seq.toNat)).add (bigL 2 v.data.length++v.data))=(xH s).add ((ks.take (i+1)).flatMap (keyB s))from by rw[hnx,←hX];simp only[OutS.add,verB,List.append_assoc]]
   refine⟨ks.length - (i+1),?_,by omega⟩
   exact⟨[],[some 0,some 1,some 2],_,_,_,t3,⟨i+1,h,rfl,rfl,rfl,rfl⟩⟩
  ·obtain rfl:i=ks.length:=by have h:¬(i:Int)<ks.length:=h;omega
   have hfl:=hfk ks.length
   rw[List.take_length]at hfl
   have R4:Room ((xH s).add (ks.flatMap (keyB s))) 3000:=R3.add (by omega)
   rw[List.take_length]
   generalize (xH s).add (ks.flatMap (keyB s))=X at R4
   have hd:=done_ok X R4.ok (by have:=R4.l;omega)
   rw[if_pos R4.e,R4.e]at hd
   conv=>whnf
   refine⟨[],[some 2],_,_,_,_,hd,t3,cR ?_⟩
   conv=>whnf
   (first|refine⟨?_,?_⟩|refine nsplit ?_ ?_|refine bsplit ?_ ?_)<;>intro h0<;>have hz_:=True.intro<;>clear hz_
   ·exact absurd rfl h0
   ·conv=>whnf
    exact⟨[],[some 0,some 1],_,_,_,t3,rfl,rfl,rfl⟩
end Go.M
namespace Go.M
open Go Go.Proofs
set_option maxRecDepth 100000
set_option maxHeartbeats 4000000
theorem refPutT_ok (n w:Nat) (h1:1≤w) (h8:w≤8) (hn:n<256 ^ w):VC EZ 140 0 [.s (.int .u64 n),.s (.int .i64 w)] [] (RR (.tup [.tk 0,.s (.int .i64 0)]) 1 [(0,.arr 1 true ((bigL w n).map encU1))]):=by
 refine VC.enterR LZ (show EZ.func 140=some Tryz.f140 by kernel_rfl) (fun _ _=>rfl) rfl rfl [] ?_
 conv=>whnf
 (first|refine⟨?_,?_⟩|refine nsplit ?_ ?_|refine bsplit ?_ ?_)<;>intro ha<;>have hz_:=True.intro<;>clear hz_
 ·exact absurd ha (by show¬(w:Int)<1;omega)
 conv=>whnf
 (first|refine⟨?_,?_⟩|refine nsplit ?_ ?_|refine bsplit ?_ ?_)<;>intro hb<;>have hz_:=True.intro<;>clear hz_
 ·exact absurd hb (by show¬(w:Int)>8;omega)
 conv=>whnf
 refine⟨fun k f o c=>∃i:Nat,i≤w∧k=w - i∧c=1∧f=[(0,.s (.int .u64 ((n / 256 ^ i:Nat):Int))),(1,.s (.int .i64 w)),(6,.tk 0),(7,.s (.int .i64 i))]∧o=[(0,.arr 1 true ((bigL i n).map encU1))],⟨w,?_⟩,?_⟩
 ·refine⟨[],[none],?_⟩
  iterate 3 constructor
  refine⟨⟨?_,?_,?_⟩,⟨0,Nat.zero_le _,rfl,rfl,rfl,rfl⟩⟩
  all_goals(repeat' first|exact LF|constructor)
  all_goals exact Lz.int (by simp)
 ·rintro k f1 o1 c1 ⟨i,hi,rfl,rfl,rfl,rfl⟩
  conv=>whnf
  (first|refine⟨?_,?_⟩|refine nsplit ?_ ?_|refine bsplit ?_ ?_)<;>intro h<;>have hz_:=True.intro<;>clear hz_
  ·have h:i<w:=by have:(i:Int)<w:=h
                  omega
   conv=>whnf
   refine⟨by simp[bigL_len];omega,?_⟩
   conv=>whnf
   refine⟨w - (i+1),?_,by omega⟩
   refine⟨[],[some 2],?_⟩
   iterate 3 constructor
   refine⟨⟨?_,?_,?_⟩,⟨i+1,h,rfl,rfl,rfl,rfl⟩⟩
   all_goals(repeat' first|exact LF|constructor)
   ·refine Lz.int ?_
    have h64:n<18446744073709551616:=Nat.lt_of_lt_of_le hn (Nat.le_trans (Nat.pow_le_pow_right (by decide) h8) (by decide))
    have hle:n / 256 ^ i≤n:=Nat.div_le_self _ _
    rw[Nat.pow_succ,←Nat.div_div_eq_div_mul]
    generalize n / 256 ^ i=q at hle
    rw[IntKind.wrap_u64,Int.tdiv_eq_ediv_of_nonneg (by omega)]
    omega
   ·first|refine Lw.of ?_|refine Lz.of ?_
    rw[bigL_cons]
    generalize n / 256 ^ i=q
    rw[IntKind.wrap_u8,Int.tmod_eq_emod_of_nonneg (by omega)]
    show _::_=[TV.s (Value.int IntKind.u8 ((q % 256:Nat):Int))]::_
    have e:((q:Int) % 256 % 256)=((q % 256:Nat):Int):=by omega
    rw[e]
    rfl
  ·have hi':i=w:=by have:¬(i:Int)<w:=h
                    omega
   subst hi'
   have h0:n / 256 ^ i=0:=Nat.div_eq_of_lt hn
   conv=>whnf
   (first|refine⟨?_,?_⟩|refine nsplit ?_ ?_|refine bsplit ?_ ?_)<;>intro hc<;>have hz_:=True.intro<;>clear hz_
   ·exact absurd hc (by show¬((n / 256 ^ i:Nat):Int)>0;omega)
   conv=>whnf
   exact⟨[],[some 0],_,_,_,t3,rfl,rfl,rfl⟩
theorem bigT_ok (n:Int) (w:Nat) (h1:1≤w) (h8:w≤8) (h0:0≤n) (hn:n.toNat<256 ^ w):VC EZ 98 0 [.s (.int .u64 n),.s (.int .i64 w)] [] (RR (.tk 0) 1 [(0,.arr 1 true (encU8 (bigL w n.toNat)))]):=by
 have hp:=refPutT_ok n.toNat w h1 h8 hn
 rw[Int.toNat_of_nonneg h0]at hp
 refine VC.enterR LZ (show EZ.func 98=some Tryz.f98 by kernel_rfl) (fun _ _=>rfl) rfl rfl [] ?_
 conv=>whnf
 refine⟨[],[],_,_,_,_,hp,t3,cR ?_⟩
 conv=>whnf
 exact⟨[],[some 0],_,_,_,t3,rfl,rfl,rfl⟩
theorem big1 {n:Int} (h:0≤n∧n≤255):bigL 1 n.toNat=[n]:=by
 unfold bigL bigL
 simp
 omega
theorem big1' (n:Nat) (h:n≤255):bigL 1 n=[(n:Int)]:=by
 have:=big1 (n:=n) (by omega)
 rwa [Int.toNat_natCast]at this
theorem u8_wrap {n:Int} (h0:0≤n) (h:n≤255):IntKind.u8.wrap n=n:=by rw[IntKind.wrap_u8];omega
theorem rtext_ok (d:List Int) (hd:d.length≤65535):VC EZ 100 0 [.sl 1 (encU8 d) false] [] (RR (.tup [.sl 1 (encU8 (bigL 2 d.length++d)) false,.s (.int .i64 0)]) 0 []):=by
 have hl:=encU8_len d
 have hb:=bigT_ok (d.length:Nat) 2 (by decide) (by decide) (by omega) (by rw[Int.toNat_natCast];omega)
 rw[Int.toNat_natCast]at hb
 refine VC.enterR LZ (show EZ.func 100=some Tryz.f100 by kernel_rfl) (fun _ _=>rfl) rfl rfl [] ?_
 conv=>whnf
 (first|refine⟨?_,?_⟩|refine nsplit ?_ ?_|refine bsplit ?_ ?_)<;>intro h<;>have hz_:=True.intro<;>clear hz_
 ·have h:(65535:Int)<(((encU8 d).length:Nat):Int):=h
  rw[hl]at h;omega
 ·conv=>whnf
  rw[hl,show IntKind.u64.wrap ((d.length:Nat):Int)=((d.length:Nat):Int)from IntWalk.u64_in _ (by omega)]
  refine⟨[],[],_,_,_,_,hb,t3,cR ?_⟩
  conv=>whnf
  refine⟨by rw[encU8_len,encU8_len,bigL_len];omega,?_⟩
  conv=>whnf
  refine⟨[1],[],?_⟩
  iterate 3 constructor
  refine⟨⟨?_,?_,?_⟩,rfl,rfl,rfl⟩
  all_goals(repeat' first|exact LF|constructor)
  all_goals exact Lz.of (by rw[encU8_app])
@[reducible] def stRB (l:List Int):Ob:=[(0,.arr 1 true (encU8 l))]
theorem rbytes_ok (rs:List RowS) (hn:rs.length≤6) (hr:∀r∈rs,RowOk r):VC EZ 99 0 [rowsL rs] [] (RR (.sl 1 (encU8 (rowsB rs)) false) 0 []):=by
 have hml:(rs.map encR).length=rs.length:=List.length_map _
 refine VC.enterR LZ (show EZ.func 99=some Tryz.f99 by kernel_rfl) (fun _ _=>rfl) rfl rfl [] ?_
 conv=>whnf
 refine⟨fun q f o c=>∃i:Nat,i≤rs.length∧q=rs.length - i∧c=1∧f=[(0,rowsL rs),(3,.tk 0),(4,.s (.int .i64 i))]∧o=stRB (bigL 1 rs.length++(rs.take i).flatMap rowB),⟨rs.length,?_⟩,?_⟩
 ·refine⟨[],[some 0],?_⟩
  iterate 3 constructor
  refine⟨⟨?_,?_,?_⟩,⟨0,Nat.zero_le _,rfl,rfl,rfl,rfl⟩⟩
  all_goals(repeat' first|exact LF|constructor)
  all_goals exact Lz.of (by rw[big1' rs.length (by omega),hml,u8_wrap (by omega) (by omega)];rfl)
 ·rintro q f1 o1 c1 ⟨i,hi,rfl,rfl,rfl,rfl⟩
  conv=>whnf
  (first|refine⟨?_,?_⟩|refine nsplit ?_ ?_|refine bsplit ?_ ?_)<;>intro h<;>have hz_:=True.intro<;>clear hz_
  ·have h:i<rs.length:=by have h:(i:Int)<((rs.map encR).length:Nat):=h
                          omega
   have hx:=hr _ (List.getElem_mem h)
   have hfl:=flat_len26 (rs.take i)
   rw[List.length_take,Nat.min_eq_left hi]at hfl
   have hL:=encU8_len (bigL 1 rs.length++(rs.take i).flatMap rowB)
   have hnx:=flat_next rowB h
   have hXl:(bigL 1 rs.length++(rs.take i).flatMap rowB).length=1+i*26:=by rw[List.length_append,bigL_len,hfl]
   generalize hX:bigL 1 rs.length++(rs.take i).flatMap rowB=X at hL hXl
   conv=>whnf
   refine idxI h ?_
   conv=>whnf
   refine⟨by simp only[List.length_cons,List.length_replicate,hL];omega,?_⟩
   conv=>whnf
   refine idxI h ?_
   refine⟨[],[],_,_,_,_,bigT_ok rs[i].num 8 (by decide) (by decide) hx.num.1 (by have:=hx.num;omega),t3,cR ?_⟩
   conv=>whnf
   refine⟨by simp only[List.length_append,List.length_cons,List.length_replicate,hL,encU8_len,bigL_len];omega,?_⟩
   conv=>whnf
   refine idxI h ?_
   refine⟨[],[],_,_,_,_,bigT_ok rs[i].seq 8 (by decide) (by decide) hx.seq.1 (by have:=hx.seq;omega),t3,cR ?_⟩
   conv=>whnf
   refine⟨by simp only[List.length_append,List.length_cons,List.length_replicate,hL,encU8_len,bigL_len];omega,?_⟩
   conv=>whnf
   refine idxI h ?_
   conv=>whnf
   refine⟨by simp only[List.length_append,List.length_cons,List.length_replicate,hL,encU8_len,bigL_len];omega,?_⟩
   conv=>whnf
   refine idxI h ?_
   refine⟨[],[],_,_,_,_,bigT_ok rs[i].ver 8 (by decide) (by decide) hx.ver.1 (by have:=hx.ver;omega),t3,cR ?_⟩
   conv=>whnf
   refine⟨by simp only[List.length_append,List.length_cons,List.length_replicate,hL,encU8_len,bigL_len];omega,?_⟩
   conv=>whnf
   refine⟨rs.length - (i+1),?_,by omega⟩
   refine⟨[],[some 10],?_⟩
   iterate 3 constructor
   refine⟨⟨?_,?_,?_⟩,⟨i+1,h,rfl,rfl,rfl,rfl⟩⟩
   all_goals(repeat' first|exact LF|constructor)
   all_goals exact Lz.of (by
    rw[hnx,←List.append_assoc,hX,rowB,big1 ⟨hx.client.1,by have:=hx.client;omega⟩,big1 hx.code,u8_wrap hx.client.1 (by have:=hx.client;omega),u8_wrap hx.code.1 hx.code.2]
    simp only[←encU8_app,List.append_assoc]
    rfl)
  ·obtain rfl:i=rs.length:=by have h:¬(i:Int)<((rs.map encR).length:Nat):=h
                              omega
   rw[List.take_length]
   conv=>whnf
   exact⟨[0],[],_,_,_,t3,rfl,rfl,rfl⟩
@[reducible] def blB (b:Int×List Vs):List Int:=verB b.1 (lastV b.2)
@[reducible] def picRf (r:RfS):List Int:=headB r.e r.rows r.bs.length++r.bs.flatMap blB
structure RPicOk (r:RfS):Prop where
 e:0≤r.e∧r.e≤18446744073709551615
 rn:r.rows.length≤6
 rows:∀x∈r.rows,RowOk x
 n:r.bs.length≤300
 bs:∀b∈r.bs,(0≤b.1∧b.1≤4294967295)∧VOk (lastV b.2)∧b.2.length<1000000
theorem flatB_len {r:RfS} (H:RPicOk r) (l:List (Int×List Vs)) (hl:∀b∈l,b∈r.bs):(l.flatMap blB).length≤l.length*2070:=by
 induction l with
 |nil=>simp
 |cons b l ih=>
  rw[List.flatMap_cons,List.length_append,List.length_cons]
  have h1:=verB_len (k:=b.1) (H.bs b (hl b (by simp))).2.1.len
  have h2:=ih (fun c m=>hl c (by simp[m]))
  show(verB b.1 _).length+_≤_
  omega
theorem rpicture_ok (r:RfS) (H:RPicOk r):VC EZ 43 0 [.agg (encRf r)] [] (RR (.sl 1 (encU8 (picRf r)) false) 0 []):=by
 have hn:=H.n
 have hrn:=H.rn
 have hml:(r.bs.map encBl).length=r.bs.length:=List.length_map _
 have hb:=rbytes_ok r.rows H.rn H.rows
 have hf26:=flat_len26 r.rows
 have hRl:(rowsB r.rows).length≤157:=by rw[rowsB,List.length_append,bigL_len,hf26];omega
 have hR:=encU8_len (rowsB r.rows)
 refine VC.enterR LZ (show EZ.func 43=some Tryz.f43 by kernel_rfl) (fun _ _=>rfl) rfl rfl [] ?_
 ((conv=>whnf)<;>repeat(with_reducible refine D1 ?_)<;>conv=>whnf)
 refine⟨[],[],_,_,_,_,bigT_ok r.e 8 (by decide) (by decide) H.e.1 (by have:=H.e;omega),t3,cR ?_⟩
 conv=>whnf
 refine⟨[],[],_,_,_,_,hb,t3,cR ?_⟩
 conv=>whnf
 refine⟨by simp only[List.length_append,hR,encU8_len,bigL_len];omega,?_⟩
 ((conv=>whnf)<;>repeat(with_reducible refine D1 ?_)<;>conv=>whnf)
 rw[hml,show IntKind.u64.wrap ((r.bs.length:Nat):Int)=((r.bs.length:Nat):Int)from IntWalk.u64_in _ (by omega)]
 refine⟨[],[],_,_,_,_,bigT_ok (r.bs.length:Nat) 2 (by decide) (by decide) (by omega) (by rw[Int.toNat_natCast];omega),t3,cR ?_⟩
 conv=>whnf
 refine⟨by simp only[List.length_append,hR,encU8_len,bigL_len];omega,?_⟩
 conv=>whnf
 have hHl:(headB r.e r.rows r.bs.length).length≤170:=by rw[headB,List.length_append,List.length_append,bigL_len,bigL_len];omega
 refine⟨fun q f o c=>∃i:Nat,i≤r.bs.length∧q=r.bs.length - i∧c=2∧f=[(1,.ptr 0 0),(3,.tk 1),(4,.s (.int .i64 i))]∧o=[(0,.cells (encRf r)),(1,.arr 1 true (encU8 (headB r.e r.rows r.bs.length++(r.bs.take i).flatMap blB)))],⟨r.bs.length,?_⟩,?_⟩
 ·refine⟨[],[some 0,some 4],?_⟩
  iterate 3 constructor
  refine⟨⟨?_,?_,?_⟩,⟨0,Nat.zero_le _,rfl,rfl,rfl,rfl⟩⟩
  all_goals(repeat' first|exact LF|constructor)
  all_goals exact Lz.of (by rw[encU8_app,encU8_app,Int.toNat_natCast,headB,List.take_zero,List.flatMap_nil,List.append_nil])
 ·rintro q f1 o1 c1 ⟨i,hi,rfl,rfl,rfl,rfl⟩
  conv=>whnf
  (first|refine⟨?_,?_⟩|refine nsplit ?_ ?_|refine bsplit ?_ ?_)<;>intro h<;>have hz_:=True.intro<;>clear hz_
  ·have h:i<r.bs.length:=by have h:(i:Int)<((r.bs.map encBl).length:Nat):=h
                            omega
   obtain⟨hk,hv,hbl⟩:=H.bs _ (List.getElem_mem h)
   have hfl:=flatB_len H (r.bs.take i) (fun b m=>List.mem_of_mem_take m)
   rw[List.length_take,Nat.min_eq_left hi]at hfl
   have hnx:=flat_next blB h
   have hL:=encU8_len (headB r.e r.rows r.bs.length++(r.bs.take i).flatMap blB)
   have hXl:(headB r.e r.rows r.bs.length++(r.bs.take i).flatMap blB).length≤650000:=by rw[List.length_append];omega
   have hlast:=rlast_ok r.bs[i].2 hbl
   rw[show blB r.bs[i]=verB r.bs[i].1 (lastV r.bs[i].2)from rfl]at hnx
   generalize hX:headB r.e r.rows r.bs.length++(r.bs.take i).flatMap blB=X at hL hXl
   generalize lastV r.bs[i].2=v at hlast hv hnx
   have htx:=rtext_ok v.data (by have:=hv.len;omega)
   have htl:=hv.len
   conv=>whnf
   refine idxI h ?_
   refine⟨[],[],_,_,_,_,hlast,t3,cR ?_⟩
   conv=>whnf
   refine idxI h ?_
   conv=>whnf
   rw[show IntKind.u64.wrap r.bs[i].1=r.bs[i].1 from IntWalk.u64_in _ (by omega)]
   refine⟨[],[],_,_,_,_,bigT_ok r.bs[i].1 4 (by decide) (by decide) hk.1 (by omega),t3,cR ?_⟩
   conv=>whnf
   refine⟨by simp only[hL,encU8_len,bigL_len];omega,?_⟩
   conv=>whnf
   refine⟨[],[],_,_,_,_,bigT_ok v.ver 8 (by decide) (by decide) hv.ver.1 (by have:=hv.ver;omega),t3,cR ?_⟩
   conv=>whnf
   refine⟨by simp only[List.length_append,hL,encU8_len,bigL_len];omega,?_⟩
   conv=>whnf
   refine⟨[],[],_,_,_,_,bigT_ok v.seq 8 (by decide) (by decide) hv.seq.1 (by have:=hv.seq;omega),t3,cR ?_⟩
   conv=>whnf
   refine⟨by simp only[List.length_append,hL,encU8_len,bigL_len];omega,?_⟩
   conv=>whnf
   refine⟨[],[],_,_,_,_,htx,t3,cR ?_⟩
   conv=>whnf
   refine⟨by simp only[List.length_append,hL,encU8_len,bigL_len];omega,?_⟩
   conv=>whnf
   refine⟨r.bs.length - (i+1),?_,by omega⟩
   refine⟨[],[some 0,some 9],?_⟩
   iterate 3 constructor
   refine⟨⟨?_,?_,?_⟩,⟨i+1,h,rfl,rfl,rfl,rfl⟩⟩
   all_goals(repeat' first|exact LF|constructor)
   all_goals exact Lz.of (by
    rw[hnx,←List.append_assoc,hX,verB]
    simp only[←encU8_app,List.append_assoc])
  ·obtain rfl:i=r.bs.length:=by have h:¬(i:Int)<((r.bs.map encBl).length:Nat):=h
                                omega
   rw[List.take_length]
   conv=>whnf
   exact⟨[1],[],_,_,_,t3,rfl,rfl,rfl⟩
end Go.M
namespace Go.M
open Go Go.Proofs
set_option maxHeartbeats 1000000
theorem trimA_count (d:Int):∀(ks:List Int) (r:StS×Nat),ks.Nodup→(trimA d r ks).2=r.2+sumN (ks.map fun k=>trimN (ofK r.1 k) d)
 |[],r,_=>rfl
 |k0::ks,r,hn=>by
  rw[List.nodup_cons]at hn
  have ih:=trimA_count d ks (trimStep d r k0) hn.2
  rw[show trimA d r (k0::ks)=trimA d (trimStep d r k0) ks from rfl,ih]
  have hm:(ks.map fun k=>trimN (ofK (trimStep d r k0).1 k) d)=ks.map fun k=>trimN (ofK r.1 k) d:=List.map_congr_left fun k m=>by
   rw[show(trimStep d r k0).1=trim1 r.1 d k0 from rfl,ofK_trim1,if_neg (fun e=>hn.1 (by rw[←e];exact m))]
  rw[hm]
  show r.2+trimN (ofK r.1 k0) d+sumN _=r.2+(trimN (ofK r.1 k0) d+sumN _)
  omega
theorem strict_ext {a b:List Int} (ha:a.Pairwise (· <·)) (hb:b.Pairwise (· <·)) (h:∀x,x∈a↔x∈b):a=b:=by
 induction a generalizing b with
 |nil=>cases b with
  |nil=>rfl
  |cons y b=>exact absurd ((h y).2 (by simp)) (by simp)
 |cons x a ih=>
  cases b with
  |nil=>exact absurd ((h x).1 (by simp)) (by simp)
  |cons y b=>
   rw[List.pairwise_cons]at ha hb
   have hxy:x=y:=by
    rcases List.mem_cons.1 ((h x).1 (by simp))with e|m
    ·exact e
    ·rcases List.mem_cons.1 ((h y).2 (by simp))with e|m2
     ·exact e.symm
     ·have:=hb.1 x m;have:=ha.1 y m2;omega
   subst hxy
   rw[ih ha.2 hb.2 fun z=>?_]
   constructor
   ·intro m
    rcases List.mem_cons.1 ((h z).1 (List.mem_cons_of_mem _ m))with rfl |m2
    ·exact absurd (ha.1 z m) (by omega)
    ·exact m2
   ·intro m
    rcases List.mem_cons.1 ((h z).2 (List.mem_cons_of_mem _ m))with rfl |m2
    ·exact absurd (hb.1 z m) (by omega)
    ·exact m2
theorem sortZ_up {l:List Int} (h:l.Nodup):(sortZ l).Pairwise (· <·):=by
 have hs:(sortZ l).Pairwise fun a b=>decide (a≤b)=true:=by
  unfold sortZ
  exact List.pairwise_mergeSort (fun a b c h1 h2=>by simp at*;omega) (fun a b=>by simp;omega) l
 have hn:=sortZ_nodup h
 refine(hs.and hn).imp fun {a b} h=>?_
 have:=h.1;have:=h.2
 simp at*
 omega
theorem Rel.keys {s:StS} {r:RfS} (H:Rel s r) (hn:(keysA s.bs).Nodup):sortZ (keysA s.bs)=r.bs.map (·.1):=by
 refine strict_ext (sortZ_up hn) (List.pairwise_map.2 H.up) fun k=>?_
 rw[sortZ_mem]
 have h1:=lookA_none (n:=k) (es:=s.bs)
 have h2:=lookA_none (n:=k) (es:=r.bs)
 rw[H.lk]at h2
 exact Decidable.not_iff_not.1 (h1.symm.trans h2)
theorem Rel.at_ {s:StS} {r:RfS} (H:Rel s r) {b:Int×List Vs} (m:b∈r.bs):ofK s b.1=b.2:=by
 have hl:=lookA_some (n:=b.1) (v:=b.2) (H.up.imp (fun h=>Int.ne_of_lt h)|>List.pairwise_map.2)
 rw[←H.of]
 unfold ofR
 rw[hl.2 m];rfl
theorem trim_count {s:StS} {r:RfS} {n:Nat} (H:Rel s r) (I:SInv s n) (d:Int):(trimA d (s,0) (sortZ (keysA s.bs))).2=sumN (r.bs.map (dropOf d)):=by
 rw[trimA_count d _ _ (sortZ_nodup I.nd),H.keys I.nd,List.map_map]
 show 0+sumN _=_
 rw[Nat.zero_add]
 refine congrArg sumN (List.map_congr_left fun b m=>?_)
 show trimN (ofK s b.1) d=b.2.length - (keepR (cleanR b.2 d) b.2).length
 have g:=I.g b.1
 rw[H.at_ m]at g ⊢
 rw[keep_eq g,List.length_drop]
 have:=trimN_le b.2 d
 omega
end Go.M
namespace Go.M
open Go Go.Proofs
set_option maxRecDepth 100000
set_option maxHeartbeats 4000000
structure OpS where
 kind:Int
 next:Bool
 u:UpR
 key:Int
 ver:Int
 done:Int
@[reducible] def encO (o:OpS):List TV:=[.s (.int .i64 o.kind),.s (.bool o.next),.s (.int .u64 o.u.seq),.s (.int .i64 o.u.client),.s (.int .u64 o.u.num),.s (.int .i64 o.u.kind),.s (.int .u32 o.u.key),.s (.int .u64 o.u.ver),.sl 1 (encU8 o.u.data) false,.s (.int .u32 o.key),.s (.int .u64 o.ver),.s (.int .u64 o.done)]
def bigO (o:OpS):Bool:=decide (2100<o.u.data.length)
def farB (l:List OpS):Bool:=l.any bigO||decide (60<l.length)
theorem far_ok (l:List OpS) (hn:l.length≤9223372036854775807):VC EZ 37 0 [.sl 12 (l.map encO) false] [] (RR (.s (.bool (farB l))) 0 []):=by
 refine VC.enterR LZ (show EZ.func 37=some Tryz.f37 by kernel_rfl) (fun _ _=>rfl) rfl rfl [] ?_
 conv=>whnf
 refine⟨fun k f o c=>∃i:Nat,i≤l.length∧k=l.length - i∧(∀x∈l.take i,¬bigO x=true)∧c=0∧f=[(0,.sl 12 (l.map encO) false),(3,.s (.int .i64 i))]∧o=[],⟨l.length,?_⟩,?_⟩
 ·exact⟨[],[],_,_,_,t3,⟨0,Nat.zero_le _,rfl,by simp,rfl,rfl,rfl⟩⟩
 ·rintro k f1 o1 c1 ⟨i,hi,rfl,h0,rfl,rfl,rfl⟩
  conv=>whnf
  (first|refine⟨?_,?_⟩|refine nsplit ?_ ?_|refine bsplit ?_ ?_)<;>intro h<;>have hz_:=True.intro<;>clear hz_
  ·have h:i<l.length:=lenlt.1 h
   conv=>whnf
   refine idxI h ?_
   conv=>whnf
   (first|refine⟨?_,?_⟩|refine nsplit ?_ ?_|refine bsplit ?_ ?_)<;>intro hb<;>have hz_:=True.intro<;>clear hz_
   ·have hb:bigO l[i]=true:=decide_eq_true (by have hb:(2100:Int)<(((encU8 l[i].u.data).length:Nat):Int):=hb;rw[show(encU8 l[i].u.data).length=l[i].u.data.length from by unfold encU8;rw[List.length_map]]at hb;omega)
    conv=>whnf
    refine⟨[],[],?_⟩
    iterate 3 constructor
    refine⟨⟨?_,?_,?_⟩,rfl,rfl,rfl⟩
    all_goals(repeat' first|exact LF|constructor)
    exact Lz.of (bool_eq (by unfold farB;rw[List.any_eq_true.2 ⟨_,List.getElem_mem h,hb⟩];rfl))
   ·have hb:¬bigO l[i]=true:=fun q=>hb (by
     have q:=of_decide_eq_true q
     show(2100:Int)<(((encU8 l[i].u.data).length:Nat):Int)
     rw[show(encU8 l[i].u.data).length=l[i].u.data.length from by unfold encU8;rw[List.length_map]];omega)
    conv=>whnf
    refine⟨l.length - (i+1),?_,by omega⟩
    rw[show IntKind.i64.wrap ((i:Int)+1)=((i+1:Nat):Int)from by rw[IntWalk.i64_in _ (by omega)];omega]
    exact⟨[],[],_,_,_,t3,⟨i+1,h,rfl,take_all h h0 hb,rfl,rfl,rfl⟩⟩
  ·obtain rfl:i=l.length:=by have:=mt lenlt.2 h;omega
   rw[List.take_length]at h0
   conv=>whnf
   (first|refine⟨?_,?_⟩|refine nsplit ?_ ?_|refine bsplit ?_ ?_)<;>intro h6<;>have hz_:=True.intro<;>clear hz_
   all_goals
    conv=>whnf
    refine⟨[],[],?_⟩
    iterate 3 constructor
    refine⟨⟨?_,?_,?_⟩,rfl,rfl,rfl⟩
    all_goals(repeat' first|exact LF|constructor)
    exact Lz.of (bool_eq (by
     unfold farB
     rw[show l.any bigO=false from by rw[Bool.eq_false_iff];intro q;obtain⟨x,m,hx⟩:=List.any_eq_true.1 q;exact h0 x m hx]
     rw[List.length_map]at h6
     simp
     omega))
theorem row18_ok (r:RowS):VC EZ 45 0 [.agg (encR r)] [] (RR (.agg (encR r)) 0 []):=by
 refine VC.enterR LZ (show EZ.func 45=some Tryz.f45 by kernel_rfl) (fun _ _=>rfl) rfl rfl [] ?_
 conv=>whnf
 exact⟨[],[],_,_,_,t3,rfl,rfl,rfl⟩
theorem version18_ok (v:Vs):VC EZ 46 0 [.agg (encV v)] [] (RR (.agg (encV v)) 0 []):=by
 refine VC.enterR LZ (show EZ.func 46=some Tryz.f46 by kernel_rfl) (fun _ _=>rfl) rfl rfl [] ?_
 conv=>whnf
 exact⟨[],[],_,_,_,t3,rfl,rfl,rfl⟩
@[reducible] def uOf (s:StS) (o:OpS):UpR:=if o.next=true then {o.u with seq:=s.e+1}else o.u
@[reducible] def stepS (s:StS) (o:OpS):StS:=if o.kind=0 then(applyS s (uOf s o)).2 else trimS s o.done
@[reducible] def stepR (s:StS) (r:RfS) (o:OpS):RfS:=if o.kind=0 then(applyR r (uOf s o)).1.1 else {r with bs:=r.bs.map (keptOf o.done)}
theorem step_ok (s:StS) (r:RfS) (o:OpS) (n:Nat) (H:Rel s r) (I:SInv s n) (hn:n<400) (he:s.e<1000000) (hu:UOk o.u):VC EZ 41 2 [.ptr 0 0,.agg (encRf r),.agg (encO o)] (stO s) (RR (.tup [.agg (encRf (stepR s r o)),.s (.bool true)]) 2 (stO (stepS s o))):=by
 have hso:=I.ok (by omega)
 have hro:=H.ok I (by omega)
 by_cases hk:o.kind=0
 ·have huo:UOk (uOf s o):=by
   unfold uOf
   split
   ·exact⟨by have:=I.e;show 0≤s.e+1∧s.e+1≤_;omega,hu.num,hu.ver,hu.key⟩
   ·exact hu
  have ha:=apply_ok s (uOf s o) hso huo
  have hra:=rapply_ok r (uOf s o) hro huo
  obtain⟨h1,_⟩:=rel_apply H (uOf s o) huo
  rw[show stepS s o=(applyS s (uOf s o)).2 from if_pos hk,show stepR s r o=(applyR r (uOf s o)).1.1 from if_pos hk]
  generalize applyS s (uOf s o)=w at ha h1
  generalize applyR r (uOf s o)=w2 at hra h1
  obtain⟨y,s2⟩:=w
  obtain⟨⟨r2,y2⟩,e2⟩:=w2
  dsimp only at h1
  subst h1
  have hw:IntKind.u64.wrap (r.e+1)=s.e+1:=by rw[H.e,IntWalk.u64_in _ (by have:=I.e;omega)]
  obtain⟨kind,next,u,key,ver,done⟩:=o
  dsimp only at hk
  subst hk
  cases next
  ·have ha:VC EZ 23 2 [.ptr 0 0,.agg (encU u)] (stO s) (RR (encH (y2,e2)) 2 (stO s2)):=ha
   have hra:VC EZ 27 0 [.agg (encRf r),.agg (encU u)] [] (RR (encRA ((r2,y2),e2)) 0 []):=hra
   refine VC.enterR LZ (show EZ.func 41=some Tryz.f41 by kernel_rfl) (fun _ _=>rfl) rfl rfl [] ?_
   conv=>whnf
   (first|refine⟨?_,?_⟩|refine nsplit ?_ ?_|refine bsplit ?_ ?_)<;>intro k0<;>have hz_:=True.intro<;>clear hz_
   ·exact absurd rfl k0
   ·conv=>whnf
    refine⟨[],[],_,_,_,_,hra,t3,cR ?_⟩
    conv=>whnf
    refine⟨[],[some 0,some 1],_,_,_,_,ha,t3,cR ?_⟩
    ((conv=>whnf)<;>repeat(with_reducible refine D1 ?_)<;>conv=>whnf)
    refine⟨[],[],_,_,_,_,row18_ok y2,t3,cR ?_⟩
    conv=>whnf
    (first|refine⟨?_,?_⟩|refine nsplit ?_ ?_|refine bsplit ?_ ?_)<;>intro h8<;>have hz_:=True.intro<;>clear hz_
    ·conv=>whnf
     (first|refine⟨?_,?_⟩|refine nsplit ?_ ?_|refine bsplit ?_ ?_)<;>intro h9<;>have hz_:=True.intro<;>clear hz_
     ·((conv=>whnf)<;>repeat(with_reducible refine D1 ?_)<;>conv=>whnf)
      exact⟨[],[some 0,some 1],_,_,_,t3,rfl,rfl,rfl⟩
     ·exact absurd rfl h9
    ·exact absurd (by simp[veq1]) h8
  ·have ha:VC EZ 23 2 [.ptr 0 0,.agg (encU {u with seq:=s.e+1})] (stO s) (RR (encH (y2,e2)) 2 (stO s2)):=ha
   have hra:VC EZ 27 0 [.agg (encRf r),.agg (encU {u with seq:=s.e+1})] [] (RR (encRA ((r2,y2),e2)) 0 []):=hra
   refine VC.enterR LZ (show EZ.func 41=some Tryz.f41 by kernel_rfl) (fun _ _=>rfl) rfl rfl [] ?_
   conv=>whnf
   (first|refine⟨?_,?_⟩|refine nsplit ?_ ?_|refine bsplit ?_ ?_)<;>intro k0<;>have hz_:=True.intro<;>clear hz_
   ·exact absurd rfl k0
   ·conv=>whnf
    rw[hw]
    refine⟨[],[],_,_,_,_,hra,t3,cR ?_⟩
    conv=>whnf
    refine⟨[],[some 0,some 1],_,_,_,_,ha,t3,cR ?_⟩
    ((conv=>whnf)<;>repeat(with_reducible refine D1 ?_)<;>conv=>whnf)
    refine⟨[],[],_,_,_,_,row18_ok y2,t3,cR ?_⟩
    conv=>whnf
    (first|refine⟨?_,?_⟩|refine nsplit ?_ ?_|refine bsplit ?_ ?_)<;>intro h8<;>have hz_:=True.intro<;>clear hz_
    ·conv=>whnf
     (first|refine⟨?_,?_⟩|refine nsplit ?_ ?_|refine bsplit ?_ ?_)<;>intro h9<;>have hz_:=True.intro<;>clear hz_
     ·((conv=>whnf)<;>repeat(with_reducible refine D1 ?_)<;>conv=>whnf)
      exact⟨[],[some 0,some 1],_,_,_,t3,rfl,rfl,rfl⟩
     ·exact absurd rfl h9
    ·exact absurd (by simp[veq1]) h8
 ·have htr:=ktrim_ok s o.done hso (by have:=I.len;omega)
  rw[show(trimA o.done (s,0) (sortZ (keysA s.bs))).1=trimS s o.done from rfl,trim_count H I]at htr
  have hrt:=rtrimS_ok r o.done hro.b fun b m=>by
   have:=H.at_ m
   have h2:=I.gl b.1
   rw[this]at h2
   omega
  rw[show stepS s o=trimS s o.done from if_neg hk,show stepR s r o={r with bs:=r.bs.map (keptOf o.done)}from if_neg hk]
  refine VC.enterR LZ (show EZ.func 41=some Tryz.f41 by kernel_rfl) (fun _ _=>rfl) rfl rfl [] ?_
  conv=>whnf
  (first|refine⟨?_,?_⟩|refine nsplit ?_ ?_|refine bsplit ?_ ?_)<;>intro k0<;>have hz_:=True.intro<;>clear hz_
  ·conv=>whnf
   refine⟨[],[],_,_,_,_,hrt,t3,cR ?_⟩
   ((conv=>whnf)<;>repeat(with_reducible refine D1 ?_)<;>conv=>whnf)
   refine⟨[],[some 0,some 1],_,_,_,_,htr,t3,cR ?_⟩
   conv=>whnf
   (first|refine⟨?_,?_⟩|refine nsplit ?_ ?_|refine bsplit ?_ ?_)<;>intro h9<;>have hz_:=True.intro<;>clear hz_
   ·((conv=>whnf)<;>repeat(with_reducible refine D1 ?_)<;>conv=>whnf)
    exact⟨[],[some 0,some 1],_,_,_,t3,rfl,rfl,rfl⟩
   ·exact absurd rfl h9
  ·exact absurd hk k0
end Go.M
namespace Go.M
open Go Go.Proofs
set_option maxRecDepth 100000
set_option maxHeartbeats 4000000
theorem Std.high {i:Int} {l:List RowS} (h:Std i l):∀r∈l.filter nz,r.client<i+l.length:=by
 induction l generalizing i with
 |nil=>simp
 |cons r l ih=>
  obtain⟨h1,_,h2⟩:=h
  intro x m
  rw[List.mem_filter]at m
  obtain⟨m,hx⟩:=m
  have hx:x.num≠0:=by simpa using hx
  rw[List.length_cons]
  rcases List.mem_cons.1 m with rfl |m
  ·rw[h1 hx];omega
  ·have:=ih h2 x (List.mem_filter.2 ⟨m,by simpa using hx⟩);omega
theorem getC_rows {t:TabS} (H:Std 1 (lstT t)) (c:Int):((getR (rowsT t) c).getD zeroR,(getR (rowsT t) c).isSome)=getC t c:=by
 unfold getC
 by_cases hc:1≤c∧c≤6
 ·rw[H.get hc.1 (by show c<1+6;omega),row_lst t hc]
  generalize (lstT t).getD (c - 1).toNat zeroR=r
  by_cases hz:r.num=0
  ·rw[if_pos hz,if_pos (.inr hz)];rfl
  ·rw[if_neg hz,if_neg (by rintro(q|q);exact q hc;exact hz q)];rfl
 ·rw[if_pos (.inl hc),getR_no fun r m=>by
   have h1:=H.low r m
   have h2:=H.high r m
   have h2:r.client<1+6:=h2
   omega]
  rfl
theorem same18_ok (s:StS) (r:RfS) (o:OpS) (n:Nat) (H:Rel s r) (I:SInv s n) (hn:n<400) (hnum:0≤o.u.num):VC EZ 42 2 [.ptr 0 0,.agg (encRf r),.agg (encO o)] (stO s) (RR (.s (.bool true)) 2 (stO s)):=by
 have hso:=I.ok (by omega)
 have hro:=H.ok I (by omega)
 have hlen:s.bs.length<900:=by have:=I.len;omega
 have g:=I.g o.key
 have hll:=I.gl o.key
 have hof:=rof_ok r o.key (by have:=hro.b;omega)
 rw[H.of]at hof
 have hrow:=krow_ok s o.u.client
 have hget:=rget_ok r.rows o.u.client (by have:=hro.w;omega)
 rw[H.rows]at hget
 have hgc:=getC_rows H.std o.u.client
 have hget:VC EZ 96 0 [rowsL (rowsT s.t),.s (.int .i64 o.u.client)] [] (RR (encG ((getR (rowsT s.t) o.u.client).getD zeroR,(getR (rowsT s.t) o.u.client).isSome)) 0 []):=hget
 rw[hgc]at hget
 have hj:=kjudge_ok s o.u.client o.u.num
 have hrj:=rjudge_ok r.rows o.u.client o.u.num (by have:=hro.w;omega)
 rw[H.rows,judge_rows H.std _ _ hnum]at hrj
 have hkk:=kkeys_ok s (by omega)
 rw[H.keys I.nd]at hkk
 have hlast:=last_ok s o.key hso
 have hrlast:=rlast_ok (ofK s o.key) (by omega)
 have hclean:=clean_ok s o.key o.done hso
 rw[clean_eq g]at hclean
 have hrclean:=rclean_ok (ofK s o.key) o.done (by omega)
 have hdirty:=dirty_ok s o.key o.done hso
 have hrdirty:=rdirty_ok (ofK s o.key) o.done (by omega)
 have hpick:=pick_ok s o.key o.ver o.done hso
 rw[pick_eq g]at hpick
 have hrpick:=rpick_ok (ofK s o.key) o.ver o.done (by omega)
 have h1:=(small_of g (lastV_or _)).2
 have h2:(cleanR (ofK s o.key) o.done).data.length<1000000:=(small_of g (by
  rcases lastV_or ((ofK s o.key).filter fun v=>decide (v.seq≤o.done))with h|h
  ·exact .inl h
  ·exact .inr (List.mem_filter.1 h).1)).2
 have h3:=(small_of g (pickR_or (ofK s o.key) o.ver o.done)).2
 generalize getC s.t o.u.client=gc at hrow hget
 generalize lastV (ofK s o.key)=vl at hlast hrlast h1
 generalize cleanR (ofK s o.key) o.done=vc at hclean hrclean h2
 generalize pickR (ofK s o.key) o.ver o.done=vp at hpick hrpick h3
 generalize (decide (0<(ofK s o.key).length∧o.done<(lastV (ofK s o.key)).seq))=bd at hdirty hrdirty
 obtain⟨x,ok⟩:=gc
 have hbl:r.bs.length<900:=hro.b
 have hrr:=H.rows
 have hre:=H.e
 obtain⟨re,rb,rr⟩:=r
 dsimp only at hrr hre hbl hkk
 subst hrr
 subst hre
 refine VC.enterR LZ (show EZ.func 42=some Tryz.f42 by kernel_rfl) (fun _ _=>rfl) rfl rfl [] ?_
 conv=>whnf
 refine⟨[],[],_,_,_,_,hof,t3,cR ?_⟩
 conv=>whnf
 refine⟨[],[some 0,some 1],_,_,_,_,hrow,t3,cR ?_⟩
 conv=>whnf
 refine⟨[],[],_,_,_,_,hget,t3,cR ?_⟩
 ((conv=>whnf)<;>repeat(with_reducible refine D1 ?_)<;>conv=>whnf)
 refine⟨[],[],_,_,_,_,row18_ok x,t3,cR ?_⟩
 conv=>whnf
 (first|refine⟨?_,?_⟩|refine nsplit ?_ ?_|refine bsplit ?_ ?_)<;>intro h8<;>have hz_:=True.intro<;>clear hz_
 ·exact absurd h8 (by simp[veq1])
 ·conv=>whnf
  rw[beq_self_eq_true]
  conv=>whnf
  refine⟨[],[some 0,some 1],_,_,_,_,end_ok s,t3,cR ?_⟩
  conv=>whnf
  (first|refine⟨?_,?_⟩|refine nsplit ?_ ?_|refine bsplit ?_ ?_)<;>intro h9<;>have hz_:=True.intro<;>clear hz_
  ·exact absurd rfl h9
  ·conv=>whnf
   refine⟨[],[some 0,some 1],_,_,_,_,hj,t3,cR ?_⟩
   conv=>whnf
   refine⟨[],[],_,_,_,_,hrj,t3,cR ?_⟩
   conv=>whnf
   (first|refine⟨?_,?_⟩|refine nsplit ?_ ?_|refine bsplit ?_ ?_)<;>intro h10<;>have hz_:=True.intro<;>clear hz_
   ·exact absurd rfl h10
   ·((conv=>whnf)<;>repeat(with_reducible refine D1 ?_)<;>conv=>whnf)
    refine⟨[],[some 0,some 1],_,_,_,_,hkk,t3,cR ?_⟩
    conv=>whnf
    (first|refine⟨?_,?_⟩|refine nsplit ?_ ?_|refine bsplit ?_ ?_)<;>intro h11<;>have hz_:=True.intro<;>clear hz_
    ·exact absurd (by simp) h11
    ·conv=>whnf
     refine⟨fun k f oo c=>∃i:Nat,i≤rb.length∧k=rb.length - i∧c=4∧f=[(0,.ptr 0 0),(4,.ptr 2 0),(5,.ptr 3 0),(7,vsL (ofK s o.key)),(12,.sl 1 ((rb.map (·.1)).map encK) false),(13,.s (.int .i64 i))]∧oo=[(0,stoC s),(1,mapT s.bs),(2,.cells (encRf ⟨s.e,rb,rowsT s.t⟩)),(3,.cells (encO o))],⟨rb.length,?_⟩,?_⟩
     ·exact⟨[],[some 0,some 1,some 2,some 3],_,_,_,t3,⟨0,Nat.zero_le _,rfl,rfl,rfl,rfl⟩⟩
     ·rintro k f1 o1 c1 ⟨i,hi,rfl,rfl,rfl,rfl⟩
      conv=>whnf
      (first|refine⟨?_,?_⟩|refine nsplit ?_ ?_|refine bsplit ?_ ?_)<;>intro h<;>have hz_:=True.intro<;>clear hz_
      ·have h:i<rb.length:=by have h:=lenlt.1 h
                              rwa [List.length_map]at h
       ((conv=>whnf)<;>repeat(with_reducible refine D1 ?_)<;>conv=>whnf)
       refine idxI (show i<(rb.map (·.1)).length by rw[List.length_map];exact h) ?_
       conv=>whnf
       refine idxI h ?_
       conv=>whnf
       (first|refine⟨?_,?_⟩|refine nsplit ?_ ?_|refine bsplit ?_ ?_)<;>intro hv<;>have hz_:=True.intro<;>clear hz_
       ·exact absurd (by simp) hv
       ·((conv=>whnf)<;>repeat(with_reducible refine D1 ?_)<;>conv=>whnf)
        refine⟨rb.length - (i+1),?_,by omega⟩
        exact⟨[],[some 0,some 1,some 2,some 3],_,_,_,t3,⟨i+1,h,rfl,rfl,rfl,rfl⟩⟩
      ·((conv=>whnf)<;>repeat(with_reducible refine D1 ?_)<;>conv=>whnf)
       refine⟨[],[some 0,some 1],_,_,_,_,hlast,t3,cR ?_⟩
       conv=>whnf
       refine⟨[],[],_,_,_,_,version18_ok vl,t3,cR ?_⟩
       conv=>whnf
       refine⟨[],[],_,_,_,_,hrlast,t3,cR ?_⟩
       conv=>whnf
       refine⟨[],[],_,_,_,_,vsame_ok vl h1,t3,cR ?_⟩
       conv=>whnf
       refine⟨[],[some 0,some 1],_,_,_,_,hclean,t3,cR ?_⟩
       conv=>whnf
       refine⟨[],[],_,_,_,_,version18_ok vc,t3,cR ?_⟩
       conv=>whnf
       refine⟨[],[],_,_,_,_,hrclean,t3,cR ?_⟩
       conv=>whnf
       refine⟨[],[],_,_,_,_,vsame_ok vc h2,t3,cR ?_⟩
       conv=>whnf
       refine⟨[],[some 0,some 1],_,_,_,_,hdirty,t3,cR ?_⟩
       conv=>whnf
       refine⟨[],[],_,_,_,_,hrdirty,t3,cR ?_⟩
       conv=>whnf
       rw[beq_self_eq_true]
       conv=>whnf
       refine⟨[],[some 0,some 1],_,_,_,_,hpick,t3,cR ?_⟩
       conv=>whnf
       refine⟨[],[],_,_,_,_,version18_ok vp,t3,cR ?_⟩
       conv=>whnf
       refine⟨[],[],_,_,_,_,hrpick,t3,cR ?_⟩
       conv=>whnf
       refine⟨[],[],_,_,_,_,vsame_ok vp h3,t3,cR ?_⟩
       ((conv=>whnf)<;>repeat(with_reducible refine D1 ?_)<;>conv=>whnf)
       exact⟨[],[some 0,some 1],_,_,_,t3,rfl,rfl,rfl⟩
end Go.M
namespace Go.M
open Go Go.Proofs
set_option maxRecDepth 100000
set_option maxHeartbeats 4000000
structure PInv (s:StS):Prop where
 keys:∀k,lookA s.bs k≠none→0≤k∧k≤4294967295
 rows:∀r∈lstT s.t,RowOk r
theorem PInv.zero:PInv ⟨0,[],zeroTab⟩:=⟨fun k h=>absurd rfl h,fun r m=>by
 have:r=zeroR:=by simpa using m
 rw[this];exact⟨by decide,by decide,by decide,by decide,by decide⟩⟩
theorem setT_ok {t:TabS} {x:RowS} (h:∀r∈lstT t,RowOk r) (h1:x.num≤18446744073709551615) (h2:x.seq≤18446744073709551615) (h3:0≤x.ver∧x.ver≤18446744073709551615):∀r∈lstT (setT t x),RowOk r:=by
 unfold setT
 split
 ·rename_i hc
  have hf:fineB x=true:=by
   unfold setC at hc
   split at hc
   ·cases hc
   ·rename_i q;simpa using q
  have hf:=of_decide_eq_true hf
  rw[put_lst t hf.1]
  intro r m
  rcases List.mem_or_eq_of_mem_set m with m|rfl
  ·exact h r m
  ·exact⟨by omega,by omega,by omega,by omega,h3⟩
 ·exact h
theorem outC_rng (u:UpR) {ver:Int} (b:Bool) (h:0≤ver∧ver≤18446744073709551615):0≤(outC u ver b).2.1∧(outC u ver b).2.1≤18446744073709551615:=by
 unfold outC
 split
 ·split
  ·exact h
  ·split
   ·exact h
   ·simp;omega
 ·exact h
theorem PInv.apply {s:StS} {n:Nat} (P:PInv s) (I:SInv s n) (hn:n<90000) {u:UpR} (hu:UOk u):PInv (applyS s u).2:=by
 have hv:=outC_rng u (roomS s) (lastV_range (ofK_ok (I.ok hn) u.key).1)
 refine⟨?_,?_⟩
 ·rcases applyS_cases s u I.g I.e.1 with h|⟨_,⟨t,h⟩|⟨t,_,_,_,h⟩⟩
  ·rw[h];exact P.keys
  ·rw[h];exact P.keys
  ·rw[h]
   intro k hk
   by_cases e:k=u.key
   ·rw[e];exact hu.key
   ·exact P.keys k fun q=>hk (by show lookA (putA s.bs u.key _) k=none;rw[lookA_put,if_neg e];exact q)
 ·unfold applyS
  split
  ·exact P.rows
  split
  ·exact P.rows
  split
  ·exact P.rows
  ·exact setT_ok P.rows hu.num.2 hu.seq.2 hv
theorem PInv.trim {s:StS} {n:Nat} (P:PInv s) (I:SInv s n) (d:Int):PInv (trimS s d):=by
 obtain⟨_,_,h3⟩:=trimA_keys d (sortZ (keysA s.bs)) (s,0)
 have h3:(trimS s d).t=s.t:=h3
 exact⟨fun k h=>P.keys k fun q=>h ((trimS_look I.nd d k).2 q),by rw[h3];exact P.rows⟩
structure PlayI (s:StS) (r:RfS) (i:Nat):Prop where
 rel:Rel s r
 inv:SInv s i
 p:PInv s
 e:s.e≤i
theorem PlayI.zero:PlayI ⟨0,[],zeroTab⟩ ⟨0,[],[]⟩ 0:=⟨Rel.zero,SInv.zero,PInv.zero,Int.le_refl _⟩
theorem uOf_ok {s:StS} {o:OpS} (hu:UOk o.u) (h0:0≤s.e) (he:s.e<1000000):UOk (uOf s o):=by
 unfold uOf
 split
 ·exact⟨by show 0≤s.e+1∧s.e+1≤_;omega,hu.num,hu.ver,hu.key⟩
 ·exact hu
theorem PlayI.step {s:StS} {r:RfS} {i:Nat} (H:PlayI s r i) (hi:i<400) {o:OpS} (hu:UOk o.u):PlayI (stepS s o) (stepR s r o) (i+1):=by
 have he:=H.e
 have I:=H.inv
 by_cases hk:o.kind=0
 ·have huo:=uOf_ok hu I.e.1 (show s.e<1000000 by omega)
  rw[show stepS s o=(applyS s (uOf s o)).2 from if_pos hk,show stepR s r o=(applyR r (uOf s o)).1.1 from if_pos hk]
  refine⟨(rel_apply H.rel _ huo).2,I.apply _ huo,H.p.apply I (by omega) huo,?_⟩
  rcases applyS_cases s (uOf s o) I.g I.e.1 with h|⟨h1,⟨t,h⟩|⟨t,_,_,_,h⟩⟩<;>rw[h]
  ·omega
  ·show(uOf s o).seq≤_;omega
  ·show(uOf s o).seq≤_;omega
 ·obtain⟨_,h2,_⟩:=trimA_keys o.done (sortZ (keysA s.bs)) (s,0)
  have h2:(trimS s o.done).e=s.e:=h2
  have I2:=I.trim o.done
  rw[show stepS s o=trimS s o.done from if_neg hk,show stepR s r o={r with bs:=r.bs.map (keptOf o.done)}from if_neg hk]
  exact⟨rel_trim H.rel I o.done,⟨I2.e,I2.nd,by have:=I2.len;omega,I2.g,fun k=>Nat.le_succ_of_le (I2.gl k)⟩,H.p.trim I o.done,by omega⟩
theorem PlayI.pic {s:StS} {r:RfS} {i:Nat} (H:PlayI s r i) (hi:i<100):PicOk s:=⟨H.inv.ok (by omega),H.inv.e,fun x m=>H.p.rows x (List.mem_filter.1 m).1,by have:=H.inv.len;omega,fun k m=>H.p.keys k fun q=>lookA_none.1 q m⟩
theorem PlayI.rpic {s:StS} {r:RfS} {i:Nat} (H:PlayI s r i) (hi:i<100):RPicOk r:=⟨by rw[H.rel.e];exact H.inv.e,by rw[H.rel.rows];exact rowsT_len _,by rw[H.rel.rows];exact(H.pic hi).rows,by rw[H.rel.len];exact(H.pic hi).n,fun b m=>by
 have h1:b.1∈sortZ (keysA s.bs):=by rw[H.rel.keys H.inv.nd];exact List.mem_map_of_mem m
 have h2:=(H.pic hi).last b.1
 have h3:=H.inv.gl b.1
 rw[H.rel.at_ m]at h2 h3
 exact⟨(H.pic hi).keys _ (sortZ_mem.1 h1),h2,by omega⟩⟩
theorem flatMap_eq {α β:Type} {f g:α→List β} {l:List α} (h:∀a∈l,f a=g a):l.flatMap f=l.flatMap g:=by
 induction l with
 |nil=>rfl
 |cons a l ih=>rw[List.flatMap_cons,List.flatMap_cons,h a (by simp),ih fun b m=>h b (by simp[m])]
theorem PlayI.same {s:StS} {r:RfS} {i:Nat} (H:PlayI s r i):picRf r=picB s:=by
 show headB r.e r.rows r.bs.length++r.bs.flatMap blB=headB s.e (rowsT s.t) s.bs.length++(sortZ (keysA s.bs)).flatMap (keyB s)
 rw[H.rel.e,H.rel.rows,H.rel.len,H.rel.keys H.inv.nd,List.flatMap_map]
 congr 1
 exact flatMap_eq fun b m=>by show verB b.1 (lastV b.2)=verB b.1 (lastV (ofK s b.1));rw[H.rel.at_ m]
theorem picB_len {s:StS} (H:PicOk s):(picB s).length<1000000:=by
 have h1:=flatK_len H (sortZ (keysA s.bs))
 have h2:(sortZ (keysA s.bs)).length=s.bs.length:=by unfold sortZ;rw[List.length_mergeSort,List.length_map]
 have h3:=H.n
 have h4:=rowsT_len s.t
 have h5:=flat_len26 (rowsT s.t)
 simp only[picB,headB,rowsB,List.length_append,bigL_len,h5]
 omega
theorem plays_ok (l:List OpS) (hl:∀o∈l,UOk o.u) (hn:l.length≤9223372036854775807):VC EZ 8 0 [.sl 12 (l.map encO) false] [] (RR (.s (.bool true)) 0 []):=by
 have hf:=far_ok l hn
 refine VC.enterR LZ (show EZ.func 8=some Tryz.f8 by kernel_rfl) (fun _ _=>rfl) rfl rfl [] ?_
 conv=>whnf
 refine⟨[],[],_,_,_,_,hf,t3,cR ?_⟩
 conv=>whnf
 (first|refine⟨?_,?_⟩|refine nsplit ?_ ?_|refine bsplit ?_ ?_)<;>intro h0<;>have hz_:=True.intro<;>clear hz_
 ·conv=>whnf
  refine⟨[],[],_,_,_,_,awake18_ok,t3,cR ?_⟩
  conv=>whnf
  exact⟨[],[],_,_,_,t3,rfl,rfl,rfl⟩
 ·have h60:l.length≤60:=by
   have h0:farB l=false:=h0
   unfold farB at h0
   simp at h0
   exact h0.2
  conv=>whnf
  refine⟨[],[],_,_,_,_,knew_ok,t3,cR ?_⟩
  conv=>whnf
  refine⟨fun q f o c=>∃(i:Nat) (s:StS) (r:RfS),PlayI s r i∧i≤l.length∧q=l.length - i∧c=3∧f=[(0,.sl 12 (l.map encO) false),(3,.ptr 0 0),(4,.ptr 2 0),(5,.s (.int .i64 i))]∧o=[(0,stoC s),(1,mapT s.bs),(2,.cells (encRf r))],⟨l.length,?_⟩,?_⟩
  ·exact⟨[],[some 0,some 1,some 2],_,_,_,t3,⟨0,⟨0,[],zeroTab⟩,⟨0,[],[]⟩,PlayI.zero,Nat.zero_le _,rfl,rfl,rfl,rfl⟩⟩
  ·rintro q f1 o1 c1 ⟨i,s,r,P,hi,rfl,rfl,rfl,rfl⟩
   conv=>whnf
   (first|refine⟨?_,?_⟩|refine nsplit ?_ ?_|refine bsplit ?_ ?_)<;>intro h<;>have hz_:=True.intro<;>clear hz_
   ·have h:i<l.length:=lenlt.1 h
    have hu:=hl _ (List.getElem_mem h)
    have hst:=step_ok s r l[i] i P.rel P.inv (by omega) (by have:=P.e;omega) hu
    have P2:=P.step (by omega) hu
    have hsm:=same18_ok (stepS s l[i]) (stepR s r l[i]) l[i] (i+1) P2.rel P2.inv (by omega) hu.num.1
    generalize stepS s l[i]=s2 at hst P2 hsm
    generalize stepR s r l[i]=r2 at hst P2 hsm
    ((conv=>whnf)<;>repeat(with_reducible refine D1 ?_)<;>conv=>whnf)
    refine idxI h ?_
    refine⟨[],[some 0,some 1],_,_,_,_,hst,t3,cR ?_⟩
    ((conv=>whnf)<;>repeat(with_reducible refine D1 ?_)<;>conv=>whnf)
    refine idxI h ?_
    refine⟨[],[some 0,some 1],_,_,_,_,hsm,t3,cR ?_⟩
    ((conv=>whnf)<;>repeat(with_reducible refine D1 ?_)<;>conv=>whnf)
    refine⟨l.length - (i+1),?_,by omega⟩
    exact⟨[],[some 0,some 1,some 2],_,_,_,t3,⟨i+1,s2,r2,P2,h,rfl,rfl,rfl,rfl⟩⟩
   ·obtain rfl:i=l.length:=by have:=mt lenlt.2 h;omega
    have hp:=picture_ok s (P.pic (by omega))
    have hrp:=rpicture_ok r (P.rpic (by omega))
    rw[P.same]at hrp
    have hsm:=same_ok (picB s) (picB_len (P.pic (by omega)))
    generalize picB s=x at hp hrp hsm
    ((conv=>whnf)<;>repeat(with_reducible refine D1 ?_)<;>conv=>whnf)
    refine⟨[],[some 0,some 1],_,_,_,_,hp,t3,cR ?_⟩
    conv=>whnf
    refine⟨[],[],_,_,_,_,hrp,t3,cR ?_⟩
    conv=>whnf
    refine⟨[],[],_,_,_,_,hsm,t3,cR ?_⟩
    conv=>whnf
    refine⟨[],[],_,_,_,_,awake18_ok,t3,cR ?_⟩
    ((conv=>whnf)<;>repeat(with_reducible refine D1 ?_)<;>conv=>whnf)
    exact⟨[],[],_,_,_,t3,rfl,rfl,rfl⟩
end Go.M
