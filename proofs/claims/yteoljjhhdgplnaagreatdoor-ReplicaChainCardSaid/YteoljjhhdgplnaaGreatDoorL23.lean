/-
  Part 23 of the library that the proof leans on.
-/
import Derived.Test.YteoljjhhdgplnaaGreatDoorL12
import Derived.Test.YteoljjhhdgplnaaGreatDoorL22
import Derived.Test.YteoljjhhdgplnaaGreatDoorL17
namespace Go.M
open Go Go.Proofs
set_option maxRecDepth 100000
set_option maxHeartbeats 4000000
theorem ui (t:dN):(hY t).length≤6:=List.length_filter_le nz (p8 t)
theorem NZ (t:dN):VC E0 75 1 [.ptr 0 0] (ph t) (RR (.sl 5 ((hY t).map D9) false) 1 (ph t)):=by
 refine en L0 Tryz.f75 ?_;refine⟨fun k f o c=>∃i:Nat,i≤6∧k=6 - i∧c=2∧f=[(0,.ptr 0 0),(3,.tk 1),(7,.s (.int .i64 i))]∧o=[(0,vh t),(1,.arr 5 true ((((p8 t).take i).filter nz).map D9))],⟨6,?_⟩,?_⟩
 ·exact⟨[],[some 0,none],_,_,_,t3,⟨0,by decide,rfl,rfl,rfl,rfl⟩⟩
 ·rintro k f1 o1 c1 ⟨i,hi,rfl,rfl,rfl,rfl⟩;refine wh ?_;refine sp ?_ ?_<;>intro h
  ·have h:i<6:=by have h:(i:Int)<6:=h
                  omega
   have hg:=Il t ((i+1:Nat):Int);rw[NR t h]at hg;have vJ:=NS t h;have qA:(((p8 t).take i).filter nz).length≤i:=Nat.le_trans (List.length_filter_le ..) (List.length_take_le ..);generalize (p8 t).getD i e6=r at hg vJ;refine wh ?_;rw[wrap_small i om];by_cases hz:r.num=0
   ·rw[if_pos hz]at hg;refine⟨[],[some 0],_,_,_,_,hg,t3,cw ?_⟩;refine⟨6 - (i+1),?_,om⟩;refine⟨[],[some 0,some 1],?_⟩
    iterate 3 constructor
    refine⟨⟨?_,?_,?_⟩,⟨i+1,h,rfl,rfl,rfl,rfl⟩⟩
    all_goals(repeat' first|exact LF|constructor)
    all_goals exact Lz.of (by rw[vJ,List.filter_append,List.filter_cons_of_neg (by simpa using hz),List.filter_nil,List.append_nil])
   ·rw[if_neg hz]at hg;refine⟨[],[some 0],_,_,_,_,hg,t3,cw ?_⟩;refine⟨by simp only[List.length_map];simp;omega,?_⟩;refine wh ?_;refine⟨6 - (i+1),?_,om⟩;refine⟨[],[some 0,some 5],?_⟩
    iterate 3 constructor
    refine⟨⟨?_,?_,?_⟩,⟨i+1,h,rfl,rfl,rfl,rfl⟩⟩
    all_goals(repeat' first|exact LF|constructor)
    all_goals exact Lz.of (by rw[vJ,List.filter_append,List.filter_cons_of_pos (by simpa using hz),List.filter_nil,List.map_append];rfl)
  ·obtain rfl:i=6:=by have h:¬(i:Int)<6:=h;omega
   rw[show(p8 t).take 6=p8 t from rfl];refine wh ?_;exact⟨[1],[some 0],_,_,_,t3,rfl,rfl,rfl⟩
theorem Q0 (t:dN):VC E0 74 1 [.ptr 0 0] (ph t) (RR (.s (.int .i64 ((hY t).length:Nat))) 1 (ph t)):=by
 refine en L0 Tryz.f74 ?_;refine⟨[],[some 0],_,_,_,_,NZ t,t3,cw ?_⟩;refine⟨[],[some 0],?_⟩
 iterate 3 constructor
 refine⟨⟨?_,?_,?_⟩,rfl,rfl,rfl⟩
 all_goals(repeat' first|exact LF|constructor)
 all_goals exact Lz.int (by rw[List.length_map])
@[reducible] def BZ (r:fB):List Int:=cP 1 r.ak.toNat++cP 8 r.num.toNat++cP 8 r.seq.toNat++cP 1 r.code.toNat++cP 8 r.cB.toNat
@[reducible] def Am (l:List fB):List Int:=cP 1 l.length++l.flatMap BZ
structure N4 (r:fB):Prop where
 ak:0≤r.ak∧r.ak≤6
 num:0≤r.num∧r.num≤18446744073709551615
 seq:0≤r.seq∧r.seq≤18446744073709551615
 code:0≤r.code∧r.code≤255
 cB:0≤r.cB∧r.cB≤18446744073709551615
theorem N5 (r:fB):(BZ r).length=26:=by simp[BZ,bY]
theorem An {α:Type} (f:α→List Int) {l:List α} {i:Nat} (h:i<l.length):(l.take (i+1)).flatMap f=(l.take i).flatMap f++f l[i]:=by
 rw[List.take_succ_eq_append_getElem h,List.flatMap_append];simp
theorem rk (l:List fB):(l.flatMap BZ).length=l.length*26:=by
 induction l with
 |nil=>rfl
 |cons r l ih=>rw[List.flatMap_cons,List.length_append,N5,ih,List.length_cons];omega
@[reducible] def N6 (t:dN) (s:eW):Ob:=[(0,vh t),(1,re s)]
theorem Q1 (t:dN) (s:eW) (k:Nat) (hR:Room s k) (hk:157≤k) (hr:∀r∈hY t,N4 r):VC E0 36 2 [.ptr 0 0,.ptr 1 0] (N6 t s) (RR (.cY []) 2 (N6 t (s.add (Am (hY t))))):=by
 have hl:=ui t;have aeV:(2:Nat)≤256:=by decide
 refine en L0 Tryz.f36 ?_;refine⟨[],[some 0],_,_,_,_,Q0 t,t3,cw ?_⟩;rw[show IntKind.u64.wrap (((hY t).length:Nat):Int)=(((hY t).length:Nat):Int)from IntWalk.u64_in _ om];refine⟨[],[some 1],_,_,_,_,iG s ((hY t).length:Nat) 1 k hR om (by decide) (by decide) om om (by rw[Int.toNat_natCast];omega),t3,cw ?_⟩;rw[Int.toNat_natCast];refine⟨[],[some 0],_,_,_,_,NZ t,t3,cw ?_⟩;have hR1:Room (s.add (cP 1 (hY t).length)) (k - 1):=hR.add (by rw[bY];omega);generalize Iv:hY t=rs at hl hr hR1
 refine⟨fun q f o c=>∃i:Nat,i≤rs.length∧q=rs.length - i∧c=2∧f=[(1,.ptr 1 0),(14,.sl 5 (rs.map D9) false),(15,.s (.int .i64 rs.length)),(16,.s (.int .i64 i))]∧o=N6 t ((s.add (cP 1 rs.length)).add ((rs.take i).flatMap BZ)),⟨rs.length,?_⟩,?_⟩
 ·refine⟨[],[some 0,some 1],?_⟩
  iterate 3 constructor
  refine⟨⟨?_,?_,?_⟩,⟨0,Nat.zero_le _,rfl,rfl,rfl,rfl⟩⟩
  all_goals(repeat' first|exact LF|constructor)
  ·exact Lz.int (by rw[List.length_map])
  ·exact Lz.of (by simp)
 ·rintro q f1 o1 c1 ⟨i,hi,rfl,rfl,rfl,rfl⟩;refine wh ?_;refine sp ?_ ?_<;>intro h
  ·have h:i<rs.length:=by have h:(i:Int)<rs.length:=h
                          omega
   have hx:=hr _ (List.getElem_mem h);have qA:=rk (rs.take i);rw[List.length_take,Nat.min_eq_left hi]at qA;have ZF:Room ((s.add (cP 1 rs.length)).add ((rs.take i).flatMap BZ)) (k - 1 - i*26):=hR1.add (by rw[qA];omega);refine wh ?_;refine lW h ?_;refine wh ?_;rw[show IntKind.u64.wrap rs[i].ak=rs[i].ak from IntWalk.u64_in _ (by have:=hx.ak;omega)];refine⟨[],[some 1],_,_,_,_,iG _ rs[i].ak 1 _ ZF om (by decide) (by decide) hx.ak.1 (by have:=hx.ak;omega) (by have:=hx.ak;omega),t3,cw ?_⟩;have hR3:=ZF.add (x:=cP 1 rs[i].ak.toNat) (j:=k - 1 - i*26 - 1) (by rw[bY];omega)
   refine⟨[],[some 1],_,_,_,_,iG _ rs[i].num 8 _ hR3 om (by decide) (by decide) hx.num.1 hx.num.2 (by have:=hx.num;omega),t3,cw ?_⟩;have hR4:=hR3.add (x:=cP 8 rs[i].num.toNat) (j:=k - 1 - i*26 - 9) (by rw[bY];omega);refine⟨[],[some 1],_,_,_,_,iG _ rs[i].seq 8 _ hR4 om (by decide) (by decide) hx.seq.1 hx.seq.2 (by have:=hx.seq;omega),t3,cw ?_⟩;have hR5:=hR4.add (x:=cP 8 rs[i].seq.toNat) (j:=k - 1 - i*26 - 17) (by rw[bY];omega);rw[show IntKind.u64.wrap rs[i].code=rs[i].code from IntWalk.u64_in _ (by have:=hx.code;omega)]
   refine⟨[],[some 1],_,_,_,_,iG _ rs[i].code 1 _ hR5 om (by decide) (by decide) hx.code.1 (by have:=hx.code;omega) (by have:=hx.code;omega),t3,cw ?_⟩;have hR6:=hR5.add (x:=cP 1 rs[i].code.toNat) (j:=k - 1 - i*26 - 18) (by rw[bY];omega);refine⟨[],[some 1],_,_,_,_,iG _ rs[i].cB 8 _ hR6 om (by decide) (by decide) hx.cB.1 hx.cB.2 (by have:=hx.cB;omega),t3,cw ?_⟩;refine⟨rs.length - (i+1),?_,om⟩;refine⟨[],[some 0,some 1],?_⟩
   iterate 3 constructor
   refine⟨⟨?_,?_,?_⟩,⟨i+1,h,rfl,rfl,rfl,rfl⟩⟩
   all_goals(repeat' first|exact LF|constructor)
   all_goals exact Lz.of (congrArg (fun x=>TO.arr 1 true (bM x)) (by simp only[BZ,An BZ h,List.append_assoc]))
  ·obtain rfl:i=rs.length:=by have h:¬(i:Int)<rs.length:=h;omega
   rw[List.take_length];refine wh ?_;refine⟨[],[some 0,some 1],?_⟩
   iterate 3 constructor
   refine⟨⟨?_,?_,?_⟩,rfl,rfl,rfl⟩
   all_goals(repeat' first|exact LF|constructor)
   all_goals exact Lz.of (congrArg (fun x=>TO.arr 1 true (bM x)) (by simp only[Am,List.append_assoc]))
theorem Ki:du []=fS:=by show MP [] _=_;exact QO _
theorem N7 (vs:List Vs):du vs=fS∨du vs∈vs:=by
 rcases xY vs with rfl |⟨ws,w,rfl⟩
 ·exact .inl Ki
 ·rw[hH];exact .inr (by simp)
@[reducible] def Kj (k:Int) (v:Vs):List Int:=cP 4 k.toNat++cP 8 v.cB.toNat++cP 8 v.seq.toNat++(cP 2 v.data.length++v.data)
@[reducible] def rq (s:dG) (k:Int):List Int:=Kj k (du (kV s k))
@[reducible] def N8 (e:Int) (rows:List fB) (n:Nat):List Int:=cP 8 e.toNat++Am rows++cP 2 n
@[reducible] def ru (s:dG):List Int:=N8 s.e (hY s.t) s.bs.length++(cz (bN s.bs)).flatMap (rq s)
structure sM (s:dG):Prop where
 ok:y8 s
 e:0≤s.e∧s.e≤18446744073709551615
 rows:∀r∈hY s.t,N4 r
 n:s.bs.length≤12
 keys:∀k∈bN s.bs,0≤k∧k≤4294967295
theorem sM.last {s:dG} (H:sM s) (k:Int):Sx (du (kV s k)):=by
 rcases N7 (kV s k)with h|h
 ·rw[h];exact⟨by decide,by decide,by decide⟩
 ·exact(GB H.ok k).1 _ h
theorem N9 {k:Int} {v:Vs} (h:v.data.length≤2048):(Kj k v).length≤2070:=by simp[Kj,bY];omega
theorem Ao {s:dG} (H:sM s) (l:List Int):(l.flatMap (rq s)).length≤l.length*2070:=by
 induction l with
 |nil=>simp
 |cons k l ih=>
  rw[List.flatMap_cons,List.length_append,List.length_cons];have:=N9 (k:=k) (H.last k).len;show(Kj k _).length+_≤_;omega
@[reducible] def Yy (s:dG) (x:eW):Ob:=[(0,Yt s),(1,vi s.bs),(2,re x)]
theorem Oa:VC E0 34 0 [.s (.int .i64 1048576)] [] (RR (.ptr 0 0) 1 [(0,re ⟨[],1048576,0⟩)]):=UX 1048576
@[reducible] def xH (s:dG):eW:=⟨N8 s.e (hY s.t) s.bs.length,1048576,0⟩
theorem GH (s:dG) (H:sM s):VC E0 15 2 [.ptr 0 0] (rE s) (RR (.sl 1 (bM (ru s)) false) 2 (rE s)):=by
 have hn:=H.n;have mH:∀k∈cz (bN s.bs),0≤k∧k≤4294967295:=fun k m=>H.keys k (by unfold cz at m;exact List.mem_mergeSort.1 m);have yN:(cz (bN s.bs)).length=s.bs.length:=by unfold cz;rw[List.length_mergeSort,List.length_map]
 have O3:=Ed s om;have hrl:=ui s.t;have abK:=rk (hY s.t);have R0:Room ⟨[],1048576,0⟩ 800000:=⟨rfl,rfl,by decide⟩;have R1:Room (eW.add ⟨[],1048576,0⟩ (cP 8 s.e.toNat)) 799992:=R0.add (by rw[bY];decide);have R2:Room ((eW.add ⟨[],1048576,0⟩ (cP 8 s.e.toNat)).add (Am (hY s.t))) 799000:=R1.add (by unfold Am;rw[List.length_append,bY,abK];omega);have R3:Room (xH s) 700000:=by
  have:=R2.add (x:=cP 2 s.bs.length) (j:=700000) (by rw[bY];decide);exact this
 refine en L0 Tryz.f15 ?_;refine⟨[],[],_,_,_,_,Oa,t3,cw ?_⟩;refine⟨[],[some 2],_,_,_,_,iG ⟨[],1048576,0⟩ s.e 8 800000 R0 (by decide) (by decide) (by decide) H.e.1 H.e.2 (by have:=H.e;omega),t3,cw ?_⟩;refine⟨[],[some 4,some 2],_,_,_,_,Q1 s.t _ 799992 R1 (by decide) H.rows,t3,cw ?_⟩;refine wh ?_;rw[List.length_map,show IntKind.u64.wrap ((s.bs.length:Nat):Int)=((s.bs.length:Nat):Int)from IntWalk.u64_in _ om];refine⟨[],[some 2],_,_,_,_,iG _ ((s.bs.length:Nat):Int) 2 799000 R2 (by decide) (by decide) (by decide) om om (by rw[Int.toNat_natCast];omega),t3,cw ?_⟩
 refine⟨[],[some 0,some 1],_,_,_,_,O3,t3,cw ?_⟩;rw[show(((eW.add ⟨[],1048576,0⟩ (cP 8 s.e.toNat)).add (Am (hY s.t))).add (cP 2 ((s.bs.length:Nat):Int).toNat))=xH s from by rw[Int.toNat_natCast];simp only[eW.add,xH,N8,List.nil_append]];have abL:ru s=((xH s).add ((cz (bN s.bs)).flatMap (rq s))).b:=rfl;rw[abL];have Cz:=fun n=>Ao H ((cz (bN s.bs)).take n);generalize cz (bN s.bs)=ks at mH yN Cz
 refine⟨fun q f o c=>∃i:Nat,i≤ks.length∧q=ks.length - i∧c=3∧f=[(0,.ptr 0 0),(3,.ptr 2 0),(33,.sl 1 (ks.map je) false),(34,.s (.int .i64 ks.length)),(35,.s (.int .i64 i))]∧o=Yy s ((xH s).add ((ks.take i).flatMap (rq s))),⟨ks.length,?_⟩,?_⟩
 ·refine⟨[],[some 0,some 1,some 2],?_⟩
  iterate 3 constructor
  refine⟨⟨?_,?_,?_⟩,⟨0,Nat.zero_le _,rfl,rfl,rfl,rfl⟩⟩
  all_goals(repeat' first|exact LF|constructor)
  ·exact Lz.int (by rw[List.length_map])
  ·exact Lz.of (by simp)
 ·rintro q f1 o1 c1 ⟨i,hi,rfl,rfl,rfl,rfl⟩;refine wh ?_;refine sp ?_ ?_<;>intro h
  ·have h:i<ks.length:=by have h:(i:Int)<ks.length:=h
                          omega
   have hx:=mH _ (List.getElem_mem h);have qA:=Cz i;rw[List.length_take,Nat.min_eq_left hi]at qA;have SA:=Im s ks[i] H.ok;have hv:=H.last ks[i];have vJ:=An (rq s) h;rw[show rq s ks[i]=Kj ks[i] (du (kV s ks[i]))from rfl]at vJ;have R4:Room ((xH s).add ((ks.take i).flatMap (rq s))) 3000:=R3.add om;generalize hX:(xH s).add ((ks.take i).flatMap (rq s))=X at R4;generalize du (kV s ks[i])=v at SA hv vJ;refine wh ?_;refine lW h ?_;refine⟨[],[some 0,some 1],_,_,_,_,SA,t3,cw ?_⟩;rw[show IntKind.u64.wrap ks[i]=ks[i]from IntWalk.u64_in _ om]
   refine⟨[],[some 2],_,_,_,_,iG X ks[i] 4 3000 R4 (by decide) (by decide) (by decide) hx.1 om om,t3,cw ?_⟩;have R5:=R4.add (x:=cP 4 ks[i].toNat) (j:=2990) (by rw[bY];decide);refine⟨[],[some 2],_,_,_,_,iG _ v.cB 8 2990 R5 (by decide) (by decide) (by decide) hv.cB.1 hv.cB.2 (by have:=hv.cB;omega),t3,cw ?_⟩;have R6:=R5.add (x:=cP 8 v.cB.toNat) (j:=2980) (by rw[bY];decide);refine⟨[],[some 2],_,_,_,_,iG _ v.seq 8 2980 R6 (by decide) (by decide) (by decide) hv.seq.1 hv.seq.2 (by have:=hv.seq;omega),t3,cw ?_⟩;have R7:=R6.add (x:=cP 8 v.seq.toNat) (j:=2970) (by rw[bY];decide)
   refine⟨[],[some 2],_,_,_,_,GG _ v.data 2970 R7 (by have:=hv.len;omega) (by have:=hv.len;omega),t3,cw ?_⟩;rw[show((((X.add (cP 4 ks[i].toNat)).add (cP 8 v.cB.toNat)).add (cP 8 v.seq.toNat)).add (cP 2 v.data.length++v.data))=(xH s).add ((ks.take (i+1)).flatMap (rq s))from by rw[vJ,←hX];simp only[eW.add,Kj,List.append_assoc]];refine⟨ks.length - (i+1),?_,om⟩;exact⟨[],[some 0,some 1,some 2],_,_,_,t3,⟨i+1,h,rfl,rfl,rfl,rfl⟩⟩
  ·obtain rfl:i=ks.length:=by have h:¬(i:Int)<ks.length:=h;omega
   have qA:=Cz ks.length;rw[List.take_length]at qA;have R4:Room ((xH s).add (ks.flatMap (rq s))) 3000:=R3.add om;rw[List.take_length];generalize (xH s).add (ks.flatMap (rq s))=X at R4;have hd:=QY X R4.ok (by have:=R4.l;omega);rw[if_pos R4.e,R4.e]at hd;refine wh ?_;refine⟨[],[some 2],_,_,_,_,hd,t3,cw ?_⟩;refine sp ?_ ?_<;>intro h0
   ·exact absurd rfl h0
   ·refine wh ?_;exact⟨[],[some 0,some 1],_,_,_,t3,rfl,rfl,rfl⟩
theorem yc (d:Int) (r:dG×Nat) (ks:List Int) (i:Nat) (h:i<ks.length):kL d r (ks.take (i+1))=iD d (kL d r (ks.take i)) ks[i]:=by
 unfold kL;rw[List.take_succ_eq_append_getElem h,List.foldl_append];rfl
theorem y8.put {s:dG} (H:y8 s) {k:Int} {vs:List Vs} (hv:∀v∈vs,Sx v) (hn:vs.length<100000):y8 {s with bs:=iA s.bs k vs}:=⟨fun k' ws h=>by
 rw[mD]at h;split at h
 ·cases h;exact⟨hv,hn⟩
 ·exact H.v k' ws h⟩
theorem y8.iC {s:dG} (H:y8 s) (d k:Int):y8 (iC s d k):=by
 unfold Go.M.iC;split
 ·rename_i vs h;obtain⟨hv,hn⟩:=H.v k vs h;exact H.put (fun v m=>hv v (List.mem_of_mem_drop m)) (by rw[List.length_drop];omega)
 ·exact H
theorem Kk (d:Int):eR [] d=0:=by
 show(lX [] d).toNat=0;unfold lX;rw[Gv (by decide)];rfl
theorem El (vs:List Vs) (d:Int):eR vs d≤vs.length:=by
 have hle:=vH (fun k=>decide (d<(vs.getD k fS).seq)) 0 vs.length (Nat.zero_le _);unfold eR lX;omega
theorem Em {s:dG} (H:y8 s) (d:Int) (ks:List Int):∀i,i≤ks.length→y8 (kL d (s,0) (ks.take i)).1∧(kL d (s,0) (ks.take i)).2≤i*100000
 |0,_=>⟨H,Nat.le_refl _⟩
 |i+1,hi=>by
  obtain⟨h1,h2⟩:=Em H d ks i om;rw[yc d _ ks i om];refine⟨h1.iC d _,?_⟩;show _+eR _ d≤_;have:=El (kV (kL d (s,0) (ks.take i)).1 ks[i]) d;have:=(GB h1 ks[i]).2;omega
theorem Oc (s:dG) (d:Int) (H:y8 s) (hn:s.bs.length<13):VC E0 91 2 [.ptr 0 0,.s (.int .u64 d)] (rE s)
 (RR (.s (.int .i64 (kL d (s,0) (cz (bN s.bs))).2)) 2 (rE (kL d (s,0) (cz (bN s.bs))).1)):=by
 have hk:=Ed s hn;have hlen:(cz (bN s.bs)).length<13:=by unfold cz;rw[List.length_mergeSort,List.length_map];exact hn
 generalize cz (bN s.bs)=ks at hk hlen;have kr:=Em H d ks;refine en L0 Tryz.f91 ?_;refine⟨[],[some 0,some 1],_,_,_,_,hk,t3,cw ?_⟩;refine⟨fun k f o c=>∃(i:Nat) (r:dG) (n:Nat),kL d (s,0) (ks.take i)=(r,n)∧i≤ks.length∧k=ks.length - i∧c=2∧f=[(0,.ptr 0 0),(1,.s (.int .u64 d)),(5,.s (.int .i64 n)),(9,.sl 1 (ks.map je) false),(10,.s (.int .i64 ks.length)),(11,.s (.int .i64 i))]∧o=rE r,⟨ks.length,?_⟩,?_⟩
 ·refine⟨[],[some 0,some 1],?_⟩
  iterate 3 constructor
  refine⟨⟨?_,?_,?_⟩,⟨0,s,0,rfl,Nat.zero_le _,rfl,rfl,rfl,rfl⟩⟩
  all_goals(repeat' first|exact LF|constructor)
  all_goals exact Lz.int (by simp)
 ·rintro k f1 o1 c1 ⟨i,r,n,hr,hi,rfl,rfl,rfl,rfl⟩;obtain⟨hs,hb⟩:=kr i hi;rw[hr]at hs hb;have hs:y8 r:=hs;have hb:n≤i*100000:=hb;refine wh ?_;refine sp ?_ ?_<;>intro bF
  ·have bF:i<ks.length:=by exact Int.ofNat_lt.1 bF
   have vJ:=yc d (s,0) ks i bF;rw[hr]at vJ;refine wh ?_;refine⟨je ks[i],⟨om,by simp[bF]⟩,?_⟩;refine wh ?_;cases h:dP r.bs ks[i]with
   |none=>
    refine⟨[],[some 0,some 1],_,_,_,_,Eb r ks[i] h,t3,cw ?_⟩;refine⟨[],[],_,_,_,_,J5 d,t3,cw ?_⟩;refine⟨ks.length - (i+1),?_,om⟩;rw[show iD d (r,n) ks[i]=(r,n)from by unfold iD;rw[show iC r d ks[i]=r from by unfold iC;rw[h]];rw[mK h,Kk];rfl]at vJ;rw[show IntKind.i64.wrap ((n:Int)+0)=(n:Int)from by rw[IntWalk.i64_in _ om];omega];exact⟨[],[some 0,some 1],_,_,_,t3,⟨i+1,r,n,vJ,om,rfl,rfl,rfl,rfl⟩⟩
   |some vs=>
    obtain⟨hv,hvn⟩:=hs.v _ vs h;have hm:=El vs d;refine⟨[],[some 0,some 1],_,_,_,_,Ec r ks[i] vs h,t3,cw ?_⟩;refine⟨[],[some 4],_,_,_,_,Nz vs d om,t3,cw ?_⟩;refine⟨ks.length - (i+1),?_,om⟩;have ct:iD d (r,n) ks[i]=({r with bs:=iA r.bs ks[i] (vs.drop (eR vs d))},n+eR vs d):=by
     unfold iD;rw[show iC r d ks[i]={r with bs:=iA r.bs ks[i] (vs.drop (eR vs d))}from by unfold iC;rw[h]];rw[mL h]
    rw[ct]at vJ;rw[show IntKind.i64.wrap ((n:Int)+((eR vs d:Nat):Int))=((n+eR vs d:Nat):Int)from by rw[IntWalk.i64_in _ om];omega];rw[show IntKind.i64.wrap ((i:Int)+1)=((i+1:Nat):Int)from by rw[IntWalk.i64_in _ om];omega];refine⟨[],[some 0,some 1],_,_,_,⟨tq,.cons (.cells tq) (.cons (.eT (iO:=[(_,mJ (vs.drop (eR vs d)))]) .one (Lw.of (Gz r.bs ks[i] _)) (.m1 (by rfl) tq)) .nil),by rfl⟩,⟨i+1,{r with bs:=iA r.bs ks[i] (vs.drop (eR vs d))},n+eR vs d,vJ,om,rfl,rfl,rfl,rfl⟩⟩
  ·have bF:¬i<ks.length:=fun q=>bF (Int.ofNat_lt.2 q);have:i=ks.length:=by omega
   subst this;rw[List.take_length]at hr;rw[hr];refine wh ?_;exact⟨[],[some 0,some 1],_,_,_,t3,rfl,rfl,rfl⟩
@[reducible] def UZ (s:dG):TO:=.cells [.s (.int .u64 s.e),.own (vi s.bs),.own (vh s.t)]
@[reducible] def Kl (s:dG):Ob:=[(0,UZ s)]
theorem Od:VC E0 48 0 [] [] (RR (.ptr 0 0) 1 (Kl ⟨0,[],iB⟩)):=by
 refine VC.told (R:=RR (.ptr 0 0) 2 (rE ⟨0,[],iB⟩)) QP ?_;rintro r o' c' ⟨rfl,rfl,rfl⟩;exact⟨[],[some 0],_,_,_,t3,rfl,rfl,rfl⟩
theorem Oe (s:dG):VC E0 32 1 [.ptr 0 0] (Kl s) (RR (.s (.int .u64 s.e)) 1 (Kl s)):=by
 have nS:=UR s;refine VC.told (R:=RR (.s (.int .u64 s.e)) 5 (rE s)) (VC.Ac (m0:=0) rfl ?_) ?_
 ·show rX false (VC E0) _ _ [(1,vi s.bs),(2,vh s.t),(0,.cells [.s (.int .u64 s.e),.mp 1,.ptr 2 0])] 3 _;refine⟨[],[some 0,some 1],_,_,_,_,nS,t3,?_⟩;rintro r o' c' ⟨rfl,rfl,rfl⟩;exact⟨rfl,rfl,rfl⟩
 ·rintro r o' c' ⟨rfl,rfl,rfl⟩;exact⟨[],[some 0],_,_,_,t3,rfl,rfl,rfl⟩
theorem yd (s:dG) (c n:Int):VC E0 58 1 [.ptr 0 0,.s (.int .i64 c),.s (.int .u64 n)] (Kl s) (RR (.s (.int .i64 (bQ s.t c n))) 1 (Kl s)):=by
 have nS:=J7 s c n;refine VC.told (R:=RR (.s (.int .i64 (bQ s.t c n))) 5 (rE s)) (VC.Ac (m0:=0) rfl ?_) ?_
 ·show rX false (VC E0) _ _ [(1,vi s.bs),(2,vh s.t),(0,.cells [.s (.int .u64 s.e),.mp 1,.ptr 2 0])] 3 _;refine⟨[],[some 0,some 1],_,_,_,_,nS,t3,?_⟩;rintro r o' c' ⟨rfl,rfl,rfl⟩;exact⟨rfl,rfl,rfl⟩
 ·rintro r o' c' ⟨rfl,rfl,rfl⟩;exact⟨[],[some 0],_,_,_,t3,rfl,rfl,rfl⟩
theorem Of (s:dG) (c:Int):VC E0 59 1 [.ptr 0 0,.s (.int .i64 c)] (Kl s) (RR (QL (gK s.t c)) 1 (Kl s)):=by
 have nS:=QR s c;refine VC.told (R:=RR (QL (gK s.t c)) 5 (rE s)) (VC.Ac (m0:=0) rfl ?_) ?_
 ·show rX false (VC E0) _ _ [(1,vi s.bs),(2,vh s.t),(0,.cells [.s (.int .u64 s.e),.mp 1,.ptr 2 0])] 3 _;refine⟨[],[some 0,some 1],_,_,_,_,nS,t3,?_⟩;rintro r o' c' ⟨rfl,rfl,rfl⟩;exact⟨rfl,rfl,rfl⟩
 ·rintro r o' c' ⟨rfl,rfl,rfl⟩;exact⟨[],[some 0],_,_,_,t3,rfl,rfl,rfl⟩
theorem Km (s:dG) (u:bo) (H:y8 s) (hu:Nr u):VC E0 102 1 [.ptr 0 0,.agg (b7 u)] (Kl s) (RR (US (gu s u).1) 1 (Kl (gu s u).2)):=by
 have nS:=ND s u H hu;refine VC.told (R:=RR (US (gu s u).1) 5 (rE (gu s u).2)) (VC.Ac (m0:=0) rfl ?_) ?_
 ·show rX false (VC E0) _ _ [(1,vi s.bs),(2,vh s.t),(0,.cells [.s (.int .u64 s.e),.mp 1,.ptr 2 0])] 3 _;refine⟨[],[some 0,some 1],_,_,_,_,nS,t3,?_⟩;rintro r o' c' ⟨rfl,rfl,rfl⟩;exact⟨rfl,rfl,rfl⟩
 ·rintro r o' c' ⟨rfl,rfl,rfl⟩;exact⟨[],[some 0],_,_,_,t3,rfl,rfl,rfl⟩
theorem Kn (s:dG) (d:Int) (H:y8 s) (hn:s.bs.length<13):VC E0 91 1 [.ptr 0 0,.s (.int .u64 d)] (Kl s) (fun r o c=>∃n,r= .s (.int .i64 n)∧c=1∧o=Kl (jG s d)):=by
 have nS:=Oc s d H hn;rw[←xT]at nS;refine VC.told (R:=RR (.s (.int .i64 (kL d (s,0) (cz (bN s.bs))).2)) 5 (rE (jG s d))) (VC.Ac (m0:=0) rfl ?_) ?_
 ·show rX false (VC E0) _ _ [(1,vi s.bs),(2,vh s.t),(0,.cells [.s (.int .u64 s.e),.mp 1,.ptr 2 0])] 3 _;refine⟨[],[some 0,some 1],_,_,_,_,nS,t3,?_⟩;rintro r o' c' ⟨rfl,rfl,rfl⟩;exact⟨rfl,rfl,rfl⟩
 ·rintro r o' c' ⟨rfl,rfl,rfl⟩;exact⟨[],[some 0],_,_,_,t3,_,rfl,rfl,rfl⟩
theorem Iw (s:dG) (H:sM s):VC E0 15 1 [.ptr 0 0] (Kl s) (RR (.sl 1 (bM (ru s)) false) 1 (Kl s)):=by
 have nS:=GH s H;refine VC.told (R:=RR (.sl 1 (bM (ru s)) false) 5 (rE s)) (VC.Ac (m0:=0) rfl ?_) ?_
 ·show rX false (VC E0) _ _ [(1,vi s.bs),(2,vh s.t),(0,.cells [.s (.int .u64 s.e),.mp 1,.ptr 2 0])] 3 _;refine⟨[],[some 0,some 1],_,_,_,_,nS,t3,?_⟩;rintro r o' c' ⟨rfl,rfl,rfl⟩;exact⟨rfl,rfl,rfl⟩
 ·rintro r o' c' ⟨rfl,rfl,rfl⟩;exact⟨[],[some 0],_,_,_,t3,rfl,rfl,rfl⟩
end Go.M
