/-
  Part 23 of the library that the proof leans on.
-/
import Derived.Test.YteoljjhhdgplnaaGreatDoorL12
import Derived.Test.YteoljjhhdgplnaaGreatDoorL22
import Derived.Test.YteoljjhhdgplnaaGreatDoorL17
namespace Go.M
open Go Go.Proofs
set_option maxRecDepth 100000
set_option maxHeartbeats 4000000
theorem sf (t:eS):(gl t).length≤6:=List.length_filter_le nz (pC t)
theorem L9 (t:eS):VC E0 75 1 [.ptr 0 0] (ny t) (RR (.sl 5 ((gl t).map Cr) false) 1 (ny t)):=by
 refine en L0 Tryz.f75 ?_;refine⟨fun k f o c=>∃i:Nat,i≤6∧k=6 - i∧c=2∧f=[(0,.ptr 0 0),(3,.tk 1),(7,.s (.int .i64 i))]∧o=[(0,tB t),(1,.arr 5 true ((((pC t).take i).filter nz).map Cr))],⟨6,?_⟩,?_⟩
 ·exact⟨[],[some 0,none],_,_,_,t3,⟨0,by decide,rfl,rfl,rfl,rfl⟩⟩
 ·rintro k f1 o1 c1 ⟨i,hi,rfl,rfl,rfl,rfl⟩;refine wh ?_;refine sp ?_ ?_<;>intro h
  ·have h:i<6:=by have h:(i:Int)<6:=h
                  omega
   have hg:=Gc t ((i+1:Nat):Int);rw[L2 t h]at hg;have wD:=L3 t h;have pQ:(((pC t).take i).filter nz).length≤i:=Nat.le_trans (List.length_filter_le ..) (List.length_take_le ..);generalize (pC t).getD i eO=r at hg wD;refine wh ?_;rw[wrap_small i om];by_cases hz:r.num=0
   ·rw[if_pos hz]at hg;refine⟨[],[some 0],_,_,_,_,hg,t3,cw ?_⟩;refine⟨6 - (i+1),?_,om⟩;refine⟨[],[some 0,some 1],?_⟩
    iterate 3 constructor
    refine⟨⟨?_,?_,?_⟩,⟨i+1,h,rfl,rfl,rfl,rfl⟩⟩
    all_goals(repeat' first|exact LF|constructor)
    all_goals exact Lz.of (by rw[wD,List.filter_append,List.filter_cons_of_neg (by simpa using hz),List.filter_nil,List.append_nil])
   ·rw[if_neg hz]at hg;refine⟨[],[some 0],_,_,_,_,hg,t3,cw ?_⟩;refine⟨by simp only[List.length_map];simp;omega,?_⟩;refine wh ?_;refine⟨6 - (i+1),?_,om⟩;refine⟨[],[some 0,some 5],?_⟩
    iterate 3 constructor
    refine⟨⟨?_,?_,?_⟩,⟨i+1,h,rfl,rfl,rfl,rfl⟩⟩
    all_goals(repeat' first|exact LF|constructor)
    all_goals exact Lz.of (by rw[wD,List.filter_append,List.filter_cons_of_pos (by simpa using hz),List.filter_nil,List.map_append];rfl)
  ·obtain rfl:i=6:=by have h:¬(i:Int)<6:=h;omega
   rw[show(pC t).take 6=pC t from rfl];refine wh ?_;exact⟨[1],[some 0],_,_,_,t3,rfl,rfl,rfl⟩
theorem Pt (t:eS):VC E0 74 1 [.ptr 0 0] (ny t) (RR (.s (.int .i64 ((gl t).length:Nat))) 1 (ny t)):=by
 refine en L0 Tryz.f74 ?_;refine⟨[],[some 0],_,_,_,_,L9 t,t3,cw ?_⟩;refine⟨[],[some 0],?_⟩
 iterate 3 constructor
 refine⟨⟨?_,?_,?_⟩,rfl,rfl,rfl⟩
 all_goals(repeat' first|exact LF|constructor)
 all_goals exact Lz.int (by rw[List.length_map])
@[reducible] def Ak (r:fp):List Int:=cy 1 r.al.toNat++cy 8 r.num.toNat++cy 8 r.seq.toNat++cy 1 r.code.toNat++cy 8 r.dx.toNat
@[reducible] def yE (l:List fp):List Int:=cy 1 l.length++l.flatMap Ak
structure QH (r:fp):Prop where
 al:0≤r.al∧r.al≤6
 num:0≤r.num∧r.num≤18446744073709551615
 seq:0≤r.seq∧r.seq≤18446744073709551615
 code:0≤r.code∧r.code≤255
 dx:0≤r.dx∧r.dx≤18446744073709551615
theorem Ma (r:fp):(Ak r).length=26:=by simp[Ak,bF]
theorem yF {α:Type} (f:α→List Int) {l:List α} {i:Nat} (h:i<l.length):(l.take (i+1)).flatMap f=(l.take i).flatMap f++f l[i]:=by
 rw[List.take_succ_eq_append_getElem h,List.flatMap_append];simp
theorem pF (l:List fp):(l.flatMap Ak).length=l.length*26:=by
 induction l with
 |nil=>rfl
 |cons r l ih=>rw[List.flatMap_cons,List.length_append,Ma,ih,List.length_cons];omega
@[reducible] def Mb (t:eS) (s:ef):Ob:=[(0,tB t),(1,pD s)]
theorem Pu (t:eS) (s:ef) (k:Nat) (hR:Room s k) (hk:157≤k) (hr:∀r∈gl t,QH r):VC E0 36 2 [.ptr 0 0,.ptr 1 0] (Mb t s) (RR (.dg []) 2 (Mb t (s.add (yE (gl t))))):=by
 have hl:=sf t;have adl:(2:Nat)≤256:=by decide
 refine en L0 Tryz.f36 ?_;refine⟨[],[some 0],_,_,_,_,Pt t,t3,cw ?_⟩;rw[show IntKind.u64.wrap (((gl t).length:Nat):Int)=(((gl t).length:Nat):Int)from IntWalk.u64_in _ om];refine⟨[],[some 1],_,_,_,_,gM s ((gl t).length:Nat) 1 k hR om (by decide) (by decide) om om (by rw[Int.toNat_natCast];omega),t3,cw ?_⟩;rw[Int.toNat_natCast];refine⟨[],[some 0],_,_,_,_,L9 t,t3,cw ?_⟩;have hR1:Room (s.add (cy 1 (gl t).length)) (k - 1):=hR.add (by rw[bF];omega);generalize X8:gl t=rs at hl hr hR1
 refine⟨fun q f o c=>∃i:Nat,i≤rs.length∧q=rs.length - i∧c=2∧f=[(1,.ptr 1 0),(14,.sl 5 (rs.map Cr) false),(15,.s (.int .i64 rs.length)),(16,.s (.int .i64 i))]∧o=Mb t ((s.add (cy 1 rs.length)).add ((rs.take i).flatMap Ak)),⟨rs.length,?_⟩,?_⟩
 ·refine⟨[],[some 0,some 1],?_⟩
  iterate 3 constructor
  refine⟨⟨?_,?_,?_⟩,⟨0,Nat.zero_le _,rfl,rfl,rfl,rfl⟩⟩
  all_goals(repeat' first|exact LF|constructor)
  ·exact Lz.int (by rw[List.length_map])
  ·exact Lz.of (by simp)
 ·rintro q f1 o1 c1 ⟨i,hi,rfl,rfl,rfl,rfl⟩;refine wh ?_;refine sp ?_ ?_<;>intro h
  ·have h:i<rs.length:=by have h:(i:Int)<rs.length:=h
                          omega
   have hx:=hr _ (List.getElem_mem h);have pQ:=pF (rs.take i);rw[List.length_take,Nat.min_eq_left hi]at pQ;have X5:Room ((s.add (cy 1 rs.length)).add ((rs.take i).flatMap Ak)) (k - 1 - i*26):=hR1.add (by rw[pQ];omega);refine wh ?_;refine mB h ?_;refine wh ?_;rw[show IntKind.u64.wrap rs[i].al=rs[i].al from IntWalk.u64_in _ (by have:=hx.al;omega)];refine⟨[],[some 1],_,_,_,_,gM _ rs[i].al 1 _ X5 om (by decide) (by decide) hx.al.1 (by have:=hx.al;omega) (by have:=hx.al;omega),t3,cw ?_⟩;have hR3:=X5.add (x:=cy 1 rs[i].al.toNat) (j:=k - 1 - i*26 - 1) (by rw[bF];omega)
   refine⟨[],[some 1],_,_,_,_,gM _ rs[i].num 8 _ hR3 om (by decide) (by decide) hx.num.1 hx.num.2 (by have:=hx.num;omega),t3,cw ?_⟩;have hR4:=hR3.add (x:=cy 8 rs[i].num.toNat) (j:=k - 1 - i*26 - 9) (by rw[bF];omega);refine⟨[],[some 1],_,_,_,_,gM _ rs[i].seq 8 _ hR4 om (by decide) (by decide) hx.seq.1 hx.seq.2 (by have:=hx.seq;omega),t3,cw ?_⟩;have hR5:=hR4.add (x:=cy 8 rs[i].seq.toNat) (j:=k - 1 - i*26 - 17) (by rw[bF];omega);rw[show IntKind.u64.wrap rs[i].code=rs[i].code from IntWalk.u64_in _ (by have:=hx.code;omega)]
   refine⟨[],[some 1],_,_,_,_,gM _ rs[i].code 1 _ hR5 om (by decide) (by decide) hx.code.1 (by have:=hx.code;omega) (by have:=hx.code;omega),t3,cw ?_⟩;have hR6:=hR5.add (x:=cy 1 rs[i].code.toNat) (j:=k - 1 - i*26 - 18) (by rw[bF];omega);refine⟨[],[some 1],_,_,_,_,gM _ rs[i].dx 8 _ hR6 om (by decide) (by decide) hx.dx.1 hx.dx.2 (by have:=hx.dx;omega),t3,cw ?_⟩;refine⟨rs.length - (i+1),?_,om⟩;refine⟨[],[some 0,some 1],?_⟩
   iterate 3 constructor
   refine⟨⟨?_,?_,?_⟩,⟨i+1,h,rfl,rfl,rfl,rfl⟩⟩
   all_goals(repeat' first|exact LF|constructor)
   all_goals exact Lz.of (congrArg (fun x=>TO.arr 1 true (bA x)) (by simp only[Ak,yF Ak h,List.append_assoc]))
  ·obtain rfl:i=rs.length:=by have h:¬(i:Int)<rs.length:=h;omega
   rw[List.take_length];refine wh ?_;refine⟨[],[some 0,some 1],?_⟩
   iterate 3 constructor
   refine⟨⟨?_,?_,?_⟩,rfl,rfl,rfl⟩
   all_goals(repeat' first|exact LF|constructor)
   all_goals exact Lz.of (congrArg (fun x=>TO.arr 1 true (bA x)) (by simp only[yE,List.append_assoc]))
theorem Is:gX []=fV:=by show Nq [] _=_;exact Pg _
theorem Mc (vs:List Vs):gX vs=fV∨gX vs∈vs:=by
 rcases vX vs with rfl |⟨ws,w,rfl⟩
 ·exact .inl Is
 ·rw[gj];exact .inr (by simp)
@[reducible] def Iu (k:Int) (v:Vs):List Int:=cy 4 k.toNat++cy 8 v.dx.toNat++cy 8 v.seq.toNat++(cy 2 v.data.length++v.data)
@[reducible] def tD (s:eZ) (k:Int):List Int:=Iu k (gX (yg s k))
@[reducible] def Md (e:Int) (rows:List fp) (n:Nat):List Int:=cy 8 e.toNat++yE rows++cy 2 n
@[reducible] def CD (s:eZ):List Int:=Md s.e (gl s.t) s.bs.length++(b7 (fu s.bs)).flatMap (tD s)
structure s8 (s:eZ):Prop where
 ok:w7 s
 e:0≤s.e∧s.e≤18446744073709551615
 rows:∀r∈gl s.t,QH r
 n:s.bs.length≤12
 keys:∀k∈fu s.bs,0≤k∧k≤4294967295
theorem s8.last {s:eZ} (H:s8 s) (k:Int):O7 (gX (yg s k)):=by
 rcases Mc (yg s k)with h|h
 ·rw[h];exact⟨by decide,by decide,by decide⟩
 ·exact(Es H.ok k).1 _ h
theorem Me {k:Int} {v:Vs} (h:v.data.length≤2048):(Iu k v).length≤2070:=by simp[Iu,bF];omega
theorem yG {s:eZ} (H:s8 s) (l:List Int):(l.flatMap (tD s)).length≤l.length*2070:=by
 induction l with
 |nil=>simp
 |cons k l ih=>
  rw[List.flatMap_cons,List.length_append,List.length_cons];have:=Me (k:=k) (H.last k).len;show(Iu k _).length+_≤_;omega
@[reducible] def WR (s:eZ) (x:ef):Ob:=[(0,WL s),(1,tC s.bs),(2,pD x)]
theorem Mf:VC E0 34 0 [.s (.int .i64 1048576)] [] (RR (.ptr 0 0) 1 [(0,pD ⟨[],1048576,0⟩)]):=Te 1048576
@[reducible] def xH (s:eZ):ef:=⟨Md s.e (gl s.t) s.bs.length,1048576,0⟩
theorem Ew (s:eZ) (H:s8 s):VC E0 15 2 [.ptr 0 0] (pH s) (RR (.sl 1 (bA (CD s)) false) 2 (pH s)):=by
 have hn:=H.n;have nv:∀k∈b7 (fu s.bs),0≤k∧k≤4294967295:=fun k m=>H.keys k (by unfold b7 at m;exact List.mem_mergeSort.1 m);have E3:(b7 (fu s.bs)).length=s.bs.length:=by unfold b7;rw[List.length_mergeSort,List.length_map]
 have Nd:=Cv s om;have hrl:=sf s.t;have aaj:=pF (gl s.t);have R0:Room ⟨[],1048576,0⟩ 800000:=⟨rfl,rfl,by decide⟩;have R1:Room (ef.add ⟨[],1048576,0⟩ (cy 8 s.e.toNat)) 799992:=R0.add (by rw[bF];decide);have R2:Room ((ef.add ⟨[],1048576,0⟩ (cy 8 s.e.toNat)).add (yE (gl s.t))) 799000:=R1.add (by unfold yE;rw[List.length_append,bF,aaj];omega);have R3:Room (xH s) 700000:=by
  have:=R2.add (x:=cy 2 s.bs.length) (j:=700000) (by rw[bF];decide);exact this
 refine en L0 Tryz.f15 ?_;refine⟨[],[],_,_,_,_,Mf,t3,cw ?_⟩;refine⟨[],[some 2],_,_,_,_,gM ⟨[],1048576,0⟩ s.e 8 800000 R0 (by decide) (by decide) (by decide) H.e.1 H.e.2 (by have:=H.e;omega),t3,cw ?_⟩;refine⟨[],[some 4,some 2],_,_,_,_,Pu s.t _ 799992 R1 (by decide) H.rows,t3,cw ?_⟩;refine wh ?_;rw[List.length_map,show IntKind.u64.wrap ((s.bs.length:Nat):Int)=((s.bs.length:Nat):Int)from IntWalk.u64_in _ om];refine⟨[],[some 2],_,_,_,_,gM _ ((s.bs.length:Nat):Int) 2 799000 R2 (by decide) (by decide) (by decide) om om (by rw[Int.toNat_natCast];omega),t3,cw ?_⟩
 refine⟨[],[some 0,some 1],_,_,_,_,Nd,t3,cw ?_⟩;rw[show(((ef.add ⟨[],1048576,0⟩ (cy 8 s.e.toNat)).add (yE (gl s.t))).add (cy 2 ((s.bs.length:Nat):Int).toNat))=xH s from by rw[Int.toNat_natCast];simp only[ef.add,xH,Md,List.nil_append]];have Pv:CD s=((xH s).add ((b7 (fu s.bs)).flatMap (tD s))).b:=rfl;rw[Pv];have AV:=fun n=>yG H ((b7 (fu s.bs)).take n);generalize b7 (fu s.bs)=ks at nv E3 AV
 refine⟨fun q f o c=>∃i:Nat,i≤ks.length∧q=ks.length - i∧c=3∧f=[(0,.ptr 0 0),(3,.ptr 2 0),(33,.sl 1 (ks.map hZ) false),(34,.s (.int .i64 ks.length)),(35,.s (.int .i64 i))]∧o=WR s ((xH s).add ((ks.take i).flatMap (tD s))),⟨ks.length,?_⟩,?_⟩
 ·refine⟨[],[some 0,some 1,some 2],?_⟩
  iterate 3 constructor
  refine⟨⟨?_,?_,?_⟩,⟨0,Nat.zero_le _,rfl,rfl,rfl,rfl⟩⟩
  all_goals(repeat' first|exact LF|constructor)
  ·exact Lz.int (by rw[List.length_map])
  ·exact Lz.of (by simp)
 ·rintro q f1 o1 c1 ⟨i,hi,rfl,rfl,rfl,rfl⟩;refine wh ?_;refine sp ?_ ?_<;>intro h
  ·have h:i<ks.length:=by have h:(i:Int)<ks.length:=h
                          omega
   have hx:=nv _ (List.getElem_mem h);have pQ:=AV i;rw[List.length_take,Nat.min_eq_left hi]at pQ;have QI:=Gd s ks[i] H.ok;have hv:=H.last ks[i];have wD:=yF (tD s) h;rw[show tD s ks[i]=Iu ks[i] (gX (yg s ks[i]))from rfl]at wD;have R4:Room ((xH s).add ((ks.take i).flatMap (tD s))) 3000:=R3.add om;generalize hX:(xH s).add ((ks.take i).flatMap (tD s))=X at R4;generalize gX (yg s ks[i])=v at QI hv wD;refine wh ?_;refine mB h ?_;refine⟨[],[some 0,some 1],_,_,_,_,QI,t3,cw ?_⟩;rw[show IntKind.u64.wrap ks[i]=ks[i]from IntWalk.u64_in _ om]
   refine⟨[],[some 2],_,_,_,_,gM X ks[i] 4 3000 R4 (by decide) (by decide) (by decide) hx.1 om om,t3,cw ?_⟩;have R5:=R4.add (x:=cy 4 ks[i].toNat) (j:=2990) (by rw[bF];decide);refine⟨[],[some 2],_,_,_,_,gM _ v.dx 8 2990 R5 (by decide) (by decide) (by decide) hv.dx.1 hv.dx.2 (by have:=hv.dx;omega),t3,cw ?_⟩;have R6:=R5.add (x:=cy 8 v.dx.toNat) (j:=2980) (by rw[bF];decide);refine⟨[],[some 2],_,_,_,_,gM _ v.seq 8 2980 R6 (by decide) (by decide) (by decide) hv.seq.1 hv.seq.2 (by have:=hv.seq;omega),t3,cw ?_⟩;have R7:=R6.add (x:=cy 8 v.seq.toNat) (j:=2970) (by rw[bF];decide)
   refine⟨[],[some 2],_,_,_,_,Ev _ v.data 2970 R7 (by have:=hv.len;omega) (by have:=hv.len;omega),t3,cw ?_⟩;rw[show((((X.add (cy 4 ks[i].toNat)).add (cy 8 v.dx.toNat)).add (cy 8 v.seq.toNat)).add (cy 2 v.data.length++v.data))=(xH s).add ((ks.take (i+1)).flatMap (tD s))from by rw[wD,←hX];simp only[ef.add,Iu,List.append_assoc]];refine⟨ks.length - (i+1),?_,om⟩;exact⟨[],[some 0,some 1,some 2],_,_,_,t3,⟨i+1,h,rfl,rfl,rfl,rfl⟩⟩
  ·obtain rfl:i=ks.length:=by have h:¬(i:Int)<ks.length:=h;omega
   have pQ:=AV ks.length;rw[List.take_length]at pQ;have R4:Room ((xH s).add (ks.flatMap (tD s))) 3000:=R3.add om;rw[List.take_length];generalize (xH s).add (ks.flatMap (tD s))=X at R4;have hd:=Pr X R4.ok (by have:=R4.l;omega);rw[if_pos R4.e,R4.e]at hd;refine wh ?_;refine⟨[],[some 2],_,_,_,_,hd,t3,cw ?_⟩;refine sp ?_ ?_<;>intro h0
   ·exact absurd rfl h0
   ·refine wh ?_;exact⟨[],[some 0,some 1],_,_,_,t3,rfl,rfl,rfl⟩
theorem v7 (d:Int) (r:eZ×Nat) (ks:List Int) (i:Nat) (h:i<ks.length):kW d r (ks.take (i+1))=jG d (kW d r (ks.take i)) ks[i]:=by
 unfold kW;rw[List.take_succ_eq_append_getElem h,List.foldl_append];rfl
theorem w7.put {s:eZ} (H:w7 s) {k:Int} {vs:List Vs} (hv:∀v∈vs,O7 v) (hn:vs.length<100000):w7 {s with bs:=ov s.bs k vs}:=⟨fun k' ws h=>by
 rw[yd]at h;split at h
 ·cases h;exact⟨hv,hn⟩
 ·exact H.v k' ws h⟩
theorem w7.nr {s:eZ} (H:w7 s) (d k:Int):w7 (nr s d k):=by
 unfold Go.M.nr;split
 ·rename_i vs h;obtain⟨hv,hn⟩:=H.v k vs h;exact H.put (fun v m=>hv v (List.mem_of_mem_drop m)) (by rw[List.length_drop];omega)
 ·exact H
theorem Iv (d:Int):fo [] d=0:=by
 show(l5 [] d).toNat=0;unfold l5;rw[El (by decide)];rfl
theorem CE (vs:List Vs) (d:Int):fo vs d≤vs.length:=by
 have hle:=Ah (fun k=>decide (d<(vs.getD k fV).seq)) 0 vs.length (Nat.zero_le _);unfold fo l5;omega
theorem CG {s:eZ} (H:w7 s) (d:Int) (ks:List Int):∀i,i≤ks.length→w7 (kW d (s,0) (ks.take i)).1∧(kW d (s,0) (ks.take i)).2≤i*100000
 |0,_=>⟨H,Nat.le_refl _⟩
 |i+1,hi=>by
  obtain⟨h1,h2⟩:=CG H d ks i om;rw[v7 d _ ks i om];refine⟨h1.nr d _,?_⟩;show _+fo _ d≤_;have:=CE (yg (kW d (s,0) (ks.take i)).1 ks[i]) d;have:=(Es h1 ks[i]).2;omega
theorem Mg (s:eZ) (d:Int) (H:w7 s) (hn:s.bs.length<13):VC E0 91 2 [.ptr 0 0,.s (.int .u64 d)] (pH s)
 (RR (.s (.int .i64 (kW d (s,0) (b7 (fu s.bs))).2)) 2 (pH (kW d (s,0) (b7 (fu s.bs))).1)):=by
 have hk:=Cv s hn;have hlen:(b7 (fu s.bs)).length<13:=by unfold b7;rw[List.length_mergeSort,List.length_map];exact hn
 generalize b7 (fu s.bs)=ks at hk hlen;have kf:=CG H d ks;refine en L0 Tryz.f91 ?_;refine⟨[],[some 0,some 1],_,_,_,_,hk,t3,cw ?_⟩;refine⟨fun k f o c=>∃(i:Nat) (r:eZ) (n:Nat),kW d (s,0) (ks.take i)=(r,n)∧i≤ks.length∧k=ks.length - i∧c=2∧f=[(0,.ptr 0 0),(1,.s (.int .u64 d)),(5,.s (.int .i64 n)),(9,.sl 1 (ks.map hZ) false),(10,.s (.int .i64 ks.length)),(11,.s (.int .i64 i))]∧o=pH r,⟨ks.length,?_⟩,?_⟩
 ·refine⟨[],[some 0,some 1],?_⟩
  iterate 3 constructor
  refine⟨⟨?_,?_,?_⟩,⟨0,s,0,rfl,Nat.zero_le _,rfl,rfl,rfl,rfl⟩⟩
  all_goals(repeat' first|exact LF|constructor)
  all_goals exact Lz.int (by simp)
 ·rintro k f1 o1 c1 ⟨i,r,n,hr,hi,rfl,rfl,rfl,rfl⟩;obtain⟨hs,hb⟩:=kf i hi;rw[hr]at hs hb;have hs:w7 r:=hs;have hb:n≤i*100000:=hb;refine wh ?_;refine sp ?_ ?_<;>intro bj
  ·have bj:i<ks.length:=by exact Int.ofNat_lt.1 bj
   have wD:=v7 d (s,0) ks i bj;rw[hr]at wD;refine wh ?_;refine⟨hZ ks[i],⟨om,by simp[bj]⟩,?_⟩;refine wh ?_;cases h:eu r.bs ks[i]with
   |none=>
    refine⟨[],[some 0,some 1],_,_,_,_,Ct r ks[i] h,t3,cw ?_⟩;refine⟨[],[],_,_,_,_,Ib d,t3,cw ?_⟩;refine⟨ks.length - (i+1),?_,om⟩;rw[show jG d (r,n) ks[i]=(r,n)from by unfold jG;rw[show nr r d ks[i]=r from by unfold nr;rw[h]];rw[qK h,Iv];rfl]at wD;rw[show IntKind.i64.wrap ((n:Int)+0)=(n:Int)from by rw[IntWalk.i64_in _ om];omega];exact⟨[],[some 0,some 1],_,_,_,t3,⟨i+1,r,n,wD,om,rfl,rfl,rfl,rfl⟩⟩
   |some vs=>
    obtain⟨hv,hvn⟩:=hs.v _ vs h;have hm:=CE vs d;refine⟨[],[some 0,some 1],_,_,_,_,Cu r ks[i] vs h,t3,cw ?_⟩;refine⟨[],[some 4],_,_,_,_,LK vs d om,t3,cw ?_⟩;refine⟨ks.length - (i+1),?_,om⟩;have bU:jG d (r,n) ks[i]=({r with bs:=ov r.bs ks[i] (vs.drop (fo vs d))},n+fo vs d):=by
     unfold jG;rw[show nr r d ks[i]={r with bs:=ov r.bs ks[i] (vs.drop (fo vs d))}from by unfold nr;rw[h]];rw[qL h]
    rw[bU]at wD;rw[show IntKind.i64.wrap ((n:Int)+((fo vs d:Nat):Int))=((n+fo vs d:Nat):Int)from by rw[IntWalk.i64_in _ om];omega];rw[show IntKind.i64.wrap ((i:Int)+1)=((i+1:Nat):Int)from by rw[IntWalk.i64_in _ om];omega];refine⟨[],[some 0,some 1],_,_,_,⟨tq,.cons (.cells tq) (.cons (.dY (kA:=[(_,k8 (vs.drop (fo vs d)))]) .one (Lw.of (Ep r.bs ks[i] _)) (.m1 (by rfl) tq)) .nil),by rfl⟩,⟨i+1,{r with bs:=ov r.bs ks[i] (vs.drop (fo vs d))},n+fo vs d,wD,om,rfl,rfl,rfl,rfl⟩⟩
  ·have bj:¬i<ks.length:=fun q=>bj (Int.ofNat_lt.2 q);have:i=ks.length:=by omega
   subst this;rw[List.take_length]at hr;rw[hr];refine wh ?_;exact⟨[],[some 0,some 1],_,_,_,t3,rfl,rfl,rfl⟩
@[reducible] def Tg (s:eZ):TO:=.cells [.s (.int .u64 s.e),.own (tC s.bs),.own (tB s.t)]
@[reducible] def Iw (s:eZ):Ob:=[(0,Tg s)]
theorem Mh:VC E0 48 0 [] [] (RR (.ptr 0 0) 1 (Iw ⟨0,[],oe⟩)):=by
 refine VC.told (R:=RR (.ptr 0 0) 2 (pH ⟨0,[],oe⟩)) Ph ?_;rintro r o' c' ⟨rfl,rfl,rfl⟩;exact⟨[],[some 0],_,_,_,t3,rfl,rfl,rfl⟩
theorem Mi (s:eZ):VC E0 32 1 [.ptr 0 0] (Iw s) (RR (.s (.int .u64 s.e)) 1 (Iw s)):=by
 have me:=S8 s;refine VC.told (R:=RR (.s (.int .u64 s.e)) 5 (pH s)) (VC.yp (m0:=0) rfl ?_) ?_
 ·show p7 false (VC E0) _ _ [(1,tC s.bs),(2,tB s.t),(0,.cells [.s (.int .u64 s.e),.mp 1,.ptr 2 0])] 3 _;refine⟨[],[some 0,some 1],_,_,_,_,me,t3,?_⟩;rintro r o' c' ⟨rfl,rfl,rfl⟩;exact⟨rfl,rfl,rfl⟩
 ·rintro r o' c' ⟨rfl,rfl,rfl⟩;exact⟨[],[some 0],_,_,_,t3,rfl,rfl,rfl⟩
theorem Ey (s:eZ) (c n:Int):VC E0 58 1 [.ptr 0 0,.s (.int .i64 c),.s (.int .u64 n)] (Iw s) (RR (.s (.int .i64 (ct s.t c n))) 1 (Iw s)):=by
 have me:=Ie s c n;refine VC.told (R:=RR (.s (.int .i64 (ct s.t c n))) 5 (pH s)) (VC.yp (m0:=0) rfl ?_) ?_
 ·show p7 false (VC E0) _ _ [(1,tC s.bs),(2,tB s.t),(0,.cells [.s (.int .u64 s.e),.mp 1,.ptr 2 0])] 3 _;refine⟨[],[some 0,some 1],_,_,_,_,me,t3,?_⟩;rintro r o' c' ⟨rfl,rfl,rfl⟩;exact⟨rfl,rfl,rfl⟩
 ·rintro r o' c' ⟨rfl,rfl,rfl⟩;exact⟨[],[some 0],_,_,_,t3,rfl,rfl,rfl⟩
theorem Mj (s:eZ) (c:Int):VC E0 59 1 [.ptr 0 0,.s (.int .i64 c)] (Iw s) (RR (Pd (fW s.t c)) 1 (Iw s)):=by
 have me:=Pj s c;refine VC.told (R:=RR (Pd (fW s.t c)) 5 (pH s)) (VC.yp (m0:=0) rfl ?_) ?_
 ·show p7 false (VC E0) _ _ [(1,tC s.bs),(2,tB s.t),(0,.cells [.s (.int .u64 s.e),.mp 1,.ptr 2 0])] 3 _;refine⟨[],[some 0,some 1],_,_,_,_,me,t3,?_⟩;rintro r o' c' ⟨rfl,rfl,rfl⟩;exact⟨rfl,rfl,rfl⟩
 ·rintro r o' c' ⟨rfl,rfl,rfl⟩;exact⟨[],[some 0],_,_,_,t3,rfl,rfl,rfl⟩
theorem Ix (s:eZ) (u:c7) (H:w7 s) (hu:LD u):VC E0 102 1 [.ptr 0 0,.agg (cS u)] (Iw s) (RR (S9 (nq s u).1) 1 (Iw (nq s u).2)):=by
 have me:=LO s u H hu;refine VC.told (R:=RR (S9 (nq s u).1) 5 (pH (nq s u).2)) (VC.yp (m0:=0) rfl ?_) ?_
 ·show p7 false (VC E0) _ _ [(1,tC s.bs),(2,tB s.t),(0,.cells [.s (.int .u64 s.e),.mp 1,.ptr 2 0])] 3 _;refine⟨[],[some 0,some 1],_,_,_,_,me,t3,?_⟩;rintro r o' c' ⟨rfl,rfl,rfl⟩;exact⟨rfl,rfl,rfl⟩
 ·rintro r o' c' ⟨rfl,rfl,rfl⟩;exact⟨[],[some 0],_,_,_,t3,rfl,rfl,rfl⟩
theorem Iy (s:eZ) (d:Int) (H:w7 s) (hn:s.bs.length<13):VC E0 91 1 [.ptr 0 0,.s (.int .u64 d)] (Iw s) (fun r o c=>∃n,r= .s (.int .i64 n)∧c=1∧o=Iw (qF s d)):=by
 have me:=Mg s d H hn;rw[←Ll]at me;refine VC.told (R:=RR (.s (.int .i64 (kW d (s,0) (b7 (fu s.bs))).2)) 5 (pH (qF s d))) (VC.yp (m0:=0) rfl ?_) ?_
 ·show p7 false (VC E0) _ _ [(1,tC s.bs),(2,tB s.t),(0,.cells [.s (.int .u64 s.e),.mp 1,.ptr 2 0])] 3 _;refine⟨[],[some 0,some 1],_,_,_,_,me,t3,?_⟩;rintro r o' c' ⟨rfl,rfl,rfl⟩;exact⟨rfl,rfl,rfl⟩
 ·rintro r o' c' ⟨rfl,rfl,rfl⟩;exact⟨[],[some 0],_,_,_,t3,_,rfl,rfl,rfl⟩
theorem Gm (s:eZ) (H:s8 s):VC E0 15 1 [.ptr 0 0] (Iw s) (RR (.sl 1 (bA (CD s)) false) 1 (Iw s)):=by
 have me:=Ew s H;refine VC.told (R:=RR (.sl 1 (bA (CD s)) false) 5 (pH s)) (VC.yp (m0:=0) rfl ?_) ?_
 ·show p7 false (VC E0) _ _ [(1,tC s.bs),(2,tB s.t),(0,.cells [.s (.int .u64 s.e),.mp 1,.ptr 2 0])] 3 _;refine⟨[],[some 0,some 1],_,_,_,_,me,t3,?_⟩;rintro r o' c' ⟨rfl,rfl,rfl⟩;exact⟨rfl,rfl,rfl⟩
 ·rintro r o' c' ⟨rfl,rfl,rfl⟩;exact⟨[],[some 0],_,_,_,t3,rfl,rfl,rfl⟩
@[reducible] def WS (x:X7):TO:=.cells [.s (.int .u64 x.at_),.s (.int .i64 x.parts),.s (.int .i64 x.next),.own (.arr 1 true (bA x.b))]
@[reducible] def QJ:TV:=.s (.pointer none)
@[reducible] def aak (x:RS):List TV:=[.s (.int .i64 x.node),.s (.int .i64 x.aE.chain),.s (.int .u64 x.aE.bL),.sl 1 (x.aE.nodes.map eX) false,.s (.bool x.aE.fresh),.s (.int .i64 x.aE.join),
 .s (.bool x.role.Ef),.s (.bool x.role.oN),.s (.bool x.role.head),.s (.bool x.role.tail),.s (.bool x.role.waits),.s (.int .i64 x.role.place),.s (.int .i64 x.role.pred),.s (.int .i64 x.role.succ),
 .own (Tg x.st),.own (Tc x.aJ),.s (.int .u64 x.base),.s (.bool x.fE),.s (.int .u64 x.cC),.s (.bool x.known),QJ,.s (.int .i64 x.want),.own (WS x.comes),.own (.arr 25 true (x.out.map bK))]
@[reducible] def sg (x:RS):TO:=.cells (aak x)
@[reducible] def jO (x:RS):Ob:=[(0,sg x)]
theorem Am (x:RS) (l:Lr) (to:Int) (hl:x.out.length<100000):VC E0 83 1 [.ptr 0 0,.agg (bK l),.s (.int .i64 to)] (jO x) (RR (.dg []) 1 (jO (Cm x l to))):=by
 refine en L0 Tryz.f83 ?_;refine sp ?_ ?_<;>intro hk
 ·have hk:l.kind≠18:=hk;have e:Cl x l to={l with AI:=x.node,to:=to,chain:=x.aE.chain,bL:=x.aE.bL}:=if_neg hk;refine wh ?_;refine⟨by simp;omega,?_⟩;refine wh ?_;refine⟨[],[some 0],?_⟩
  iterate 3 constructor
  refine⟨⟨?_,?_,?_⟩,rfl,rfl,rfl⟩
  all_goals(repeat' first|exact LF|constructor)
  all_goals exact Lz.of (by show _=(x.out++[Cl x l to]).map bK;rw[e,List.map_append];rfl)
 ·have hk:l.kind=18:=Classical.not_not.1 hk;have e:Cl x l to={l with AI:=x.node,to:=to}:=if_pos hk;refine wh ?_;refine⟨by simp;omega,?_⟩;refine wh ?_;refine⟨[],[some 0],?_⟩
  iterate 3 constructor
  refine⟨⟨?_,?_,?_⟩,rfl,rfl,rfl⟩
  all_goals(repeat' first|exact LF|constructor)
  all_goals exact Lz.of (by show _=(x.out++[Cl x l to]).map bK;rw[e,List.map_append];rfl)
theorem gN (x:RS):VC E0 31 1 [.ptr 0 0] (jO x) (RR (.tk 1) 2 [(0,sg (gK x)),(1,.arr 25 true (x.out.map bK))]):=by
 refine en L0 Tryz.f31 ?_;exact⟨[],[some 0,some 1],_,_,_,t3,rfl,rfl,rfl⟩
theorem Iz (x:RS) (r:fp) (hl:x.out.length<100000) (hr:0≤r.al∧r.al≤6):VC E0 60 1 [.ptr 0 0,.agg (Cr r)] (jO x) (RR (.dg []) 1 (jO (Ae x r))):=by
 have hw:IntKind.i64.wrap (200+r.al)=200+r.al:=IntWalk.i64_in _ om;refine en L0 Tryz.f60 ?_;rw[hw];refine⟨[],[some 0],_,_,_,_,Am x (Lm r) (200+r.al) hl,t3,cw ?_⟩;exact⟨[],[some 0],_,_,_,t3,rfl,rfl,rfl⟩
theorem Mk (x:X7):VC E0 106 1 [.ptr 0 0] [(0,WS x)] (RR (.dg [.s (.int .u64 x.at_),.s (.int .i64 x.next)]) 1 [(0,WS x)]):=by
 refine en L0 Tryz.f106 ?_;exact⟨[],[some 0],_,_,_,t3,rfl,rfl,rfl⟩
theorem mr (x:RS) (hl:x.out.length<100000) (H:tZ x.aJ):VC E0 64 1 [.ptr 0 0] (jO x) (RR (.dg []) 1 (jO (l7 x))):=by
 refine en L0 Tryz.f64 ?_;refine sp ?_ ?_<;>intro hp
 ·have e:l7 x=x:=if_pos hp;rw[e];refine wh ?_;exact⟨[],[some 0],_,_,_,t3,rfl,rfl,rfl⟩
 have e:l7 x=Cm x (SO x) x.role.pred:=if_neg hp;rw[e];have e8:=eW x.aJ H;refine wh ?_;refine⟨[],[some 1],_,_,_,_,Mk x.comes,t3,cw ?_⟩;refine⟨[],[some 3],_,_,_,_,e8,t3,cw ?_⟩;refine⟨[],[some 3],_,_,_,_,k9 x.aJ,t3,cw ?_⟩;refine⟨[],[some 0],_,_,_,_,Am x (SO x) x.role.pred hl,t3,cw ?_⟩;exact⟨[],[some 0],_,_,_,t3,rfl,rfl,rfl⟩
theorem Pw (x:RS) (hl:x.out.length<100000) (H:tZ x.aJ) (hk:x.role.succ=0∨x.known=false∨(mq x.aJ x.cC 4).isSome=true):VC E0 44 1 [.ptr 0 0] (jO x) (RR (.dg []) 1 (jO (eV x))):=by
 have e8:=eW x.aJ H;obtain⟨node,aE,role,st,aJ,base,fE,cC,known,want,comes,out⟩:=x;by_cases hs:role.succ=0
 ·have e:eV ⟨node,aE,role,st,aJ,base,fE,cC,known,want,comes,out⟩=⟨node,aE,role,st,aJ,base,fE,cC,known,want,comes,out⟩:=if_pos hs;rw[e];refine en L0 Tryz.f44 ?_;refine sp ?_ ?_<;>intro hz
  ·refine wh ?_;exact⟨[],[some 0],_,_,_,t3,rfl,rfl,rfl⟩
  ·exact absurd hs hz
 cases known
 ·have e:eV ⟨node,aE,role,st,aJ,base,fE,cC,false,want,comes,out⟩=Cm ⟨node,aE,role,st,aJ,base,fE,cC,false,want,comes,out⟩ (yu ⟨node,aE,role,st,aJ,base,fE,cC,false,want,comes,out⟩ []) role.succ:=by
   unfold eV;rw[if_neg hs,if_pos rfl]
  have Th:=Am ⟨node,aE,role,st,aJ,base,fE,cC,false,want,comes,out⟩ (yu ⟨node,aE,role,st,aJ,base,fE,cC,false,want,comes,out⟩ []) role.succ hl;rw[e];refine en L0 Tryz.f44 ?_;refine sp ?_ ?_<;>intro hz
  ·exact absurd hz hs
  refine wh ?_;refine⟨[],[some 1],_,_,_,_,e8,t3,cw ?_⟩;refine⟨[],[some 0],_,_,_,_,Th,t3,cw ?_⟩;exact⟨[],[some 0],_,_,_,t3,rfl,rfl,rfl⟩
 ·obtain⟨l,hf⟩:=Option.isSome_iff_exists.1 (hk.resolve_left hs |>.resolve_left Bool.noConfusion);have e:eV ⟨node,aE,role,st,aJ,base,fE,cC,true,want,comes,out⟩=Cm ⟨node,aE,role,st,aJ,base,fE,cC,true,want,comes,out⟩ (yu ⟨node,aE,role,st,aJ,base,fE,cC,true,want,comes,out⟩ l) role.succ:=by
   unfold eV;rw[if_neg hs,if_neg (show¬(true=false)from Bool.noConfusion),hf]
  have zd:=Gj aJ H cC 4 (by decide) l hf;have Th:=Am ⟨node,aE,role,st,aJ,base,fE,cC,true,want,comes,out⟩ (yu ⟨node,aE,role,st,aJ,base,fE,cC,true,want,comes,out⟩ l) role.succ hl;rw[e];refine en L0 Tryz.f44 ?_;refine sp ?_ ?_<;>intro hz
  ·exact absurd hz hs
  refine wh ?_;refine⟨[],[some 1],_,_,_,_,e8,t3,cw ?_⟩;refine⟨[],[some 1],_,_,_,_,zd,t3,cw ?_⟩;refine⟨[],[some 0],_,_,_,_,Th,t3,cw ?_⟩;exact⟨[],[some 0],_,_,_,t3,rfl,rfl,rfl⟩
theorem IA (x:RS) (u:c7) (H:tZ x.aJ) (Hs:w7 x.st) (hu:LD u) (hc:px u=0) (Um:u.seq - 1=aU x.aJ) (h0:1≤u.seq) (h:aU x.aJ+1<32):VC E0 62 1 [.ptr 0 0,.agg (cS u)] (jO x) (RR (.dg []) 1 (jO (wC x u))):=by
 have ha:=Ix x.st u Hs hu;have hw:=Pl x.aJ u H hc Um h0 h;refine en L0 Tryz.f62 ?_;refine⟨[],[some 2],_,_,_,_,ha,t3,cw ?_⟩;refine⟨[],[some 4],_,_,_,_,hw,t3,cw ?_⟩;exact⟨[],[some 0],_,_,_,t3,rfl,rfl,rfl⟩
structure s9 (x y:RS) (k:Nat):Prop where
 node:y.node=x.node
 aE:y.aE=x.aE
 role:y.role=x.role
 st:y.st=x.st
 aJ:y.aJ=x.aJ
 comes:y.comes=x.comes
 out:y.out.length≤x.out.length+k
theorem s9.refl (x:RS):s9 x x 0:=⟨rfl,rfl,rfl,rfl,rfl,rfl,Nat.le_refl _⟩
theorem s9.trans {x y z:RS} {a b:Nat} (h:s9 x y a) (k:s9 y z b):s9 x z (a+b):=
 ⟨k.node.trans h.node,k.aE.trans h.aE,k.role.trans h.role,k.st.trans h.st,k.aJ.trans h.aJ,k.comes.trans h.comes,by have:=h.out;have:=k.out;omega⟩
theorem Ez (st:eZ) (x:RS) (u:c7):s9 x (gh st x u) 1:=by
 unfold gh;split
 ·exact⟨rfl,rfl,rfl,rfl,rfl,rfl,by show(x.out++[_]).length≤_;rw[List.length_append];exact Nat.le_refl _⟩
 ·exact⟨rfl,rfl,rfl,rfl,rfl,rfl,Nat.le_succ _⟩
theorem yH (st:eZ):∀(l:List c7) (x:RS),s9 x (l.foldl (gh st) x) l.length
 |[],x=>.refl x
 |u::l,x=>by
  have h:=(Ez st x u).trans (yH st l (gh st x u));rw[List.length_cons];exact⟨h.node,h.aE,h.role,h.st,h.aJ,h.comes,by have:=h.out;show(l.foldl (gh st) (gh st x u)).out.length≤_;omega⟩
theorem IB {w:gT} {n:Int} (Pm:aU w<32):fX w n=(bI w.done w.l (cg w n - w.done),{w with done:=cg w n}):=by
 unfold fX Cj;rw[if_pos (show aU {w with done:=cg w n}<32 from Pm)]
theorem IC {w:gT} {n:Int} (H:tZ w) (hd:w.done≤aU w) (Pm:aU w<32):tZ (fX w n).2:=by
 rw[IB Pm];have hE:aU w=w.low+(w.l.length:Nat):=rfl;have hdn:=H.done;have ui:=H.low;have hr:w.done≤cg w n∧cg w n≤aU w:=by unfold cg;omega
 exact⟨H.low,by show 0≤cg w n∧cg w n≤1000000;omega,H.len,H.data⟩
def EA (t:eS):Prop:=∀c,0≤(fW t c).1.al∧(fW t c).1.al≤6
theorem Ml (x:RS) (n:Int) (hl:x.out.length<50000) (H:tZ x.aJ) (Hs:w7 x.st) (Hr:EA x.st.t) (hn:0≤n∧n≤1000000) (hd:x.aJ.done≤aU x.aJ) (Pm:aU x.aJ<32) (hb:x.st.bs.length<13):
 VC E0 53 1 [.ptr 0 0,.s (.int .u64 n)] (jO x) (RR (.dg []) 1 (jO (fL x n))):=by
 have ZJ:=LV x.aJ n H hn hd Pm;have uq:=l8 x.aJ.done x.aJ.l (cg x.aJ n - x.aJ.done);have hle:=H.len;have sI:=yH x.st;have e1:(fX x.aJ n).1=bI x.aJ.done x.aJ.l (cg x.aJ n - x.aJ.done):=rfl;rw[←e1]at uq;refine en L0 Tryz.f53 ?_;refine⟨[],[some 1],_,_,_,_,k9 x.aJ,t3,cw ?_⟩;refine⟨[],[some 1],_,_,_,_,ZJ,t3,cw ?_⟩;generalize hrw:fX x.aJ n=Uy at uq;obtain⟨l,w2⟩:=Uy;have uq:l.length≤x.aJ.l.length:=uq;have hx1:x.aJ.done≤1000000:=H.done.2
 refine⟨fun k f o c=>∃i:Nat,i≤l.length∧k=l.length - i∧c=1∧f=[(0,.ptr 0 0),(4,.s (.int .u64 x.aJ.done)),(19,.sl 7 (l.map cS) false),(20,.s (.int .i64 l.length)),(21,.s (.int .i64 i))]∧o=jO ((l.take i).foldl (gh x.st) {x with aJ:=w2}),⟨l.length,?_⟩,?_⟩
 ·refine⟨[],[some 0],_,_,_,tx ?_,⟨0,Nat.zero_le _,rfl,rfl,rfl,rfl⟩⟩;exact Lz.int (by rw[List.length_map])
 rintro k f1 o1 c1 ⟨i,hi,rfl,rfl,rfl,rfl⟩;refine wh ?_;refine sp ?_ ?_<;>intro h
 ·have h:i<l.length:=by have h:(i:Int)<l.length:=h
                        omega
  have CZ:IntKind.i64.wrap ((i:Int)+1)=((i+1:Nat):Int):=IntWalk.i64_in _ om;have wD:(l.take (i+1)).foldl (gh x.st) {x with aJ:=w2}=gh x.st ((l.take i).foldl (gh x.st) {x with aJ:=w2}) l[i]:=by rw[ji l i h,List.foldl_append];rfl
  have Mm:=sI (l.take i) {x with aJ:=w2};rw[List.length_take]at Mm;generalize (l.take i).foldl (gh x.st) {x with aJ:=w2}=y at wD Mm;have WT:=Mm.out;have gm:=Mj y.st l[i].al;have BF:=Hr l[i].al;have CH:y.st=x.st:=Mm.st;rw[CH]at gm;have Px:gh x.st y l[i]=(if y.role.head=true∧(fW x.st.t l[i].al).2=true∧(fW x.st.t l[i].al).1.seq=l[i].seq then Ae y (fW x.st.t l[i].al).1 else y):=rfl;generalize fW x.st.t l[i].al=q at gm BF Px;obtain⟨r,ok⟩:=q;have WT:y.out.length≤x.out.length+min i l.length:=WT;have oB:=Iz y r om BF;obtain⟨yI,QK,⟨yi,yj,yh,yt,yw,Ti,Tj,Tk⟩,Tl,v8,yJ,ID,IE,si,yK,sj,CI⟩:=y
  have CH:Tl=x.st:=CH;subst CH;refine wh ?_;refine mB h ?_;refine wh ?_;refine⟨[],[some 2],_,_,_,_,gm,t3,cw ?_⟩;cases yh with
  |false=>
   rw[if_neg (fun q=>Bool.noConfusion q.1)]at Px;refine wh ?_;refine⟨l.length - (i+1),?_,om⟩;rw[CZ];exact⟨[],[some 0],_,_,_,t3,⟨i+1,h,rfl,rfl,rfl,(congrArg jO (wD.trans Px)).symm⟩⟩
  |true=>
   refine wh ?_;cases ok with
   |false=>
    rw[if_neg (fun q=>Bool.noConfusion q.2.1)]at Px;refine wh ?_;refine⟨l.length - (i+1),?_,om⟩;rw[CZ];exact⟨[],[some 0],_,_,_,t3,⟨i+1,h,rfl,rfl,rfl,(congrArg jO (wD.trans Px)).symm⟩⟩
   |true=>
    refine wh ?_;refine sp ?_ ?_<;>intro hq
    ·have hq:r.seq=l[i].seq:=hq;rw[if_pos ⟨rfl,rfl,hq⟩]at Px;refine wh ?_;refine⟨[],[some 0],_,_,_,_,oB,t3,cw ?_⟩;refine⟨l.length - (i+1),?_,om⟩;rw[CZ];exact⟨[],[some 0],_,_,_,t3,⟨i+1,h,rfl,rfl,rfl,(congrArg jO (wD.trans Px)).symm⟩⟩
    ·have hq:¬r.seq=l[i].seq:=hq;rw[if_neg (fun q=>hq q.2.2)]at Px;refine wh ?_;refine⟨l.length - (i+1),?_,om⟩;rw[CZ];exact⟨[],[some 0],_,_,_,t3,⟨i+1,h,rfl,rfl,rfl,(congrArg jO (wD.trans Px)).symm⟩⟩
 ·obtain rfl:i=l.length:=by have h:¬(i:Int)<l.length:=h;omega
  have Mm:=sI l {x with aJ:=w2};rw[List.take_length];have QL:fL x n=(if x.aJ.done<w2.done∧x.role.Ef=true∧x.role.head=false then l7 {l.foldl (gh x.st) {x with aJ:=w2}with st:=qF x.st w2.done}else {l.foldl (gh x.st) {x with aJ:=w2}with st:=qF x.st w2.done}):=by
   unfold fL;rw[hrw]
  rw[QL];have N3:tZ w2:=by have:=IC (n:=n) H hd Pm;rw[hrw]at this;exact this
  have Rn:=Iy x.st w2.done Hs hb;generalize l.foldl (gh x.st) {x with aJ:=w2}=y at Mm;have WT:y.out.length≤x.out.length+l.length:=Mm.out;have CH:=Mm.st;have Mn:=Mm.aJ;have An:=Mm.role;clear Mm QL sI;obtain⟨yI,QK,QM,Tl,v8,yJ,ID,IE,si,yK,sj,CI⟩:=y;have CH:Tl=x.st:=CH;have Mn:v8=w2:=Mn;have An:QM=x.role:=An;subst CH Mn;rw[←An];clear An;obtain⟨yi,yj,yh,yt,yw,Ti,Tj,Tk⟩:=QM;have v9:=mr ⟨yI,QK,⟨yi,yj,yh,yt,yw,Ti,Tj,Tk⟩,qF x.st v8.done,v8,yJ,ID,IE,si,yK,sj,CI⟩ (by show CI.length<100000;have WT:CI.length≤_:=WT;omega) N3;refine wh ?_;refine⟨[],[some 2],_,_,_,_,k9 v8,t3,cw ?_⟩
  refine⟨[],[some 1],_,_,_,_,Rn,t3,?_⟩;rintro r o' c' ⟨m,rfl,rfl,rfl⟩;refine wh ?_;refine⟨[],[some 2],_,_,_,_,k9 v8,t3,cw ?_⟩;refine sp ?_ ?_<;>intro pG;rotate_left
  ·rw[if_neg (fun q=>pG q.1)];refine wh ?_;exact⟨[],[some 0],_,_,_,t3,rfl,rfl,rfl⟩
  have pG:x.aJ.done<v8.done:=pG;refine wh ?_;cases yi with
  |false=>
   rw[if_neg (fun q=>Bool.noConfusion q.2.1)];refine wh ?_;exact⟨[],[some 0],_,_,_,t3,rfl,rfl,rfl⟩
  |true=>
   refine wh ?_;cases yh with
   |true=>
    rw[if_neg (fun q=>Bool.noConfusion q.2.2)];refine wh ?_;exact⟨[],[some 0],_,_,_,t3,rfl,rfl,rfl⟩
   |false=>
    rw[if_pos ⟨pG,rfl,rfl⟩];refine wh ?_;refine⟨[],[some 0],_,_,_,_,v9,t3,cw ?_⟩;exact⟨[],[some 0],_,_,_,t3,rfl,rfl,rfl⟩
structure fv (x:RS):Prop where
 aJ:tZ x.aJ
 st:w7 x.st
 rows:EA x.st.t
 dn:x.aJ.done≤aU x.aJ
 e32:aU x.aJ<32
 bs:x.st.bs.length<13
 out:x.out.length<50000
structure kz (x:RS):Prop where
 aJ:tZ x.aJ
 out:x.out.length<50000
 k:x.role.succ=0∨x.known=false∨(mq x.aJ x.cC 4).isSome=true
theorem fv.done {x:RS} (G:fv x) (n:Int) (hn:0≤n∧n≤1000000):VC E0 53 1 [.ptr 0 0,.s (.int .u64 n)] (jO x) (RR (.dg []) 1 (jO (fL x n))):=
 Ml x n G.out G.aJ G.st G.rows hn G.dn G.e32 G.bs
theorem kz.hand {x:RS} (G:kz x):VC E0 44 1 [.ptr 0 0] (jO x) (RR (.dg []) 1 (jO (eV x))):=
 Pw x (by have:=G.out;omega) G.aJ G.k
theorem fv.Tm {x:RS} (G:fv x):0≤aU x.aJ∧aU x.aJ≤1000000:=by
 have h1:=G.aJ.low;have h2:=G.e32;have hE:aU x.aJ=x.aJ.low+(x.aJ.l.length:Nat):=rfl;omega
structure CJ (x:RS) (u:c7):Prop where
 rng:LD u
 chk:px u=0
 seq:u.seq - 1=aU x.aJ
 one:1≤u.seq
 room:aU x.aJ+1<32
theorem CJ.up {x:RS} {u:c7} (G:fv x) (U:CJ x u):VC E0 62 1 [.ptr 0 0,.agg (cS u)] (jO x) (RR (.dg []) 1 (jO (wC x u))):=
 IA x u G.aJ G.st U.rng U.chk U.seq U.one U.room
@[reducible] def u2 (x:RS) (u:c7):c7:={u with seq:=aU x.aJ+1}
@[reducible] def Ao (x:RS) (u:c7):RS:=wC x (u2 x u)
@[reducible] def Py (x:RS) (u:c7):RS:=if x.role.tail=true then fL (Ao x u) (aU (Ao x u).aJ)else Ao x u
theorem IF {x:RS} {u:c7} (ho:x.fE=true) (hj:ct x.st.t u.al u.num=0) (hd:ky x.aJ<16):pz x u=eV (Py x u):=by
 unfold pz;rw[if_neg (by rw[ho];exact Bool.noConfusion),if_neg (by rw[hj];decide),if_pos hj,if_pos hd]
theorem Mo (x:RS) (f t ch e:Int) (u:c7) (G:fv x) (ho:x.fE=true) (hj:ct x.st.t u.al u.num=0) (hd:ky x.aJ<16) (U:CJ x (u2 x u)) (G1:fv (Ao x u)) (G2:kz (Py x u)):
 VC E0 27 1 [.ptr 0 0,.agg (bK (AJ f t ch e [u]))] (jO x) (RR (.dg []) 1 (jO (pz x u))):=by
 rw[IF ho hj hd];have hju:=Ey x.st u.al u.num;rw[hj]at hju;have CW:=LW x.aJ G.aJ G.dn;rw[decide_eq_true hd]at CW;have e8:=eW x.aJ G.aJ;have CL:=eW (Ao x u).aJ G1.aJ;have C0:=U.up G;have nE:=G1.done (aU (Ao x u).aJ) G1.Tm;have df:=G2.hand;have Kc:=G.Tm;have hw:IntKind.u64.wrap (aU x.aJ+1)=aU x.aJ+1:=IntWalk.u64_in _ om;have UH:(Ao x u).role=x.role:=rfl;obtain⟨node,aE,⟨ri,rj,rh,rt,Uy,X9,Ya,Yb⟩,st,aJ,base,fE,cC,known,want,comes,out⟩:=x;have ho:fE=true:=ho;subst ho;refine en L0 Tryz.f27 ?_;refine⟨cS u,⟨by decide,rfl⟩,?_⟩;refine wh ?_;refine⟨[],[some 3],_,_,_,_,hju,t3,cw ?_⟩
 repeat((first|(refine⟨fun h_=>?_,fun h_=>?_⟩)|(refine aZ (fun h_=>?_) (fun h_=>?_))|(refine aY (fun h_=>?_) (fun h_=>?_)))<;>first|(exfalso;revert h_;decide;done)|(exact absurd rfl h_)|(have eN:=True.intro;clear eN;(conv=>whnf)))
 refine⟨[],[some 5],_,_,_,_,CW,t3,cw ?_⟩;refine⟨[],[some 5],_,_,_,_,e8,t3,cw ?_⟩;rw[hw];refine⟨[],[some 0],_,_,_,_,C0,t3,cw ?_⟩;cases rt with
 |true=>
  refine wh ?_;refine⟨[],[some 9],_,_,_,_,CL,t3,cw ?_⟩;refine⟨[],[some 0],_,_,_,_,nE,t3,cw ?_⟩;refine⟨[],[some 0],_,_,_,_,df,t3,cw ?_⟩;exact⟨[],[some 0],_,_,_,t3,rfl,rfl,rfl⟩
 |false=>
  refine wh ?_;refine⟨[],[some 0],_,_,_,_,df,t3,cw ?_⟩;exact⟨[],[some 0],_,_,_,t3,rfl,rfl,rfl⟩
structure j9 (x y:RS):Prop where
 node:y.node=x.node
 aE:y.aE=x.aE
 role:y.role=x.role
 fE:y.fE=x.fE
 cC:y.cC=x.cC
 known:y.known=x.known
 comes:y.comes=x.comes
theorem j9.refl (x:RS):j9 x x:=⟨rfl,rfl,rfl,rfl,rfl,rfl,rfl⟩
theorem j9.trans {x y z:RS} (h:j9 x y) (k:j9 y z):j9 x z:=
 ⟨k.node.trans h.node,k.aE.trans h.aE,k.role.trans h.role,k.fE.trans h.fE,k.cC.trans h.cC,k.known.trans h.known,k.comes.trans h.comes⟩
theorem Pz (x:RS) (u:c7):j9 x (wC x u):=⟨rfl,rfl,rfl,rfl,rfl,rfl,rfl⟩
theorem wa:∀(l:List c7) (x:RS),j9 x (l.foldl wC x)
 |[],x=>.refl x
 |u::l,x=>(Pz x u).trans (wa l _)
theorem EB (st:eZ) (x:RS) (u:c7):j9 x (gh st x u):=by
 unfold gh;split<;>exact⟨rfl,rfl,rfl,rfl,rfl,rfl,rfl⟩
theorem yL (st:eZ):∀(l:List c7) (x:RS),j9 x (l.foldl (gh st) x)
 |[],x=>.refl x
 |u::l,x=>(EB st x u).trans (yL st l _)
theorem Mp (x:RS):j9 x (l7 x):=by
 unfold l7;split<;>exact⟨rfl,rfl,rfl,rfl,rfl,rfl,rfl⟩
theorem sk (x:RS) (n:Int):j9 x (fL x n):=by
 unfold fL;have h1:j9 x {x with aJ:=(fX x.aJ n).2}:=⟨rfl,rfl,rfl,rfl,rfl,rfl,rfl⟩;have h2:=h1.trans (yL x.st (fX x.aJ n).1 _);have h3:j9 x {(fX x.aJ n).1.foldl (gh x.st) {x with aJ:=(fX x.aJ n).2}with st:=qF x.st (fX x.aJ n).2.done}:=⟨h2.node,h2.aE,h2.role,h2.fE,h2.cC,h2.known,h2.comes⟩;dsimp only
 split
 ·exact h3.trans (Mp _)
 ·exact h3
def ka:List c7→Int→Int
 |[],a=>a
 |u::l,a=>if u.seq=0∨u.seq - 1≠a then ka l a else ka l u.seq
theorem sm:∀(l:List c7) (a:Int) (u:c7),dv (l++[u]) a=dv l a++(if u.seq=0∨u.seq - 1≠ka l a then []else [u])∧ka (l++[u]) a=(if u.seq=0∨u.seq - 1≠ka l a then ka l a else u.seq)
 |[],a,u=>by
  constructor
  ·show dv [u] a=[]++_;unfold dv ka;split<;>rfl
  ·show ka [u] a=_;unfold ka;split<;>rfl
 |x::l,a,u=>by
  show dv (x::(l++[u])) a=dv (x::l) a++_∧ka (x::(l++[u])) a=_;unfold dv ka;split
  ·exact sm l a u
  ·obtain⟨h1,h2⟩:=sm l x.seq u;exact⟨by rw[h1,List.cons_append],h2⟩
theorem qM:∀(l:List c7) (a:Int),(dv l a).length≤l.length
 |[],_=>Nat.le_refl _
 |u::l,a=>by
  unfold dv;split
  ·have:=qM l a;simp;omega
  ·have:=qM l u.seq;simp;omega
theorem PA (a:Int) (u:c7) (hu:LD u) (h:u.seq=0∨u.seq - 1≠a):VC E0 105 1 [.agg (cS u),.ptr 0 0] [(0,Gg a)] (RR (.s (.bool false)) 1 [(0,Gg a)]):=by
 have h1:=hu.seq;refine en L0 Tryz.f105 ?_;refine sp ?_ ?_<;>intro h0
 ·refine wh ?_;exact⟨[],[some 0],_,_,_,t3,rfl,rfl,rfl⟩
 ·have h0:¬u.seq=0:=h0;have hw:IntKind.u64.wrap (u.seq - 1)=u.seq - 1:=IntWalk.u64_in _ om;refine wh ?_;rw[hw];refine sp ?_ ?_<;>intro h2
  ·refine wh ?_;exact⟨[],[some 0],_,_,_,t3,rfl,rfl,rfl⟩
  ·exact absurd (h.resolve_left h0) h2
theorem Mq (a:Int) (u:c7) (hu:LD u) (h:¬(u.seq=0∨u.seq - 1≠a)):VC E0 105 1 [.agg (cS u),.ptr 0 0] [(0,Gg a)] (RR (.s (.bool true)) 1 [(0,Gg u.seq)]):=by
 have h1:=hu.seq;refine en L0 Tryz.f105 ?_;refine sp ?_ ?_<;>intro h0
 ·exact absurd (.inl h0) h
 ·have h0:¬u.seq=0:=h0;have hw:IntKind.u64.wrap (u.seq - 1)=u.seq - 1:=IntWalk.u64_in _ om;refine wh ?_;rw[hw];refine sp ?_ ?_<;>intro h2
  ·exact absurd (.inr h2) h
  ·refine wh ?_;exact⟨[],[some 0],_,_,_,t3,rfl,rfl,rfl⟩
@[reducible] def WU (a:Nat):TV:=.cJ 105 [] [.ptr a 0]
theorem Mr (l:List c7) (a:Int) (hl:l.length<100000) (hd:∀u∈l,u.data.length≤2048∧LD u):VC E0 104 1 [.sl 7 (l.map cS) false,WU 0] [(0,Gg a)]
 (RR (.sl 7 ((dv l a).map cS) false) 1 [(0,Gg (ka l a))]):=by
 refine en L0 Tryz.f104 ?_;refine⟨fun k f o c=>∃i:Nat,i≤l.length∧k=l.length - i∧c=2∧f=[(1,WU 0),(5,.tk 1),(8,.sl 7 (l.map cS) false),(9,.s (.int .i64 l.length)),(10,.s (.int .i64 i))]∧o=[(0,Gg (ka (l.take i) a)),(1,.arr 7 true ((dv (l.take i) a).map cS))],⟨l.length,?_⟩,?_⟩
 ·refine⟨[],[some 0,none],?_⟩
  iterate 3 constructor
  refine⟨⟨?_,?_,?_⟩,⟨0,Nat.zero_le _,rfl,rfl,rfl,rfl⟩⟩
  all_goals(repeat' first|exact LF|constructor)
  ·exact Lz.int (by rw[List.length_map])
 ·rintro k f1 o1 c1 ⟨i,hi,rfl,rfl,rfl,rfl⟩;refine wh ?_;refine sp ?_ ?_<;>intro h
  ·have h:i<l.length:=by have h:(i:Int)<l.length:=h
                         omega
   obtain⟨hs,he⟩:=sm (l.take i) a l[i];rw[←ji l i h]at hs he;have pQ:=qM (l.take i) a;rw[List.length_take]at pQ;obtain⟨Tb,hui⟩:=hd _ (List.getElem_mem h);have CZ:IntKind.i64.wrap ((i:Int)+1)=((i+1:Nat):Int):=IntWalk.i64_in _ om;refine wh ?_;refine mB h ?_;refine wh ?_;by_cases hq:l[i].seq=0∨l[i].seq - 1≠ka (l.take i) a
   ·rw[if_pos hq]at hs he;rw[List.append_nil]at hs;refine⟨[],[some 0],_,_,_,_,PA _ l[i] hui hq,t3,cw ?_⟩;refine⟨l.length - (i+1),?_,om⟩;rw[CZ,←hs,←he];exact⟨[],[some 0,some 1],_,_,_,t3,⟨i+1,h,rfl,rfl,rfl,rfl⟩⟩
   ·rw[if_neg hq]at hs he;refine⟨[],[some 0],_,_,_,_,Mq _ l[i] hui hq,t3,cw ?_⟩;refine⟨[],[],_,_,_,_,nw l[i].data om,t3,cw ?_⟩;refine⟨by simp;omega,?_⟩;refine wh ?_;refine⟨l.length - (i+1),?_,om⟩;rw[CZ];refine⟨[],[some 0,some 5],?_⟩
    iterate 3 constructor
    refine⟨⟨?_,?_,?_⟩,⟨i+1,h,rfl,rfl,rfl,rfl⟩⟩
    all_goals(repeat' first|exact LF|constructor)
    all_goals first|exact Lz.int he.symm|exact Lz.of (by rw[hs,List.map_append];rfl)
  ·obtain rfl:i=l.length:=by have h:¬(i:Int)<l.length:=h;omega
   rw[List.take_length];refine wh ?_;exact⟨[1],[some 0],_,_,_,t3,rfl,rfl,rfl⟩
theorem Ms (l:List c7) (a:Int) (hl:l.length<100000) (hd:∀u∈l,u.data.length≤2048∧LD u):VC E0 63 0 [.sl 7 (l.map cS) false,.s (.int .u64 a)] [] (RR (.sl 7 ((dv l a).map cS) false) 0 []):=by
 refine en L0 Tryz.f63 ?_;refine⟨[],[some 0],_,_,_,_,Mr l a hl hd,t3,cw ?_⟩;exact⟨[],[],_,_,_,t3,rfl,rfl,rfl⟩
@[reducible] def jS (x:RS) (us:List c7):RS:=(dv us (aU x.aJ)).foldl wC x
@[reducible] def sD (x:RS) (us:List c7):RS:=if x.role.tail=true∨x.role.oN=true then fL (jS x us) (aU (jS x us).aJ)else jS x us
theorem Mt {x:RS} {d:Int} {us:List c7} (hf:x.aE.fresh=false):yv x d us=(if 0<(dv us (aU x.aJ)).length∧(l7 (sD x us)).known=true then eV (l7 (sD x us))else l7 (sD x us)):=by
 show(if 0<(dv us (aU x.aJ)).length∧(l7 (if x.role.tail=true∧x.aE.fresh=true∧d≤aU (sD x us).aJ then {sD x us with fE:=true}else sD x us)).known=true then eV (l7 (if x.role.tail=true∧x.aE.fresh=true∧d≤aU (sD x us).aJ then {sD x us with fE:=true}else sD x us))else l7 (if x.role.tail=true∧x.aE.fresh=true∧d≤aU (sD x us).aJ then {sD x us with fE:=true}else sD x us))=_;rw[if_neg (c:=x.role.tail=true∧x.aE.fresh=true∧d≤aU (sD x us).aJ) (fun q=>by rw[hf]at q;exact Bool.noConfusion q.2.1)]
theorem IG (x:RS) (f t ch e s d:Int) (us:List c7) (G:fv x) (hf:x.aE.fresh=false) (hj:x.role.oN=false) (hl:us.length≤4) (hd:∀u∈us,u.data.length≤2048∧LD u)
 (C0:∀(i:Nat) (h:i<(dv us (aU x.aJ)).length),fv (((dv us (aU x.aJ)).take i).foldl wC x)∧CJ (((dv us (aU x.aJ)).take i).foldl wC x) (dv us (aU x.aJ))[i])
 (G1:fv (jS x us)) (G2:kz (l7 (sD x us))) (G3:fv (sD x us)):
 VC E0 28 1 [.ptr 0 0,.agg (bK (r8 f t ch e s d us))] (jO x) (RR (.dg []) 1 (jO (yv x d us))):=by
 rw[Mt hf];have e8:=eW x.aJ G.aJ;have pQ:=qM us (aU x.aJ);have pU:=Ms us (aU x.aJ) om hd;have CL:=eW (jS x us).aJ G1.aJ;have nE:=G1.done (aU (jS x us).aJ) G1.Tm;have v9:=mr (sD x us) (by have:=G3.out;omega) G3.aJ;have df:=G2.hand;have Ho:=wa (dv us (aU x.aJ)) x;have Om:=(wa (dv us (aU x.aJ)) x).trans (sk (jS x us) (aU (jS x us).aJ));refine en L0 Tryz.f28 ?_;refine⟨[],[some 2],_,_,_,_,e8,t3,cw ?_⟩;refine⟨[],[],_,_,_,_,pU,t3,cw ?_⟩;generalize WV:dv us (aU x.aJ)=l at pQ C0 Ho
 refine⟨fun k f_ o c=>∃i:Nat,i≤l.length∧k=l.length - i∧c=2∧f_=[(0,.ptr 0 0),(3,.ptr 1 0),(16,.sl 7 (l.map cS) false),(17,.s (.int .i64 l.length)),(18,.s (.int .i64 i))]∧o=[(0,sg ((l.take i).foldl wC x)),(1,.cells (bK (r8 f t ch e s d l)))],⟨l.length,?_⟩,?_⟩
 ·refine⟨[],[some 0,some 1],_,_,_,tx ?_,⟨0,Nat.zero_le _,rfl,rfl,rfl,rfl⟩⟩;exact Lz.int (by rw[List.length_map])
 rintro k f1 o1 c1 ⟨i,hi,rfl,rfl,rfl,rfl⟩;refine wh ?_;refine sp ?_ ?_<;>intro h
 ·have h:i<l.length:=by have h:(i:Int)<l.length:=h
                        omega
  have CZ:IntKind.i64.wrap ((i:Int)+1)=((i+1:Nat):Int):=IntWalk.i64_in _ om;obtain⟨Gi,Ui⟩:=C0 i h;have BM:=Ui.up Gi;have wD:(l.take (i+1)).foldl wC x=wC ((l.take i).foldl wC x) l[i]:=by rw[ji l i h,List.foldl_append];rfl
  generalize (l.take i).foldl wC x=y at wD BM;refine wh ?_;refine mB h ?_;refine wh ?_;refine⟨[],[some 0],_,_,_,_,BM,t3,cw ?_⟩;refine⟨l.length - (i+1),?_,om⟩;rw[CZ];exact⟨[],[some 0,some 1],_,_,_,t3,⟨i+1,h,rfl,rfl,rfl,congrArg (fun z=>[(0,sg z),(1,.cells (bK (r8 f t ch e s d l)))]) wD.symm⟩⟩
 ·obtain rfl:i=l.length:=by have h:¬(i:Int)<l.length:=h;omega
  rw[List.take_length];have hy:l.foldl wC x=jS x us:=by show _=(dv us (aU x.aJ)).foldl wC x;rw[WV]
  rw[hy]at Ho ⊢
  try rw[WV]
  have Om:=sk (jS x us) (aU (jS x us).aJ);cases ht:x.role.tail with
  |true=>
   have e2:sD x us=fL (jS x us) (aU (jS x us).aJ):=by
    show(if x.role.tail=true∨x.role.oN=true then fL (jS x us) (aU (jS x us).aJ)else jS x us)=_;rw[ht];exact if_pos (.inl rfl)
   rw[e2]at v9 df ⊢;generalize l7 (fL (jS x us) (aU (jS x us).aJ))=w at v9 df ⊢;obtain⟨WW,WX,WY,wst,aal,WZ,aam,aan,ED,W2,Tn,aao⟩:=w;clear C0 G1 G2 G3 e2 hy e8 pU;generalize jS x us=y at Ho CL nE v9 df Om ⊢;have mC:=Ho.role;have nK:=Ho.aE;rw[←mC]at hj ht;rw[←nK]at hf;clear Ho mC nK;obtain⟨yI,⟨Yc,Yd,Ye,yc4,Yf⟩,⟨yi,yj,yh,yt,yw,Ti,Tj,Tk⟩,Tl,v8,yJ,ID,IE,si,yK,sj,CI⟩:=y;have hj:yj=false:=hj;have hf:yc4=false:=hf;have ht:yt=true:=ht;subst hj hf ht
   generalize fL ⟨yI,⟨Yc,Yd,Ye,false,Yf⟩,⟨yi,false,yh,true,yw,Ti,Tj,Tk⟩,Tl,v8,yJ,ID,IE,si,yK,sj,CI⟩ (aU (⟨yI,⟨Yc,Yd,Ye,false,Yf⟩,⟨yi,false,yh,true,yw,Ti,Tj,Tk⟩,Tl,v8,yJ,ID,IE,si,yK,sj,CI⟩:RS).aJ)=z at nE v9 df Om ⊢;have Ay:=Om.role;have I6:=Om.aE;clear Om;obtain⟨QN,Mu,Mv,zst,W4,QO,W5,W6,Mw,QP,Mx,W7⟩:=z;have Ay:Mv=⟨yi,false,yh,true,yw,Ti,Tj,Tk⟩:=Ay;have I6:Mu=⟨Yc,Yd,Ye,false,Yf⟩:=I6;subst Ay I6;refine wh ?_;refine⟨[],[some 2],_,_,_,_,CL,t3,cw ?_⟩;refine⟨[],[some 0],_,_,_,_,nE,t3,cw ?_⟩;refine⟨[],[some 0],_,_,_,_,v9,t3,cw ?_⟩;refine sp ?_ ?_<;>intro pG
   ·have pG:0<l.length:=by have q:(((l.map cS).length:Nat):Int)>0:=pG
                           rw[List.length_map]at q;omega
    refine wh ?_;cases ED with
    |true=>
     rw[if_pos ⟨pG,rfl⟩];refine wh ?_;refine⟨[],[some 0],_,_,_,_,df,t3,cw ?_⟩;exact⟨[],[some 0],_,_,_,t3,rfl,rfl,rfl⟩
    |false=>
     rw[if_neg (fun q=>Bool.noConfusion q.2)];refine wh ?_;exact⟨[],[some 0],_,_,_,t3,rfl,rfl,rfl⟩
   ·have pG:¬0<l.length:=fun q=>pG (by show(((l.map cS).length:Nat):Int)>0;rw[List.length_map];omega);rw[if_neg (fun q=>pG q.1)];refine wh ?_;exact⟨[],[some 0],_,_,_,t3,rfl,rfl,rfl⟩
  |false=>
   have e2:sD x us=jS x us:=by
    show(if x.role.tail=true∨x.role.oN=true then fL (jS x us) (aU (jS x us).aJ)else jS x us)=_;rw[ht,hj];exact if_neg (fun q=>by rcases q with q|q<;>cases q)
   rw[e2]at v9 df ⊢;generalize l7 (jS x us)=w at v9 df ⊢;obtain⟨WW,WX,WY,wst,aal,WZ,aam,aan,ED,W2,Tn,aao⟩:=w;clear C0 G1 G2 G3 e2 hy e8 pU;generalize jS x us=y at Ho CL nE v9 df Om ⊢;have mC:=Ho.role;have nK:=Ho.aE;rw[←mC]at hj ht;rw[←nK]at hf;clear Ho mC nK;obtain⟨yI,⟨Yc,Yd,Ye,yc4,Yf⟩,⟨yi,yj,yh,yt,yw,Ti,Tj,Tk⟩,Tl,v8,yJ,ID,IE,si,yK,sj,CI⟩:=y;have hj:yj=false:=hj;have hf:yc4=false:=hf;have ht:yt=false:=ht;subst hj hf ht;refine wh ?_;refine⟨[],[some 0],_,_,_,_,v9,t3,cw ?_⟩;refine sp ?_ ?_<;>intro pG
   ·have pG:0<l.length:=by have q:(((l.map cS).length:Nat):Int)>0:=pG
                           rw[List.length_map]at q;omega
    refine wh ?_;cases ED with
    |true=>
     rw[if_pos ⟨pG,rfl⟩];refine wh ?_;refine⟨[],[some 0],_,_,_,_,df,t3,cw ?_⟩;exact⟨[],[some 0],_,_,_,t3,rfl,rfl,rfl⟩
    |false=>
     rw[if_neg (fun q=>Bool.noConfusion q.2)];refine wh ?_;exact⟨[],[some 0],_,_,_,t3,rfl,rfl,rfl⟩
   ·have pG:¬0<l.length:=fun q=>pG (by show(((l.map cS).length:Nat):Int)>0;rw[List.length_map];omega);rw[if_neg (fun q=>pG q.1)];refine wh ?_;exact⟨[],[some 0],_,_,_,t3,rfl,rfl,rfl⟩
@[reducible] def Ji (x:RS) (s:Int):RS:={x with cC:=max x.cC s,known:=true}
@[reducible] def AL (x:RS) (s d:Int):RS:=if x.role.succ∈x.aE.nodes then fL (Ji x s) d else Ji x s
theorem IH {x:RS} {s d:Int} (hh:(mq x.aJ (max x.cC s) 0).isSome=true):rY x s d=(if(x.cC<(AL x s d).cC∧(AL x s d).cC<aU (AL x s d).aJ)∨x.known=false then eV (AL x s d)else AL x s d):=by
 show(if x.cC<(AL x s d).cC∧(AL x s d).cC<aU (AL x s d).aJ∨(mq x.aJ (max x.cC s) 0).isSome=false∨x.known=false then eV (AL x s d)else AL x s d)=_;rw[hh]
 congr 1
 simp
theorem My (x:RS) (f t ch e n s d sl:Int) (hn:x.aE.nodes.length<1000000) (H:tZ x.aJ) (G1:fv (Ji x s)) (hh:(mq x.aJ (max x.cC s) 0).isSome=true) (hd:0≤d∧d≤1000000) (G2:kz (AL x s d)):
 VC E0 30 1 [.ptr 0 0,.agg (bK (pB f t ch e n s d sl))] (jO x) (RR (.dg []) 1 (jO (rY x s d))):=by
 rw[IH hh];obtain⟨l,hl⟩:=Option.isSome_iff_exists.1 hh;have zd:=Gj x.aJ H (max x.cC s) 0 (by decide) l hl;have PB:=l9 x.aE.nodes x.role.succ hn;have nE:=G1.done d hd;have oO:=eW (AL x s d).aJ G2.aJ;have df:=G2.hand;have gB:=sk (Ji x s) d;have EW:(if s>x.cC then s else x.cC)=max x.cC s:=by split<;>omega
 obtain⟨node,aE,role,st,aJ,base,fE,cC,known,want,comes,out⟩:=x;cases known
 ·refine en L0 Tryz.f30 ?_;rw[show(if(pB f t ch e n s d sl).seq>(⟨node,aE,role,st,aJ,base,fE,cC,false,want,comes,out⟩:RS).cC then(pB f t ch e n s d sl).seq else(⟨node,aE,role,st,aJ,base,fE,cC,false,want,comes,out⟩:RS).cC)=max cC s from EW];refine⟨[],[some 2],_,_,_,_,zd,t3,cw ?_⟩;refine⟨[],[],_,_,_,_,PB,t3,cw ?_⟩;by_cases Gn:role.succ∈aE.nodes
  ·have e2:AL ⟨node,aE,role,st,aJ,base,fE,cC,false,want,comes,out⟩ s d=fL (Ji ⟨node,aE,role,st,aJ,base,fE,cC,false,want,comes,out⟩ s) d:=if_pos Gn;rw[decide_eq_true Gn];rw[e2]at oO df ⊢;generalize fL (Ji ⟨node,aE,role,st,aJ,base,fE,cC,false,want,comes,out⟩ s) d=z at nE oO df gB ⊢;have hzg:z.cC=max cC s:=gB.cC;obtain⟨QN,Mu,Mv,zst,W4,QO,W5,W6,Mw,QP,Mx,W7⟩:=z;refine wh ?_;refine⟨[],[some 0],_,_,_,_,nE,t3,cw ?_⟩;refine sp ?_ ?_<;>intro pG
   ·refine wh ?_;refine⟨[],[some 5],_,_,_,_,oO,t3,cw ?_⟩;refine sp ?_ ?_<;>intro bj
    ·rw[if_pos (.inl ⟨pG,bj⟩)];refine wh ?_;refine⟨[],[some 0],_,_,_,_,df,t3,cw ?_⟩;exact⟨[],[some 0],_,_,_,t3,rfl,rfl,rfl⟩
    ·rw[if_pos (.inr rfl)];refine wh ?_;refine⟨[],[some 0],_,_,_,_,df,t3,cw ?_⟩;exact⟨[],[some 0],_,_,_,t3,rfl,rfl,rfl⟩
   ·rw[if_pos (.inr rfl)];refine wh ?_;refine⟨[],[some 0],_,_,_,_,df,t3,cw ?_⟩;exact⟨[],[some 0],_,_,_,t3,rfl,rfl,rfl⟩
  ·have e2:AL ⟨node,aE,role,st,aJ,base,fE,cC,false,want,comes,out⟩ s d=Ji ⟨node,aE,role,st,aJ,base,fE,cC,false,want,comes,out⟩ s:=if_neg Gn;rw[decide_eq_false Gn];rw[e2]at oO df ⊢;refine wh ?_;refine sp ?_ ?_<;>intro pG
   ·refine wh ?_;refine⟨[],[some 2],_,_,_,_,oO,t3,cw ?_⟩;refine sp ?_ ?_<;>intro bj
    ·rw[if_pos (.inl ⟨pG,bj⟩)];refine wh ?_;refine⟨[],[some 0],_,_,_,_,df,t3,cw ?_⟩;exact⟨[],[some 0],_,_,_,t3,rfl,rfl,rfl⟩
    ·rw[if_pos (.inr rfl)];refine wh ?_;refine⟨[],[some 0],_,_,_,_,df,t3,cw ?_⟩;exact⟨[],[some 0],_,_,_,t3,rfl,rfl,rfl⟩
   ·rw[if_pos (.inr rfl)];refine wh ?_;refine⟨[],[some 0],_,_,_,_,df,t3,cw ?_⟩;exact⟨[],[some 0],_,_,_,t3,rfl,rfl,rfl⟩
 ·refine en L0 Tryz.f30 ?_;rw[show(if(pB f t ch e n s d sl).seq>(⟨node,aE,role,st,aJ,base,fE,cC,true,want,comes,out⟩:RS).cC then(pB f t ch e n s d sl).seq else(⟨node,aE,role,st,aJ,base,fE,cC,true,want,comes,out⟩:RS).cC)=max cC s from EW];refine⟨[],[some 2],_,_,_,_,zd,t3,cw ?_⟩;refine⟨[],[],_,_,_,_,PB,t3,cw ?_⟩;by_cases Gn:role.succ∈aE.nodes
  ·have e2:AL ⟨node,aE,role,st,aJ,base,fE,cC,true,want,comes,out⟩ s d=fL (Ji ⟨node,aE,role,st,aJ,base,fE,cC,true,want,comes,out⟩ s) d:=if_pos Gn;rw[decide_eq_true Gn];rw[e2]at oO df ⊢;generalize fL (Ji ⟨node,aE,role,st,aJ,base,fE,cC,true,want,comes,out⟩ s) d=z at nE oO df gB ⊢;have hzg:z.cC=max cC s:=gB.cC;obtain⟨QN,Mu,Mv,zst,W4,QO,W5,W6,Mw,QP,Mx,W7⟩:=z;refine wh ?_;refine⟨[],[some 0],_,_,_,_,nE,t3,cw ?_⟩;refine sp ?_ ?_<;>intro pG
   ·refine wh ?_;refine⟨[],[some 5],_,_,_,_,oO,t3,cw ?_⟩;refine sp ?_ ?_<;>intro bj
    ·rw[if_pos (.inl ⟨pG,bj⟩)];refine wh ?_;refine⟨[],[some 0],_,_,_,_,df,t3,cw ?_⟩;exact⟨[],[some 0],_,_,_,t3,rfl,rfl,rfl⟩
    ·rw[if_neg (fun q=>by rcases q with q|q;exact(fun q=>bj q.2) q;exact Bool.noConfusion q)];refine wh ?_;exact⟨[],[some 0],_,_,_,t3,rfl,rfl,rfl⟩
   ·rw[if_neg (fun q=>by rcases q with q|q;exact(fun q=>pG q.1) q;exact Bool.noConfusion q)];refine wh ?_;exact⟨[],[some 0],_,_,_,t3,rfl,rfl,rfl⟩
  ·have e2:AL ⟨node,aE,role,st,aJ,base,fE,cC,true,want,comes,out⟩ s d=Ji ⟨node,aE,role,st,aJ,base,fE,cC,true,want,comes,out⟩ s:=if_neg Gn;rw[decide_eq_false Gn];rw[e2]at oO df ⊢;refine wh ?_;refine sp ?_ ?_<;>intro pG
   ·refine wh ?_;refine⟨[],[some 2],_,_,_,_,oO,t3,cw ?_⟩;refine sp ?_ ?_<;>intro bj
    ·rw[if_pos (.inl ⟨pG,bj⟩)];refine wh ?_;refine⟨[],[some 0],_,_,_,_,df,t3,cw ?_⟩;exact⟨[],[some 0],_,_,_,t3,rfl,rfl,rfl⟩
    ·rw[if_neg (fun q=>by rcases q with q|q;exact(fun q=>bj q.2) q;exact Bool.noConfusion q)];refine wh ?_;exact⟨[],[some 0],_,_,_,t3,rfl,rfl,rfl⟩
   ·rw[if_neg (fun q=>by rcases q with q|q;exact(fun q=>pG q.1) q;exact Bool.noConfusion q)];refine wh ?_;exact⟨[],[some 0],_,_,_,t3,rfl,rfl,rfl⟩
@[reducible] def QR (x:RS):TV→Ob→Nat→Prop:=fun r o c=>
 (x.role.succ=0∧r= .sl 0 [] true∧c=1∧o=jO x)∨(x.role.succ≠0∧r= .tk 1∧c=2∧o=[(0,sg (gK (gJ x))),(1,.arr 25 true ((gJ x).out.map bK))])
theorem PC (x:RS) (hn:x.aE.nodes.length<1000000) (G:fv x) (hf:x.aE.fresh=false) (G2:kz x):VC E0 17 1 [.ptr 0 0] (jO x) (QR x):=by
 have PB:=l9 x.aE.nodes x.role.succ hn;have e8:=eW x.aJ G.aJ;have Tb:=yB x.aJ G.aJ G.dn;have df:=G2.hand;by_cases hs:x.role.succ=0
 ·refine en L0 Tryz.f17 ?_;refine sp ?_ ?_<;>intro hz
  ·refine wh ?_;exact⟨[],[some 0],_,_,_,t3,.inl ⟨hs,rfl,rfl,rfl⟩⟩
  ·exact absurd hs hz
 generalize hX:x=X at PB e8 Tb df hs hf ⊢;obtain⟨node,⟨c1,c2,c3,c4,c5⟩,role,st,aJ,base,fE,cC,known,want,comes,out⟩:=X;have hf:c4=false:=hf;subst hf;cases known
 ·refine en L0 Tryz.f17 ?_;refine sp ?_ ?_<;>intro hz
  ·exact absurd hz hs
  refine wh ?_;refine⟨[],[],_,_,_,_,PB,t3,cw ?_⟩;have et:gJ ⟨node,⟨c1,c2,c3,false,c5⟩,role,st,aJ,base,fE,cC,false,want,comes,out⟩=eV ⟨node,⟨c1,c2,c3,false,c5⟩,role,st,aJ,base,fE,cC,false,want,comes,out⟩:=by unfold gJ;rw[if_neg hs,if_pos (.inl rfl)]
  refine wh ?_;refine⟨[],[some 0],_,_,_,_,df,t3,cw ?_⟩;refine⟨[],[some 0],_,_,_,_,gN (eV ⟨node,⟨c1,c2,c3,false,c5⟩,role,st,aJ,base,fE,cC,false,want,comes,out⟩),t3,cw ?_⟩;exact⟨[],[some 0,some 3],_,_,_,t3,.inr ⟨hs,rfl,rfl,(congrArg (fun y=>[(0,sg (gK y)),(1,.arr 25 true (y.out.map bK))]) et).symm⟩⟩
 ·by_cases Gn:role.succ∈c3
  ·rw[decide_eq_true Gn]at PB;refine en L0 Tryz.f17 ?_;refine sp ?_ ?_<;>intro hz
   ·exact absurd hz hs
   refine wh ?_;refine⟨[],[],_,_,_,_,PB,t3,cw ?_⟩;refine⟨[],[some 1],_,_,_,_,e8,t3,cw ?_⟩;refine sp ?_ ?_<;>intro bj
   ·have et:gJ ⟨node,⟨c1,c2,c3,false,c5⟩,role,st,aJ,base,fE,cC,true,want,comes,out⟩=eV ⟨node,⟨c1,c2,c3,false,c5⟩,role,st,aJ,base,fE,cC,true,want,comes,out⟩:=by unfold gJ;rw[if_neg hs,if_pos (.inr (.inl bj))]
    refine wh ?_;refine⟨[],[some 0],_,_,_,_,df,t3,cw ?_⟩;refine⟨[],[some 0],_,_,_,_,gN (eV ⟨node,⟨c1,c2,c3,false,c5⟩,role,st,aJ,base,fE,cC,true,want,comes,out⟩),t3,cw ?_⟩;exact⟨[],[some 0,some 5],_,_,_,t3,.inr ⟨hs,rfl,rfl,(congrArg (fun y=>[(0,sg (gK y)),(1,.arr 25 true (y.out.map bK))]) et).symm⟩⟩
   ·refine wh ?_;refine⟨[],[some 1],_,_,_,_,Tb,t3,cw ?_⟩;refine sp ?_ ?_<;>intro hd
    ·have et:gJ ⟨node,⟨c1,c2,c3,false,c5⟩,role,st,aJ,base,fE,cC,true,want,comes,out⟩=eV ⟨node,⟨c1,c2,c3,false,c5⟩,role,st,aJ,base,fE,cC,true,want,comes,out⟩:=by unfold gJ;rw[if_neg hs,if_pos (.inr (.inr ⟨Gn,.inl hd⟩))]
     refine wh ?_;refine⟨[],[some 0],_,_,_,_,df,t3,cw ?_⟩;refine⟨[],[some 0],_,_,_,_,gN (eV ⟨node,⟨c1,c2,c3,false,c5⟩,role,st,aJ,base,fE,cC,true,want,comes,out⟩),t3,cw ?_⟩;exact⟨[],[some 0,some 6],_,_,_,t3,.inr ⟨hs,rfl,rfl,(congrArg (fun y=>[(0,sg (gK y)),(1,.arr 25 true (y.out.map bK))]) et).symm⟩⟩
    ·have et:gJ ⟨node,⟨c1,c2,c3,false,c5⟩,role,st,aJ,base,fE,cC,true,want,comes,out⟩=⟨node,⟨c1,c2,c3,false,c5⟩,role,st,aJ,base,fE,cC,true,want,comes,out⟩:=by unfold gJ;rw[if_neg hs,if_neg (fun q=>by rcases q with q|q|⟨q0,q|q⟩;cases q;exact bj q;exact hd q;cases q)]
     refine wh ?_;refine⟨[],[some 0],_,_,_,_,gN ⟨node,⟨c1,c2,c3,false,c5⟩,role,st,aJ,base,fE,cC,true,want,comes,out⟩,t3,cw ?_⟩;exact⟨[],[some 0,some 5],_,_,_,t3,.inr ⟨hs,rfl,rfl,(congrArg (fun y=>[(0,sg (gK y)),(1,.arr 25 true (y.out.map bK))]) et).symm⟩⟩
  ·rw[decide_eq_false Gn]at PB;refine en L0 Tryz.f17 ?_;refine sp ?_ ?_<;>intro hz
   ·exact absurd hz hs
   refine wh ?_;refine⟨[],[],_,_,_,_,PB,t3,cw ?_⟩;refine⟨[],[some 1],_,_,_,_,e8,t3,cw ?_⟩;refine sp ?_ ?_<;>intro bj
   ·have et:gJ ⟨node,⟨c1,c2,c3,false,c5⟩,role,st,aJ,base,fE,cC,true,want,comes,out⟩=eV ⟨node,⟨c1,c2,c3,false,c5⟩,role,st,aJ,base,fE,cC,true,want,comes,out⟩:=by unfold gJ;rw[if_neg hs,if_pos (.inr (.inl bj))]
    refine wh ?_;refine⟨[],[some 0],_,_,_,_,df,t3,cw ?_⟩;refine⟨[],[some 0],_,_,_,_,gN (eV ⟨node,⟨c1,c2,c3,false,c5⟩,role,st,aJ,base,fE,cC,true,want,comes,out⟩),t3,cw ?_⟩;exact⟨[],[some 0,some 5],_,_,_,t3,.inr ⟨hs,rfl,rfl,(congrArg (fun y=>[(0,sg (gK y)),(1,.arr 25 true (y.out.map bK))]) et).symm⟩⟩
   ·have et:gJ ⟨node,⟨c1,c2,c3,false,c5⟩,role,st,aJ,base,fE,cC,true,want,comes,out⟩=⟨node,⟨c1,c2,c3,false,c5⟩,role,st,aJ,base,fE,cC,true,want,comes,out⟩:=by unfold gJ;rw[if_neg hs,if_neg (fun q=>by rcases q with q|q|q;cases q;exact bj q;exact Gn q.1)]
    refine wh ?_;refine⟨[],[some 0],_,_,_,_,gN ⟨node,⟨c1,c2,c3,false,c5⟩,role,st,aJ,base,fE,cC,true,want,comes,out⟩,t3,cw ?_⟩;exact⟨[],[some 0,some 4],_,_,_,t3,.inr ⟨hs,rfl,rfl,(congrArg (fun y=>[(0,sg (gK y)),(1,.arr 25 true (y.out.map bK))]) et).symm⟩⟩
theorem sn (k:Int) (h:k=12∨k=13∨k=17):VC E0 56 0 [.s (.int .i64 k)] [] (RR (.s (.bool true)) 0 []):=by
 rcases h with rfl |rfl |rfl
 all_goals
  refine en L0 Tryz.f56 ?_;refine rn ?_;exact⟨[],[],_,_,_,t3,rfl,rfl,rfl⟩
theorem To (c:CF) (H:dX c) (node:Int) (f t ch e s d:Int) (us:List c7) (h:(bT c node).pred≠0∧f=(bT c node).pred):VC E0 57 0 [.agg (dS c),.s (.int .i64 node),.agg (bK (r8 f t ch e s d us))] [] (RR (.s (.bool true)) 0 []):=by
 have hr:=ld c H node;generalize bT c node=r at h hr;obtain⟨ri,rj,rh,rt,Uy,X9,Ya,Yb⟩:=r;refine en L0 Tryz.f57 ?_;refine⟨[],[],_,_,_,_,hr,t3,cw ?_⟩;refine rn ?_;refine sp ?_ ?_<;>intro h1
 ·refine wh ?_;refine sp ?_ ?_<;>intro h2
  ·refine wh ?_;exact⟨[],[],_,_,_,t3,rfl,rfl,rfl⟩
  ·exact absurd h.2 h2
 ·exact absurd h.1 h1
theorem Tp (c:CF) (H:dX c) (node:Int) (f t ch e n s d sl:Int) (h:(bT c node).succ≠0∧f=(bT c node).succ):VC E0 57 0 [.agg (dS c),.s (.int .i64 node),.agg (bK (pB f t ch e n s d sl))] [] (RR (.s (.bool true)) 0 []):=by
 have hr:=ld c H node;generalize bT c node=r at h hr;obtain⟨ri,rj,rh,rt,Uy,X9,Ya,Yb⟩:=r;refine en L0 Tryz.f57 ?_;refine⟨[],[],_,_,_,_,hr,t3,cw ?_⟩;refine rn ?_;refine sp ?_ ?_<;>intro h1
 ·refine wh ?_;refine sp ?_ ?_<;>intro h2
  ·refine wh ?_;exact⟨[],[],_,_,_,t3,rfl,rfl,rfl⟩
  ·exact absurd h.2 h2
 ·exact absurd h.1 h1
theorem Tq (c:CF) (H:dX c) (node:Int) (f t ch e:Int) (us:List c7) (h:(bT c node).head=true) (hf:201≤f∧f≤206):VC E0 57 0 [.agg (dS c),.s (.int .i64 node),.agg (bK (AJ f t ch e us))] [] (RR (.s (.bool true)) 0 []):=by
 have hc:=yx f;rw[decide_eq_true hf]at hc;have hr:=ld c H node;generalize bT c node=r at h hr;obtain⟨ri,rj,rh,rt,Uy,X9,Ya,Yb⟩:=r;refine en L0 Tryz.f57 ?_;refine⟨[],[],_,_,_,_,hr,t3,cw ?_⟩;refine rn ?_;have h:rh=true:=h;subst h;refine wh ?_;refine⟨[],[],_,_,_,_,hc,t3,cw ?_⟩;exact⟨[],[],_,_,_,t3,rfl,rfl,rfl⟩
theorem PD (c:CF) (H:dX c) (node f s d:Int) (us:List c7) (hf:AK f) (hn:AK node) (hl:us.length≤4) (hu:us.all (okW false)=true) (h:(bT c node).pred≠0∧f=(bT c node).pred):
 VC E0 25 0 [.agg (dS c),.s (.int .i64 node),.agg (bK (r8 f node c.chain c.bL s d us))] [] (RR (.s (.int .i64 0)) 0 []):=by
 have uk:=yz f node c.chain c.bL s d us hf hn H.1 H.2.1 hl;rw[if_pos hu]at uk;have hs:=To c H node f node c.chain c.bL s d us h;refine en L0 Tryz.f25 ?_;refine⟨[],[],_,_,_,_,uk,t3,cw ?_⟩
 repeat((first|(refine⟨fun h_=>?_,fun h_=>?_⟩)|(refine aZ (fun h_=>?_) (fun h_=>?_))|(refine aY (fun h_=>?_) (fun h_=>?_)))<;>first|(exfalso;revert h_;decide;done)|(exact absurd rfl h_)|(have eN:=True.intro;clear eN;(conv=>whnf)))
 refine⟨[],[],_,_,_,_,vZ c H,t3,cw ?_⟩;refine⟨[],[],_,_,_,_,sn 12 (.inl rfl),t3,cw ?_⟩
 repeat((first|(refine⟨fun h_=>?_,fun h_=>?_⟩)|(refine aZ (fun h_=>?_) (fun h_=>?_))|(refine aY (fun h_=>?_) (fun h_=>?_)))<;>first|(exfalso;revert h_;decide;done)|(exact absurd rfl h_)|(have eN:=True.intro;clear eN;(conv=>whnf)))
 refine⟨[],[],_,_,_,_,hs,t3,cw ?_⟩;exact⟨[],[],_,_,_,t3,rfl,rfl,rfl⟩
theorem PE (c:CF) (H:dX c) (node f n s d sl:Int) (hf:AK f) (hn:AK node) (E3:0≤sl∧sl≤512) (h:(bT c node).succ≠0∧f=(bT c node).succ):
 VC E0 25 0 [.agg (dS c),.s (.int .i64 node),.agg (bK (pB f node c.chain c.bL n s d sl))] [] (RR (.s (.int .i64 0)) 0 []):=by
 have uk:=LC f node c.chain c.bL n s d sl hf hn H.1 H.2.1 E3;have hs:=Tp c H node f node c.chain c.bL n s d sl h;refine en L0 Tryz.f25 ?_;refine⟨[],[],_,_,_,_,uk,t3,cw ?_⟩
 repeat((first|(refine⟨fun h_=>?_,fun h_=>?_⟩)|(refine aZ (fun h_=>?_) (fun h_=>?_))|(refine aY (fun h_=>?_) (fun h_=>?_)))<;>first|(exfalso;revert h_;decide;done)|(exact absurd rfl h_)|(have eN:=True.intro;clear eN;(conv=>whnf)))
 refine⟨[],[],_,_,_,_,vZ c H,t3,cw ?_⟩;refine⟨[],[],_,_,_,_,sn 13 (.inr (.inl rfl)),t3,cw ?_⟩
 repeat((first|(refine⟨fun h_=>?_,fun h_=>?_⟩)|(refine aZ (fun h_=>?_) (fun h_=>?_))|(refine aY (fun h_=>?_) (fun h_=>?_)))<;>first|(exfalso;revert h_;decide;done)|(exact absurd rfl h_)|(have eN:=True.intro;clear eN;(conv=>whnf)))
 refine⟨[],[],_,_,_,_,hs,t3,cw ?_⟩;exact⟨[],[],_,_,_,t3,rfl,rfl,rfl⟩
theorem PF (c:CF) (H:dX c) (node f:Int) (u:c7) (hf:201≤f∧f≤206) (hn:AK node) (hu:okW true u=true) (h:(bT c node).head=true):
 VC E0 25 0 [.agg (dS c),.s (.int .i64 node),.agg (bK (AJ f node c.chain c.bL [u]))] [] (RR (.s (.int .i64 0)) 0 []):=by
 have uk:=Ei f node c.chain c.bL u (.inr hf) hn H.1 H.2.1 hu;have hs:=Tq c H node f node c.chain c.bL [u] h hf;refine en L0 Tryz.f25 ?_;refine⟨[],[],_,_,_,_,uk,t3,cw ?_⟩
 repeat((first|(refine⟨fun h_=>?_,fun h_=>?_⟩)|(refine aZ (fun h_=>?_) (fun h_=>?_))|(refine aY (fun h_=>?_) (fun h_=>?_)))<;>first|(exfalso;revert h_;decide;done)|(exact absurd rfl h_)|(have eN:=True.intro;clear eN;(conv=>whnf)))
 refine⟨[],[],_,_,_,_,vZ c H,t3,cw ?_⟩;refine⟨[],[],_,_,_,_,sn 17 (.inr (.inr rfl)),t3,cw ?_⟩
 repeat((first|(refine⟨fun h_=>?_,fun h_=>?_⟩)|(refine aZ (fun h_=>?_) (fun h_=>?_))|(refine aY (fun h_=>?_) (fun h_=>?_)))<;>first|(exfalso;revert h_;decide;done)|(exact absurd rfl h_)|(have eN:=True.intro;clear eN;(conv=>whnf)))
 refine⟨[],[],_,_,_,_,hs,t3,cw ?_⟩;exact⟨[],[],_,_,_,t3,rfl,rfl,rfl⟩
@[reducible] def Gp (y:RS):TV→Ob→Nat→Prop:=RR (.tk 1) 2 [(0,sg (gK y)),(1,.arr 25 true (y.out.map bK))]
theorem II (x:RS) (f s d:Int) (us:List c7) (H:dX x.aE) (hf:AK f) (hn:AK x.node) (hu:us.all (okW false)=true) (h:(bT x.aE x.node).pred≠0∧f=(bT x.aE x.node).pred)
 (G:fv x) (zd:x.aE.fresh=false) (hj:x.role.oN=false) (hl:us.length≤4) (hd:∀u∈us,u.data.length≤2048∧LD u)
 (C0:∀(i:Nat) (h:i<(dv us (aU x.aJ)).length),fv (((dv us (aU x.aJ)).take i).foldl wC x)∧CJ (((dv us (aU x.aJ)).take i).foldl wC x) (dv us (aU x.aJ))[i])
 (G1:fv (jS x us)) (G2:kz (l7 (sD x us))) (G3:fv (sD x us)):
 VC E0 8 1 [.ptr 0 0,.agg (bK (r8 f x.node x.aE.chain x.aE.bL s d us))] (jO x) (Gp (yv x d us)):=by
 have W8:=PD x.aE H x.node f s d us hf hn hl hu h;have QL:=IG x f x.node x.aE.chain x.aE.bL s d us G zd hj hl hd C0 G1 G2 G3;refine en L0 Tryz.f8 ?_;refine⟨[],[],_,_,_,_,W8,t3,cw ?_⟩
 ((first|(refine⟨fun h_=>?_,fun h_=>?_⟩)|(refine aZ (fun h_=>?_) (fun h_=>?_))|(refine aY (fun h_=>?_) (fun h_=>?_)))<;>first|(exfalso;revert h_;decide;done)|(exact absurd rfl h_)|(have eN:=True.intro;clear eN;((conv=>whnf)<;>repeat(with_reducible refine D1 ?_)<;>conv=>whnf)))
 refine sp ?_ ?_<;>intro W9
 ·exact absurd (show(12:Int)=17 from W9) (by decide)
 refine wh ?_;refine sp ?_ ?_<;>intro k12
 ·refine wh ?_;refine⟨[],[some 0],_,_,_,_,QL,t3,cw ?_⟩;refine⟨[],[some 0],_,_,_,_,gN (yv x d us),t3,cw ?_⟩;exact⟨[],[some 0,some 4],_,_,_,t3,rfl,rfl,rfl⟩
 ·exact absurd rfl k12
theorem IJ (x:RS) (f n s d sl:Int) (H:dX x.aE) (hf:AK f) (hn:AK x.node) (E3:0≤sl∧sl≤512) (h:(bT x.aE x.node).succ≠0∧f=(bT x.aE x.node).succ)
 (Hw:tZ x.aJ) (G1:fv (Ji x s)) (hh:(mq x.aJ (max x.cC s) 0).isSome=true) (hd:0≤d∧d≤1000000) (G2:kz (AL x s d)):
 VC E0 8 1 [.ptr 0 0,.agg (bK (pB f x.node x.aE.chain x.aE.bL n s d sl))] (jO x) (Gp (rY x s d)):=by
 have W8:=PE x.aE H x.node f n s d sl hf hn E3 h;have QL:=My x f x.node x.aE.chain x.aE.bL n s d sl (by have:=H.2.2.1;omega) Hw G1 hh hd G2;refine en L0 Tryz.f8 ?_;refine⟨[],[],_,_,_,_,W8,t3,cw ?_⟩
 ((first|(refine⟨fun h_=>?_,fun h_=>?_⟩)|(refine aZ (fun h_=>?_) (fun h_=>?_))|(refine aY (fun h_=>?_) (fun h_=>?_)))<;>first|(exfalso;revert h_;decide;done)|(exact absurd rfl h_)|(have eN:=True.intro;clear eN;((conv=>whnf)<;>repeat(with_reducible refine D1 ?_)<;>conv=>whnf)))
 refine sp ?_ ?_<;>intro W9
 ·exact absurd (show(13:Int)=17 from W9) (by decide)
 refine wh ?_;refine sp ?_ ?_<;>intro k12
 ·exact absurd (show(13:Int)=12 from k12) (by decide)
 refine wh ?_;refine sp ?_ ?_<;>intro k14
 ·exact absurd (show(13:Int)=14 from k14) (by decide)
 refine wh ?_;refine sp ?_ ?_<;>intro k13
 ·refine wh ?_;refine⟨[],[some 0],_,_,_,_,QL,t3,cw ?_⟩;refine⟨[],[some 0],_,_,_,_,gN (rY x s d),t3,cw ?_⟩;exact⟨[],[some 0,some 4],_,_,_,t3,rfl,rfl,rfl⟩
 ·exact absurd rfl k13
theorem IK (x:RS) (f:Int) (u:c7) (H:dX x.aE) (hf:201≤f∧f≤206) (hn:AK x.node) (hu:okW true u=true) (h:(bT x.aE x.node).head=true)
 (G:fv x) (ho:x.fE=true) (hj:ct x.st.t u.al u.num=0) (hd:ky x.aJ<16) (U:CJ x (u2 x u)) (G1:fv (Ao x u)) (G2:kz (Py x u)):
 VC E0 8 1 [.ptr 0 0,.agg (bK (AJ f x.node x.aE.chain x.aE.bL [u]))] (jO x) (Gp (pz x u)):=by
 have W8:=PF x.aE H x.node f u hf hn hu h;have QL:=Mo x f x.node x.aE.chain x.aE.bL u G ho hj hd U G1 G2;refine en L0 Tryz.f8 ?_;refine⟨[],[],_,_,_,_,W8,t3,cw ?_⟩
 ((first|(refine⟨fun h_=>?_,fun h_=>?_⟩)|(refine aZ (fun h_=>?_) (fun h_=>?_))|(refine aY (fun h_=>?_) (fun h_=>?_)))<;>first|(exfalso;revert h_;decide;done)|(exact absurd rfl h_)|(have eN:=True.intro;clear eN;((conv=>whnf)<;>repeat(with_reducible refine D1 ?_)<;>conv=>whnf)))
 refine sp ?_ ?_<;>intro W9
 ·refine wh ?_;refine⟨[],[some 0],_,_,_,_,QL,t3,cw ?_⟩;refine⟨[],[some 0],_,_,_,_,gN (pz x u),t3,cw ?_⟩;exact⟨[],[some 0,some 4],_,_,_,t3,rfl,rfl,rfl⟩
 ·exact absurd rfl W9
theorem CM:VC E0 50 0 [] [] (RR (.ptr 0 0) 1 [(0,WS OO)]):=by
 refine en L0 Tryz.f50 ?_;exact⟨[],[some 0],_,_,_,t3,rfl,rfl,rfl⟩
theorem Mz (c:CF) (h:c.bL≠0):VC E0 45 0 [.agg (dS c),.agg Ii] [] (RR (.s (.bool false)) 0 []):=by
 refine en L0 Tryz.f45 ?_;refine sp ?_ ?_<;>intro h1
 ·refine wh ?_;refine sp ?_ ?_<;>intro h2
  ·exact absurd h2 h
  ·refine wh ?_;exact⟨[],[],_,_,_,t3,rfl,rfl,rfl⟩
 ·refine wh ?_;exact⟨[],[],_,_,_,t3,rfl,rfl,rfl⟩
@[reducible] def aar (x:RS) (c:CF):RS:={x with aE:=c,role:=bT c x.node,base:=aU x.aJ,cC:=0,known:=false,want:=0,comes:=OO}
theorem Ts (x:RS) (c:CF) (H:dX c) (Hw:tZ x.aJ):VC E0 51 1 [.ptr 0 0,.agg (dS c)] (jO x) (RR (.dg []) 1 (jO (aar x c))):=by
 have hcp:=Im [c] (by show(1:Nat)<10000;decide) (fun d hd=>by simp at hd;subst hd;have:=H.2.2.1;omega);have CW:=ld c H x.node;have e8:=eW x.aJ Hw;refine en L0 Tryz.f51 ?_;refine⟨[2],[],_,_,_,_,hcp,t3,cw ?_⟩;refine⟨⟨by decide,by simp⟩,?_⟩;refine wh ?_;refine⟨dS c,rfl,?_⟩;refine wh ?_;refine⟨[],[],_,_,_,_,CW,t3,cw ?_⟩;refine⟨[],[some 4],_,_,_,_,e8,t3,cw ?_⟩;refine⟨[],[],_,_,_,_,CM,t3,cw ?_⟩;exact⟨[],[some 0],_,_,_,t3,rfl,rfl,rfl⟩
theorem PG (c:CF) (node:Int) (H:dX c) (hn:1≤node∧node≤24) (hf:c.fresh=false) (hi:(bT c node).Ef=true):VC E0 20 0 [.s (.int .i64 node),.agg (dS c)] [] (RR (.dg [.ptr 0 0,.s (.int .i64 0)]) 1 (jO (vT node c))):=by
 have eY:=Mz c (by have:=H.2.1;omega);have Bm:=F5 node;rw[decide_eq_true hn]at Bm;have CW:=ld c H node;have hw0:tZ ⟨0,0,[]⟩:=⟨⟨by decide,by decide⟩,⟨by decide,by decide⟩,by decide,fun u hu=>by cases hu⟩;have gC:=Ts ⟨node,⟨0,0,[],false,0⟩,vS,⟨0,[],oe⟩,⟨0,0,[]⟩,0,false,0,false,0,OO,[]⟩ c H hw0;obtain⟨r,hr⟩:∃r,r=bT c node:=⟨_,rfl⟩;rw[←hr]at CW hi;obtain⟨ri,rj,rh,rt,Uy,X9,Ya,Yb⟩:=r;have hi:ri=true:=hi;subst hi;obtain⟨c1,c2,c3,c4,c5⟩:=c;have hf:c4=false:=hf;subst hf;refine en L0 Tryz.f20 ?_;refine⟨[],[],_,_,_,_,eY,t3,cw ?_⟩;refine⟨[],[],_,_,_,_,Bm,t3,cw ?_⟩;refine⟨[],[],_,_,_,_,CW,t3,cw ?_⟩
 refine⟨[],[],_,_,_,_,Mh,t3,cw ?_⟩;refine⟨[],[],_,_,_,_,Pk 0,t3,cw ?_⟩;refine⟨[],[],_,_,_,_,CM,t3,cw ?_⟩;refine⟨[],[some 4],_,_,_,_,gC,t3,cw ?_⟩;exact⟨[],[some 4],_,_,_,t3,rfl,rfl,rfl⟩
def PH (u:c7):Bool:=decide (0≤u.seq∧u.seq≤18446744073709551615)&&decide (0≤u.num∧u.num≤18446744073709551615)&&decide (0≤u.dx∧u.dx≤18446744073709551615)&&decide (0≤u.key∧u.key≤4294967295)
theorem Gq {u:c7} (h:PH u=true):LD u:=by
 simp only[PH,Bool.and_eq_true,decide_eq_true_eq]at h;exact⟨h.1.1.1,h.1.1.2,h.1.2,h.2⟩
def Tt (v:Vs):Bool:=decide (0≤v.dx∧v.dx≤18446744073709551615)&&decide (0≤v.seq∧v.seq≤18446744073709551615)&&decide (v.data.length≤2048)
theorem PI {v:Vs} (h:Tt v=true):O7 v:=by
 simp only[Tt,Bool.and_eq_true,decide_eq_true_eq]at h;exact⟨h.1.1,h.1.2,h.2⟩
theorem yM {α:Type} {k:Int} {v:α}:∀{l:List (Int×α)},eu l k=some v→∃e∈l,e.2=v
 |[],h=>by cases h
 |e::l,h=>by
  unfold eu at h;split at h
  ·cases h;exact⟨e,List.mem_cons_self,rfl⟩
  ·obtain⟨e',h1,h2⟩:=yM h;exact⟨e',List.mem_cons_of_mem _ h1,h2⟩
def Tu (s:eZ):Bool:=s.bs.all fun e=>e.2.all Tt&&decide (e.2.length<100000)
theorem Gr {s:eZ} (h:Tu s=true):w7 s:=⟨fun k vs hl=>by
 obtain⟨e,he,rfl⟩:=yM hl;have h2:=List.all_eq_true.1 h e he;rw[Bool.and_eq_true,decide_eq_true_eq,List.all_eq_true]at h2;exact⟨fun v hv=>PI (h2.1 v hv),h2.2⟩⟩
def EE (r:fp):Bool:=decide (0≤r.al∧r.al≤6)
def EF (t:eS):Bool:=EE t.r1&&EE t.r2&&EE t.r3&&EE t.r4&&EE t.r5&&EE t.r6
theorem IL {t:eS} (h:EF t=true):EA t:=fun c=>by
 simp only[EF,EE,Bool.and_eq_true,decide_eq_true_eq]at h;obtain⟨⟨⟨⟨⟨h1,h2⟩,h3⟩,h4⟩,h5⟩,h6⟩:=h;unfold fW;split
 ·exact⟨by decide,by decide⟩
 ·show 0≤(t.row c).al∧(t.row c).al≤6;unfold eS.row;split
  ·exact h1
  split
  ·exact h2
  split
  ·exact h3
  split
  ·exact h4
  split
  ·exact h5
  split
  ·exact h6
  ·exact⟨by decide,by decide⟩
def MA (w:gT):Bool:=decide (0≤w.low∧w.low≤1000000)&&decide (0≤w.done∧w.done≤1000000)&&decide (w.l.length≤10000)&&w.l.all fun u=>decide (u.data.length≤2048)
theorem Ap {w:gT} (h:MA w=true):tZ w:=by
 simp only[MA,Bool.and_eq_true,decide_eq_true_eq,List.all_eq_true]at h;exact⟨h.1.1.1,h.1.1.2,h.1.2,h.2⟩
def oP (x:RS):Bool:=MA x.aJ&&Tu x.st&&EF x.st.t&&decide (x.aJ.done≤aU x.aJ)&&decide (aU x.aJ<32)&&decide (x.st.bs.length<13)&&decide (x.out.length<50000)
theorem iI {x:RS} (h:oP x=true):fv x:=by
 simp only[oP,Bool.and_eq_true,decide_eq_true_eq]at h;obtain⟨⟨⟨⟨⟨⟨h1,h2⟩,h3⟩,h4⟩,h5⟩,h6⟩,h7⟩:=h;exact⟨Ap h1,Gr h2,IL h3,h4,h5,h6,h7⟩
def yN (x:RS):Bool:=MA x.aJ&&decide (x.out.length<50000)&&(decide (x.role.succ=0)|| !x.known||(mq x.aJ x.cC 4).isSome)
theorem qN {x:RS} (h:yN x=true):kz x:=by
 simp only[yN,Bool.and_eq_true,Bool.or_eq_true,decide_eq_true_eq,Bool.not_eq_true']at h;obtain⟨⟨h1,h2⟩,h3⟩:=h;exact⟨Ap h1,h2,by rcases h3 with (h|h)|h;exact .inl h;exact .inr (.inl h);exact .inr (.inr h)⟩
def Yg (x:RS) (u:c7):Bool:=PH u&&decide (px u=0)&&decide (u.seq - 1=aU x.aJ)&&decide (1≤u.seq)&&decide (aU x.aJ+1<32)
theorem MB {x:RS} {u:c7} (h:Yg x u=true):CJ x u:=by
 simp only[Yg,Bool.and_eq_true,decide_eq_true_eq]at h;exact⟨Gq h.1.1.1.1,h.1.1.1.2,h.1.1.2,h.1.2,h.2⟩
def PJ:RS→List c7→Bool
 |_,[]=>true
 |x,u::l=>oP x&&Yg x u&&PJ (wC x u) l
theorem Gs:∀{l:List c7} {x:RS},PJ x l=true→∀(i:Nat) (h:i<l.length),fv ((l.take i).foldl wC x)∧CJ ((l.take i).foldl wC x) l[i]
 |[],_,_,i,h=>absurd h (Nat.not_lt_zero _)
 |u::l,x,hb,i,h=>by
  unfold PJ at hb;simp only[Bool.and_eq_true]at hb;obtain⟨⟨h1,h2⟩,h3⟩:=hb;cases i with
  |zero=>exact⟨iI h1,MB h2⟩
  |succ i=>exact Gs h3 i (by simpa using h)
def EG (a:Int):Bool:=decide ((1≤a∧a≤24)∨(201≤a∧a≤206))
theorem qO {a:Int} (h:EG a=true):AK a:=by
 simp only[EG,decide_eq_true_eq]at h;exact h
def Tv (x:RS) (m:Lr):Bool:=decide (m.to=x.node)&&decide (m.chain=x.aE.chain)&&decide (m.bL=x.aE.bL)&&decide (m.num=0)&&decide (m.dx=0)&&decide (m.slot=0)&&decide (m.code=0)&&m.data.isEmpty
theorem PK {x:RS} {m:Lr} (hk:m.kind=12) (h:Tv x m=true):m=r8 m.AI x.node x.aE.chain x.aE.bL m.seq m.done m.us:=by
 obtain⟨a1,a2,a3,a4,a5,a6,a7,a8,a9,a10,a11,a12,a13⟩:=m;simp only[Tv,Bool.and_eq_true,decide_eq_true_eq,List.isEmpty_iff]at h;obtain⟨⟨⟨⟨⟨⟨⟨rfl,rfl⟩,rfl⟩,rfl⟩,rfl⟩,rfl⟩,rfl⟩,rfl⟩:=h;cases hk;rfl
def Tw (x:RS) (m:Lr):Bool:=decide (m.to=x.node)&&decide (m.chain=x.aE.chain)&&decide (m.bL=x.aE.bL)&&decide (m.dx=0)&&decide (m.code=0)&&m.us.isEmpty&&m.data.isEmpty
theorem PL {x:RS} {m:Lr} (hk:m.kind=13) (h:Tw x m=true):m=pB m.AI x.node x.aE.chain x.aE.bL m.num m.seq m.done m.slot:=by
 obtain⟨a1,a2,a3,a4,a5,a6,a7,a8,a9,a10,a11,a12,a13⟩:=m;simp only[Tw,Bool.and_eq_true,decide_eq_true_eq,List.isEmpty_iff]at h;obtain⟨⟨⟨⟨⟨⟨rfl,rfl⟩,rfl⟩,rfl⟩,rfl⟩,rfl⟩,rfl⟩:=h;cases hk;rfl
def Xa (x:RS) (m:Lr):Bool:=
 Tv x m&&(decide (dX x.aE)&&(EG m.AI&&(EG x.node&&(m.us.all (okW false)&&(decide ((bT x.aE x.node).pred≠0∧m.AI=(bT x.aE x.node).pred)&&(oP x&&(!x.aE.fresh&&(!x.role.oN&&(decide (m.us.length≤4)&&
 ((m.us.all fun u=>decide (u.data.length≤2048)&&PH u)&&(PJ x (dv m.us (aU x.aJ))&&(oP (jS x m.us)&&(yN (l7 (sD x m.us))&&oP (sD x m.us))))))))))))))
def Xb (x:RS) (m:Lr):Bool:=
 Tw x m&&(decide (dX x.aE)&&(EG m.AI&&(EG x.node&&(decide (0≤m.slot∧m.slot≤512)&&(decide ((bT x.aE x.node).succ≠0∧m.AI=(bT x.aE x.node).succ)&&(MA x.aJ&&(oP (Ji x m.seq)&&
 ((mq x.aJ (max x.cC m.seq) 0).isSome&&(decide (0≤m.done∧m.done≤1000000)&&yN (AL x m.seq m.done))))))))))
def Xc (x:RS) (m:Lr) (u:c7):Bool:=
 (decide (m.to=x.node)&&decide (m.chain=x.aE.chain)&&decide (m.bL=x.aE.bL)&&decide (m.num=0)&&decide (m.seq=0)&&decide (m.done=0)&&decide (m.dx=0)&&decide (m.slot=0)&&decide (m.code=0)&&m.data.isEmpty)&&
 (decide (dX x.aE)&&(decide (201≤m.AI∧m.AI≤206)&&(EG x.node&&(okW true u&&((bT x.aE x.node).head&&(oP x&&(x.fE&&(decide (ct x.st.t u.al u.num=0)&&(decide (ky x.aJ<16)&&(Yg x (u2 x u)&&(oP (Ao x u)&&yN (Py x u))))))))))))
def Aq (x:RS) (m:Lr):Bool:=
 if m.kind=12 then Xa x m else if m.kind=13 then Xb x m else if m.kind=17 then(match m.us with|[u]=>Xc x m u|_=>false)else false
theorem Gt {x:RS} {m:Lr} (h:Aq x m=true):VC E0 8 1 [.ptr 0 0,.agg (bK m)] (jO x) (Gp (iF x m)):=by
 unfold Aq at h;split at h
 ·rename_i hk;simp only[Xa,Bool.and_eq_true,decide_eq_true_eq,Bool.not_eq_true',List.all_eq_true]at h;obtain⟨h1,h2,h3,h4,h5,h6,h7,h8,h9,N4,QS,SK,Xd,h14,h15⟩:=h;have e:=PK hk h1;have et:iF x m=yv x m.done m.us:=by unfold iF;rw[if_neg (by rw[hk];decide),if_pos hk]
  rw[et,e];exact II x m.AI m.seq m.done m.us h2 (qO h3) (qO h4) (List.all_eq_true.2 h5) h6 (iI h7) h8 h9 N4 (fun u hu=>⟨(QS u hu).1,Gq (QS u hu).2⟩) (Gs SK) (iI Xd) (qN h14) (iI h15)
 split at h
 ·rename_i E6 hk;simp only[Xb,Bool.and_eq_true,decide_eq_true_eq]at h;obtain⟨h1,h2,h3,h4,h5,h6,h7,h8,h9,N4,QS⟩:=h;have e:=PL hk h1;have et:iF x m=rY x m.seq m.done:=by unfold iF;rw[if_neg (by rw[hk];decide),if_neg E6,if_pos hk]
  rw[et,e];exact IJ x m.AI m.num m.seq m.done m.slot h2 (qO h3) (qO h4) h5 h6 (Ap h7) (iI h8) h9 N4 (qN QS)
 split at h
 ·rename_i E6 Ho hk;split at h
  ·rename_i u hu;simp only[Xc,Bool.and_eq_true,decide_eq_true_eq,List.isEmpty_iff]at h;obtain⟨⟨⟨⟨⟨⟨⟨⟨⟨⟨a1,a2⟩,a3⟩,a4⟩,a5⟩,a6⟩,a7⟩,a8⟩,a9⟩,a10⟩,h2,h3,h4,h5,h6,h7,h8,h9,N4,QS,SK,Xd⟩:=h;have e:m=AJ m.AI x.node x.aE.chain x.aE.bL [u]:=by
    obtain⟨m1,m2,m3,m4,m5,m6,m7,m8,m9,m10,m11,m12,m13⟩:=m;cases a1;cases a2;cases a3;cases a4;cases a5;cases a6;cases a7;cases a8;cases a9;cases a10;cases hk;cases hu;rfl
   have et:iF x m=pz x u:=by unfold iF;rw[if_pos hk,hu]
   rw[et,e];exact IK x m.AI u h2 h3 (qO h4) h5 h6 (iI h7) h8 h9 N4 (MB QS) (iI SK) (qN Xd)
  ·cases h
 ·cases h
def EH (x:RS):Bool:=decide (x.aE.nodes.length<1000000)&&(oP x&&(!x.aE.fresh&&yN x))
theorem MD {x:RS} (h:EH x=true):VC E0 17 1 [.ptr 0 0] (jO x) (QR x):=by
 simp only[EH,Bool.and_eq_true,decide_eq_true_eq,Bool.not_eq_true']at h;exact PC x h.1 (iI h.2.1) h.2.2.1 (qN h.2.2.2)
section
variable {σ α:Type}
def we (step:σ→α→σ) (ok:σ→α→Bool):List α→σ→Bool
 |[],_=>true
 |a::l,s=>ok s a&&we step ok l (step s a)
theorem so {step:σ→α→σ} {ok:σ→α→Bool}:∀{l:List α} {s:σ},we step ok l s=true→∀(i:Nat) (h:i<l.length),ok ((l.take i).foldl step s) l[i]=true
 |[],_,_,i,h=>absurd h (Nat.not_lt_zero _)
 |a::l,s,hb,i,h=>by
  unfold we at hb;rw[Bool.and_eq_true]at hb;cases i with
  |zero=>exact hb.1
  |succ i=>exact so hb.2 i (by simpa using h)
end
def Gu (n:Nat) (w:gL) (m:Lr):Bool:=decide (w.more.length≤1000)&&(decide (w.told.length≤1000)&&(if 1≤m.to∧m.to≤n then(match w.all[(m.to - 1).toNat]? with
 |some x=>Aq x m&&decide ((iF x m).out.length≤1000)
 |none=>false)else true))
def Ty (w:gL) (i:Nat):Bool:=decide (w.more.length≤1000)&&(match w.all[i]? with
 |some x=>EH x&&(decide ((gJ x).out.length≤1000)&&x.out.isEmpty)
 |none=>false)
@[reducible] def Wd:Type:=List RS×List Lr×List Lr
@[reducible] def QT (w:Wd):gL:=w.2.1.foldl (j8 w.1.length) ⟨w.1,[],w.2.2⟩
def PM (w:Wd):Bool:=decide (w.2.1.length≤1000)&&(we (j8 w.1.length) (Gu w.1.length) w.2.1 ⟨w.1,[],w.2.2⟩&&we qG Ty (List.range w.1.length) (QT w))
def iW (w:Wd):Nat→Wd
 |0=>w
 |r+1=>FW (iW w r)
def Uz (w:Wd):Nat→Bool
 |0=>true
 |r+1=>Uz w r&&PM (iW w r)
theorem ME {w:Wd}:∀{r:Nat},Uz w r=true→∀q,q<r→PM (iW w q)=true
 |0,_,q,h=>absurd h (Nat.not_lt_zero _)
 |r+1,hb,q,h=>by
  unfold Uz at hb;rw[Bool.and_eq_true]at hb;rcases Nat.lt_or_ge q r with h1|h1
  ·exact ME hb.1 q h1
  ·obtain rfl:q=r:=by omega
   exact hb.2
def wg (n:Nat) (all:List RS) (i:Nat):Wd:=match all[0]? with
 |some x=>(let y:=iF x (pA (gY n) 1 (1+(i:Int) % 6) i);(all.set 0 (gK y),y.out,[]))
 |none=>(all,[],[])
def MF (n:Nat) (all:List RS) (i:Nat):Bool:=match all[0]? with
 |some x=>Aq x (pA (gY n) 1 (1+(i:Int) % 6) i)
 |none=>false
def MG (n:Nat) (all:List RS) (i:Nat):Wd:=iW (wg n all i) (2*n+4)
def w8 (n:Nat):Nat→List RS
 |0=>vU n
 |i+1=>(MG n (w8 n i) (i+1)).1
def EI (n:Nat) (all:List RS) (i:Nat):Bool:=decide (all.length=n)&&(MF n all i&&(Uz (wg n all i) (2*n+4)&&(vV i (MG n all i).2.2&&decide ((MG n all i).2.2.length≤1000))))
def MH (x:RS):Bool:=Tu x.st&&decide (0≤x.st.e∧x.st.e≤18446744073709551615)&&(gl x.st.t).all (fun r=>decide (0≤r.al∧r.al≤6)&&decide (0≤r.num∧r.num≤18446744073709551615)&&decide (0≤r.seq∧r.seq≤18446744073709551615)&&decide (0≤r.code∧r.code≤255)&&decide (0≤r.dx∧r.dx≤18446744073709551615))&&decide (x.st.bs.length≤12)&&(fu x.st.bs).all fun k=>decide (0≤k∧k≤4294967295)
theorem MI {x:RS} (h:MH x=true):s8 x.st:=by
 simp only[MH,Bool.and_eq_true,decide_eq_true_eq,List.all_eq_true]at h;obtain⟨⟨⟨⟨h1,h2⟩,h3⟩,h4⟩,h5⟩:=h;exact⟨Gr h1,h2,fun r hr=>by
  obtain⟨⟨⟨⟨a,b⟩,c⟩,d⟩,e⟩:=h3 r hr;exact⟨a,b,c,d,e⟩,h4,h5⟩
def MJ (a b:Vs):Bool:=decide (a.dx=b.dx)&&decide (a.seq=b.seq)&&decide (a.data=b.data)
theorem MK {a b:Vs} (h:MJ a b=true):a=b:=by
 simp only[MJ,Bool.and_eq_true,decide_eq_true_eq]at h;obtain⟨⟨h1,h2⟩,h3⟩:=h;cases a;cases b;simp_all
def ML {α:Type} (f:α→α→Bool):List α→List α→Bool
 |[],[]=>true
 |a::l,b::m=>f a b&&ML f l m
 |_,_=>false
theorem Ar {α:Type} {f:α→α→Bool} (hf:∀a b,f a b=true→a=b):∀{l m:List α},ML f l m=true→l=m
 |[],[],_=>rfl
 |a::l,b::m,h=>by
  unfold ML at h;rw[Bool.and_eq_true]at h;rw[hf a b h.1,Ar hf h.2]
 |[],_::_,h=>by cases h
 |_::_,[],h=>by cases h
def ta (a b:fp):Bool:=decide (a.al=b.al)&&decide (a.num=b.num)&&decide (a.seq=b.seq)&&decide (a.code=b.code)&&decide (a.dx=b.dx)
theorem lf {a b:fp} (h:ta a b=true):a=b:=by
 simp only[ta,Bool.and_eq_true,decide_eq_true_eq]at h;obtain⟨⟨⟨⟨h1,h2⟩,h3⟩,h4⟩,h5⟩:=h;cases a;cases b;simp_all
def Tz (a b:eZ):Bool:=decide (a.e=b.e)&&(ML (fun p q=>decide (p.1=q.1)&&ML MJ p.2 q.2) a.bs b.bs&&(ta a.t.r1 b.t.r1&&(ta a.t.r2 b.t.r2&&(ta a.t.r3 b.t.r3&&(ta a.t.r4 b.t.r4&&(ta a.t.r5 b.t.r5&&ta a.t.r6 b.t.r6))))))
theorem PN {a b:eZ} (h:Tz a b=true):a=b:=by
 simp only[Tz,Bool.and_eq_true,decide_eq_true_eq]at h;obtain⟨h1,h2,h3,h4,h5,h6,h7,h8⟩:=h;have h2:=Ar (fun p q Jd=>by
  rw[Bool.and_eq_true,decide_eq_true_eq]at Jd;exact Prod.ext Jd.1 (Ar (fun _ _=>MK) Jd.2)) h2
 obtain⟨ae,ab,⟨a1,a2,a3,a4,a5,a6⟩⟩:=a;obtain⟨be,bb,⟨b1,b2,b3,b4,b5,b6⟩⟩:=b;cases h1;cases h2;cases lf h3;cases lf h4;cases lf h5;cases lf h6;cases lf h7;cases lf h8;rfl
def IM (n:Nat) (i:Nat) (all:List RS):Bool:=decide (all.length=n)&&(match all[0]? with
 |some x0=>all.all fun x=>decide (x.st.e=(i:Int))&&(decide (x.aJ.done=(i:Int))&&(Tz x.st x0.st&&MH x))
 |none=>false)
def qP (n:Nat):Nat→Bool
 |0=>IM n 0 (w8 n 0)
 |i+1=>qP n i&&(EI n (w8 n i) (i+1)&&IM n (i+1) (w8 n (i+1)))
def As (n:Nat):Nat→List RS×Bool
 |0=>(vU n,IM n 0 (vU n))
 |i+1=>match As n i with
  |(all,b)=>match wg n all (i+1)with
   |w0=>match Uz w0 (2*n+4),iW w0 (2*n+4)with
    |o,w=>(w.1,b&&(decide (all.length=n)&&(MF n all (i+1)&&(o&&(vV (i+1) w.2.2&&decide (w.2.2.length≤1000))))&&IM n (i+1) w.1))
theorem Gv (n:Nat):∀i,As n i=(w8 n i,qP n i)
 |0=>rfl
 |i+1=>by
  unfold As;rw[Gv n i];rfl
@[reducible] noncomputable def aav (x:RS) (k:Nat):TO:=.cells [.s (.int .i64 x.node),.s (.int .i64 x.aE.chain),.s (.int .u64 x.aE.bL),.sl 1 (x.aE.nodes.map eX) false,.s (.bool x.aE.fresh),.s (.int .i64 x.aE.join),
 .s (.bool x.role.Ef),.s (.bool x.role.oN),.s (.bool x.role.head),.s (.bool x.role.tail),.s (.bool x.role.waits),.s (.int .i64 x.role.place),.s (.int .i64 x.role.pred),.s (.int .i64 x.role.succ),
 .ptr k 0,.own (Tc x.aJ),.s (.int .u64 x.base),.s (.bool x.fE),.s (.int .u64 x.cC),.s (.bool x.known),QJ,.s (.int .i64 x.want),.own (WS x.comes),.own (.arr 25 true (x.out.map bK))]
theorem qQ (x:RS):VC E0 14 1 [.ptr 0 0] (jO x) (RR (.ptr 1 0) 2 [(0,aav x 1),(1,Tg x.st)]):=by
 refine en L0 Tryz.f14 ?_
 repeat((first|(refine⟨fun h_=>?_,fun h_=>?_⟩)|(refine aZ (fun h_=>?_) (fun h_=>?_))|(refine aY (fun h_=>?_) (fun h_=>?_)))<;>first|(exfalso;revert h_;decide;done)|(exact absurd rfl h_)|(have eN:=True.intro;clear eN;(conv=>whnf)))
 exact⟨[],[some 0,some 1],_,_,_,t3,rfl,rfl,rfl⟩
theorem PO (x:RS):VC E0 11 1 [.ptr 0 0] (jO x) (RR (.s (.int .u64 x.st.e)) 1 (jO x)):=by
 have e8:=Mi x.st;refine en L0 Tryz.f11 ?_;refine⟨[],[some 0],_,_,_,_,qQ x,t3,cw ?_⟩;refine⟨[],[some 2],_,_,_,_,e8,t3,cw ?_⟩;exact⟨[],[some 0],_,_,_,t3,rfl,rfl,rfl⟩
theorem PQ (x:RS):VC E0 12 1 [.ptr 0 0] (jO x) (RR (.s (.int .u64 x.aJ.done)) 1 (jO x)):=by
 have hd:=k9 x.aJ;refine en L0 Tryz.f12 ?_
 repeat((first|(refine⟨fun h_=>?_,fun h_=>?_⟩)|(refine aZ (fun h_=>?_) (fun h_=>?_))|(refine aY (fun h_=>?_) (fun h_=>?_)))<;>first|(exfalso;revert h_;decide;done)|(exact absurd rfl h_)|(have eN:=True.intro;clear eN;(conv=>whnf)))
 refine⟨[],[some 1],_,_,_,_,hd,t3,cw ?_⟩;exact⟨[],[some 0],_,_,_,t3,rfl,rfl,rfl⟩
theorem PR (l:List Int) (hl:l.length<1000000):VC E0 13 0 [.sl 1 (bA l) false,.sl 1 (bA l) false] [] (RR (.s (.bool true)) 0 []):=by
 refine en L0 Tryz.f13 ?_;refine sp ?_ ?_<;>intro Q7
 ·exact absurd rfl Q7
 refine wh ?_;refine⟨fun k f o c=>∃i:Nat,i≤l.length∧k=l.length - i∧c=0∧f=[(0,.sl 1 (bA l) false),(1,.sl 1 (bA l) false),(5,.s (.int .i64 i))]∧o=[],⟨l.length,?_⟩,?_⟩
 ·exact⟨[],[],_,_,_,t3,⟨0,Nat.zero_le _,rfl,rfl,rfl,rfl⟩⟩
 ·rintro k f1 o1 c1 ⟨i,hi,rfl,rfl,rfl,rfl⟩;refine wh ?_;refine sp ?_ ?_<;>intro h
  ·have h:i<l.length:=KS.1 h;refine wh ?_;refine mB h ?_;refine wh ?_;refine mB h ?_;refine wh ?_;refine sp ?_ ?_<;>intro hv
   ·exact absurd rfl hv
   ·refine wh ?_;have oB:IntKind.i64.wrap ((i:Int)+1)=((i+1:Nat):Int):=IntWalk.i64_in _ om;rw[oB];refine⟨l.length - (i+1),?_,om⟩;exact⟨[],[],_,_,_,t3,⟨i+1,h,rfl,rfl,rfl,rfl⟩⟩
  ·refine wh ?_;exact⟨[],[],_,_,_,t3,rfl,rfl,rfl⟩
theorem MN (n:Int) (_:0≤n∧n≤1000):IntKind.u8.wrap n=n % 256:=rfl
theorem MP (c:CF) (to al num:Int) (hc:1≤al∧al≤6) (hn:0≤num∧num≤1000):VC E0 9 0 [.agg (dS c),.s (.int .i64 to),.s (.int .i64 al),.s (.int .u64 num)] [] (RR (.agg (bK (pA c to al num))) 0 []):=by
 have h1:num.tmod 5=num % 5:=Int.tmod_eq_emod_of_nonneg hn.1;have h2:IntKind.i64.wrap (200+al)=200+al:=IntWalk.i64_in _ om;refine en L0 Tryz.f9 ?_;rw[h1,h2,IntWalk.u32_in _ (show _ by omega),MN al om,MN num om];exact⟨[4],[],_,_,_,t3,rfl,rfl,rfl⟩
@[reducible] def UA (k:Nat):List Int:=(List.range k).map fun(i:Nat)=>(i:Int)+1
theorem MQ (k:Nat):UA (k+1)=UA k++[(k:Int)+1]:=by unfold UA;rw[List.range_succ,List.map_append];rfl
@[reducible] def PS (n k:Nat):List RS:=(List.range k).map fun(i:Nat)=>vT ((i:Int)+1) (gY n)
theorem CN (n k:Nat):PS n (k+1)=PS n k++[vT ((k:Int)+1) (gY n)]:=by unfold PS;rw[List.range_succ,List.map_append];rfl
theorem PT (n k:Nat):(PS n k).length=k:=by simp[PS]
@[reducible] noncomputable def dP (x:RS):List TV:=[.own (sg x)]
@[reducible] noncomputable def At (l:List RS):TO:=.bZ 1 (l.map dP) []
@[reducible] def Xe (l:List Int):TO:=.cells [.s (.int .i64 0),.s (.int .u64 1),.own (.arr 1 true (l.map eX)),.s (.bool false),.s (.int .i64 0)]
theorem Xf (n k:Nat) (y:List TV):(((PS n k).map dP++[y]).set (((PS n k).map dP).length+0) (dP (vT ((k:Nat)+1) (gY n))))=(PS n (k+1)).map dP:=by
 rw[CN,List.map_append,List.set_append_right _ _ (by simp)];simp
theorem okB:∀n∈[1,2,3,4,5],dX (gY n)∧∀i<n,(bT (gY n) ((i:Int)+1)).Ef=true:=by decide+kernel
@[reducible] def aaw:Nat→List Int→TV
 |0,l=>.own (.arr 1 true (l.map eX))
 |_+1,l=>.sl 1 (l.map eX) false
theorem MR (n:Nat) (hn:n∈[1,2,3,4,5]):VC E0 7 0 [.s (.int .i64 n)] [] (RR (.dg [.agg (dS (gY n)),.tk 0]) 1 [(0,At (vU n))]):=by
 have hn5:1≤n∧n≤5:=by simp at hn;omega
 obtain⟨hR,hI⟩:=okB n hn;refine en L0 Tryz.f7 ?_;refine⟨fun kk f o c=>∃k:Nat,k≤n∧kk=n - k∧c=2∧f=[(0,.s (.int .i64 n)),(2,.ptr 0 0),(4,.ptr 1 0),(5,.sl 0 [] true),(6,.s (.int .i64 ((k:Int)+1)))]∧o=[(0,.cells Ii),(1,Xe (UA k))],⟨n,?_⟩,?_⟩
 ·exact⟨[],[some 0,some 1],_,_,_,t3,⟨0,Nat.zero_le _,rfl,rfl,rfl,rfl⟩⟩
 rintro kk f1 o1 c1 ⟨k,hk,rfl,rfl,rfl,rfl⟩;refine wh ?_;refine sp ?_ ?_<;>intro bj
 ·have bj:(k:Int)+1≤n:=bj;have oB:IntKind.i64.wrap ((k:Int)+1+1)=((k+1:Nat):Int)+1:=IntWalk.i64_in _ om;refine wh ?_;refine⟨by simp<;>omega,?_⟩;refine wh ?_;rw[oB];refine⟨n - (k+1),?_,om⟩;refine⟨[],[some 0,some 1],?_⟩
  iterate 3 constructor
  refine⟨⟨?_,?_,?_⟩,⟨k+1,om,rfl,rfl,rfl,rfl⟩⟩
  all_goals(repeat' first|exact LF|constructor)
  all_goals exact Lz.of (by show _=(UA (k+1)).map eX;rw[MQ,List.map_append];rfl)
 have bj:¬(k:Int)+1≤n:=bj;obtain rfl:k=n:=by omega
 clear bj hk;refine wh ?_;refine⟨fun kk f o c=>∃j:Nat,j≤k∧kk=k - j∧c=3∧f=[(0,.s (.int .i64 k)),(2,.ptr 0 0),(4,.ptr 1 0),(5,.tk 2),(7,.s (.int .i64 ((j:Int)+1)))]∧o=[(0,.cells Ii),(1,.cells [.s (.int .i64 0),.s (.int .u64 1),aaw j (UA k),.s (.bool false),.s (.int .i64 0)]),(2,At (PS k j))],⟨k,?_⟩,?_⟩
 ·exact⟨[],[some 0,some 1,none],_,_,_,t3,⟨0,Nat.zero_le _,rfl,rfl,rfl,rfl⟩⟩
 rintro kk f1 o1 c1 ⟨j,hj,rfl,rfl,rfl,rfl⟩;have No:=fun bj:(j:Int)+1≤k=>PG (gY k) ((j:Int)+1) hR om rfl (hI j om);have oB:IntKind.i64.wrap ((j:Int)+1+1)=((j+1:Nat):Int)+1:=IntWalk.i64_in _ om;have SA:=CN k j;have Jo:=PT k j;cases j with
 |zero=>
  refine wh ?_;refine sp ?_ ?_<;>intro bj
  ·refine wh ?_;refine⟨[3],[],_,_,_,_,No bj,t3,cw ?_⟩;refine⟨by simp<;>omega,?_⟩;refine wh ?_;rw[oB];refine⟨k - (0+1),?_,om⟩;refine⟨[],[some 0,some 1,some 6],_,_,_,⟨tq,.cons tq (.cons tq (.cons (.bZ (kA:=[(_,dP (vT ((0:Nat)+1) (gY k)))]) .one (Lw.of (Xf k 0 _)) (.q1 tq)) .nil)),by rfl⟩,⟨0+1,om,rfl,rfl,rfl,rfl⟩⟩
  ·exact absurd (show((0:Nat):Int)+1≤k from by omega) bj
 |succ j=>
  refine wh ?_;refine sp ?_ ?_<;>intro bj
  ·refine wh ?_;refine⟨[],[],_,_,_,_,No bj,t3,cw ?_⟩;refine⟨by simp<;>omega,?_⟩;refine wh ?_;rw[oB];refine⟨k - ((j+1)+1),?_,om⟩;refine⟨[],[some 0,some 1,some 5],_,_,_,⟨tq,.cons tq (.cons tq (.cons (.bZ (kA:=[(_,dP (vT (((j+1):Nat)+1) (gY k)))]) .one (Lw.of (Xf k (j+1) _)) (.q1 tq)) .nil)),by rfl⟩,⟨(j+1)+1,om,rfl,rfl,rfl,rfl⟩⟩
  have bj:¬((j+1:Nat):Int)+1≤k:=bj;obtain rfl:j+1=k:=by omega
  refine wh ?_;exact⟨[],[some 2],_,_,_,t3,rfl,rfl,rfl⟩
end Go.M
