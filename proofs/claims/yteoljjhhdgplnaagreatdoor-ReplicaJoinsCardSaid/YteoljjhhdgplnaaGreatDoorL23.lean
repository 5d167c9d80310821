/-
  Part 23 of the library that the proof leans on.
-/
import Derived.Test.YteoljjhhdgplnaaGreatDoorL12
import Derived.Test.YteoljjhhdgplnaaGreatDoorL22
import Derived.Test.YteoljjhhdgplnaaGreatDoorL17
namespace Go.M
open Go Go.Proofs
set_option maxRecDepth 100000
set_option maxHeartbeats 4000000
theorem xk (l:List Int):(bm l).length=l.length:=by unfold bm;rw[List.length_map]
theorem Pw (a b:List Int):bm a++bm b=bm (a++b):=by unfold bm;rw[List.map_append]
theorem Px {l:List Int} (h:bm l=[]):l=[]:=by unfold bm at h;simpa using h
structure Room (s:fx) (k:Nat):Prop where
 e:s.e=0
 m:s.jU=1048576
 l:s.b.length+k≤800000
@[reducible] def fx.add (s:fx) (x:List Int):fx:=⟨s.b++x,s.jU,0⟩
theorem Room.ok {s:fx} {k:Nat} (h:Room s k):s.ok:=⟨by rw[h.m];decide,by have:=h.l;rw[h.m];omega⟩
theorem Room.add {s:fx} {k:Nat} (h:Room s k) {x:List Int} {j:Nat} (hx:x.length+j≤k):Room (s.add x) j:=⟨rfl,h.m,by have:=h.l;show(s.b++x).length+j≤_;rw[List.length_append];omega⟩
theorem Room.put {s:fx} {k:Nat} (h:Room s k) {x:List Int} (hx:x.length≤k):s.put x=s.add x:=by
 have:=h.l;unfold fx.put;rw[if_neg (not_not_intro h.e),if_neg (by rw[h.m];omega)]
theorem Room.num {s:fx} {k:Nat} (h:Room s k) {n w:Nat} (hn:n<256 ^ w) (hw:w≤k):s.num n w=s.add (dH w n):=by
 unfold fx.num;rw[if_pos hn,h.put (by rw[cE];exact hw)]
theorem jr (s:fx) (n:Int) (w k:Nat) (h:Room s k) (hw:w≤k) (h1:1≤w) (h8:w≤8) (h0:0≤n) (hm:n≤18446744073709551615) (hn:n.toNat<256 ^ w):VC E0 35 1 [.ptr 0 0,.s (.int .u64 n),.s (.int .i64 w)] [(0,uF s)] (RR (.cB []) 1 [(0,uF (s.add (dH w n.toNat)))]):=by
 have:=aba s n.toNat w h.ok (by have:=h.l;omega) h1 h8 om;rw[h.num hn hw,Int.toNat_of_nonneg h0]at this;exact this
theorem TL (n:Nat) (w:Nat) (h1:1≤w) (h8:w≤8):VC E0 73 0 [.s (.int .u64 n),.s (.int .i64 w)] [] (RR (.sl 1 (bm (dH w n)) false) 0 []):=by
 refine VC.told (Nn n w h1 h8) ?_;rintro r o' c' ⟨rfl,rfl,rfl⟩;exact⟨[0],[],_,_,_,t3,rfl,rfl,rfl⟩
theorem Xm (n:Nat) (h0:0<n) (hn:n<1000000):VC E0 115 0 [.sl 0 [] true,.s (.int .i64 n)] [] (RR (.pv 0 0) 1 [(0,.arr 1 true (bm (List.replicate n 0)))]):=by
 refine en L0 Tryz.f115 ?_;refine sp ?_ ?_<;>intro h
 ·have h:(n:Int)<0:=h;omega
 ·refine wh ?_;have hw:IntKind.i64.wrap ((n:Int) - IntKind.i64.wrap (0 - ((([]:List (List TV)).length:Nat):Int)))=(n:Int):=by
   rw[show IntKind.i64.wrap (0 - ((([]:List (List TV)).length:Nat):Int))=0 from rfl,IntWalk.i64_in _ om];omega
  rw[hw];refine sp ?_ ?_<;>intro h2
  ·refine wh ?_;refine⟨by decide,?_⟩;refine wh ?_;refine⟨om,?_⟩;refine wh ?_;refine⟨⟨by simp,by simp,by simp⟩,.inr ?_⟩;refine wh ?_;refine⟨[],[some 0],?_⟩
   iterate 3 constructor
   refine⟨⟨?_,?_,?_⟩,rfl,rfl,rfl⟩
   all_goals(repeat' first|exact LF|constructor)
   all_goals first|exact Lz.of rfl |exact Lz.of (by simp[bm,ZX])|trace_state
  ·exact absurd (show(0:Int)<(n:Int) by omega) h2
theorem Py (a b:List Int) (ha:a≠[]) (hn:a.length+b.length<1000000):VC E0 80 0 [.sl 1 [[.sl 1 (bm a) false],[.sl 1 (bm b) false]] false] [] (RR (.sl 1 (bm (a++b)) false) 0 []):=by
 have la:=xk a;have lb:=xk b;have ha0:0<a.length:=List.length_pos_iff.2 ha;refine VC.cQ L0 (show E0.func 80=some Tryz.f80 by kernel_rfl) (fun _ _=>rfl) rfl rfl [999999] ?_;refine wh ?_;refine sp ?_ ?_<;>intro t0
 ·refine wh ?_;refine⟨_,⟨by decide,rfl⟩,?_⟩;refine wh ?_;rw[show IntKind.i64.wrap (0+(((bm a).length:Nat):Int))=(a.length:Int)from by rw[la,IntWalk.i64_in _ om];omega];refine sp ?_ ?_<;>intro n0
  ·have n0:(a.length:Int)<0:=n0;omega
  ·refine wh ?_;refine sp ?_ ?_<;>intro t1
   ·refine wh ?_;refine⟨_,⟨by decide,rfl⟩,?_⟩;refine wh ?_;rw[show IntKind.i64.wrap ((a.length:Int)+(((bm b).length:Nat):Int))=((a.length+b.length:Nat):Int)from by rw[lb,IntWalk.i64_in _ om];omega];refine sp ?_ ?_<;>intro n1
    ·have n1:((a.length+b.length:Nat):Int)<0:=n1;omega
    ·refine wh ?_;refine sp ?_ ?_<;>intro t2
     ·exact absurd t2 (show¬(IntKind.i64.wrap (IntKind.i64.wrap (0+1)+1)<(2:Int)) by decide)
     ·refine wh ?_;refine⟨[],[],_,_,_,_,Xm (a.length+b.length) om om,t3,cw ?_⟩;refine sp ?_ ?_<;>intro u0
      ·refine wh ?_;refine⟨_,⟨by decide,rfl⟩,?_⟩;refine wh ?_;refine⟨⟨Nat.zero_le _,by rw[la];omega,fun e=>ha (Px e)⟩,?_⟩;refine wh ?_;refine sp ?_ ?_<;>intro u1
       ·refine wh ?_;refine⟨_,⟨by decide,rfl⟩,?_⟩;refine wh ?_;refine⟨by rw[List.take_zero,List.nil_append,la,lb];omega,?_⟩;refine wh ?_;refine sp ?_ ?_<;>intro u2
        ·exact absurd u2 (show¬(IntKind.i64.wrap (IntKind.i64.wrap (0+1)+1)<(2:Int)) by decide)
        ·refine wh ?_;refine⟨[2],[],?_⟩
         iterate 3 constructor
         refine⟨⟨?_,?_,?_⟩,rfl,rfl,rfl⟩
         all_goals(repeat' first|exact LF|constructor)
         all_goals exact Lz.of (by rw[List.take_zero,List.nil_append,Pw])
       ·exact absurd (show IntKind.i64.wrap (0+1)<(2:Int) by decide) u1
      ·exact absurd (show(0:Int)<(2:Int) by decide) u0
   ·exact absurd (show IntKind.i64.wrap (0+1)<(2:Int) by decide) t1
 ·exact absurd (show(0:Int)<(2:Int) by decide) t0
theorem Ls (s:fx) (d:List Int) (k:Nat) (h:Room s k) (hd:d.length+2≤k) (h2:d.length≤65535):VC E0 39 1 [.ptr 0 0,.sl 1 (bm d) false] [(0,uF s)] (RR (.cB []) 1 [(0,uF (s.add (dH 2 d.length++d)))]):=by
 have hl:=xk d;have hp:=TK s (dH 2 d.length++d) h.ok (by have:=h.l;rw[List.length_append,cE];omega);rw[h.put (by rw[List.length_append,cE];omega)]at hp;refine en L0 Tryz.f39 ?_;refine sp ?_ ?_<;>intro h0
 ·have h0:(65535:Int)<(((bm d).length:Nat):Int):=h0;rw[hl]at h0;omega
 ·refine wh ?_;rw[hl,show IntKind.u64.wrap ((d.length:Nat):Int)=((d.length:Nat):Int)from IntWalk.u64_in _ om];refine⟨[],[],_,_,_,_,TL d.length 2 (by decide) (by decide),t3,cw ?_⟩;refine⟨[1],[],_,_,_,_,Py (dH 2 d.length) d (fun e=>by have:=congrArg List.length e;rw[cE]at this;cases this) (by rw[cE];omega),t3,cw ?_⟩;refine⟨[],[some 0],_,_,_,_,hp,t3,cw ?_⟩;exact⟨[],[some 0],_,_,_,t3,rfl,rfl,rfl⟩
theorem xl (t:gg):(gj t).length≤6:=List.length_filter_le nz (uD t)
theorem Lt (t:gg):VC E0 75 1 [.ptr 0 0] (qZ t) (RR (.sl 5 ((gj t).map yX) false) 1 (qZ t)):=by
 refine en L0 Tryz.f75 ?_;refine⟨fun k f o c=>∃i:Nat,i≤6∧k=6 - i∧c=2∧f=[(0,.ptr 0 0),(3,.tk 1),(7,.s (.int .i64 i))]∧o=[(0,xf t),(1,.arr 5 true ((((uD t).take i).filter nz).map yX))],⟨6,?_⟩,?_⟩
 ·exact⟨[],[some 0,none],_,_,_,t3,⟨0,by decide,rfl,rfl,rfl,rfl⟩⟩
 ·rintro k f1 o1 c1 ⟨i,hi,rfl,rfl,rfl,rfl⟩;refine wh ?_;refine sp ?_ ?_<;>intro h
  ·have h:i<6:=by have h:(i:Int)<6:=h
                  omega
   have hg:=Nf t ((i+1:Nat):Int);rw[TG t h]at hg;have nX:=TH t h;have uY:(((uD t).take i).filter nz).length≤i:=Nat.le_trans (List.length_filter_le ..) (List.length_take_le ..);generalize (uD t).getD i gd=r at hg nX;refine wh ?_;rw[wrap_small i om];by_cases hz:r.num=0
   ·rw[if_pos hz]at hg;refine⟨[],[some 0],_,_,_,_,hg,t3,cw ?_⟩;refine⟨6 - (i+1),?_,om⟩;refine⟨[],[some 0,some 1],?_⟩
    iterate 3 constructor
    refine⟨⟨?_,?_,?_⟩,⟨i+1,h,rfl,rfl,rfl,rfl⟩⟩
    all_goals(repeat' first|exact LF|constructor)
    all_goals exact Lz.of (by rw[nX,List.filter_append,List.filter_cons_of_neg (by simpa using hz),List.filter_nil,List.append_nil])
   ·rw[if_neg hz]at hg;refine⟨[],[some 0],_,_,_,_,hg,t3,cw ?_⟩;refine⟨by simp only[List.length_map];simp;omega,?_⟩;refine wh ?_;refine⟨6 - (i+1),?_,om⟩;refine⟨[],[some 0,some 5],?_⟩
    iterate 3 constructor
    refine⟨⟨?_,?_,?_⟩,⟨i+1,h,rfl,rfl,rfl,rfl⟩⟩
    all_goals(repeat' first|exact LF|constructor)
    all_goals exact Lz.of (by rw[nX,List.filter_append,List.filter_cons_of_pos (by simpa using hz),List.filter_nil,List.map_append];rfl)
  ·obtain rfl:i=6:=by have h:¬(i:Int)<6:=h;omega
   rw[show(uD t).take 6=uD t from rfl];refine wh ?_;exact⟨[1],[some 0],_,_,_,t3,rfl,rfl,rfl⟩
theorem Xn (t:gg):VC E0 74 1 [.ptr 0 0] (qZ t) (RR (.s (.int .i64 ((gj t).length:Nat))) 1 (qZ t)):=by
 refine en L0 Tryz.f74 ?_;refine⟨[],[some 0],_,_,_,_,Lt t,t3,cw ?_⟩;refine⟨[],[some 0],?_⟩
 iterate 3 constructor
 refine⟨⟨?_,?_,?_⟩,rfl,rfl,rfl⟩
 all_goals(repeat' first|exact LF|constructor)
 all_goals exact Lz.int (by rw[List.length_map])
@[reducible] def I5 (r:fw):List Int:=dH 1 r.ao.toNat++dH 8 r.num.toNat++dH 8 r.seq.toNat++dH 1 r.code.toNat++dH 8 r.ey.toNat
@[reducible] def DK (l:List fw):List Int:=dH 1 l.length++l.flatMap I5
structure Y9 (r:fw):Prop where
 ao:0≤r.ao∧r.ao≤6
 num:0≤r.num∧r.num≤18446744073709551615
 seq:0≤r.seq∧r.seq≤18446744073709551615
 code:0≤r.code∧r.code≤255
 ey:0≤r.ey∧r.ey≤18446744073709551615
theorem TM (r:fw):(I5 r).length=26:=by simp[I5,cE]
theorem DL {α:Type} (f:α→List Int) {l:List α} {i:Nat} (h:i<l.length):(l.take (i+1)).flatMap f=(l.take i).flatMap f++f l[i]:=by
 rw[List.take_succ_eq_append_getElem h,List.flatMap_append];simp
theorem Bt (l:List fw):(l.flatMap I5).length=l.length*26:=by
 induction l with
 |nil=>rfl
 |cons r l ih=>rw[List.flatMap_cons,List.length_append,TM,ih,List.length_cons];omega
@[reducible] def TN (t:gg) (s:fx):Ob:=[(0,xf t),(1,uF s)]
theorem Xo (t:gg) (s:fx) (k:Nat) (hR:Room s k) (hk:157≤k) (hr:∀r∈gj t,Y9 r):VC E0 36 2 [.ptr 0 0,.ptr 1 0] (TN t s) (RR (.cB []) 2 (TN t (s.add (DK (gj t))))):=by
 have hl:=xl t;have am6:(2:Nat)≤256:=by decide
 refine en L0 Tryz.f36 ?_;refine⟨[],[some 0],_,_,_,_,Xn t,t3,cw ?_⟩;rw[show IntKind.u64.wrap (((gj t).length:Nat):Int)=(((gj t).length:Nat):Int)from IntWalk.u64_in _ om];refine⟨[],[some 1],_,_,_,_,jr s ((gj t).length:Nat) 1 k hR om (by decide) (by decide) om om (by rw[Int.toNat_natCast];omega),t3,cw ?_⟩;rw[Int.toNat_natCast];refine⟨[],[some 0],_,_,_,_,Lt t,t3,cw ?_⟩;have hR1:Room (s.add (dH 1 (gj t).length)) (k - 1):=hR.add (by rw[cE];omega);generalize GB:gj t=rs at hl hr hR1
 refine⟨fun q f o c=>∃i:Nat,i≤rs.length∧q=rs.length - i∧c=2∧f=[(1,.ptr 1 0),(14,.sl 5 (rs.map yX) false),(15,.s (.int .i64 rs.length)),(16,.s (.int .i64 i))]∧o=TN t ((s.add (dH 1 rs.length)).add ((rs.take i).flatMap I5)),⟨rs.length,?_⟩,?_⟩
 ·refine⟨[],[some 0,some 1],?_⟩
  iterate 3 constructor
  refine⟨⟨?_,?_,?_⟩,⟨0,Nat.zero_le _,rfl,rfl,rfl,rfl⟩⟩
  all_goals(repeat' first|exact LF|constructor)
  ·exact Lz.int (by rw[List.length_map])
  ·exact Lz.of (by simp)
 ·rintro q f1 o1 c1 ⟨i,hi,rfl,rfl,rfl,rfl⟩;refine wh ?_;refine sp ?_ ?_<;>intro h
  ·have h:i<rs.length:=by have h:(i:Int)<rs.length:=h
                          omega
   have hx:=hr _ (List.getElem_mem h);have uY:=Bt (rs.take i);rw[List.length_take,Nat.min_eq_left hi]at uY;have hR2:Room ((s.add (dH 1 rs.length)).add ((rs.take i).flatMap I5)) (k - 1 - i*26):=hR1.add (by rw[uY];omega);refine wh ?_;refine oB h ?_;refine wh ?_;rw[show IntKind.u64.wrap rs[i].ao=rs[i].ao from IntWalk.u64_in _ (by have:=hx.ao;omega)];refine⟨[],[some 1],_,_,_,_,jr _ rs[i].ao 1 _ hR2 om (by decide) (by decide) hx.ao.1 (by have:=hx.ao;omega) (by have:=hx.ao;omega),t3,cw ?_⟩;have hR3:=hR2.add (x:=dH 1 rs[i].ao.toNat) (j:=k - 1 - i*26 - 1) (by rw[cE];omega)
   refine⟨[],[some 1],_,_,_,_,jr _ rs[i].num 8 _ hR3 om (by decide) (by decide) hx.num.1 hx.num.2 (by have:=hx.num;omega),t3,cw ?_⟩;have hR4:=hR3.add (x:=dH 8 rs[i].num.toNat) (j:=k - 1 - i*26 - 9) (by rw[cE];omega);refine⟨[],[some 1],_,_,_,_,jr _ rs[i].seq 8 _ hR4 om (by decide) (by decide) hx.seq.1 hx.seq.2 (by have:=hx.seq;omega),t3,cw ?_⟩;have hR5:=hR4.add (x:=dH 8 rs[i].seq.toNat) (j:=k - 1 - i*26 - 17) (by rw[cE];omega);rw[show IntKind.u64.wrap rs[i].code=rs[i].code from IntWalk.u64_in _ (by have:=hx.code;omega)]
   refine⟨[],[some 1],_,_,_,_,jr _ rs[i].code 1 _ hR5 om (by decide) (by decide) hx.code.1 (by have:=hx.code;omega) (by have:=hx.code;omega),t3,cw ?_⟩;have hR6:=hR5.add (x:=dH 1 rs[i].code.toNat) (j:=k - 1 - i*26 - 18) (by rw[cE];omega);refine⟨[],[some 1],_,_,_,_,jr _ rs[i].ey 8 _ hR6 om (by decide) (by decide) hx.ey.1 hx.ey.2 (by have:=hx.ey;omega),t3,cw ?_⟩;refine⟨rs.length - (i+1),?_,om⟩;refine⟨[],[some 0,some 1],?_⟩
   iterate 3 constructor
   refine⟨⟨?_,?_,?_⟩,⟨i+1,h,rfl,rfl,rfl,rfl⟩⟩
   all_goals(repeat' first|exact LF|constructor)
   all_goals exact Lz.of (congrArg (fun x=>TO.arr 1 true (bm x)) (by simp only[I5,DL I5 h,List.append_assoc]))
  ·obtain rfl:i=rs.length:=by have h:¬(i:Int)<rs.length:=h;omega
   rw[List.take_length];refine wh ?_;refine⟨[],[some 0,some 1],?_⟩
   iterate 3 constructor
   refine⟨⟨?_,?_,?_⟩,rfl,rfl,rfl⟩
   all_goals(repeat' first|exact LF|constructor)
   all_goals exact Lz.of (congrArg (fun x=>TO.arr 1 true (bm x)) (by simp only[DK,List.append_assoc]))
theorem Pz:jH []=iL:=by show Vm [] _=_;exact Xf _
theorem TP (vs:List Vs):jH vs=iL∨jH vs∈vs:=by
 rcases Bq vs with rfl |⟨ws,w,rfl⟩
 ·exact .inl Pz
 ·rw[iW];exact .inr (by simp)
@[reducible] def PA (k:Int) (v:Vs):List Int:=dH 4 k.toNat++dH 8 v.ey.toNat++dH 8 v.seq.toNat++(dH 2 v.data.length++v.data)
@[reducible] def yY (s:e7) (k:Int):List Int:=PA k (jH (yW s k))
@[reducible] def No (e:Int) (rows:List fw) (n:Nat):List Int:=dH 8 e.toNat++DK rows++dH 2 n
@[reducible] def oL (s:e7):List Int:=No s.e (gj s.t) s.bs.length++(dy (iT s.bs)).flatMap (yY s)
structure yp (s:e7):Prop where
 ok:zr s
 e:0≤s.e∧s.e≤18446744073709551615
 rows:∀r∈gj s.t,Y9 r
 n:s.bs.length≤12
 keys:∀k∈iT s.bs,0≤k∧k≤4294967295
theorem yp.last {s:e7} (H:yp s) (k:Int):Pg (jH (yW s k)):=by
 rcases TP (yW s k)with h|h
 ·rw[h];exact⟨by decide,by decide,by decide⟩
 ·exact(Lo H.ok k).1 _ h
theorem TQ {k:Int} {v:Vs} (h:v.data.length≤2048):(PA k v).length≤2070:=by simp[PA,cE];omega
theorem PB {s:e7} (H:yp s) (l:List Int):(l.flatMap (yY s)).length≤l.length*2070:=by
 induction l with
 |nil=>simp
 |cons k l ih=>
  rw[List.flatMap_cons,List.length_append,List.length_cons];have:=TQ (k:=k) (H.last k).len;show(PA k _).length+_≤_;omega
@[reducible] def afK (s:e7) (x:fx):Ob:=[(0,Xd s),(1,vU s.bs),(2,uF x)]
theorem TR:VC E0 34 0 [.s (.int .i64 1048576)] [] (RR (.ptr 0 0) 1 [(0,uF ⟨[],1048576,0⟩)]):=aa9 1048576
@[reducible] def xH (s:e7):fx:=⟨No s.e (gj s.t) s.bs.length,1048576,0⟩
theorem Lu (s:e7) (H:yp s):VC E0 15 2 [.ptr 0 0] (sK s) (RR (.sl 1 (bm (oL s)) false) 2 (sK s)):=by
 have hn:=H.n;have qY:∀k∈dy (iT s.bs),0≤k∧k≤4294967295:=fun k m=>H.keys k (by unfold dy at m;exact List.mem_mergeSort.1 m);have yM:(dy (iT s.bs)).length=s.bs.length:=by unfold dy;rw[List.length_mergeSort,List.length_map]
 have Vc:=IU s om;have hrl:=xl s.t;have ajB:=Bt (gj s.t);have R0:Room ⟨[],1048576,0⟩ 800000:=⟨rfl,rfl,by decide⟩;have R1:Room (fx.add ⟨[],1048576,0⟩ (dH 8 s.e.toNat)) 799992:=R0.add (by rw[cE];decide);have R2:Room ((fx.add ⟨[],1048576,0⟩ (dH 8 s.e.toNat)).add (DK (gj s.t))) 799000:=R1.add (by unfold DK;rw[List.length_append,cE,ajB];omega);have R3:Room (xH s) 700000:=by
  have:=R2.add (x:=dH 2 s.bs.length) (j:=700000) (by rw[cE];decide);exact this
 refine en L0 Tryz.f15 ?_;refine⟨[],[],_,_,_,_,TR,t3,cw ?_⟩;refine⟨[],[some 2],_,_,_,_,jr ⟨[],1048576,0⟩ s.e 8 800000 R0 (by decide) (by decide) (by decide) H.e.1 H.e.2 (by have:=H.e;omega),t3,cw ?_⟩;refine⟨[],[some 4,some 2],_,_,_,_,Xo s.t _ 799992 R1 (by decide) H.rows,t3,cw ?_⟩;refine wh ?_;rw[List.length_map,show IntKind.u64.wrap ((s.bs.length:Nat):Int)=((s.bs.length:Nat):Int)from IntWalk.u64_in _ om];refine⟨[],[some 2],_,_,_,_,jr _ ((s.bs.length:Nat):Int) 2 799000 R2 (by decide) (by decide) (by decide) om om (by rw[Int.toNat_natCast];omega),t3,cw ?_⟩
 refine⟨[],[some 0,some 1],_,_,_,_,Vc,t3,cw ?_⟩;rw[show(((fx.add ⟨[],1048576,0⟩ (dH 8 s.e.toNat)).add (DK (gj s.t))).add (dH 2 ((s.bs.length:Nat):Int).toNat))=xH s from by rw[Int.toNat_natCast];simp only[fx.add,xH,No,List.nil_append]];have PC:oL s=((xH s).add ((dy (iT s.bs)).flatMap (yY s))).b:=rfl;rw[PC];have GO:=fun n=>PB H ((dy (iT s.bs)).take n);generalize dy (iT s.bs)=ks at qY yM GO
 refine⟨fun q f o c=>∃i:Nat,i≤ks.length∧q=ks.length - i∧c=3∧f=[(0,.ptr 0 0),(3,.ptr 2 0),(33,.sl 1 (ks.map jS) false),(34,.s (.int .i64 ks.length)),(35,.s (.int .i64 i))]∧o=afK s ((xH s).add ((ks.take i).flatMap (yY s))),⟨ks.length,?_⟩,?_⟩
 ·refine⟨[],[some 0,some 1,some 2],?_⟩
  iterate 3 constructor
  refine⟨⟨?_,?_,?_⟩,⟨0,Nat.zero_le _,rfl,rfl,rfl,rfl⟩⟩
  all_goals(repeat' first|exact LF|constructor)
  ·exact Lz.int (by rw[List.length_map])
  ·exact Lz.of (by simp)
 ·rintro q f1 o1 c1 ⟨i,hi,rfl,rfl,rfl,rfl⟩;refine wh ?_;refine sp ?_ ?_<;>intro h
  ·have h:i<ks.length:=by have h:(i:Int)<ks.length:=h
                          omega
   have hx:=qY _ (List.getElem_mem h);have uY:=GO i;rw[List.length_take,Nat.min_eq_left hi]at uY;have Za:=Ng s ks[i] H.ok;have hv:=H.last ks[i];have nX:=DL (yY s) h;rw[show yY s ks[i]=PA ks[i] (jH (yW s ks[i]))from rfl]at nX;have R4:Room ((xH s).add ((ks.take i).flatMap (yY s))) 3000:=R3.add om;generalize hX:(xH s).add ((ks.take i).flatMap (yY s))=X at R4;generalize jH (yW s ks[i])=v at Za hv nX;refine wh ?_;refine oB h ?_;refine⟨[],[some 0,some 1],_,_,_,_,Za,t3,cw ?_⟩;rw[show IntKind.u64.wrap ks[i]=ks[i]from IntWalk.u64_in _ om]
   refine⟨[],[some 2],_,_,_,_,jr X ks[i] 4 3000 R4 (by decide) (by decide) (by decide) hx.1 om om,t3,cw ?_⟩;have R5:=R4.add (x:=dH 4 ks[i].toNat) (j:=2990) (by rw[cE];decide);refine⟨[],[some 2],_,_,_,_,jr _ v.ey 8 2990 R5 (by decide) (by decide) (by decide) hv.ey.1 hv.ey.2 (by have:=hv.ey;omega),t3,cw ?_⟩;have R6:=R5.add (x:=dH 8 v.ey.toNat) (j:=2980) (by rw[cE];decide);refine⟨[],[some 2],_,_,_,_,jr _ v.seq 8 2980 R6 (by decide) (by decide) (by decide) hv.seq.1 hv.seq.2 (by have:=hv.seq;omega),t3,cw ?_⟩;have R7:=R6.add (x:=dH 8 v.seq.toNat) (j:=2970) (by rw[cE];decide)
   refine⟨[],[some 2],_,_,_,_,Ls _ v.data 2970 R7 (by have:=hv.len;omega) (by have:=hv.len;omega),t3,cw ?_⟩;rw[show((((X.add (dH 4 ks[i].toNat)).add (dH 8 v.ey.toNat)).add (dH 8 v.seq.toNat)).add (dH 2 v.data.length++v.data))=(xH s).add ((ks.take (i+1)).flatMap (yY s))from by rw[nX,←hX];simp only[fx.add,PA,List.append_assoc]];refine⟨ks.length - (i+1),?_,om⟩;exact⟨[],[some 0,some 1,some 2],_,_,_,t3,⟨i+1,h,rfl,rfl,rfl,rfl⟩⟩
  ·obtain rfl:i=ks.length:=by have h:¬(i:Int)<ks.length:=h;omega
   have uY:=GO ks.length;rw[List.take_length]at uY;have R4:Room ((xH s).add (ks.flatMap (yY s))) 3000:=R3.add om;rw[List.take_length];generalize (xH s).add (ks.flatMap (yY s))=X at R4;have hd:=Xl X R4.ok (by have:=R4.l;omega);rw[if_pos R4.e,R4.e]at hd;refine wh ?_;refine⟨[],[some 2],_,_,_,_,hd,t3,cw ?_⟩;refine sp ?_ ?_<;>intro h0
   ·exact absurd rfl h0
   ·refine wh ?_;exact⟨[],[some 0,some 1],_,_,_,t3,rfl,rfl,rfl⟩
theorem Bu (d:Int) (r:e7×Nat) (ks:List Int) (i:Nat) (h:i<ks.length):oE d r (ks.take (i+1))=lX d (oE d r (ks.take i)) ks[i]:=by
 unfold oE;rw[List.take_succ_eq_append_getElem h,List.foldl_append];rfl
theorem zr.put {s:e7} (H:zr s) {k:Int} {vs:List Vs} (hv:∀v∈vs,Pg v) (hn:vs.length<100000):zr {s with bs:=qT s.bs k vs}:=⟨fun k' ws h=>by
 rw[wZ]at h;split at h
 ·cases h;exact⟨hv,hn⟩
 ·exact H.v k' ws h⟩
theorem zr.qW {s:e7} (H:zr s) (d k:Int):zr (qW s d k):=by
 unfold Go.M.qW;split
 ·rename_i vs h;obtain⟨hv,hn⟩:=H.v k vs h;exact H.put (fun v m=>hv v (List.mem_of_mem_drop m)) (by rw[List.length_drop];omega)
 ·exact H
theorem PD (d:Int):gQ [] d=0:=by
 show(pB [] d).toNat=0;unfold pB;rw[Lj (by decide)];rfl
theorem I6 (vs:List Vs) (d:Int):gQ vs d≤vs.length:=by
 have hle:=FQ (fun k=>decide (d<(vs.getD k iL).seq)) 0 vs.length (Nat.zero_le _);unfold gQ pB;omega
theorem I7 {s:e7} (H:zr s) (d:Int) (ks:List Int):∀i,i≤ks.length→zr (oE d (s,0) (ks.take i)).1∧(oE d (s,0) (ks.take i)).2≤i*100000
 |0,_=>⟨H,Nat.le_refl _⟩
 |i+1,hi=>by
  obtain⟨h1,h2⟩:=I7 H d ks i om;rw[Bu d _ ks i om];refine⟨h1.qW d _,?_⟩;show _+gQ _ d≤_;have:=I6 (yW (oE d (s,0) (ks.take i)).1 ks[i]) d;have:=(Lo h1 ks[i]).2;omega
theorem TT (s:e7) (d:Int) (H:zr s) (hn:s.bs.length<13):VC E0 91 2 [.ptr 0 0,.s (.int .u64 d)] (sK s)
 (RR (.s (.int .i64 (oE d (s,0) (dy (iT s.bs))).2)) 2 (sK (oE d (s,0) (dy (iT s.bs))).1)):=by
 have hk:=IU s hn;have hlen:(dy (iT s.bs)).length<13:=by unfold dy;rw[List.length_mergeSort,List.length_map];exact hn
 generalize dy (iT s.bs)=ks at hk hlen;have ni:=I7 H d ks;refine en L0 Tryz.f91 ?_;refine⟨[],[some 0,some 1],_,_,_,_,hk,t3,cw ?_⟩;refine⟨fun k f o c=>∃(i:Nat) (r:e7) (n:Nat),oE d (s,0) (ks.take i)=(r,n)∧i≤ks.length∧k=ks.length - i∧c=2∧f=[(0,.ptr 0 0),(1,.s (.int .u64 d)),(5,.s (.int .i64 n)),(9,.sl 1 (ks.map jS) false),(10,.s (.int .i64 ks.length)),(11,.s (.int .i64 i))]∧o=sK r,⟨ks.length,?_⟩,?_⟩
 ·refine⟨[],[some 0,some 1],?_⟩
  iterate 3 constructor
  refine⟨⟨?_,?_,?_⟩,⟨0,s,0,rfl,Nat.zero_le _,rfl,rfl,rfl,rfl⟩⟩
  all_goals(repeat' first|exact LF|constructor)
  all_goals exact Lz.int (by simp)
 ·rintro k f1 o1 c1 ⟨i,r,n,hr,hi,rfl,rfl,rfl,rfl⟩;obtain⟨hs,hb⟩:=ni i hi;rw[hr]at hs hb;have hs:zr r:=hs;have hb:n≤i*100000:=hb;refine wh ?_;refine sp ?_ ?_<;>intro bw
  ·have bw:i<ks.length:=by exact Int.ofNat_lt.1 bw
   have nX:=Bu d (s,0) ks i bw;rw[hr]at nX;refine wh ?_;refine⟨jS ks[i],⟨om,by simp[bw]⟩,?_⟩;refine wh ?_;cases h:eS r.bs ks[i]with
   |none=>
    refine⟨[],[some 0,some 1],_,_,_,_,IS r ks[i] h,t3,cw ?_⟩;refine⟨[],[],_,_,_,_,Pm d,t3,cw ?_⟩;refine⟨ks.length - (i+1),?_,om⟩;rw[show lX d (r,n) ks[i]=(r,n)from by unfold lX;rw[show qW r d ks[i]=r from by unfold qW;rw[h]];rw[re h,PD];rfl]at nX;rw[show IntKind.i64.wrap ((n:Int)+0)=(n:Int)from by rw[IntWalk.i64_in _ om];omega];exact⟨[],[some 0,some 1],_,_,_,t3,⟨i+1,r,n,nX,om,rfl,rfl,rfl,rfl⟩⟩
   |some vs=>
    obtain⟨hv,hvn⟩:=hs.v _ vs h;have hm:=I6 vs d;refine⟨[],[some 0,some 1],_,_,_,_,IT r ks[i] vs h,t3,cw ?_⟩;refine⟨[],[some 4],_,_,_,_,Tp vs d om,t3,cw ?_⟩;refine⟨ks.length - (i+1),?_,om⟩;have bz:lX d (r,n) ks[i]=({r with bs:=qT r.bs ks[i] (vs.drop (gQ vs d))},n+gQ vs d):=by
     unfold lX;rw[show qW r d ks[i]={r with bs:=qT r.bs ks[i] (vs.drop (gQ vs d))}from by unfold qW;rw[h]];rw[rk h]
    rw[bz]at nX;rw[show IntKind.i64.wrap ((n:Int)+((gQ vs d:Nat):Int))=((n+gQ vs d:Nat):Int)from by rw[IntWalk.i64_in _ om];omega];rw[show IntKind.i64.wrap ((i:Int)+1)=((i+1:Nat):Int)from by rw[IntWalk.i64_in _ om];omega];refine⟨[],[some 0,some 1],_,_,_,⟨tq,.cons (.cells tq) (.cons (.fp (oQ:=[(_,oK (vs.drop (gQ vs d)))]) .one (Lw.of (Lm r.bs ks[i] _)) (.m1 (by rfl) tq)) .nil),by rfl⟩,⟨i+1,{r with bs:=qT r.bs ks[i] (vs.drop (gQ vs d))},n+gQ vs d,nX,om,rfl,rfl,rfl,rfl⟩⟩
  ·have bw:¬i<ks.length:=fun q=>bw (Int.ofNat_lt.2 q);have:i=ks.length:=by omega
   subst this;rw[List.take_length]at hr;rw[hr];refine wh ?_;exact⟨[],[some 0,some 1],_,_,_,t3,rfl,rfl,rfl⟩
@[reducible] def abb (s:e7):TO:=.cells [.s (.int .u64 s.e),.own (vU s.bs),.own (xf s.t)]
@[reducible] def Np (s:e7):Ob:=[(0,abb s)]
theorem I8:VC E0 48 0 [] [] (RR (.ptr 0 0) 1 (Np ⟨0,[],iF⟩)):=by
 refine VC.told (R:=RR (.ptr 0 0) 2 (sK ⟨0,[],iF⟩)) Nh ?_;rintro r o' c' ⟨rfl,rfl,rfl⟩;exact⟨[],[some 0],_,_,_,t3,rfl,rfl,rfl⟩
theorem I9 (s:e7):VC E0 32 1 [.ptr 0 0] (Np s) (RR (.s (.int .u64 s.e)) 1 (Np s)):=by
 have mL:=aa4 s;refine VC.told (R:=RR (.s (.int .u64 s.e)) 5 (sK s)) (VC.Dz (m0:=0) rfl ?_) ?_
 ·show vi false (VC E0) _ _ [(1,vU s.bs),(2,xf s.t),(0,.cells [.s (.int .u64 s.e),.mp 1,.ptr 2 0])] 3 _;refine⟨[],[some 0,some 1],_,_,_,_,mL,t3,?_⟩;rintro r o' c' ⟨rfl,rfl,rfl⟩;exact⟨rfl,rfl,rfl⟩
 ·rintro r o' c' ⟨rfl,rfl,rfl⟩;exact⟨[],[some 0],_,_,_,t3,rfl,rfl,rfl⟩
theorem Lv (s:e7) (c n:Int):VC E0 58 1 [.ptr 0 0,.s (.int .i64 c),.s (.int .u64 n)] (Np s) (RR (.s (.int .i64 (di s.t c n))) 1 (Np s)):=by
 have mL:=Po s c n;refine VC.told (R:=RR (.s (.int .i64 (di s.t c n))) 5 (sK s)) (VC.Dz (m0:=0) rfl ?_) ?_
 ·show vi false (VC E0) _ _ [(1,vU s.bs),(2,xf s.t),(0,.cells [.s (.int .u64 s.e),.mp 1,.ptr 2 0])] 3 _;refine⟨[],[some 0,some 1],_,_,_,_,mL,t3,?_⟩;rintro r o' c' ⟨rfl,rfl,rfl⟩;exact⟨rfl,rfl,rfl⟩
 ·rintro r o' c' ⟨rfl,rfl,rfl⟩;exact⟨[],[some 0],_,_,_,t3,rfl,rfl,rfl⟩
theorem TU (s:e7) (c:Int):VC E0 59 1 [.ptr 0 0,.s (.int .i64 c)] (Np s) (RR (Xb (iM s.t c)) 1 (Np s)):=by
 have mL:=Xg s c;refine VC.told (R:=RR (Xb (iM s.t c)) 5 (sK s)) (VC.Dz (m0:=0) rfl ?_) ?_
 ·show vi false (VC E0) _ _ [(1,vU s.bs),(2,xf s.t),(0,.cells [.s (.int .u64 s.e),.mp 1,.ptr 2 0])] 3 _;refine⟨[],[some 0,some 1],_,_,_,_,mL,t3,?_⟩;rintro r o' c' ⟨rfl,rfl,rfl⟩;exact⟨rfl,rfl,rfl⟩
 ·rintro r o' c' ⟨rfl,rfl,rfl⟩;exact⟨[],[some 0],_,_,_,t3,rfl,rfl,rfl⟩
theorem PE (s:e7) (u:dx) (H:zr s) (hu:Qv u):VC E0 102 1 [.ptr 0 0,.agg (cD u)] (Np s) (RR (aa5 (qV s u).1) 1 (Np (qV s u).2)):=by
 have mL:=Tu s u H hu;refine VC.told (R:=RR (aa5 (qV s u).1) 5 (sK (qV s u).2)) (VC.Dz (m0:=0) rfl ?_) ?_
 ·show vi false (VC E0) _ _ [(1,vU s.bs),(2,xf s.t),(0,.cells [.s (.int .u64 s.e),.mp 1,.ptr 2 0])] 3 _;refine⟨[],[some 0,some 1],_,_,_,_,mL,t3,?_⟩;rintro r o' c' ⟨rfl,rfl,rfl⟩;exact⟨rfl,rfl,rfl⟩
 ·rintro r o' c' ⟨rfl,rfl,rfl⟩;exact⟨[],[some 0],_,_,_,t3,rfl,rfl,rfl⟩
theorem DM (s:e7) (d:Int) (H:zr s) (hn:s.bs.length<13):VC E0 91 1 [.ptr 0 0,.s (.int .u64 d)] (Np s) (fun r o c=>∃n,r= .s (.int .i64 n)∧c=1∧o=Np (tA s d)):=by
 have mL:=TT s d H hn;rw[←S6]at mL;refine VC.told (R:=RR (.s (.int .i64 (oE d (s,0) (dy (iT s.bs))).2)) 5 (sK (tA s d))) (VC.Dz (m0:=0) rfl ?_) ?_
 ·show vi false (VC E0) _ _ [(1,vU s.bs),(2,xf s.t),(0,.cells [.s (.int .u64 s.e),.mp 1,.ptr 2 0])] 3 _;refine⟨[],[some 0,some 1],_,_,_,_,mL,t3,?_⟩;rintro r o' c' ⟨rfl,rfl,rfl⟩;exact⟨rfl,rfl,rfl⟩
 ·rintro r o' c' ⟨rfl,rfl,rfl⟩;exact⟨[],[some 0],_,_,_,t3,_,rfl,rfl,rfl⟩
theorem F4 (s:e7) (H:yp s):VC E0 15 1 [.ptr 0 0] (Np s) (RR (.sl 1 (bm (oL s)) false) 1 (Np s)):=by
 have mL:=Lu s H;refine VC.told (R:=RR (.sl 1 (bm (oL s)) false) 5 (sK s)) (VC.Dz (m0:=0) rfl ?_) ?_
 ·show vi false (VC E0) _ _ [(1,vU s.bs),(2,xf s.t),(0,.cells [.s (.int .u64 s.e),.mp 1,.ptr 2 0])] 3 _;refine⟨[],[some 0,some 1],_,_,_,_,mL,t3,?_⟩;rintro r o' c' ⟨rfl,rfl,rfl⟩;exact⟨rfl,rfl,rfl⟩
 ·rintro r o' c' ⟨rfl,rfl,rfl⟩;exact⟨[],[some 0],_,_,_,t3,rfl,rfl,rfl⟩
end Go.M
