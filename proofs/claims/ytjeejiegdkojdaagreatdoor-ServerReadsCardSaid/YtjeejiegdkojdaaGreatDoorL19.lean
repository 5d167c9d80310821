/-
  Part 19 of the library that the proof leans on.
-/
import Derived.Test.YtjeejiegdkojdaaGreatDoorL12
import Derived.Test.YtjeejiegdkojdaaGreatDoorL18
import Derived.Test.YtjeejiegdkojdaaGreatDoorL17
namespace Go.M
open Go Go.Proofs
set_option maxRecDepth 100000
set_option maxHeartbeats 4000000
@[reducible] def YR (l:List bd):TO:=.arr 7 true (l.map b6)
theorem pK (after:Int):∀(l:List bd) (left:Int) (u:bd),bR after (l++[u]) left=bR after l left++(if u.seq≤after∨left - (bR after l left).length<1 then []else [u])
 |[],left,u=>by
  show bR after [u] left=[]++_;unfold bR;simp only[bR,List.length_nil,List.nil_append];split<;>split<;>first|rfl |(rename_i h1 h2;exact absurd (by simpa using h1) (by simpa using h2))|(rename_i h1 h2;exact absurd (by simpa using h2) (by simpa using h1))
 |x::l,left,u=>by
  show bR after (x::(l++[u])) left=bR after (x::l) left++_;unfold bR;split
  ·exact pK after l left u
  ·rw[pK after l (left - 1) u,List.cons_append];have:left - 1 - ((bR after l (left - 1)).length:Int)=left - (((x::bR after l (left - 1)).length:Nat):Int):=by simp;omega
   rw[this]
theorem lf (after:Int):∀(l:List bd) (left:Int),(bR after l left).length≤l.length
 |[],_=>Nat.le_refl _
 |u::l,left=>by
  unfold bR;split
  ·have:=lf after l left;simp;omega
  ·have:=lf after l (left - 1);simp;omega
theorem lR (after:Int):∀(l:List bd) (left:Int),0≤left→((bR after l left).length:Int)≤left
 |[],left,h=>by simpa[bR]using h
 |u::l,left,h=>by
  unfold bR;split
  ·exact lR after l left h
  ·have:=lR after l (left - 1) om;simp;omega
theorem rW (after:Int):∀(l:List bd) (left:Int) (u:bd),u∈bR after l left→u∈l
 |[],_,u,h=>by cases h
 |x::l,left,u,h=>by
  unfold bR at h;split at h
  ·exact List.mem_cons_of_mem _ (rW after l left u h)
  ·rcases List.mem_cons.1 h with rfl |h
   ·exact List.mem_cons_self
   ·exact List.mem_cons_of_mem _ (rW after l (left - 1) u h)
@[reducible] def JJ (n:Int):TO:=.cells [.s (.int .u64 n)]
@[reducible] def Xv (n:Int):TO:=.cells [.s (.int .i64 n)]
theorem LW (after left:Int) (u:bd) (h:u.seq≤after∨left<1):VC E0 227 2 [.agg (b6 u),.ptr 0 0,.ptr 1 0] [(0,JJ after),(1,Xv left)] (RR (.s (.bool false)) 2 [(0,JJ after),(1,Xv left)]):=by
 refine en L0 Tryz.f227 ?_;refine sp ?_ ?_<;>intro h1
 ·refine wh ?_;exact⟨[],[some 0,some 1],_,_,_,t3,rfl,rfl,rfl⟩
 ·refine wh ?_;refine sp ?_ ?_<;>intro h2
  ·refine wh ?_;exact⟨[],[some 0,some 1],_,_,_,t3,rfl,rfl,rfl⟩
  ·exact absurd h (by intro q;rcases q with q|q;exact h1 q;exact h2 q)
theorem Ih (after left:Int) (u:bd) (h:¬(u.seq≤after∨left<1)) (hl:left<1000000):VC E0 227 2 [.agg (b6 u),.ptr 0 0,.ptr 1 0] [(0,JJ after),(1,Xv left)] (RR (.s (.bool true)) 2 [(0,JJ after),(1,Xv (left - 1))]):=by
 have hw:IntKind.i64.wrap (left - 1)=left - 1:=IntWalk.i64_in _ om;refine en L0 Tryz.f227 ?_;refine sp ?_ ?_<;>intro h1
 ·exact absurd (.inl h1) h
 ·refine wh ?_;refine sp ?_ ?_<;>intro h2
  ·exact absurd (.inr h2) h
  ·refine wh ?_;rw[hw];exact⟨[],[some 0,some 1],_,_,_,t3,rfl,rfl,rfl⟩
@[reducible] def aa7 (a b:Nat):TV:=.cH 227 [] [.ptr a 0,.ptr b 0]
theorem PG (l:List bd) (after left:Int) (hl:l.length<100000) (h0:0≤left∧left<100000) (hd:∀u∈l,u.data.length<1000000):VC E0 158 3 [.tk 0,aa7 1 2] [(0,YR l),(1,JJ after),(2,Xv left)]
 (RR (.sl 7 ((bR after l left).map b6) false) 3 [(0,YR l),(1,JJ after),(2,Xv (left - (bR after l left).length))]):=by
 refine en L0 Tryz.f158 ?_;refine⟨fun k f o c=>∃i:Nat,i≤l.length∧k=l.length - i∧c=4∧f=[(1,aa7 1 2),(5,.tk 3),(8,.tk 0),(9,.s (.int .i64 l.length)),(10,.s (.int .i64 i))]∧o=[(0,YR l),(1,JJ after),(2,Xv (left - (bR after (l.take i) left).length)),(3,.arr 7 true ((bR after (l.take i) left).map b6))],⟨l.length,?_⟩,?_⟩
 ·refine⟨[],[some 0,some 1,some 2,none],?_⟩
  iterate 3 constructor
  refine⟨⟨?_,?_,?_⟩,⟨0,Nat.zero_le _,rfl,rfl,rfl,rfl⟩⟩
  all_goals(repeat' first|exact LF|constructor)
  ·exact Lz.int (by rw[List.length_map])
  ·exact Lz.int (by simp[bR])
 ·rintro k f1 o1 c1 ⟨i,hi,rfl,rfl,rfl,rfl⟩;refine wh ?_;refine sp ?_ ?_<;>intro h
  ·have h:i<l.length:=by have h:(i:Int)<l.length:=h
                         omega
   have hs:bR after (l.take (i+1)) left=bR after (l.take i) left++(if l[i].seq≤after∨left - (bR after (l.take i) left).length<1 then []else [l[i]]):=by rw[gj l i h,pK]
   have II:=lf after (l.take i) left;have dx:=lR after (l.take i) left h0.1;rw[List.length_take]at II;have U7:=hd _ (List.getElem_mem h);have Gq:IntKind.i64.wrap ((i:Int)+1)=((i+1:Nat):Int):=IntWalk.i64_in _ om;refine wh ?_;refine⟨⟨om,by rw[List.length_map];omega⟩,?_⟩;refine wh ?_;refine⟨b6 l[i],by simp[h],?_⟩;refine wh ?_;by_cases hq:l[i].seq≤after∨left - (bR after (l.take i) left).length<1
   ·rw[if_pos hq,List.append_nil]at hs;refine⟨[],[some 1,some 2],_,_,_,_,LW after _ l[i] hq,t3,cw ?_⟩;refine⟨l.length - (i+1),?_,om⟩;rw[Gq,←hs];exact⟨[],[some 0,some 1,some 2,some 3],_,_,_,t3,⟨i+1,h,rfl,rfl,rfl,rfl⟩⟩
   ·rw[if_neg hq]at hs;refine⟨[],[some 1,some 2],_,_,_,_,Ih after _ l[i] hq om,t3,cw ?_⟩;refine⟨[],[],_,_,_,_,pI l[i].data U7,t3,cw ?_⟩;refine⟨by simp;omega,?_⟩;refine wh ?_;refine⟨l.length - (i+1),?_,om⟩;rw[Gq];refine⟨[],[some 0,some 1,some 2,some 8],?_⟩
    iterate 3 constructor
    refine⟨⟨?_,?_,?_⟩,⟨i+1,h,rfl,rfl,rfl,rfl⟩⟩
    all_goals(repeat' first|exact LF|constructor)
    all_goals first|exact Lz.int (by rw[hs,List.length_append];simp;omega)|exact Lz.of (by rw[hs,List.map_append];rfl)
  ·obtain rfl:i=l.length:=by have h:¬(i:Int)<l.length:=h;omega
   rw[List.take_length];refine wh ?_;exact⟨[3],[some 0,some 1,some 2],_,_,_,t3,rfl,rfl,rfl⟩
theorem Fq (l:List bd) (after left:Int) (hl:l.length<100000) (h0:0≤left∧left<100000) (hd:∀u∈l,u.data.length<1000000):VC E0 164 1 [.tk 0,.s (.int .u64 after),.s (.int .i64 left)] [(0,YR l)]
 (RR (.sl 7 ((bR after l left).map b6) false) 1 [(0,YR l)]):=by
 refine en L0 Tryz.f164 ?_;refine⟨[],[some 0,some 1,some 2],_,_,_,_,PG l after left hl h0 hd,t3,cw ?_⟩;exact⟨[],[some 0],_,_,_,t3,rfl,rfl,rfl⟩
theorem PH (u:bd):VC E0 262 0 [.agg (b6 u)] [] (RR (.s (.bool true)) 0 []):=by
 refine en L0 Tryz.f262 ?_;exact⟨[],[],_,_,_,t3,rfl,rfl,rfl⟩
theorem PI (u:bd) (hd:u.data.length≤2048):VC E0 158 0 [.sl 7 [b6 u] false,.cH 262 [] []] [] (RR (.sl 7 [b6 u] false) 0 []):=by
 refine VC.bE L0 (show E0.func 158=some Tryz.f158 by kernel_rfl) (fun _ _=>rfl) rfl rfl [999999] ?_;refine wh ?_
 repeat((first|(refine⟨fun h_=>?_,fun h_=>?_⟩)|(refine aA (fun h_=>?_) (fun h_=>?_))|(refine az (fun h_=>?_) (fun h_=>?_)))<;>first|(exfalso;revert h_;decide;done)|(exfalso;revert h_;simp;done)|(have bq:=True.intro;clear bq;(conv=>whnf)))
 refine⟨b6 u,⟨by decide,rfl⟩,?_⟩;refine wh ?_;refine⟨[],[],_,_,_,_,PH u,t3,cw ?_⟩;refine⟨[],[],_,_,_,_,pI u.data om,t3,cw ?_⟩;refine⟨by simp,?_⟩;refine wh ?_;rw[UU]
 repeat((first|(refine⟨fun h_=>?_,fun h_=>?_⟩)|(refine aA (fun h_=>?_) (fun h_=>?_))|(refine az (fun h_=>?_) (fun h_=>?_)))<;>first|(exfalso;revert h_;decide;done)|(exfalso;revert h_;simp;done)|(have bq:=True.intro;clear bq;(conv=>whnf)))
 exact⟨[2],[],_,_,_,t3,rfl,rfl,rfl⟩
theorem PJ (u:bd) (hd:u.data.length≤2048):VC E0 219 0 [.sl 7 [b6 u] false] [] (RR (.sl 7 [b6 u] false) 0 []):=by
 refine en L0 Tryz.f219 ?_;refine⟨[],[],_,_,_,_,PI u hd,t3,cw ?_⟩;exact⟨[],[],_,_,_,t3,rfl,rfl,rfl⟩
@[reducible] def Xw (w:gW):TO:=.cells [.s (.int .u64 w.low),.s (.int .u64 w.done),.own (YR w.l)]
@[reducible] def iS (w:gW):Ob:=[(0,Xw w)]
structure tC (w:gW):Prop where
 low:0≤w.low∧w.low≤50000
 done:0≤w.done∧w.done≤50000
 len:w.l.length≤10000
 data:∀u∈w.l,u.data.length≤2048
theorem aes {w:gW} (H:tC w):IntKind.u64.wrap (w.low+IntKind.u64.wrap (((w.l.map b6).length:Nat):Int))=aO w:=by
 have:=H.low;have:=H.len;rw[List.length_map,IntWalk.u64_in ((w.l.length:Nat):Int) om,IntWalk.u64_in _ om]
theorem Td (n:Int):VC E0 71 0 [.s (.int .u64 n)] [] (RR (.ptr 0 0) 1 (iS ⟨n,n,[]⟩)):=by
 refine en L0 Tryz.f71 ?_;exact⟨[],[some 0],_,_,_,t3,rfl,rfl,rfl⟩
theorem eO (w:gW) (H:tC w):VC E0 57 1 [.ptr 0 0] (iS w) (RR (.s (.int .u64 (aO w))) 1 (iS w)):=by
 have hw:=aes H;refine en L0 Tryz.f57 ?_
 repeat((first|(refine⟨fun h_=>?_,fun h_=>?_⟩)|(refine aA (fun h_=>?_) (fun h_=>?_))|(refine az (fun h_=>?_) (fun h_=>?_)))<;>first|(exfalso;revert h_;decide;done)|(exact absurd rfl h_)|(have bq:=True.intro;clear bq;(conv=>whnf)))
 rw[hw];exact⟨[],[some 0],_,_,_,t3,rfl,rfl,rfl⟩
theorem m8 (w:gW):VC E0 104 1 [.ptr 0 0] (iS w) (RR (.s (.int .u64 w.done)) 1 (iS w)):=by
 refine en L0 Tryz.f104 ?_
 repeat((first|(refine⟨fun h_=>?_,fun h_=>?_⟩)|(refine aA (fun h_=>?_) (fun h_=>?_))|(refine az (fun h_=>?_) (fun h_=>?_)))<;>first|(exfalso;revert h_;decide;done)|(exact absurd rfl h_)|(have bq:=True.intro;clear bq;(conv=>whnf)))
 exact⟨[],[some 0],_,_,_,t3,rfl,rfl,rfl⟩
theorem PK (w:gW) (H:tC w) (h:aO w<32):VC E0 210 1 [.ptr 0 0] (iS w) (RR (.dF []) 1 (iS w)):=by
 have hw:=eO w H;refine en L0 Tryz.f210 ?_;refine⟨[],[some 0],_,_,_,_,hw,t3,cw ?_⟩;refine sp ?_ ?_<;>intro h1
 ·refine wh ?_;exact⟨[],[some 0],_,_,_,t3,rfl,rfl,rfl⟩
 ·exact absurd h h1
theorem Fs (w:gW) (H:tC w):VC E0 210 1 [.ptr 0 0] (iS w) (RR (.dF []) 1 (iS (lQ w))):=by
 by_cases h:aO w<32
 ·rw[show lQ w=w from if_pos h];exact PK w H h
 have hw:=eO w H;have hE:aO w=w.low+(w.l.length:Nat):=rfl;have Bf:=H.done;have u5:=H.low;have hle:=H.len;have et:lQ w={w with low:=max w.low (min w.done (aO w - 32)),l:=w.l.drop (max w.low (min w.done (aO w - 32)) - w.low).toNat}:=if_neg h;rw[et];refine en L0 Tryz.f210 ?_;refine⟨[],[some 0],_,_,_,_,hw,t3,cw ?_⟩;refine sp ?_ ?_<;>intro h1
 ·exact absurd h1 h
 obtain⟨lo,aa8⟩:∃lo,lo=max w.low (min w.done (aO w - 32)):=⟨_,rfl⟩;rw[←aa8];have Dv:IntKind.u64.wrap (aO w - 32)=aO w - 32:=IntWalk.u64_in _ om;have Gd:(if(if aO w - 32<w.done then aO w - 32 else w.done)>w.low then(if aO w - 32<w.done then aO w - 32 else w.done)else w.low)=lo:=by
  rw[aa8];generalize aO w=e;split<;>split<;>omega
 have xT:IntKind.u64.wrap (lo - w.low)=lo - w.low:=IntWalk.u64_in _ om;have Fu:IntKind.i64.wrap (lo - w.low)=lo - w.low:=IntWalk.i64_in _ om;have QO:List.drop (lo - w.low).toNat (List.take (((w.l.map b6).length:Nat):Int).toNat (w.l.map b6))=(w.l.drop (lo - w.low).toNat).map b6:=by
  rw[List.take_of_length_le (by simp),List.map_drop]
 refine wh ?_;rw[Dv];rw[Gd,xT,Fu];refine⟨⟨om,by rw[List.length_map];omega,rfl,Int.le_refl _⟩,?_⟩;refine wh ?_;rw[QO];refine⟨by simp<;>omega,?_⟩;refine wh ?_;exact⟨[],[some 0],_,_,_,t3,rfl,rfl,rfl⟩
theorem Te (w:gW) (u:bd) (H:tC w) (hu:qz u=0) (hs:u.seq - 1=aO w) (h0:1≤u.seq) (hL:w.l.length<9999):VC E0 157 1 [.ptr 0 0,.agg (b6 u)] (iS w) (RR (.s (.int .i64 0)) 1 (iS (yR w u))):=by
 have hc:=yU u;rw[hu]at hc;have hE:aO w=w.low+(w.l.length:Nat):=rfl;have u5:=H.low;have hle:=H.len;have hdl:u.data.length≤2048:=(JI hu).2;have Dv:IntKind.u64.wrap (u.seq - 1)=u.seq - 1:=IntWalk.u64_in _ om;have fF:=eO w H;have H2:tC {w with l:=w.l++[u]}:=⟨H.low,H.done,by rw[List.length_append];simp;omega,fun x hx=>by
  rcases List.mem_append.1 hx with q|q
  ·exact H.data x q
  ·simp at q;subst q;exact hdl⟩
 have e2:aO {w with l:=w.l++[u]}=aO w+1:=by show w.low+((w.l++[u]).length:Nat)=_;rw[List.length_append,hE];simp;omega
 have VV:=Fs {w with l:=w.l++[u]} H2;have e:yR w u=lQ {w with l:=w.l++[u]}:=by
  unfold yR;rw[if_neg (not_not_intro hu),if_neg (not_not_intro hs)]
 rw[e];refine en L0 Tryz.f157 ?_
 repeat((first|(refine⟨fun h_=>?_,fun h_=>?_⟩)|(refine aA (fun h_=>?_) (fun h_=>?_))|(refine az (fun h_=>?_) (fun h_=>?_)))<;>first|(exfalso;revert h_;decide;done)|(exact absurd rfl h_)|(have bq:=True.intro;clear bq;(conv=>whnf)))
 refine⟨[],[],_,_,_,_,hc,t3,cw ?_⟩
 repeat((first|(refine⟨fun h_=>?_,fun h_=>?_⟩)|(refine aA (fun h_=>?_) (fun h_=>?_))|(refine az (fun h_=>?_) (fun h_=>?_)))<;>first|(exfalso;revert h_;decide;done)|(exact absurd rfl h_)|(have bq:=True.intro;clear bq;((conv=>whnf)<;>repeat(with_reducible refine D1 ?_)<;>conv=>whnf)))
 rw[Dv];refine⟨[],[some 0],_,_,_,_,fF,t3,cw ?_⟩;refine sp ?_ ?_<;>intro bc
 ·exact absurd hs bc
 refine wh ?_;refine⟨[4],[],_,_,_,_,PJ u hdl,t3,cw ?_⟩;refine⟨by simp;omega,?_⟩;refine wh ?_;refine⟨[],[some 0],_,_,_,_,VV,⟨by((repeat' first|exact LF|constructor);all_goals(exact Lz.of (by rw[List.map_append];rfl))),by((repeat' first|exact LF|constructor);all_goals(exact Lz.of (by rw[List.map_append];rfl))),by rfl⟩,?_⟩;rintro r o' c' ⟨rfl,rfl,rfl⟩;refine wh ?_;exact⟨[],[some 0],_,_,_,t3,rfl,rfl,rfl⟩
theorem JK (w:gW) (H:tC w) (bo pF:Int) (h0:0≤pF∧pF<100000) (l:List bd) (h:je w bo pF=some l):VC E0 113 1 [.ptr 0 0,.s (.int .u64 bo),.s (.int .i64 pF)] (iS w) (RR (.dF [.sl 7 (l.map b6) false,.s (.bool true)]) 1 (iS w)):=by
 have fF:=eO w H;unfold je at h;split at h
 ·cases h
 rename_i hn;cases h;rw[not_or]at hn;have hb:=Fq w.l bo pF (by have:=H.len;omega) h0 (fun u hu=>by have:=H.data u hu;omega);refine en L0 Tryz.f113 ?_;refine sp ?_ ?_<;>intro h1
 ·exact absurd h1 hn.1
 refine wh ?_;refine⟨[],[some 0],_,_,_,_,fF,t3,cw ?_⟩;refine sp ?_ ?_<;>intro h2
 ·exact absurd h2 hn.2
 refine wh ?_;refine⟨[],[some 2],_,_,_,_,hb,t3,cw ?_⟩;exact⟨[],[some 0],_,_,_,t3,rfl,rfl,rfl⟩
theorem Xx (w:gW) (n:Int):(if(if aO w<n then aO w else n)>w.done then(if aO w<n then aO w else n)else w.done)=b5 w n:=by
 unfold b5;generalize aO w=e;split<;>split<;>omega
theorem PL (w:gW) (n:Int) (H:tC w) (_:0≤n∧n≤1000000) (hd:w.done≤aO w) (h5:aO w≤50000):VC E0 150 1 [.ptr 0 0,.s (.int .u64 n)] (iS w) (RR (.sl 7 ((cS w n).1.map b6) false) 1 (iS (cS w n).2)):=by
 have fF:=eO w H;have hE:aO w=w.low+(w.l.length:Nat):=rfl;have Bf:=H.done;have u5:=H.low;have hle:=H.len;have hr:w.done≤b5 w n∧b5 w n≤aO w:=by unfold b5;omega
 have H2:tC {w with done:=b5 w n}:=⟨H.low,by show 0≤b5 w n∧b5 w n≤50000;omega,H.len,H.data⟩;have hb:=Fq w.l w.done (b5 w n - w.done) om om (fun u hu=>by have:=H.data u hu;omega);have VV:=Fs {w with done:=b5 w n} H2;have e:cS w n=(bR w.done w.l (b5 w n - w.done),lQ {w with done:=b5 w n}):=rfl;have Dv:IntKind.u64.wrap (b5 w n - w.done)=b5 w n - w.done:=IntWalk.u64_in _ om;have xT:IntKind.i64.wrap (b5 w n - w.done)=b5 w n - w.done:=IntWalk.i64_in _ om;rw[e];refine en L0 Tryz.f150 ?_;refine⟨[],[some 0],_,_,_,_,fF,t3,cw ?_⟩;rw[Xx w n,Dv,xT];refine⟨[],[some 2],_,_,_,_,hb,t3,cw ?_⟩
 refine⟨[],[some 0],_,_,_,_,VV,t3,cw ?_⟩;exact⟨[],[some 0],_,_,_,t3,rfl,rfl,rfl⟩
theorem Bg (w:gW) (H:tC w) (hd:w.done≤aO w):VC E0 58 1 [.ptr 0 0] (iS w) (RR (.s (.int .i64 (jr w))) 1 (iS w)):=by
 have fF:=eO w H;have hE:aO w=w.low+(w.l.length:Nat):=rfl;have Bf:=H.done;have u5:=H.low;have hle:=H.len;have Dv:IntKind.u64.wrap (aO w - w.done)=aO w - w.done:=IntWalk.u64_in _ om;have xT:IntKind.i64.wrap (aO w - w.done)=aO w - w.done:=IntWalk.i64_in _ om;refine en L0 Tryz.f58 ?_;refine⟨[],[some 0],_,_,_,_,fF,t3,cw ?_⟩;refine⟨[],[some 0],_,_,_,_,m8 w,t3,cw ?_⟩;rw[Dv,xT];exact⟨[],[some 0],_,_,_,t3,rfl,rfl,rfl⟩
theorem Fv (w:gW) (H:tC w) (hd:w.done≤aO w):VC E0 106 1 [.ptr 0 0] (iS w) (RR (.s (.bool (decide (jr w<16)))) 1 (iS w)):=by
 have U7:=Bg w H hd;refine en L0 Tryz.f106 ?_;refine⟨[],[some 0],_,_,_,_,U7,t3,cw ?_⟩;refine sp ?_ ?_<;>intro h
 ·have h:jr w<16:=h;refine wh ?_;refine⟨[],[some 0],_,_,_,tx ?_,rfl,rfl,rfl⟩;exact Lz.of (aK (Eq.symm (decide_eq_true h)))
 ·have h:¬jr w<16:=h;refine wh ?_;refine⟨[],[some 0],_,_,_,tx ?_,rfl,rfl,rfl⟩;exact Lz.of (aK (Eq.symm (decide_eq_false h)))
@[reducible] def gl (n:Int):List TV:=[.s (.int .i64 n)]
def b9 (c:CF):List TV:=[.s (.int .i64 c.chain),.s (.int .u64 c.aJ),.sl 1 (c.nodes.map gl) false,.s (.bool c.fresh),.s (.int .i64 c.join)]
theorem Bh (l:List Int) (x:Int) (hl:l.length<1000000):VC E0 122 0 [.sl 1 (l.map gl) false,.s (.int .i64 x)] []
 (fun r o c=>∃i:Int,r= .s (.int .i64 i)∧((x∉l∧i= -1)∨(i=iA x l∧iA x l<l.length))∧c=0∧o=[]):=by
 refine en L0 Tryz.f122 ?_;refine⟨fun k f o c=>∃j:Nat,j≤l.length∧k=l.length - j∧x∉l.take j∧c=0∧f=[(0,.sl 1 (l.map gl) false),(1,.s (.int .i64 x)),(7,.s (.int .i64 l.length)),(8,.s (.int .i64 j))]∧o=[],⟨l.length,?_⟩,?_⟩
 ·refine⟨[],[],_,_,_,tx ?_,⟨0,Nat.zero_le _,rfl,by simp,rfl,rfl,rfl⟩⟩;exact Lz.int (by rw[List.length_map])
 ·rintro k f1 o1 c1 ⟨j,hj,rfl,hn,rfl,rfl,rfl⟩;refine wh ?_;refine sp ?_ ?_<;>intro h
  ·have h:j<l.length:=by have:(j:Int)<(l.length:Nat):=h
                         omega
   refine wh ?_;refine sZ h ?_;refine wh ?_;refine sp ?_ ?_<;>intro he
   ·have he:x=l[j]:=he;have hx:=CX h he.symm hn;refine wh ?_;exact⟨[],[],_,_,_,t3,_,rfl,.inr ⟨by rw[hx],by rw[hx];exact h⟩,rfl,rfl⟩
   ·have he:¬x=l[j]:=he;refine wh ?_;refine⟨l.length - (j+1),?_,om⟩;exact⟨[],[],_,_,_,t3,⟨j+1,h,rfl,(by rw[List.take_succ_eq_append_getElem h];simp only[List.mem_append,List.mem_singleton,not_or];exact⟨hn,he⟩),rfl,rfl,rfl⟩⟩
  ·have hj':j=l.length:=by have:¬(j:Int)<(l.length:Nat):=h
                           omega
   subst hj';rw[List.take_length]at hn;refine wh ?_;exact⟨[],[],_,_,_,t3,_,rfl,.inl ⟨hn,rfl⟩,rfl,rfl⟩
theorem LX (l:List Int) (x:Int) (hl:l.length<1000000):VC E0 122 0 [.sl 1 (l.map gl) false,.s (.int .i64 x)] []
 (fun r o c=>∃i:Int,r= .s (.int .i64 i)∧(0≤i↔x∈l)∧c=0∧o=[]):=
 (Bh l x hl).mono fun r o c ⟨i,h1,h2,h3⟩=>⟨i,h1,by
  rcases h2 with⟨q,rfl⟩|⟨rfl,q⟩
  ·exact⟨fun h=>absurd h (by decide),fun h=>absurd h q⟩
  ·exact⟨fun _=>Fh q,fun _=>Int.natCast_nonneg _⟩,h3⟩
theorem kC (l:List Int) (x:Int) (hl:l.length<1000000):VC E0 56 0 [.sl 1 (l.map gl) false,.s (.int .i64 x)] [] (RR (.s (.bool (decide (x∈l)))) 0 []):=by
 refine en L0 Tryz.f56 ?_;refine⟨[],[],_,_,_,_,LX l x hl,t3,?_⟩;rintro r o' c' ⟨i,rfl,hi,rfl,rfl⟩;refine wh ?_;refine sp ?_ ?_<;>intro wo
 ·have wo:i≥0:=wo;refine wh ?_;refine⟨[],[],_,_,_,tx ?_,rfl,rfl,rfl⟩;exact Lz.of (aK (Eq.symm (decide_eq_true (hi.1 wo))))
 ·have wo:¬i≥0:=wo;refine wh ?_;refine⟨[],[],_,_,_,tx ?_,rfl,rfl,rfl⟩;exact Lz.of (aK (Eq.symm (decide_eq_false (mt hi.2 wo))))
theorem uP (l:List Int) (hl:l.length<1000000):VC E0 176 0 [.sl 1 (l.map gl) false] [] (RR (.tk 0) 1 [(0,.arr 1 true (l.map gl))]):=by
 refine en L0 Tryz.f176 ?_;refine⟨fun h=>?_,?_⟩
 ·have h:l=[]:=by simpa using h
  subst h;refine wh ?_;exact⟨[],[none],_,_,_,t3,rfl,rfl,rfl⟩
 ·refine wh ?_;refine⟨by simp;omega,?_⟩;refine wh ?_;exact⟨[],[some 1],_,_,_,t3,rfl,rfl,rfl⟩
def U8 (n:Int):Bool:=decide (1≤n∧n≤24)
theorem PM (n:Int):VC E0 212 0 [.s (.int .i64 n)] [] (RR (.s (.bool (U8 n))) 0 []):=by
 refine en L0 Tryz.f212 ?_;refine sp ?_ ?_<;>intro h1
 ·have h1:n≥1:=h1;refine wh ?_;refine sp ?_ ?_<;>intro h2
  ·have h2:n≤24:=h2;refine wh ?_;refine⟨[],[],_,_,_,tx ?_,rfl,rfl,rfl⟩;exact Lz.of (aK (Eq.symm (decide_eq_true ⟨h1,h2⟩)))
  ·have h2:¬n≤24:=h2;refine wh ?_;refine⟨[],[],_,_,_,tx ?_,rfl,rfl,rfl⟩;exact Lz.of (aK (Eq.symm (decide_eq_false fun h=>h2 h.2)))
 ·have h1:¬n≥1:=h1;refine wh ?_;refine⟨[],[],_,_,_,tx ?_,rfl,rfl,rfl⟩;exact Lz.of (aK (Eq.symm (decide_eq_false fun h=>h1 h.1)))
def kD (l:List Int):Prop:=l.Nodup∧∀n∈l,1≤n∧n≤24
instance (l:List Int):Decidable (kD l):=inferInstanceAs (Decidable (_∧_))
theorem Fw (l:List Int) (n:Int):kD (l++[n])↔kD l∧(1≤n∧n≤24)∧n∉l:=by
 unfold kD;rw[List.nodup_append];constructor
 ·rintro⟨⟨h1,_,h2⟩,h3⟩;exact⟨⟨h1,fun m hm=>h3 m (List.mem_append_left _ hm)⟩,h3 n (by simp),fun hm=>h2 n hm n (by simp) rfl⟩
 ·rintro⟨⟨h1,h2⟩,h3,h4⟩;refine⟨⟨h1,by simp,fun a ha b hb=>?_⟩,fun m hm=>?_⟩
  ·simp at hb;subst hb;rintro rfl;exact h4 ha
  ·rcases List.mem_append.1 hm with q|q
   ·exact h2 m q
   ·simp at q;subst q;exact h3
theorem vJ {l:List Int} {i:Nat} (h:kD l):kD (l.take i):=⟨(List.take_sublist i l).nodup h.1,fun n hn=>h.2 n (List.mem_of_mem_take hn)⟩
theorem JL (l:List Int) (hl:l.length<1000000):VC E0 152 0 [.sl 1 (l.map gl) false] [] (RR (.s (.bool (decide (kD l)))) 0 []):=by
 refine en L0 Tryz.f152 ?_;refine⟨fun k f o c=>∃j:Nat,j≤l.length∧k=l.length - j∧kD (l.take j)∧c=0∧f=[(0,.sl 1 (l.map gl) false),(5,.sl 1 (l.map gl) false),(6,.s (.int .i64 l.length)),(7,.s (.int .i64 j))]∧o=[],⟨l.length,?_⟩,?_⟩
 ·refine⟨[],[],_,_,_,tx ?_,⟨0,Nat.zero_le _,rfl,⟨by simp,by simp⟩,rfl,rfl,rfl⟩⟩;exact Lz.int (by rw[List.length_map])
 ·rintro k f1 o1 c1 ⟨j,hj,rfl,hn,rfl,rfl,rfl⟩;refine wh ?_;refine sp ?_ ?_<;>intro h
  ·have h:j<l.length:=by have:(j:Int)<(l.length:Nat):=h
                         omega
   refine wh ?_;refine sZ h ?_;refine wh ?_;have hs:=Fw (l.take j) l[j];rw[←List.take_succ_eq_append_getElem h]at hs;refine⟨[],[],_,_,_,_,PM l[j],t3,?_⟩;rintro r o' c' ⟨rfl,rfl,rfl⟩;have bq:=True.intro;clear bq;cases hb:U8 l[j]
   ·have hb:¬(1≤l[j]∧l[j]≤24):=of_decide_eq_false hb;refine wh ?_;refine⟨[],[],_,_,_,tx ?_,rfl,rfl,rfl⟩;exact Lz.of (aK (Eq.symm (decide_eq_false fun q=>hb (hs.1 (vJ q)).2.1)))
   ·have hb:1≤l[j]∧l[j]≤24:=of_decide_eq_true hb;refine wh ?_;refine⟨⟨om,om,by simp;omega⟩,?_⟩;refine wh ?_;refine⟨[],[],_,_,_,_,kC (l.take j) l[j] (by simp;omega),⟨by((repeat' first|exact LF|constructor);all_goals(exact Lz.of (by simp[List.map_take]))),by((repeat' first|exact LF|constructor);all_goals(exact Lz.of (by simp[List.map_take]))),by rfl⟩,?_⟩;rintro r o' c' ⟨rfl,rfl,rfl⟩;refine wh ?_;by_cases hm:l[j]∈l.take j
    ·rw[decide_eq_true hm];refine wh ?_;refine⟨[],[],_,_,_,tx ?_,rfl,rfl,rfl⟩;exact Lz.of (aK (Eq.symm (decide_eq_false fun q=>(hs.1 (vJ q)).2.2 hm)))
    ·rw[decide_eq_false hm];refine wh ?_;refine⟨l.length - (j+1),?_,om⟩;exact⟨[],[],_,_,_,t3,⟨j+1,h,rfl,hs.2 ⟨hn,hb,hm⟩,rfl,rfl,rfl⟩⟩
  ·have hj':j=l.length:=by have:¬(j:Int)<(l.length:Nat):=h
                           omega
   subst hj';rw[List.take_length]at hn;refine wh ?_;refine⟨[],[],_,_,_,tx ?_,rfl,rfl,rfl⟩;exact Lz.of (aK (Eq.symm (decide_eq_true hn)))
def pL (c:CF):List Int:=c.nodes++(if c.join=0 then []else [c.join])
theorem Ii (c:CF):(pL c).length≤c.nodes.length+1:=by unfold pL;split<;>simp
theorem y5 (c:CF) (hl:c.nodes.length<100000):VC E0 153 0 [.agg (b9 c)] [] (RR (.tk 0) 1 [(0,.arr 1 true ((pL c).map gl))]):=by
 refine en L0 Tryz.f153 ?_;refine sp ?_ ?_<;>intro hj
 ·have hj:c.join=0:=hj;refine wh ?_;refine⟨[],[],_,_,_,_,uP c.nodes om,t3,cw ?_⟩;refine⟨[],[some 1],_,_,_,tx ?_,rfl,rfl,rfl⟩;exact Lz.of (by unfold pL;simp[hj])
 ·have hj:¬c.join=0:=hj;refine wh ?_;refine⟨[],[],_,_,_,_,uP c.nodes om,t3,cw ?_⟩;refine⟨by simp;omega,?_⟩;refine wh ?_;refine⟨[],[some 3],_,_,_,tx ?_,rfl,rfl,rfl⟩;exact Lz.of (by unfold pL;simp[hj])
def bp (c:CF):Prop:=(0≤c.chain∧c.chain<4)∧1≤c.aJ∧(1≤c.nodes.length∧c.nodes.length≤5)∧(c.fresh=true→2≤c.nodes.length∧c.join=0)∧kD (pL c)
instance (c:CF):Decidable (bp c):=inferInstanceAs (Decidable (_∧_))
theorem PN (c:CF):VC E0 99 0 [.agg (b9 c)] [] (RR (.s (.bool (decide (bp c)))) 0 []):=by
 have DK:=Ii c;refine en L0 Tryz.f99 ?_;refine sp ?_ ?_<;>intro h1
 ·have h1:c.chain<0:=h1;refine wh ?_;refine⟨[],[],_,_,_,tx ?_,rfl,rfl,rfl⟩;exact Lz.of (aK (Eq.symm (decide_eq_false fun q=>by obtain⟨⟨_,_⟩,_,⟨_,_⟩,_,_⟩:=q;omega)))
 have h1:¬c.chain<0:=h1;refine wh ?_;refine sp ?_ ?_<;>intro h2
 ·have h2:c.chain≥4:=h2;refine wh ?_;refine⟨[],[],_,_,_,tx ?_,rfl,rfl,rfl⟩;exact Lz.of (aK (Eq.symm (decide_eq_false fun q=>by obtain⟨⟨_,_⟩,_,⟨_,_⟩,_,_⟩:=q;omega)))
 have h2:¬c.chain≥4:=h2;refine wh ?_;refine sp ?_ ?_<;>intro h3
 ·have h3:c.aJ<1:=h3;refine wh ?_;refine⟨[],[],_,_,_,tx ?_,rfl,rfl,rfl⟩;exact Lz.of (aK (Eq.symm (decide_eq_false fun q=>by obtain⟨⟨_,_⟩,_,⟨_,_⟩,_,_⟩:=q;omega)))
 have h3:¬c.aJ<1:=h3;refine wh ?_;refine sp ?_ ?_<;>intro h4
 ·have h4:(((c.nodes.map gl).length:Nat):Int)<1:=h4;rw[List.length_map]at h4;refine wh ?_;refine⟨[],[],_,_,_,tx ?_,rfl,rfl,rfl⟩;exact Lz.of (aK (Eq.symm (decide_eq_false fun q=>by obtain⟨⟨_,_⟩,_,⟨_,_⟩,_,_⟩:=q;omega)))
 have h4:¬(((c.nodes.map gl).length:Nat):Int)<1:=h4;rw[List.length_map]at h4;refine wh ?_;refine sp ?_ ?_<;>intro h5
 ·have h5:(((c.nodes.map gl).length:Nat):Int)>5:=h5;rw[List.length_map]at h5;refine wh ?_;refine⟨[],[],_,_,_,tx ?_,rfl,rfl,rfl⟩;exact Lz.of (aK (Eq.symm (decide_eq_false fun q=>by obtain⟨⟨_,_⟩,_,⟨_,_⟩,_,_⟩:=q;omega)))
 have h5:¬(((c.nodes.map gl).length:Nat):Int)>5:=h5;rw[List.length_map]at h5;refine wh ?_;cases hf:c.fresh
 ·refine wh ?_;refine⟨[],[],_,_,_,_,y5 c om,⟨by((repeat' first|exact LF|constructor);all_goals(exact Lz.of (aK hf.symm))),by((repeat' first|exact LF|constructor);all_goals(exact Lz.of (aK hf.symm))),by rfl⟩,?_⟩;rintro r o' c' ⟨rfl,rfl,rfl⟩;refine wh ?_;refine⟨[1],[],_,_,_,_,JL (pL c) om,t3,cw ?_⟩;refine⟨[],[],_,_,_,tx ?_,rfl,rfl,rfl⟩;exact Lz.of (aK (decide_eq_decide.2 ⟨fun q=>⟨⟨om,om⟩,om,⟨om,om⟩,(fun e=>absurd (hf.symm.trans e) (by decide)),q⟩,fun q=>q.2.2.2.2⟩))
 ·refine wh ?_;refine sp ?_ ?_<;>intro h6
  ·have h6:(((c.nodes.map gl).length:Nat):Int)<2:=h6;rw[List.length_map]at h6;refine wh ?_;refine⟨[],[],_,_,_,tx ?_,rfl,rfl,rfl⟩;exact Lz.of (aK (Eq.symm (decide_eq_false fun q=>by have:=q.2.2.2.1 hf;omega)))
  have h6:¬(((c.nodes.map gl).length:Nat):Int)<2:=h6;rw[List.length_map]at h6;refine wh ?_;refine sp ?_ ?_<;>intro h7
  ·have h7:c.join≠0:=h7;refine wh ?_;refine⟨[],[],_,_,_,tx ?_,rfl,rfl,rfl⟩;exact Lz.of (aK (Eq.symm (decide_eq_false fun q=>by have:=q.2.2.2.1 hf;omega)))
  have h7:c.join=0:=Classical.not_not.1 h7;refine wh ?_;refine⟨[],[],_,_,_,_,y5 c om,⟨by((repeat' first|exact LF|constructor);all_goals(exact Lz.of (aK hf.symm))),by((repeat' first|exact LF|constructor);all_goals(exact Lz.of (aK hf.symm))),by rfl⟩,?_⟩;rintro r o' c' ⟨rfl,rfl,rfl⟩;refine wh ?_;refine⟨[1],[],_,_,_,_,JL (pL c) om,t3,cw ?_⟩;refine⟨[],[],_,_,_,tx ?_,rfl,rfl,rfl⟩;exact Lz.of (aK (decide_eq_decide.2 ⟨fun q=>⟨⟨om,om⟩,om,⟨om,om⟩,(fun e=>⟨om,h7⟩),q⟩,fun q=>q.2.2.2.2⟩))
theorem PO (c:CF) (hn:c.nodes.length<1000000):VC E0 127 0 [.agg (b9 c)] [] (RR (.agg (b9 c)) 0 []):=by
 refine en L0 Tryz.f127 ?_;refine⟨[],[],_,_,_,_,uP c.nodes hn,t3,cw ?_⟩;exact⟨[2],[],_,_,_,t3,rfl,rfl,rfl⟩
@[reducible] def PQ:List TV:=[.s (.int .i64 0),.s (.int .u64 0),.sl 0 [] true,.s (.bool false),.s (.int .i64 0)]
def pM (l:List CF) (j:Nat):List (List TV):=(l.take j).map b9++List.replicate (l.length - j) PQ
theorem LY (l:List CF) (j:Nat) (h:j≤l.length):(pM l j).length=l.length:=by unfold pM;simp;omega
theorem LZ (l:List CF) (j:Nat) (h:j<l.length):(pM l j).set j (b9 l[j])=pM l (j+1):=by
 unfold pM;have e:l.length - j=(l.length - (j+1))+1:=by omega
 have hlen:((l.take j).map b9).length=j:=by rw[List.length_map,List.length_take];omega
 rw[e,List.replicate_succ,List.set_append,if_neg om,hlen,Nat.sub_self,List.take_succ_eq_append_getElem h,List.map_append,List.append_assoc];rfl
theorem L1 (l:List CF) (j:Nat) (h:j<l.length):(pM l j)[j]? =some PQ:=by
 unfold pM;have e:l.length - j=(l.length - (j+1))+1:=by omega
 have hlen:((l.take j).map b9).length=j:=by rw[List.length_map,List.length_take];omega
 rw[e,List.replicate_succ,List.getElem?_append_right om,hlen,Nat.sub_self];rfl
theorem Bi (l:List CF) (hl:l.length<10000) (hn:∀c∈l,c.nodes.length<1000000):VC E0 60 0 [.sl 5 (l.map b9) false] [] (RR (.tk 0) 1 [(0,.arr 5 true (l.map b9))]):=by
 refine en L0 Tryz.f60 ?_;refine⟨⟨om,om,by simp;omega⟩,?_⟩;refine wh ?_;refine⟨fun k f o c=>∃j:Nat,j≤l.length∧k=l.length - j∧c=1∧f=[(3,.tk 0),(9,.sl 5 (l.map b9) false),(10,.s (.int .i64 l.length)),(11,.s (.int .i64 j))]∧o=[(0,.arr 5 true (pM l j))],⟨l.length,?_⟩,?_⟩
 ·refine⟨[],[some 0],?_⟩
  iterate 3 constructor
  refine⟨⟨?_,?_,?_⟩,⟨0,Nat.zero_le _,rfl,rfl,rfl,rfl⟩⟩
  all_goals(repeat' first|exact LF|constructor)
  ·exact Lz.int (by rw[List.length_map])
  ·exact Lz.of (by simp[pM];exact .inr rfl)
 ·rintro k f1 o1 c1 ⟨j,hj,rfl,rfl,rfl,rfl⟩;refine wh ?_;refine sp ?_ ?_<;>intro h
  ·have h:j<l.length:=by have:(j:Int)<(l.length:Nat):=h
                         omega
   refine wh ?_;refine sZ h ?_;refine wh ?_;refine⟨[],[],_,_,_,_,PO l[j] (hn _ (List.getElem_mem h)),t3,cw ?_⟩;refine⟨⟨om,by rw[LY l j hj];omega⟩,?_⟩;refine wh ?_;refine⟨PQ,by rw[Int.toNat_natCast];exact L1 l j h,?_⟩;refine wh ?_;refine⟨l.length - (j+1),?_,om⟩;refine⟨[],[some 0],_,_,_,tx ?_,⟨j+1,h,rfl,rfl,rfl,rfl⟩⟩;exact Lz.of (by rw[Int.toNat_natCast];exact LZ l j h)
  ·have hj':j=l.length:=by have:¬(j:Int)<(l.length:Nat):=h
                           omega
   subst hj';have hc:pM l l.length=l.map b9:=by unfold pM;simp
   rw[hc];refine wh ?_;exact⟨[],[some 0],_,_,_,t3,rfl,rfl,rfl⟩
@[reducible] def JM (r:Jw):List TV:=[.s (.bool r.m7),.s (.bool r.lP),.s (.bool r.head),.s (.bool r.tail),.s (.bool r.waits),.s (.int .i64 r.place),.s (.int .i64 r.pred),.s (.int .i64 r.succ)]
theorem lh (c:CF) (H:bp c):VC E0 99 0 [.agg (b9 c)] [] (RR (.s (.bool true)) 0 []):=by
 have h:=PN c;rw[decide_eq_true H]at h;exact h
theorem y6 (c:CF) (H:bp c):VC E0 117 0 [.agg (b9 c)] [] (RR (.s (.int .i64 (dO c))) 0 []):=by
 have hn:=H.2.2.1;have hw:IntKind.i64.wrap ((((c.nodes.map gl).length:Nat):Int) - 1)=((c.nodes.length - 1:Nat):Int):=by rw[List.length_map,IntWalk.i64_in _ om];omega
 have bH:c.nodes.length - 1<c.nodes.length:=by omega
 have e:dO c=c.nodes[c.nodes.length - 1]:=by unfold dO;simp[List.getD,bH]
 rw[e];refine en L0 Tryz.f117 ?_;refine⟨[],[],_,_,_,_,lh c H,t3,cw ?_⟩;rw[hw];refine sZ bH ?_;refine wh ?_;exact⟨[],[],_,_,_,t3,rfl,rfl,rfl⟩
theorem fC (c:CF) (H:bp c) (node:Int):VC E0 69 0 [.agg (b9 c),.s (.int .i64 node)] [] (RR (.agg (JM (aD c node))) 0 []):=by
 have hn:=H.2.2.1;have ht:=y6 c H;refine en L0 Tryz.f69 ?_;refine⟨[],[],_,_,_,_,lh c H,t3,cw ?_⟩;refine sp ?_ ?_<;>intro h0
 ·have h0:node=0:=h0;have e:aD c node=uM:=by unfold aD;rw[if_pos h0]
  rw[e];refine wh ?_;exact⟨[],[],_,_,_,t3,rfl,rfl,rfl⟩
 have h0:¬node=0:=h0;refine wh ?_;refine sp ?_ ?_<;>intro hj
 ·have hj:node=c.join:=hj;have e:aD c node=⟨false,true,false,false,true,0,dO c,0⟩:=by unfold aD;rw[if_neg h0,if_pos hj]
  rw[e];refine wh ?_;refine⟨[],[],_,_,_,_,ht,t3,cw ?_⟩;exact⟨[],[],_,_,_,t3,rfl,rfl,rfl⟩
 have hj:¬node=c.join:=hj;refine wh ?_;refine⟨[],[],_,_,_,_,Bh c.nodes node om,t3,?_⟩;rintro r o' c' ⟨i,rfl,hi,rfl,rfl⟩;rcases hi with⟨vh,rfl⟩|⟨rfl,bH⟩
 ·have e:aD c node=uM:=by unfold aD;rw[if_neg h0,if_neg hj,if_neg (by rw[Jx vh];omega)]
  rw[e];refine wh ?_
  repeat((first|(refine⟨fun h_=>?_,fun h_=>?_⟩)|(refine aA (fun h_=>?_) (fun h_=>?_))|(refine az (fun h_=>?_) (fun h_=>?_)))<;>first|(exfalso;revert h_;decide;done)|(exact absurd rfl h_)|(have bq:=True.intro;clear bq;(conv=>whnf)))
  exact⟨[],[],_,_,_,t3,rfl,rfl,rfl⟩
 have Fx:aD c node=⟨true,false,decide (iA node c.nodes=0),decide (node=dO c),decide (node=dO c)&&c.fresh,(iA node c.nodes:Nat),if 0<iA node c.nodes then c.nodes.getD (iA node c.nodes - 1) 0 else 0,if decide (node=dO c)then c.join else c.nodes.getD (iA node c.nodes+1) 0⟩:=by
  unfold aD;rw[if_neg h0,if_neg hj,if_pos bH]
 have YS:node≠dO c→iA node c.nodes+1<c.nodes.length:=fun h=>by
  rcases Nat.lt_or_ge (iA node c.nodes+1) c.nodes.length with q|q
  ·exact q
  ·exfalso;apply h;have hx:=Fi bH;unfold dO;rw[show c.nodes.length - 1=iA node c.nodes by omega];simp[List.getD,bH,hx]
 generalize hj0:iA node c.nodes=j at bH YS Fx;have hwp:IntKind.i64.wrap ((j:Int)+1)=((j+1:Nat):Int):=IntWalk.i64_in _ om;refine wh ?_;refine sp ?_ ?_<;>intro PR
 ·have PR:(j:Int)<0:=PR;omega
 refine wh ?_;refine sp ?_ ?_<;>intro hz
 ·have hz:(j:Int)=0:=hz;obtain rfl:j=0:=by omega
  refine wh ?_;refine⟨[],[],_,_,_,_,ht,t3,cw ?_⟩;refine sp ?_ ?_<;>intro oy
  ·have oy:node=dO c:=oy;have e:aD c node=⟨true,false,true,true,c.fresh,0,0,c.join⟩:=by rw[Fx];simp[oy]
   rw[e];refine wh ?_;refine sp ?_ ?_<;>intro hp
   ·exact absurd hp (by decide)
   refine wh ?_;exact⟨[],[],_,_,_,t3,rfl,rfl,rfl⟩
  ·have oy:¬node=dO c:=oy;have Kq:=YS oy;have e:aD c node=⟨true,false,true,false,false,0,0,c.nodes[0+1]⟩:=by rw[Fx];simp[oy,List.getD,Kq]
   rw[e];refine wh ?_;refine sp ?_ ?_<;>intro hp
   ·exact absurd hp (by decide)
   refine wh ?_;rw[hwp];refine sZ Kq ?_;refine wh ?_;exact⟨[],[],_,_,_,t3,rfl,rfl,rfl⟩
 ·have hz:¬(j:Int)=0:=hz;have hwm:IntKind.i64.wrap ((j:Int) - 1)=((j - 1:Nat):Int):=by rw[IntWalk.i64_in _ om];omega
  have Zc:j - 1<c.nodes.length:=by omega
  have hjp:0<j:=by omega
  have hjz:j≠0:=by omega
  refine wh ?_;refine⟨[],[],_,_,_,_,ht,t3,cw ?_⟩;refine sp ?_ ?_<;>intro oy
  ·have oy:node=dO c:=oy;have e:aD c node=⟨true,false,false,true,c.fresh,(j:Nat),c.nodes[j - 1],c.join⟩:=by rw[Fx];simp[oy,hjz,hjp,List.getD,Zc]
   rw[e];refine wh ?_;refine sp ?_ ?_<;>intro hp;rotate_left
   ·have hp:¬(j:Int)>0:=hp;omega
   refine wh ?_;rw[hwm];refine sZ Zc ?_;refine wh ?_;exact⟨[],[],_,_,_,t3,rfl,rfl,rfl⟩
  ·have oy:¬node=dO c:=oy;have Kq:=YS oy;have e:aD c node=⟨true,false,false,false,false,(j:Nat),c.nodes[j - 1],c.nodes[j+1]⟩:=by rw[Fx];simp[oy,hjz,hjp,List.getD,Zc,Kq]
   rw[e];refine wh ?_;refine sp ?_ ?_<;>intro hp;rotate_left
   ·have hp:¬(j:Int)>0:=hp;omega
   refine wh ?_;rw[hwm];refine sZ Zc ?_;refine wh ?_;rw[hwp];refine sZ Kq ?_;refine wh ?_;exact⟨[],[],_,_,_,t3,rfl,rfl,rfl⟩
@[reducible] def nz (r:iy):Bool:=decide (r.num≠0)
@[reducible] def aet (t:ff):List iy:=[t.r1,t.r2,t.r3,t.r4,t.r5,t.r6]
@[reducible] def aba (t:ff):List iy:=(aet t).filter nz
end Go.M
namespace Go.M
open Go
def PS:Nat→Nat→List Int
 |0,_=>[]
 |w+1,n=>PS w (n / 256)++[((n % 256:Nat):Int)]
theorem Fy:∀w n,(PS w n).length=w
 |0,_=>rfl
 |w+1,n=>by unfold PS;rw[List.length_append,Fy w];rfl
def aeu (a b:Int):Int:=(a*256+b) % 18446744073709551616
def abb (l:List Int):Int:=l.foldl aeu 0
structure Tf where
 b:List Int
 e:Int
def Tf.next (s:Tf) (n:Nat):Tf×Option (List Int):=
 if s.e≠0 then(s,none)else if s.b.length<n then(⟨[],3⟩,none)else(⟨s.b.drop n,0⟩,some (s.b.take n))
def Tf.upto (s:Tf) (w:Nat) (m:Int):Tf×Int:=
 match s.next w with
 |(s',none)=>(s',0)
 |(s',some b)=>if abb b>m then(⟨[],4⟩,0)else(s',abb b)
def Tf.get (s:Tf) (w:Nat):Tf×Int:=s.upto w 18446744073709551615
end Go.M
namespace Go.M
open Go Go.Proofs
set_option maxRecDepth 100000
set_option maxHeartbeats 4000000
structure mz where
 b:List Int
 pF:Int
 e:Int
def mz.fail (s:mz) (e:Int):mz:=if s.e=0 then⟨s.b,s.pF,e⟩else s
def mz.put (s:mz) (x:List Int):mz:=if s.e≠0 then s else if(x.length:Int)>s.pF - s.b.length then⟨s.b,s.pF,6⟩else⟨s.b++x,s.pF,0⟩
def mz.num (s:mz) (n w:Nat):mz:=if n<256 ^ w then s.put (PS w n)else s.fail 4
structure mz.ok (s:mz):Prop where
 m:0≤s.pF∧s.pF≤1048576
 l:(s.b.length:Int)≤s.pF
structure Room (s:mz) (k:Nat):Prop where
 e:s.e=0
 m:s.pF=1048576
 l:s.b.length+k≤800000
@[reducible] def mz.add (s:mz) (x:List Int):mz:=⟨s.b++x,s.pF,0⟩
theorem Room.ok {s:mz} {k:Nat} (h:Room s k):s.ok:=⟨by rw[h.m];decide,by have:=h.l;rw[h.m];omega⟩
theorem Room.add {s:mz} {k:Nat} (h:Room s k) {x:List Int} {j:Nat} (hx:x.length+j≤k):Room (s.add x) j:=⟨rfl,h.m,by have:=h.l;show(s.b++x).length+j≤_;rw[List.length_append];omega⟩
theorem Room.put {s:mz} {k:Nat} (h:Room s k) {x:List Int} (hx:x.length≤k):s.put x=s.add x:=by
 have:=h.l;unfold mz.put;rw[if_neg (not_not_intro h.e),if_neg (by rw[h.m];omega)]
theorem Room.num {s:mz} {k:Nat} (h:Room s k) {n w:Nat} (hn:n<256 ^ w) (hw:w≤k):s.num n w=s.add (PS w n):=by
 unfold mz.num;rw[if_pos hn,h.put (by rw[Fy];exact hw)]
structure abc (r:iy):Prop where
 aj:0≤r.aj∧r.aj≤6
 num:0≤r.num∧r.num≤18446744073709551615
 seq:0≤r.seq∧r.seq≤18446744073709551615
 code:0≤r.code∧r.code≤255
 bA:0≤r.bA∧r.bA≤18446744073709551615
theorem L2:ba []=cu:=by show v5 [] _=_;exact C7 _
theorem PT (vs:List Vs):ba vs=cu∨ba vs∈vs:=by
 rcases tt vs with rfl |⟨ws,w,rfl⟩
 ·exact .inl L2
 ·rw[eW];exact .inr (by simp)
structure U9 (s:dp):Prop where
 ok:oK s
 e:0≤s.e∧s.e≤18446744073709551615
 rows:∀r∈aba s.t,abc r
 n:s.bs.length≤12
 keys:∀k∈cM s.bs,0≤k∧k≤4294967295
theorem U9.last {s:dp} (H:U9 s) (k:Int):Q7 (ba (cE s k)):=by
 rcases PT (cE s k)with h|h
 ·rw[h];exact⟨by decide,by decide,by decide⟩
 ·exact(Ig H.ok k).1 _ h
theorem y7 (d:Int) (r:dp×Nat) (ks:List Int) (i:Nat) (h:i<ks.length):kh d r (ks.take (i+1))=gU d (kh d r (ks.take i)) ks[i]:=by
 unfold kh;rw[List.take_succ_eq_append_getElem h,List.foldl_append];rfl
theorem oK.put {s:dp} (H:oK s) {k:Int} {vs:List Vs} (hv:∀v∈vs,Q7 v) (hn:vs.length<100000):oK {s with bs:=iQ s.bs k vs}:=⟨fun k' ws h=>by
 rw[mY]at h;split at h
 ·cases h;exact⟨hv,hn⟩
 ·exact H.v k' ws h⟩
theorem oK.gT {s:dp} (H:oK s) (d k:Int):oK (gT s d k):=by
 unfold Go.M.gT;split
 ·rename_i vs h;obtain⟨hv,hn⟩:=H.v k vs h;exact H.put (fun v m=>hv v (List.mem_of_mem_drop m)) (by rw[List.length_drop];omega)
 ·exact H
theorem L3 (d:Int):eJ [] d=0:=by
 show(eU [] d).toNat=0;unfold eU;rw[C2 (by decide)];rfl
theorem Fz (vs:List Vs) (d:Int):eJ vs d≤vs.length:=by
 have hle:=tu (fun k=>decide (d<(vs.getD k cu).seq)) 0 vs.length (Nat.zero_le _);unfold eJ eU;omega
theorem FA {s:dp} (H:oK s) (d:Int) (ks:List Int):∀i,i≤ks.length→oK (kh d (s,0) (ks.take i)).1∧(kh d (s,0) (ks.take i)).2≤i*100000
 |0,_=>⟨H,Nat.le_refl _⟩
 |i+1,hi=>by
  obtain⟨h1,h2⟩:=FA H d ks i om;rw[y7 d _ ks i om];refine⟨h1.gT d _,?_⟩;show _+eJ _ d≤_;have:=Fz (cE (kh d (s,0) (ks.take i)).1 ks[i]) d;have:=(Ig h1 ks[i]).2;omega
theorem PU (s:dp) (d:Int) (H:oK s) (hn:s.bs.length<13):VC E0 151 2 [.ptr 0 0,.s (.int .u64 d)] (pJ s)
 (RR (.s (.int .i64 (kh d (s,0) (eI (cM s.bs))).2)) 2 (pJ (kh d (s,0) (eI (cM s.bs))).1)):=by
 have hk:=PC s hn;have hlen:(eI (cM s.bs)).length<13:=by unfold eI;rw[List.length_mergeSort,List.length_map];exact hn
 generalize eI (cM s.bs)=ks at hk hlen;have iY:=FA H d ks;refine en L0 Tryz.f151 ?_;refine⟨[],[some 0,some 1],_,_,_,_,hk,t3,cw ?_⟩;refine⟨fun k f o c=>∃(i:Nat) (r:dp) (n:Nat),kh d (s,0) (ks.take i)=(r,n)∧i≤ks.length∧k=ks.length - i∧c=2∧f=[(0,.ptr 0 0),(1,.s (.int .u64 d)),(5,.s (.int .i64 n)),(9,.sl 1 (ks.map jQ) false),(10,.s (.int .i64 ks.length)),(11,.s (.int .i64 i))]∧o=pJ r,⟨ks.length,?_⟩,?_⟩
 ·refine⟨[],[some 0,some 1],?_⟩
  iterate 3 constructor
  refine⟨⟨?_,?_,?_⟩,⟨0,s,0,rfl,Nat.zero_le _,rfl,rfl,rfl,rfl⟩⟩
  all_goals(repeat' first|exact LF|constructor)
  all_goals exact Lz.int (by simp)
 ·rintro k f1 o1 c1 ⟨i,r,n,hr,hi,rfl,rfl,rfl,rfl⟩;obtain⟨hs,hb⟩:=iY i hi;rw[hr]at hs hb;have hs:oK r:=hs;have hb:n≤i*100000:=hb;refine wh ?_;refine sp ?_ ?_<;>intro bH
  ·have bH:i<ks.length:=by exact Int.ofNat_lt.1 bH
   have Gr:=y7 d (s,0) ks i bH;rw[hr]at Gr;refine wh ?_;refine⟨jQ ks[i],⟨om,by simp[bH]⟩,?_⟩;refine wh ?_;cases h:dm r.bs ks[i]with
   |none=>
    refine⟨[],[some 0,some 1],_,_,_,_,tA r ks[i] h,t3,cw ?_⟩;refine⟨[],[],_,_,_,_,LQ d,t3,cw ?_⟩;refine⟨ks.length - (i+1),?_,om⟩;rw[show gU d (r,n) ks[i]=(r,n)from by unfold gU;rw[show gT r d ks[i]=r from by unfold gT;rw[h]];rw[jS h,L3];rfl]at Gr;rw[show IntKind.i64.wrap ((n:Int)+0)=(n:Int)from by rw[IntWalk.i64_in _ om];omega];exact⟨[],[some 0,some 1],_,_,_,t3,⟨i+1,r,n,Gr,om,rfl,rfl,rfl,rfl⟩⟩
   |some vs=>
    obtain⟨hv,hvn⟩:=hs.v _ vs h;have hm:=Fz vs d;refine⟨[],[some 0,some 1],_,_,_,_,tB r ks[i] vs h,t3,cw ?_⟩;refine⟨[],[some 4],_,_,_,_,Py vs d om,t3,cw ?_⟩;refine⟨ks.length - (i+1),?_,om⟩;have bW:gU d (r,n) ks[i]=({r with bs:=iQ r.bs ks[i] (vs.drop (eJ vs d))},n+eJ vs d):=by
     unfold gU;rw[show gT r d ks[i]={r with bs:=iQ r.bs ks[i] (vs.drop (eJ vs d))}from by unfold gT;rw[h]];rw[jT h]
    rw[bW]at Gr;rw[show IntKind.i64.wrap ((n:Int)+((eJ vs d:Nat):Int))=((n+eJ vs d:Nat):Int)from by rw[IntWalk.i64_in _ om];omega];rw[show IntKind.i64.wrap ((i:Int)+1)=((i+1:Nat):Int)from by rw[IntWalk.i64_in _ om];omega];refine⟨[],[some 0,some 1],_,_,_,⟨tq,.cons (.cells tq) (.cons (.eL (oG:=[(_,lA (vs.drop (eJ vs d)))]) .one (Lw.of (Ic r.bs ks[i] _)) (.m1 (by rfl) tq)) .nil),by rfl⟩,⟨i+1,{r with bs:=iQ r.bs ks[i] (vs.drop (eJ vs d))},n+eJ vs d,Gr,om,rfl,rfl,rfl,rfl⟩⟩
  ·have bH:¬i<ks.length:=fun q=>bH (Int.ofNat_lt.2 q);have:i=ks.length:=by omega
   subst this;rw[List.take_length]at hr;rw[hr];refine wh ?_;exact⟨[],[some 0,some 1],_,_,_,t3,rfl,rfl,rfl⟩
@[reducible] def PV (s:dp):TO:=.cells [.s (.int .u64 s.e),.own (v7 s.bs),.own (yW s.t)]
@[reducible] def Ij (s:dp):Ob:=[(0,PV s)]
theorem PW:VC E0 70 0 [] [] (RR (.ptr 0 0) 1 (Ij ⟨0,[],hH⟩)):=by
 refine VC.told (R:=RR (.ptr 0 0) 2 (pJ ⟨0,[],hH⟩)) Tb ?_;rintro r o' c' ⟨rfl,rfl,rfl⟩;exact⟨[],[some 0],_,_,_,t3,rfl,rfl,rfl⟩
theorem y8 (s:dp) (c n:Int):VC E0 102 1 [.ptr 0 0,.s (.int .i64 c),.s (.int .u64 n)] (Ij s) (RR (.s (.int .i64 (bV s.t c n))) 1 (Ij s)):=by
 have np:=LV s c n;refine VC.told (R:=RR (.s (.int .i64 (bV s.t c n))) 5 (pJ s)) (VC.tc (m0:=0) rfl ?_) ?_
 ·show ow false (VC E0) _ _ [(1,v7 s.bs),(2,yW s.t),(0,.cells [.s (.int .u64 s.e),.mp 1,.ptr 2 0])] 3 _;refine⟨[],[some 0,some 1],_,_,_,_,np,t3,?_⟩;rintro r o' c' ⟨rfl,rfl,rfl⟩;exact⟨rfl,rfl,rfl⟩
 ·rintro r o' c' ⟨rfl,rfl,rfl⟩;exact⟨[],[some 0],_,_,_,t3,rfl,rfl,rfl⟩
theorem PX (s:dp) (c:Int):VC E0 103 1 [.ptr 0 0,.s (.int .i64 c)] (Ij s) (RR (S8 (iz s.t c)) 1 (Ij s)):=by
 have np:=Tc s c;refine VC.told (R:=RR (S8 (iz s.t c)) 5 (pJ s)) (VC.tc (m0:=0) rfl ?_) ?_
 ·show ow false (VC E0) _ _ [(1,v7 s.bs),(2,yW s.t),(0,.cells [.s (.int .u64 s.e),.mp 1,.ptr 2 0])] 3 _;refine⟨[],[some 0,some 1],_,_,_,_,np,t3,?_⟩;rintro r o' c' ⟨rfl,rfl,rfl⟩;exact⟨rfl,rfl,rfl⟩
 ·rintro r o' c' ⟨rfl,rfl,rfl⟩;exact⟨[],[some 0],_,_,_,t3,rfl,rfl,rfl⟩
theorem L4 (s:dp) (u:bd) (H:oK s) (hu:Pv u):VC E0 156 1 [.ptr 0 0,.agg (b6 u)] (Ij s) (RR (Xu (dS s u).1) 1 (Ij (dS s u).2)):=by
 have np:=PF s u H hu;refine VC.told (R:=RR (Xu (dS s u).1) 5 (pJ (dS s u).2)) (VC.tc (m0:=0) rfl ?_) ?_
 ·show ow false (VC E0) _ _ [(1,v7 s.bs),(2,yW s.t),(0,.cells [.s (.int .u64 s.e),.mp 1,.ptr 2 0])] 3 _;refine⟨[],[some 0,some 1],_,_,_,_,np,t3,?_⟩;rintro r o' c' ⟨rfl,rfl,rfl⟩;exact⟨rfl,rfl,rfl⟩
 ·rintro r o' c' ⟨rfl,rfl,rfl⟩;exact⟨[],[some 0],_,_,_,t3,rfl,rfl,rfl⟩
theorem L5 (s:dp) (d:Int) (H:oK s) (hn:s.bs.length<13):VC E0 151 1 [.ptr 0 0,.s (.int .u64 d)] (Ij s) (fun r o c=>∃n,r= .s (.int .i64 n)∧c=1∧o=Ij (gV s d)):=by
 have np:=PU s d H hn;rw[←td]at np;refine VC.told (R:=RR (.s (.int .i64 (kh d (s,0) (eI (cM s.bs))).2)) 5 (pJ (gV s d))) (VC.tc (m0:=0) rfl ?_) ?_
 ·show ow false (VC E0) _ _ [(1,v7 s.bs),(2,yW s.t),(0,.cells [.s (.int .u64 s.e),.mp 1,.ptr 2 0])] 3 _;refine⟨[],[some 0,some 1],_,_,_,_,np,t3,?_⟩;rintro r o' c' ⟨rfl,rfl,rfl⟩;exact⟨rfl,rfl,rfl⟩
 ·rintro r o' c' ⟨rfl,rfl,rfl⟩;exact⟨[],[some 0],_,_,_,t3,_,rfl,rfl,rfl⟩
end Go.M
