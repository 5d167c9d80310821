/-
  Part 21 of the library that the proof leans on.
-/
import Derived.Test.YteoljjhhdgplnaaGreatDoorL12
import Derived.Test.YteoljjhhdgplnaaGreatDoorL20
namespace Go.M
open Go Go.Proofs
set_option maxRecDepth 100000
set_option maxHeartbeats 4000000
def okW (w:Bool) (u:dx):Bool:=(w==decide (u.seq=0))&&(decide (1≤u.ao∧u.ao≤6)&&(decide (1≤u.num)&&((decide (u.kind=2∧u.ey=0∨u.kind=3))&&decide (u.data.length≤2048))))
theorem WV (u:dx):okW false u=okU u:=by
 unfold okW okU;cases h:decide (u.seq=0)<;>simp
theorem Pd (w:Bool) (u:dx):VC E0 252 0 [.agg (cD u),.s (.bool w)] [] (RR (.s (.bool (okW w u))) 0 []):=by
 cases w
 all_goals
  refine en L0 Tryz.f252 ?_
  repeat'(first|((first|(refine⟨fun h=>?_,fun h=>?_⟩)|(refine aU (fun h=>?_) (fun h=>?_))|(refine aT (fun h=>?_) (fun h=>?_)))<;>(conv=>whnf)))
  all_goals(refine⟨[],[],[],_,_,⟨?_,.nil,rfl⟩,rfl,rfl,rfl⟩)
  all_goals(refine .s (Lz.of (aX ?_)))
  all_goals(unfold okW;simp[bm]at*;try omega)
theorem IM (w:Bool) (u:dx):VC E0 251 1 [.agg (cD u),.ptr 0 0] [(0,.cells [.s (.bool w)])] (RR (.s (.bool (!okW w u))) 1 [(0,.cells [.s (.bool w)])]):=by
 refine en L0 Tryz.f251 ?_;refine⟨[],[],_,_,_,_,Pd w u,t3,cw ?_⟩;exact⟨[],[some 0],_,_,_,t3,rfl,rfl,rfl⟩
theorem WW (w:Bool) (us:List dx) (hl:us.length<1000000):VC E0 257 1 [.sl 7 (us.map cD) false,.dg 251 [] [.ptr 0 0]] [(0,.cells [.s (.bool w)])] (fun r o c=>∃i:Int,r= .s (.int .i64 i)∧((us.all (okW w)=true∧i= -1)∨(us.all (okW w)=false∧0≤i))∧c=1∧o=[(0,.cells [.s (.bool w)])]):=by
 refine en L0 Tryz.f257 ?_;refine⟨fun k f o c=>∃i:Nat,i≤us.length∧k=us.length - i∧(us.take i).all (okW w)=true∧c=1∧f=[(0,.sl 7 (us.map cD) false),(1,.dg 251 [] [.ptr 0 0]),(7,.s (.int .i64 us.length)),(8,.s (.int .i64 i))]∧o=[(0,.cells [.s (.bool w)])],⟨us.length,?_⟩,?_⟩
 ·refine⟨[],[some 0],_,_,_,tx ?_,⟨0,Nat.zero_le _,rfl,rfl,rfl,rfl,rfl⟩⟩;exact Lz.int (by rw[List.length_map])
 ·rintro k f1 o1 c1 ⟨i,hi,rfl,ha,rfl,rfl,rfl⟩;refine wh ?_;refine sp ?_ ?_<;>intro h
  ·have h:i<us.length:=by have h:(i:Int)<us.length:=h
                          omega
   have BU:IntKind.i64.wrap ((i:Int)+1)=((i+1:Nat):Int):=IntWalk.i64_in _ om;have zq:=IM w us[i];refine wh ?_;refine oB h ?_;refine wh ?_;cases hq:okW w us[i]with
   |true=>
    rw[hq]at zq;refine⟨[],[some 0],_,_,_,_,zq,t3,cw ?_⟩;refine⟨us.length - (i+1),?_,om⟩;rw[BU];exact⟨[],[some 0],_,_,_,t3,⟨i+1,h,rfl,by rw[jT us i h,List.all_append,ha];simp[hq],rfl,rfl,rfl⟩⟩
   |false=>
    rw[hq]at zq;refine⟨[],[some 0],_,_,_,_,zq,t3,cw ?_⟩;exact⟨[],[some 0],_,_,_,t3,_,rfl,.inr ⟨List.all_eq_false.2 ⟨us[i],List.getElem_mem h,by rw[hq];exact Bool.false_ne_true⟩,Int.natCast_nonneg _⟩,rfl,rfl⟩
  ·obtain rfl:i=us.length:=by have h:¬(i:Int)<us.length:=h;omega
   rw[List.take_length]at ha;refine wh ?_;exact⟨[],[some 0],_,_,_,t3,_,rfl,.inl ⟨ha,rfl⟩,rfl,rfl⟩
theorem vR (w:Bool) (us:List dx) (hl:us.length<1000000):VC E0 250 1 [.sl 7 (us.map cD) false,.dg 251 [] [.ptr 0 0]] [(0,.cells [.s (.bool w)])] (RR (.s (.bool (!us.all (okW w)))) 1 [(0,.cells [.s (.bool w)])]):=by
 refine en L0 Tryz.f250 ?_;refine⟨[],[some 0],_,_,_,_,WW w us hl,t3,?_⟩;rintro r o' c' ⟨i,rfl,hi,rfl,rfl⟩;refine wh ?_;refine sp ?_ ?_<;>intro y9
 ·have y9:i≥0:=y9;have h:us.all (okW w)=false:=by rcases hi with⟨_,q⟩|⟨q,_⟩;omega;exact q
  rw[h];refine wh ?_;exact⟨[],[some 0],_,_,_,t3,rfl,rfl,rfl⟩
 ·have y9:¬i≥0:=y9;have h:us.all (okW w)=true:=by rcases hi with⟨q,_⟩|⟨_,q⟩;exact q;omega
  rw[h];refine wh ?_;exact⟨[],[some 0],_,_,_,t3,rfl,rfl,rfl⟩
theorem FN (f t ch e s d:Int) (us:List dx) (hl:us.length≤4):VC E0 232 0 [.agg (bp (uP f t ch e s d us))] [] (RR (.s (.bool (us.all (okW false)))) 0 []):=by
 refine en L0 Tryz.f232 ?_;refine rn ?_;refine sp ?_ ?_<;>intro hg
 ·have hg:(((us.map cD).length:Nat):Int)>4:=hg;rw[List.length_map]at hg;omega
 refine wh ?_;refine⟨[],[some 1],_,_,_,_,vR false us om,t3,cw ?_⟩;refine⟨[],[],_,_,_,tx ?_,rfl,rfl,rfl⟩;exact Lz.of (aX (by simp))
theorem FO (f t ch e:Int) (u:dx):VC E0 232 0 [.agg (bp (GA f t ch e [u]))] [] (RR (.s (.bool (okW true u))) 0 []):=by
 have hc:=vR true [u] (by show(1:Nat)<1000000;decide);refine en L0 Tryz.f232 ?_;refine rn ?_
 repeat((first|(refine⟨fun h_=>?_,fun h_=>?_⟩)|(refine aU (fun h_=>?_) (fun h_=>?_))|(refine aT (fun h_=>?_) (fun h_=>?_)))<;>first|(exfalso;revert h_;decide;done)|(exfalso;revert h_;simp;done)|(have dw:=True.intro;clear dw;(conv=>whnf)))
 refine⟨[],[some 1],_,_,_,_,hc,t3,cw ?_⟩;refine⟨[],[],_,_,_,tx ?_,rfl,rfl,rfl⟩;exact Lz.of (aX (by simp))
theorem WX:VC E0 92 0 [.s (.int .i64 12)] [] (RR (.s (.bool true)) 0 []):=by
 refine en L0 Tryz.f92 ?_;refine rn ?_;exact⟨[],[],_,_,_,t3,rfl,rfl,rfl⟩
theorem WY:VC E0 92 0 [.s (.int .i64 13)] [] (RR (.s (.bool true)) 0 []):=by
 refine en L0 Tryz.f92 ?_;refine rn ?_;exact⟨[],[],_,_,_,t3,rfl,rfl,rfl⟩
theorem WZ:VC E0 92 0 [.s (.int .i64 17)] [] (RR (.s (.bool true)) 0 []):=by
 refine en L0 Tryz.f92 ?_;refine rn ?_;exact⟨[],[],_,_,_,t3,rfl,rfl,rfl⟩
theorem W4:VC E0 92 0 [.s (.int .i64 14)] [] (RR (.s (.bool true)) 0 []):=by
 refine en L0 Tryz.f92 ?_;refine rn ?_;exact⟨[],[],_,_,_,t3,rfl,rfl,rfl⟩
theorem FP (a:Int):VC E0 46 0 [.s (.int .i64 a)] [] (RR (.s (.bool (decide (1≤a∧a≤24)))) 0 []):=by
 refine en L0 Tryz.f46 ?_
 repeat'(first|((first|(refine⟨fun h=>?_,fun h=>?_⟩)|(refine aU (fun h=>?_) (fun h=>?_))|(refine aT (fun h=>?_) (fun h=>?_)))<;>(conv=>whnf)))
 all_goals(refine⟨[],[],[],_,_,⟨?_,.nil,rfl⟩,rfl,rfl,rfl⟩)
 all_goals(refine .s (Lz.of (aX ?_)))
 all_goals(simp[*];try omega)
theorem DE (a:Int):VC E0 99 0 [.s (.int .i64 a)] [] (RR (.s (.bool (decide (201≤a∧a≤206)))) 0 []):=by
 refine en L0 Tryz.f99 ?_
 repeat'(first|((first|(refine⟨fun h=>?_,fun h=>?_⟩)|(refine aU (fun h=>?_) (fun h=>?_))|(refine aT (fun h=>?_) (fun h=>?_)))<;>(conv=>whnf)))
 all_goals(refine⟨[],[],[],_,_,⟨?_,.nil,rfl⟩,rfl,rfl,rfl⟩)
 all_goals(refine .s (Lz.of (aX ?_)))
 all_goals(simp at*;try omega)
theorem Pe (a:Int) (h:201≤a):VC E0 121 0 [.s (.int .i64 a)] [] (RR (.s (.bool false)) 0 []):=by
 refine en L0 Tryz.f121 ?_
 repeat'(first|((first|(refine⟨fun h=>?_,fun h=>?_⟩)|(refine aU (fun h=>?_) (fun h=>?_))|(refine aT (fun h=>?_) (fun h=>?_)))<;>(conv=>whnf)))
 all_goals(refine⟨[],[],[],_,_,⟨?_,.nil,rfl⟩,rfl,rfl,rfl⟩)
 all_goals(refine .s (Lz.of (aX ?_)))
 all_goals(simp at*;try omega)
def sw (a:Int):Prop:=(1≤a∧a≤24)∨(201≤a∧a≤206)
theorem mV (a:Int) (h:sw a):VC E0 93 0 [.s (.int .i64 a)] [] (RR (.s (.bool true)) 0 []):=by
 have hn:=FP a;have hc:=DE a;rcases h with h|h
 ·rw[decide_eq_true h]at hn;refine en L0 Tryz.f93 ?_;refine⟨[],[],_,_,_,_,hn,t3,cw ?_⟩;exact⟨[],[],_,_,_,t3,rfl,rfl,rfl⟩
 ·rw[decide_eq_false om]at hn;rw[decide_eq_true h]at hc;refine en L0 Tryz.f93 ?_;refine⟨[],[],_,_,_,_,hn,t3,cw ?_⟩;refine⟨[],[],_,_,_,_,Pe a h.1,t3,cw ?_⟩;refine⟨[],[],_,_,_,_,hc,t3,cw ?_⟩;exact⟨[],[],_,_,_,t3,rfl,rfl,rfl⟩
theorem sx (m:Lr) (h:0≤m.chain∧m.chain<4):VC E0 168 0 [.agg (bp m)] [] (RR (.s (.bool true)) 0 []):=by
 refine en L0 Tryz.f168 ?_
 repeat'(first|((first|(refine⟨fun h=>?_,fun h=>?_⟩)|(refine aU (fun h=>?_) (fun h=>?_))|(refine aT (fun h=>?_) (fun h=>?_)))<;>(conv=>whnf)))
 all_goals(refine⟨[],[],[],_,_,⟨?_,.nil,rfl⟩,rfl,rfl,rfl⟩)
 all_goals(refine .s (Lz.of (aX ?_)))
 all_goals(simp at*;try omega)
theorem IN (m:Lr) (h:0≤m.slot∧m.slot≤512):VC E0 170 0 [.agg (bp m)] [] (RR (.s (.bool true)) 0 []):=by
 refine en L0 Tryz.f170 ?_
 repeat'(first|((first|(refine⟨fun h=>?_,fun h=>?_⟩)|(refine aU (fun h=>?_) (fun h=>?_))|(refine aT (fun h=>?_) (fun h=>?_)))<;>(conv=>whnf)))
 all_goals(refine⟨[],[],[],_,_,⟨?_,.nil,rfl⟩,rfl,rfl,rfl⟩)
 all_goals(refine .s (Lz.of (aX ?_)))
 all_goals(simp at*;try omega)
theorem sy (m:Lr) (h:1≤m.aV):VC E0 173 0 [.agg (bp m)] [] (RR (.s (.bool true)) 0 []):=by
 refine en L0 Tryz.f173 ?_
 repeat'(first|((first|(refine⟨fun h=>?_,fun h=>?_⟩)|(refine aU (fun h=>?_) (fun h=>?_))|(refine aT (fun h=>?_) (fun h=>?_)))<;>(conv=>whnf)))
 all_goals(refine⟨[],[],[],_,_,⟨?_,.nil,rfl⟩,rfl,rfl,rfl⟩)
 all_goals(refine .s (Lz.of (aX ?_)))
 all_goals(simp at*;try omega)
theorem pD (m:Lr):VC E0 178 0 [.agg (bp m)] [] (RR (.s (.bool true)) 0 []):=by
 refine en L0 Tryz.f178 ?_;exact⟨[],[],_,_,_,t3,rfl,rfl,rfl⟩
theorem aaX (f t ch e n s sl:Int) (d:List Int):VC E0 236 0 [.agg (bp (uB f t ch e n s sl d))] [] (RR (.s (.int .i64 1024)) 0 []):=by
 refine en L0 Tryz.f236 ?_;refine rn ?_;exact⟨[],[],_,_,_,t3,rfl,rfl,rfl⟩
theorem Tj (f t ch e n s sl:Int) (d:List Int) (hd:d.length≤1024):VC E0 235 0 [.agg (bp (uB f t ch e n s sl d))] [] (RR (.s (.bool true)) 0 []):=by
 refine en L0 Tryz.f235 ?_;refine⟨[],[],_,_,_,_,aaX f t ch e n s sl d,t3,cw ?_⟩;refine sp ?_ ?_<;>intro h
 ·refine wh ?_;exact⟨[],[],_,_,_,t3,rfl,rfl,rfl⟩
 ·exact absurd (show((bm d).length:Int)≤1024 by simp[bm];omega) h
theorem DF (f t ch e s d:Int) (us:List dx) (hf:sw f) (ht:sw t) (Wk:0≤ch∧ch<4) (he:1≤e) (hl:us.length≤4):VC E0 54 0 [.agg (bp (uP f t ch e s d us))] [] (RR (.s (.int .i64 (if us.all (okW false)then 0 else 4))) 0 []):=by
 refine VC.cQ L0 (show E0.func 54=some Tryz.f54 by kernel_rfl) (fun _ _=>rfl) rfl rfl [999999] ?_;refine wh ?_;refine⟨[],[],_,_,_,_,WX,t3,cw ?_⟩;refine⟨[],[],_,_,_,_,mV f hf,t3,cw ?_⟩;refine⟨[],[],_,_,_,_,mV t ht,t3,cw ?_⟩;refine⟨[],[],_,_,_,_,aaP f t ch e s d us,t3,cw ?_⟩;refine⟨[],[],_,_,_,_,M8 (uP f t ch e s d us) (by show us.length<1000000;omega),t3,cw ?_⟩;refine⟨[],[],_,_,_,_,WR,t3,cw ?_⟩;refine rn ?_;refine⟨[],[],_,_,_,_,sx (uP f t ch e s d us) Wk,t3,cw ?_⟩;refine rn ?_;refine⟨[],[],_,_,_,_,sy (uP f t ch e s d us) he,t3,cw ?_⟩;refine rn ?_
 refine⟨[],[],_,_,_,_,pD (uP f t ch e s d us),t3,cw ?_⟩;refine rn ?_;refine⟨[],[],_,_,_,_,pD (uP f t ch e s d us),t3,cw ?_⟩;refine rn ?_;refine⟨[],[],_,_,_,_,FN f t ch e s d us hl,t3,?_⟩;rintro r o' c' ⟨rfl,rfl,rfl⟩;have dw:=True.intro;clear dw;cases h:us.all (okW false)
 ·refine wh ?_;exact⟨[],[],_,_,_,t3,rfl,rfl,rfl⟩
 ·refine wh ?_;refine rn ?_;exact⟨[],[],_,_,_,t3,rfl,rfl,rfl⟩
theorem Lf (f t ch e:Int) (u:dx) (hf:sw f) (ht:sw t) (Wk:0≤ch∧ch<4) (he:1≤e) (hu:okW true u=true):VC E0 54 0 [.agg (bp (GA f t ch e [u]))] [] (RR (.s (.int .i64 0)) 0 []):=by
 have zq:=FO f t ch e u;rw[hu]at zq;refine VC.cQ L0 (show E0.func 54=some Tryz.f54 by kernel_rfl) (fun _ _=>rfl) rfl rfl [999999] ?_;refine wh ?_;refine⟨[],[],_,_,_,_,WZ,t3,cw ?_⟩;refine⟨[],[],_,_,_,_,mV f hf,t3,cw ?_⟩;refine⟨[],[],_,_,_,_,mV t ht,t3,cw ?_⟩;refine⟨[],[],_,_,_,_,aaR f t ch e [u],t3,cw ?_⟩;refine⟨[],[],_,_,_,_,M8 (GA f t ch e [u]) (by show(1:Nat)<1000000;decide),t3,cw ?_⟩;refine⟨[],[],_,_,_,_,WS,t3,cw ?_⟩;refine rn ?_;refine⟨[],[],_,_,_,_,sx (GA f t ch e [u]) Wk,t3,cw ?_⟩;refine rn ?_;refine⟨[],[],_,_,_,_,sy (GA f t ch e [u]) he,t3,cw ?_⟩;refine rn ?_
 refine⟨[],[],_,_,_,_,zq,t3,cw ?_⟩;refine rn ?_;exact⟨[],[],_,_,_,t3,rfl,rfl,rfl⟩
theorem Tk (f t ch e n s d sl:Int) (hf:sw f) (ht:sw t) (Wk:0≤ch∧ch<4) (he:1≤e) (hs:0≤sl∧sl≤512):VC E0 54 0 [.agg (bp (kL f t ch e n s d sl))] [] (RR (.s (.int .i64 0)) 0 []):=by
 refine VC.cQ L0 (show E0.func 54=some Tryz.f54 by kernel_rfl) (fun _ _=>rfl) rfl rfl [999999] ?_;refine wh ?_;refine⟨[],[],_,_,_,_,WY,t3,cw ?_⟩;refine⟨[],[],_,_,_,_,mV f hf,t3,cw ?_⟩;refine⟨[],[],_,_,_,_,mV t ht,t3,cw ?_⟩;refine⟨[],[],_,_,_,_,aaQ f t ch e n s d sl,t3,cw ?_⟩;refine⟨[],[],_,_,_,_,M8 (kL f t ch e n s d sl) (by show(0:Nat)<1000000;decide),t3,cw ?_⟩;refine⟨[],[],_,_,_,_,WT,t3,cw ?_⟩;refine rn ?_;refine⟨[],[],_,_,_,_,sx (kL f t ch e n s d sl) Wk,t3,cw ?_⟩;refine rn ?_;refine⟨[],[],_,_,_,_,sy (kL f t ch e n s d sl) he,t3,cw ?_⟩;refine rn ?_
 refine⟨[],[],_,_,_,_,pD (kL f t ch e n s d sl),t3,cw ?_⟩;refine rn ?_;refine⟨[],[],_,_,_,_,pD (kL f t ch e n s d sl),t3,cw ?_⟩;refine rn ?_;refine⟨[],[],_,_,_,_,pD (kL f t ch e n s d sl),t3,cw ?_⟩;refine rn ?_;refine⟨[],[],_,_,_,_,IN (kL f t ch e n s d sl) hs,t3,cw ?_⟩;refine rn ?_;exact⟨[],[],_,_,_,t3,rfl,rfl,rfl⟩
theorem Pf (f t ch e n s sl:Int) (d:List Int) (hf:sw f) (ht:sw t) (Wk:0≤ch∧ch<4) (he:1≤e) (hs:0≤sl∧sl≤512) (hd:d.length≤1024):VC E0 54 0 [.agg (bp (uB f t ch e n s sl d))] [] (RR (.s (.int .i64 0)) 0 []):=by
 refine VC.cQ L0 (show E0.func 54=some Tryz.f54 by kernel_rfl) (fun _ _=>rfl) rfl rfl [999999] ?_;refine wh ?_;refine⟨[],[],_,_,_,_,W4,t3,cw ?_⟩;refine⟨[],[],_,_,_,_,mV f hf,t3,cw ?_⟩;refine⟨[],[],_,_,_,_,mV t ht,t3,cw ?_⟩;refine⟨[],[],_,_,_,_,aaS f t ch e n s sl d,t3,cw ?_⟩;refine⟨[],[],_,_,_,_,M8 (uB f t ch e n s sl d) (by show(0:Nat)<1000000;decide),t3,cw ?_⟩;refine⟨[],[],_,_,_,_,WU,t3,cw ?_⟩;refine rn ?_;refine⟨[],[],_,_,_,_,sx (uB f t ch e n s sl d) Wk,t3,cw ?_⟩;refine rn ?_;refine⟨[],[],_,_,_,_,sy (uB f t ch e n s sl d) he,t3,cw ?_⟩;refine rn ?_
 refine⟨[],[],_,_,_,_,pD (uB f t ch e n s sl d),t3,cw ?_⟩;refine rn ?_;refine⟨[],[],_,_,_,_,IN (uB f t ch e n s sl d) hs,t3,cw ?_⟩;refine rn ?_;refine⟨[],[],_,_,_,_,pD (uB f t ch e n s sl d),t3,cw ?_⟩;refine rn ?_;refine⟨[],[],_,_,_,_,Tj f t ch e n s sl d hd,t3,cw ?_⟩;refine rn ?_;exact⟨[],[],_,_,_,t3,rfl,rfl,rfl⟩
theorem W5 (u:dx):VC E0 54 0 [.agg (bp (uP 1 1 0 1 0 0 [u]))] [] (RR (.s (.int .i64 (if okU u then 0 else 4))) 0 []):=by
 have h:=DF 1 1 0 1 0 0 [u] (.inl ⟨by decide,by decide⟩) (.inl ⟨by decide,by decide⟩) ⟨by decide,by decide⟩ (by decide) (by show 1≤4;decide);rw[show [u].all (okW false)=okU u by simp[WV]]at h;exact h
end Go.M
