/-
  Part 21 of the library that the proof leans on.
-/
import Derived.Test.YteoljjhhdgplnaaGreatDoorL12
import Derived.Test.YteoljjhhdgplnaaGreatDoorL20
namespace Go.M
open Go Go.Proofs
set_option maxRecDepth 100000
set_option maxHeartbeats 4000000
def okW (w:Bool) (u:bo):Bool:=(w==decide (u.seq=0))&&(decide (1≤u.ak∧u.ak≤6)&&(decide (1≤u.num)&&((decide (u.kind=2∧u.cB=0∨u.kind=3))&&decide (u.data.length≤2048))))
theorem Ig (u:bo):okW false u=Qb u:=by
 unfold okW Qb;cases h:decide (u.seq=0)<;>simp
theorem JZ (w:Bool) (u:bo):VC E0 252 0 [.agg (b7 u),.s (.bool w)] [] (RR (.s (.bool (okW w u))) 0 []):=by
 cases w
 all_goals
  refine en L0 Tryz.f252 ?_
  repeat'(first|((first|(refine⟨fun h=>?_,fun h=>?_⟩)|(refine ba (fun h=>?_) (fun h=>?_))|(refine a9 (fun h=>?_) (fun h=>?_)))<;>(conv=>whnf)))
  all_goals(refine⟨[],[],[],_,_,⟨?_,.nil,rfl⟩,rfl,rfl,rfl⟩)
  all_goals(refine .s (Lz.of (aT ?_)))
  all_goals(unfold okW;simp[bM]at*;try omega)
theorem D6 (w:Bool) (u:bo):VC E0 251 1 [.agg (b7 u),.ptr 0 0] [(0,.cells [.s (.bool w)])] (RR (.s (.bool (!okW w u))) 1 [(0,.cells [.s (.bool w)])]):=by
 refine en L0 Tryz.f251 ?_;refine⟨[],[],_,_,_,_,JZ w u,t3,cw ?_⟩;exact⟨[],[some 0],_,_,_,t3,rfl,rfl,rfl⟩
theorem QA (w:Bool) (us:List bo) (hl:us.length<1000000):VC E0 257 1 [.sl 7 (us.map b7) false,.dc 251 [] [.ptr 0 0]] [(0,.cells [.s (.bool w)])] (fun r o c=>∃i:Int,r= .s (.int .i64 i)∧((us.all (okW w)=true∧i= -1)∨(us.all (okW w)=false∧0≤i))∧c=1∧o=[(0,.cells [.s (.bool w)])]):=by
 refine en L0 Tryz.f257 ?_;refine⟨fun k f o c=>∃i:Nat,i≤us.length∧k=us.length - i∧(us.take i).all (okW w)=true∧c=1∧f=[(0,.sl 7 (us.map b7) false),(1,.dc 251 [] [.ptr 0 0]),(7,.s (.int .i64 us.length)),(8,.s (.int .i64 i))]∧o=[(0,.cells [.s (.bool w)])],⟨us.length,?_⟩,?_⟩
 ·refine⟨[],[some 0],_,_,_,tx ?_,⟨0,Nat.zero_le _,rfl,rfl,rfl,rfl,rfl⟩⟩;exact Lz.int (by rw[List.length_map])
 ·rintro k f1 o1 c1 ⟨i,hi,rfl,ha,rfl,rfl,rfl⟩;refine wh ?_;refine sp ?_ ?_<;>intro h
  ·have h:i<us.length:=by have h:(i:Int)<us.length:=h
                          omega
   have EN:IntKind.i64.wrap ((i:Int)+1)=((i+1:Nat):Int):=IntWalk.i64_in _ om;have sH:=D6 w us[i];refine wh ?_;refine lW h ?_;refine wh ?_;cases hq:okW w us[i]with
   |true=>
    rw[hq]at sH;refine⟨[],[some 0],_,_,_,_,sH,t3,cw ?_⟩;refine⟨us.length - (i+1),?_,om⟩;rw[EN];exact⟨[],[some 0],_,_,_,t3,⟨i+1,h,rfl,by rw[g8 us i h,List.all_append,ha];simp[hq],rfl,rfl,rfl⟩⟩
   |false=>
    rw[hq]at sH;refine⟨[],[some 0],_,_,_,_,sH,t3,cw ?_⟩;exact⟨[],[some 0],_,_,_,t3,_,rfl,.inr ⟨List.all_eq_false.2 ⟨us[i],List.getElem_mem h,by rw[hq];exact Bool.false_ne_true⟩,Int.natCast_nonneg _⟩,rfl,rfl⟩
  ·obtain rfl:i=us.length:=by have h:¬(i:Int)<us.length:=h;omega
   rw[List.take_length]at ha;refine wh ?_;exact⟨[],[some 0],_,_,_,t3,_,rfl,.inl ⟨ha,rfl⟩,rfl,rfl⟩
theorem sI (w:Bool) (us:List bo) (hl:us.length<1000000):VC E0 250 1 [.sl 7 (us.map b7) false,.dc 251 [] [.ptr 0 0]] [(0,.cells [.s (.bool w)])] (RR (.s (.bool (!us.all (okW w)))) 1 [(0,.cells [.s (.bool w)])]):=by
 refine en L0 Tryz.f250 ?_;refine⟨[],[some 0],_,_,_,_,QA w us hl,t3,?_⟩;rintro r o' c' ⟨i,rfl,hi,rfl,rfl⟩;refine wh ?_;refine sp ?_ ?_<;>intro vq
 ·have vq:i≥0:=vq;have h:us.all (okW w)=false:=by rcases hi with⟨_,q⟩|⟨q,_⟩;omega;exact q
  rw[h];refine wh ?_;exact⟨[],[some 0],_,_,_,t3,rfl,rfl,rfl⟩
 ·have vq:¬i≥0:=vq;have h:us.all (okW w)=true:=by rcases hi with⟨q,_⟩|⟨_,q⟩;exact q;omega
  rw[h];refine wh ?_;exact⟨[],[some 0],_,_,_,t3,rfl,rfl,rfl⟩
theorem BV (f t ch e s d:Int) (us:List bo) (hl:us.length≤4):VC E0 232 0 [.agg (ai (rD f t ch e s d us))] [] (RR (.s (.bool (us.all (okW false)))) 0 []):=by
 refine en L0 Tryz.f232 ?_;refine rn ?_;refine sp ?_ ?_<;>intro hg
 ·have hg:(((us.map b7).length:Nat):Int)>4:=hg;rw[List.length_map]at hg;omega
 refine wh ?_;refine⟨[],[some 1],_,_,_,_,sI false us om,t3,cw ?_⟩;refine⟨[],[],_,_,_,tx ?_,rfl,rfl,rfl⟩;exact Lz.of (aT (by simp))
theorem BW (f t ch e:Int) (u:bo):VC E0 232 0 [.agg (ai (Af f t ch e [u]))] [] (RR (.s (.bool (okW true u))) 0 []):=by
 have hc:=sI true [u] (by show(1:Nat)<1000000;decide);refine en L0 Tryz.f232 ?_;refine rn ?_
 repeat((first|(refine⟨fun h_=>?_,fun h_=>?_⟩)|(refine ba (fun h_=>?_) (fun h_=>?_))|(refine a9 (fun h_=>?_) (fun h_=>?_)))<;>first|(exfalso;revert h_;decide;done)|(exfalso;revert h_;simp;done)|(have eo:=True.intro;clear eo;(conv=>whnf)))
 refine⟨[],[some 1],_,_,_,_,hc,t3,cw ?_⟩;refine⟨[],[],_,_,_,tx ?_,rfl,rfl,rfl⟩;exact Lz.of (aT (by simp))
theorem QB:VC E0 92 0 [.s (.int .i64 12)] [] (RR (.s (.bool true)) 0 []):=by
 refine en L0 Tryz.f92 ?_;refine rn ?_;exact⟨[],[],_,_,_,t3,rfl,rfl,rfl⟩
theorem QC:VC E0 92 0 [.s (.int .i64 13)] [] (RR (.s (.bool true)) 0 []):=by
 refine en L0 Tryz.f92 ?_;refine rn ?_;exact⟨[],[],_,_,_,t3,rfl,rfl,rfl⟩
theorem QD:VC E0 92 0 [.s (.int .i64 17)] [] (RR (.s (.bool true)) 0 []):=by
 refine en L0 Tryz.f92 ?_;refine rn ?_;exact⟨[],[],_,_,_,t3,rfl,rfl,rfl⟩
theorem Ih (a:Int):VC E0 46 0 [.s (.int .i64 a)] [] (RR (.s (.bool (decide (1≤a∧a≤24)))) 0 []):=by
 refine en L0 Tryz.f46 ?_
 repeat'(first|((first|(refine⟨fun h=>?_,fun h=>?_⟩)|(refine ba (fun h=>?_) (fun h=>?_))|(refine a9 (fun h=>?_) (fun h=>?_)))<;>(conv=>whnf)))
 all_goals(refine⟨[],[],[],_,_,⟨?_,.nil,rfl⟩,rfl,rfl,rfl⟩)
 all_goals(refine .s (Lz.of (aT ?_)))
 all_goals(simp[*];try omega)
theorem Ag (a:Int):VC E0 99 0 [.s (.int .i64 a)] [] (RR (.s (.bool (decide (201≤a∧a≤206)))) 0 []):=by
 refine en L0 Tryz.f99 ?_
 repeat'(first|((first|(refine⟨fun h=>?_,fun h=>?_⟩)|(refine ba (fun h=>?_) (fun h=>?_))|(refine a9 (fun h=>?_) (fun h=>?_)))<;>(conv=>whnf)))
 all_goals(refine⟨[],[],[],_,_,⟨?_,.nil,rfl⟩,rfl,rfl,rfl⟩)
 all_goals(refine .s (Lz.of (aT ?_)))
 all_goals(simp at*;try omega)
theorem J0 (a:Int) (h:201≤a):VC E0 121 0 [.s (.int .i64 a)] [] (RR (.s (.bool false)) 0 []):=by
 refine en L0 Tryz.f121 ?_
 repeat'(first|((first|(refine⟨fun h=>?_,fun h=>?_⟩)|(refine ba (fun h=>?_) (fun h=>?_))|(refine a9 (fun h=>?_) (fun h=>?_)))<;>(conv=>whnf)))
 all_goals(refine⟨[],[],[],_,_,⟨?_,.nil,rfl⟩,rfl,rfl,rfl⟩)
 all_goals(refine .s (Lz.of (aT ?_)))
 all_goals(simp at*;try omega)
def oq (a:Int):Prop:=(1≤a∧a≤24)∨(201≤a∧a≤206)
theorem pU (a:Int) (h:oq a):VC E0 93 0 [.s (.int .i64 a)] [] (RR (.s (.bool true)) 0 []):=by
 have hn:=Ih a;have hc:=Ag a;rcases h with h|h
 ·rw[decide_eq_true h]at hn;refine en L0 Tryz.f93 ?_;refine⟨[],[],_,_,_,_,hn,t3,cw ?_⟩;exact⟨[],[],_,_,_,t3,rfl,rfl,rfl⟩
 ·rw[decide_eq_false om]at hn;rw[decide_eq_true h]at hc;refine en L0 Tryz.f93 ?_;refine⟨[],[],_,_,_,_,hn,t3,cw ?_⟩;refine⟨[],[],_,_,_,_,J0 a h.1,t3,cw ?_⟩;refine⟨[],[],_,_,_,_,hc,t3,cw ?_⟩;exact⟨[],[],_,_,_,t3,rfl,rfl,rfl⟩
theorem uc (m:Lr) (h:0≤m.chain∧m.chain<4):VC E0 168 0 [.agg (ai m)] [] (RR (.s (.bool true)) 0 []):=by
 refine en L0 Tryz.f168 ?_
 repeat'(first|((first|(refine⟨fun h=>?_,fun h=>?_⟩)|(refine ba (fun h=>?_) (fun h=>?_))|(refine a9 (fun h=>?_) (fun h=>?_)))<;>(conv=>whnf)))
 all_goals(refine⟨[],[],[],_,_,⟨?_,.nil,rfl⟩,rfl,rfl,rfl⟩)
 all_goals(refine .s (Lz.of (aT ?_)))
 all_goals(simp at*;try omega)
theorem Nq (m:Lr) (h:0≤m.slot∧m.slot≤512):VC E0 170 0 [.agg (ai m)] [] (RR (.s (.bool true)) 0 []):=by
 refine en L0 Tryz.f170 ?_
 repeat'(first|((first|(refine⟨fun h=>?_,fun h=>?_⟩)|(refine ba (fun h=>?_) (fun h=>?_))|(refine a9 (fun h=>?_) (fun h=>?_)))<;>(conv=>whnf)))
 all_goals(refine⟨[],[],[],_,_,⟨?_,.nil,rfl⟩,rfl,rfl,rfl⟩)
 all_goals(refine .s (Lz.of (aT ?_)))
 all_goals(simp at*;try omega)
theorem ud (m:Lr) (h:1≤m.aB):VC E0 173 0 [.agg (ai m)] [] (RR (.s (.bool true)) 0 []):=by
 refine en L0 Tryz.f173 ?_
 repeat'(first|((first|(refine⟨fun h=>?_,fun h=>?_⟩)|(refine ba (fun h=>?_) (fun h=>?_))|(refine a9 (fun h=>?_) (fun h=>?_)))<;>(conv=>whnf)))
 all_goals(refine⟨[],[],[],_,_,⟨?_,.nil,rfl⟩,rfl,rfl,rfl⟩)
 all_goals(refine .s (Lz.of (aT ?_)))
 all_goals(simp at*;try omega)
theorem sJ (m:Lr):VC E0 178 0 [.agg (ai m)] [] (RR (.s (.bool true)) 0 []):=by
 refine en L0 Tryz.f178 ?_;exact⟨[],[],_,_,_,t3,rfl,rfl,rfl⟩
theorem ue (f t ch e s d:Int) (us:List bo) (hf:oq f) (ht:oq t) (Uq:0≤ch∧ch<4) (he:1≤e) (hl:us.length≤4):VC E0 54 0 [.agg (ai (rD f t ch e s d us))] [] (RR (.s (.int .i64 (if us.all (okW false)then 0 else 4))) 0 []):=by
 refine VC.dM L0 (show E0.func 54=some Tryz.f54 by kernel_rfl) (fun _ _=>rfl) rfl rfl [999999] ?_;refine wh ?_;refine⟨[],[],_,_,_,_,QB,t3,cw ?_⟩;refine⟨[],[],_,_,_,_,pU f hf,t3,cw ?_⟩;refine⟨[],[],_,_,_,_,pU t ht,t3,cw ?_⟩;refine⟨[],[],_,_,_,_,UF f t ch e s d us,t3,cw ?_⟩;refine⟨[],[],_,_,_,_,Nn (rD f t ch e s d us) (by show us.length<1000000;omega),t3,cw ?_⟩;refine⟨[],[],_,_,_,_,Qx,t3,cw ?_⟩;refine rn ?_;refine⟨[],[],_,_,_,_,uc (rD f t ch e s d us) Uq,t3,cw ?_⟩;refine rn ?_;refine⟨[],[],_,_,_,_,ud (rD f t ch e s d us) he,t3,cw ?_⟩;refine rn ?_
 refine⟨[],[],_,_,_,_,sJ (rD f t ch e s d us),t3,cw ?_⟩;refine rn ?_;refine⟨[],[],_,_,_,_,sJ (rD f t ch e s d us),t3,cw ?_⟩;refine rn ?_;refine⟨[],[],_,_,_,_,BV f t ch e s d us hl,t3,?_⟩;rintro r o' c' ⟨rfl,rfl,rfl⟩;have eo:=True.intro;clear eo;cases h:us.all (okW false)
 ·refine wh ?_;exact⟨[],[],_,_,_,t3,rfl,rfl,rfl⟩
 ·refine wh ?_;refine rn ?_;exact⟨[],[],_,_,_,t3,rfl,rfl,rfl⟩
theorem Gs (f t ch e:Int) (u:bo) (hf:oq f) (ht:oq t) (Uq:0≤ch∧ch<4) (he:1≤e) (hu:okW true u=true):VC E0 54 0 [.agg (ai (Af f t ch e [u]))] [] (RR (.s (.int .i64 0)) 0 []):=by
 have sH:=BW f t ch e u;rw[hu]at sH;refine VC.dM L0 (show E0.func 54=some Tryz.f54 by kernel_rfl) (fun _ _=>rfl) rfl rfl [999999] ?_;refine wh ?_;refine⟨[],[],_,_,_,_,QD,t3,cw ?_⟩;refine⟨[],[],_,_,_,_,pU f hf,t3,cw ?_⟩;refine⟨[],[],_,_,_,_,pU t ht,t3,cw ?_⟩;refine⟨[],[],_,_,_,_,UI f t ch e [u],t3,cw ?_⟩;refine⟨[],[],_,_,_,_,Nn (Af f t ch e [u]) (by show(1:Nat)<1000000;decide),t3,cw ?_⟩;refine⟨[],[],_,_,_,_,Qy,t3,cw ?_⟩;refine rn ?_;refine⟨[],[],_,_,_,_,uc (Af f t ch e [u]) Uq,t3,cw ?_⟩;refine rn ?_;refine⟨[],[],_,_,_,_,ud (Af f t ch e [u]) he,t3,cw ?_⟩;refine rn ?_
 refine⟨[],[],_,_,_,_,sH,t3,cw ?_⟩;refine rn ?_;exact⟨[],[],_,_,_,t3,rfl,rfl,rfl⟩
theorem D7 (f t ch e n s d sl:Int) (hf:oq f) (ht:oq t) (Uq:0≤ch∧ch<4) (he:1≤e) (hs:0≤sl∧sl≤512):VC E0 54 0 [.agg (ai (pS f t ch e n s d sl))] [] (RR (.s (.int .i64 0)) 0 []):=by
 refine VC.dM L0 (show E0.func 54=some Tryz.f54 by kernel_rfl) (fun _ _=>rfl) rfl rfl [999999] ?_;refine wh ?_;refine⟨[],[],_,_,_,_,QC,t3,cw ?_⟩;refine⟨[],[],_,_,_,_,pU f hf,t3,cw ?_⟩;refine⟨[],[],_,_,_,_,pU t ht,t3,cw ?_⟩;refine⟨[],[],_,_,_,_,UH f t ch e n s d sl,t3,cw ?_⟩;refine⟨[],[],_,_,_,_,Nn (pS f t ch e n s d sl) (by show(0:Nat)<1000000;decide),t3,cw ?_⟩;refine⟨[],[],_,_,_,_,Qz,t3,cw ?_⟩;refine rn ?_;refine⟨[],[],_,_,_,_,uc (pS f t ch e n s d sl) Uq,t3,cw ?_⟩;refine rn ?_;refine⟨[],[],_,_,_,_,ud (pS f t ch e n s d sl) he,t3,cw ?_⟩;refine rn ?_
 refine⟨[],[],_,_,_,_,sJ (pS f t ch e n s d sl),t3,cw ?_⟩;refine rn ?_;refine⟨[],[],_,_,_,_,sJ (pS f t ch e n s d sl),t3,cw ?_⟩;refine rn ?_;refine⟨[],[],_,_,_,_,sJ (pS f t ch e n s d sl),t3,cw ?_⟩;refine rn ?_;refine⟨[],[],_,_,_,_,Nq (pS f t ch e n s d sl) hs,t3,cw ?_⟩;refine rn ?_;exact⟨[],[],_,_,_,t3,rfl,rfl,rfl⟩
theorem QE (u:bo):VC E0 54 0 [.agg (ai (rD 1 1 0 1 0 0 [u]))] [] (RR (.s (.int .i64 (if Qb u then 0 else 4))) 0 []):=by
 have h:=ue 1 1 0 1 0 0 [u] (.inl ⟨by decide,by decide⟩) (.inl ⟨by decide,by decide⟩) ⟨by decide,by decide⟩ (by decide) (by show 1≤4;decide);rw[show [u].all (okW false)=Qb u by simp[Ig]]at h;exact h
end Go.M
