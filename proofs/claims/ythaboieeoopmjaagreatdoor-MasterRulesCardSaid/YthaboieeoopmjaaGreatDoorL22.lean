/-
  Part 22 of the library that the proof leans on.
-/
import Derived.Test.YthaboieeoopmjaaGreatDoorL12
import Derived.Test.YthaboieeoopmjaaGreatDoorL20
namespace Go.M
open Go Go.Proofs
set_option maxRecDepth 100000
set_option maxHeartbeats 4000000
def ma (p:Int) (v:ai):Bool:=decide (0≤v.slot)&&decide (v.slot<512)&&decide (p<v.slot)&&bP v.ao&&decide ((aA v).check=0)
def Xs:Int→List ai→Bool
 |_,[]=>true
 |p,v::l=>ma p v&&Xs v.slot l
def pR (vs:List ai):Bool:=Xs (-1) vs&&decide (vs.length≤512)
def mg (vs:List ai) (i:Nat):Int:=if i=0 then -1 else((vs[i - 1]?).map (·.slot)).getD 0
theorem Xt {vs:List ai} {i:Nat} (h:i<vs.length):Xs (mg vs i) (vs.drop i)=(ma (mg vs i) vs[i]&&Xs (mg vs (i+1)) (vs.drop (i+1))):=by
 rw[List.drop_eq_getElem_cons h];have:mg vs (i+1)=vs[i].slot:=by simp[mg,h]
 rw[this];rfl
theorem Xu (vs:List ai) (hl:vs.length<1000000):VC E0 160 0 [cQ vs] [] (RR (.s (.bool (pR vs))) 0 []):=by
 refine en L0 Tryz.f160 ?_;refine⟨fun k f o c=>∃i:Nat,i≤vs.length∧k=vs.length - i∧Xs (mg vs i) (vs.drop i)=Xs (-1) vs∧c=0∧f=[(0,cQ vs),(5,cQ vs),(6,.s (.int .i64 (vs.map eL).length)),(7,.s (.int .i64 i))]∧o=[],⟨vs.length,?_⟩,?_⟩
 ·exact⟨[],[],_,_,_,t3,⟨0,Nat.zero_le _,rfl,rfl,rfl,rfl,rfl⟩⟩
 ·rintro k f1 o1 c1 ⟨i,hi,rfl,hg,rfl,rfl,rfl⟩;refine wh ?_;refine sp ?_ ?_<;>intro h
  ·have h:=fW.1 h;have hs:=Xt h;rw[hg]at hs;refine wh ?_;refine jg h ?_;refine wh ?_;have no:ma (mg vs i) vs[i]=false→pR vs=false:=fun e=>by unfold pR;rw[hs,e];rfl
   refine sp ?_ ?_<;>intro h1
   ·have h1:vs[i].slot<0:=h1;refine wh ?_;refine⟨[],[],_,_,_,tx ?_,rfl,rfl,rfl⟩;exact Lz.of (an (Eq.symm (no (by simp[ma];omega))))
   ·have h1:¬vs[i].slot<0:=h1;refine wh ?_;refine sp ?_ ?_<;>intro h2
    ·have h2:vs[i].slot≥512:=h2;refine wh ?_;refine⟨[],[],_,_,_,tx ?_,rfl,rfl,rfl⟩;exact Lz.of (an (Eq.symm (no (by simp[ma];omega))))
    ·have h2:¬vs[i].slot≥512:=h2;refine wh ?_;refine sp ?_ ?_<;>intro h3
     ·have h3:(i:Int)>0:=h3;refine wh ?_;have hi1:i - 1<vs.length:=by omega
      have hw:IntKind.i64.wrap ((i:Int) - 1)=((i - 1:Nat):Int):=by rw[IntWalk.i64_in _ om];omega
      have hpv:mg vs i=(vs[i - 1]).slot:=by unfold mg;rw[if_neg om,List.getElem?_eq_getElem hi1];rfl
      refine⟨eL vs[i - 1],⟨by rw[hw];omega,by rw[hw,Int.toNat_natCast,List.getElem?_map,List.getElem?_eq_getElem hi1];rfl⟩,?_⟩;refine wh ?_;refine sp ?_ ?_<;>intro hp
      ·have hp:vs[i].slot≤(vs[i - 1]).slot:=hp;refine wh ?_;refine⟨[],[],_,_,_,tx ?_,rfl,rfl,rfl⟩;exact Lz.of (an (Eq.symm (no (by simp[ma];omega))))
      ·have hp:¬vs[i].slot≤(vs[i - 1]).slot:=hp;have hp:mg vs i<vs[i].slot:=by omega
       refine wh ?_;refine⟨[],[],_,_,_,_,FB vs[i].ao,t3,?_⟩;rintro r o' c' ⟨rfl,rfl,rfl⟩;have bj:=True.intro;clear bj;cases hb:bP vs[i].ao
       ·refine wh ?_;refine⟨[],[],_,_,_,tx ?_,rfl,rfl,rfl⟩;exact Lz.of (an (Eq.symm (no (by simp[ma,hb]))))
       ·refine wh ?_;refine⟨[],[],_,_,_,_,lk vs[i].kind vs[i].chain vs[i].aq vs[i].node,t3,cw ?_⟩;refine sp ?_ ?_<;>intro h4
        ·have h4:(aA vs[i]).check≠0:=h4;refine wh ?_;refine⟨[],[],_,_,_,tx ?_,rfl,rfl,rfl⟩;exact Lz.of (an (Eq.symm (no (by simp[ma,h4]))))
        ·have h4:(aA vs[i]).check=0:=Classical.not_not.1 h4;refine wh ?_;refine⟨vs.length - (i+1),?_,om⟩;exact⟨[],[],_,_,_,t3,⟨i+1,h,rfl,by rw[hs,show ma (mg vs i) vs[i]=true by simp[ma,hb,h4,hp];omega];rfl,rfl,rfl,rfl⟩⟩
     ·have h3:¬(i:Int)>0:=h3;have hp:mg vs i<vs[i].slot:=by unfold mg;rw[if_pos om];omega
      refine wh ?_;refine⟨[],[],_,_,_,_,FB vs[i].ao,t3,?_⟩;rintro r o' c' ⟨rfl,rfl,rfl⟩;have bj:=True.intro;clear bj;cases hb:bP vs[i].ao
      ·refine wh ?_;refine⟨[],[],_,_,_,tx ?_,rfl,rfl,rfl⟩;exact Lz.of (an (Eq.symm (no (by simp[ma,hb]))))
      ·refine wh ?_;refine⟨[],[],_,_,_,_,lk vs[i].kind vs[i].chain vs[i].aq vs[i].node,t3,cw ?_⟩;refine sp ?_ ?_<;>intro h4
       ·have h4:(aA vs[i]).check≠0:=h4;refine wh ?_;refine⟨[],[],_,_,_,tx ?_,rfl,rfl,rfl⟩;exact Lz.of (an (Eq.symm (no (by simp[ma,h4]))))
       ·have h4:(aA vs[i]).check=0:=Classical.not_not.1 h4;refine wh ?_;refine⟨vs.length - (i+1),?_,om⟩;exact⟨[],[],_,_,_,t3,⟨i+1,h,rfl,by rw[hs,show ma (mg vs i) vs[i]=true by simp[ma,hb,h4,hp];omega];rfl,rfl,rfl,rfl⟩⟩
  ·have h:¬i<vs.length:=mt fW.2 h;have hd:Xs (-1) vs=true:=by rw[←hg,List.drop_of_length_le om];rfl
   refine wh ?_;refine sp ?_ ?_<;>intro h5
   ·have h5:(((vs.map eL).length:Nat):Int)≤512:=h5;rw[List.length_map]at h5;refine wh ?_;refine⟨[],[],_,_,_,tx ?_,rfl,rfl,rfl⟩;exact Lz.of (an (Eq.symm (by unfold pR;rw[hd];simp;omega)))
   ·have h5:¬(((vs.map eL).length:Nat):Int)≤512:=h5;rw[List.length_map]at h5;refine wh ?_;refine⟨[],[],_,_,_,tx ?_,rfl,rfl,rfl⟩;exact Lz.of (an (Eq.symm (by unfold pR;rw[hd];simp;omega)))
end Go.M
