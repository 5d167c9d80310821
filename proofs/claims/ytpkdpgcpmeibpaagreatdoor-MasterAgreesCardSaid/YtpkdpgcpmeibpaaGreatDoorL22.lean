/-
  Part 22 of the library that the proof leans on.
-/
import Derived.Test.YtpkdpgcpmeibpaaGreatDoorL12
import Derived.Test.YtpkdpgcpmeibpaaGreatDoorL20
namespace Go.M
open Go Go.Proofs
set_option maxRecDepth 100000
set_option maxHeartbeats 4000000
def m4 (p:Int) (v:ak):Bool:=decide (0≤v.slot)&&decide (v.slot<512)&&decide (p<v.slot)&&cd v.ai&&decide ((ao v).check=0)
def W5:Int→List ak→Bool
 |_,[]=>true
 |p,v::l=>m4 p v&&W5 v.slot l
def qG (vs:List ak):Bool:=W5 (-1) vs&&decide (vs.length≤512)
def m6 (vs:List ak) (i:Nat):Int:=if i=0 then -1 else((vs[i - 1]?).map (·.slot)).getD 0
theorem W6 {vs:List ak} {i:Nat} (h:i<vs.length):W5 (m6 vs i) (vs.drop i)=(m4 (m6 vs i) vs[i]&&W5 (m6 vs (i+1)) (vs.drop (i+1))):=by
 rw[List.drop_eq_getElem_cons h];have:m6 vs (i+1)=vs[i].slot:=by simp[m6,h]
 rw[this];rfl
theorem W7 (vs:List ak) (hl:vs.length<1000000):VC E0 170 0 [c6 vs] [] (RR (.s (.bool (qG vs))) 0 []):=by
 refine en L0 Tryz.f170 ?_;refine⟨fun k f o c=>∃i:Nat,i≤vs.length∧k=vs.length - i∧W5 (m6 vs i) (vs.drop i)=W5 (-1) vs∧c=0∧f=[(0,c6 vs),(5,c6 vs),(6,.s (.int .i64 (vs.map eZ).length)),(7,.s (.int .i64 i))]∧o=[],⟨vs.length,?_⟩,?_⟩
 ·exact⟨[],[],_,_,_,t3,⟨0,Nat.zero_le _,rfl,rfl,rfl,rfl,rfl⟩⟩
 ·rintro k f1 o1 c1 ⟨i,hi,rfl,hg,rfl,rfl,rfl⟩;refine wh ?_;refine sp ?_ ?_<;>intro h
  ·have h:=dZ.1 h;have hs:=W6 h;rw[hg]at hs;refine wh ?_;refine eT h ?_;refine wh ?_;have no:m4 (m6 vs i) vs[i]=false→qG vs=false:=fun e=>by unfold qG;rw[hs,e];rfl
   refine sp ?_ ?_<;>intro h1
   ·have h1:vs[i].slot<0:=h1;refine wh ?_;refine⟨[],[],_,_,_,tx ?_,rfl,rfl,rfl⟩;exact Lz.of (ah (Eq.symm (no (by simp[m4];omega))))
   ·have h1:¬vs[i].slot<0:=h1;refine wh ?_;refine sp ?_ ?_<;>intro h2
    ·have h2:vs[i].slot≥512:=h2;refine wh ?_;refine⟨[],[],_,_,_,tx ?_,rfl,rfl,rfl⟩;exact Lz.of (ah (Eq.symm (no (by simp[m4];omega))))
    ·have h2:¬vs[i].slot≥512:=h2;refine wh ?_;refine sp ?_ ?_<;>intro h3
     ·have h3:(i:Int)>0:=h3;refine wh ?_;have hi1:i - 1<vs.length:=by omega
      have hw:IntKind.i64.wrap ((i:Int) - 1)=((i - 1:Nat):Int):=by rw[IntWalk.i64_in _ om];omega
      have hpv:m6 vs i=(vs[i - 1]).slot:=by unfold m6;rw[if_neg om,List.getElem?_eq_getElem hi1];rfl
      refine⟨eZ vs[i - 1],⟨by rw[hw];omega,by rw[hw,Int.toNat_natCast,List.getElem?_map,List.getElem?_eq_getElem hi1];rfl⟩,?_⟩;refine wh ?_;refine sp ?_ ?_<;>intro hp
      ·have hp:vs[i].slot≤(vs[i - 1]).slot:=hp;refine wh ?_;refine⟨[],[],_,_,_,tx ?_,rfl,rfl,rfl⟩;exact Lz.of (ah (Eq.symm (no (by simp[m4];omega))))
      ·have hp:¬vs[i].slot≤(vs[i - 1]).slot:=hp;have hp:m6 vs i<vs[i].slot:=by omega
       refine wh ?_;refine⟨[],[],_,_,_,_,Gp vs[i].ai,t3,?_⟩;rintro r o' c' ⟨rfl,rfl,rfl⟩;have bm:=True.intro;clear bm;cases hb:cd vs[i].ai
       ·refine wh ?_;refine⟨[],[],_,_,_,tx ?_,rfl,rfl,rfl⟩;exact Lz.of (ah (Eq.symm (no (by simp[m4,hb]))))
       ·refine wh ?_;refine⟨[],[],_,_,_,_,l5 vs[i].kind vs[i].chain vs[i].aq vs[i].node,t3,cw ?_⟩;refine sp ?_ ?_<;>intro h4
        ·have h4:(ao vs[i]).check≠0:=h4;refine wh ?_;refine⟨[],[],_,_,_,tx ?_,rfl,rfl,rfl⟩;exact Lz.of (ah (Eq.symm (no (by simp[m4,h4]))))
        ·have h4:(ao vs[i]).check=0:=Classical.not_not.1 h4;refine wh ?_;refine⟨vs.length - (i+1),?_,om⟩;exact⟨[],[],_,_,_,t3,⟨i+1,h,rfl,by rw[hs,show m4 (m6 vs i) vs[i]=true by simp[m4,hb,h4,hp];omega];rfl,rfl,rfl,rfl⟩⟩
     ·have h3:¬(i:Int)>0:=h3;have hp:m6 vs i<vs[i].slot:=by unfold m6;rw[if_pos om];omega
      refine wh ?_;refine⟨[],[],_,_,_,_,Gp vs[i].ai,t3,?_⟩;rintro r o' c' ⟨rfl,rfl,rfl⟩;have bm:=True.intro;clear bm;cases hb:cd vs[i].ai
      ·refine wh ?_;refine⟨[],[],_,_,_,tx ?_,rfl,rfl,rfl⟩;exact Lz.of (ah (Eq.symm (no (by simp[m4,hb]))))
      ·refine wh ?_;refine⟨[],[],_,_,_,_,l5 vs[i].kind vs[i].chain vs[i].aq vs[i].node,t3,cw ?_⟩;refine sp ?_ ?_<;>intro h4
       ·have h4:(ao vs[i]).check≠0:=h4;refine wh ?_;refine⟨[],[],_,_,_,tx ?_,rfl,rfl,rfl⟩;exact Lz.of (ah (Eq.symm (no (by simp[m4,h4]))))
       ·have h4:(ao vs[i]).check=0:=Classical.not_not.1 h4;refine wh ?_;refine⟨vs.length - (i+1),?_,om⟩;exact⟨[],[],_,_,_,t3,⟨i+1,h,rfl,by rw[hs,show m4 (m6 vs i) vs[i]=true by simp[m4,hb,h4,hp];omega];rfl,rfl,rfl,rfl⟩⟩
  ·have h:¬i<vs.length:=mt dZ.2 h;have hd:W5 (-1) vs=true:=by rw[←hg,List.drop_of_length_le om];rfl
   refine wh ?_;refine sp ?_ ?_<;>intro h5
   ·have h5:(((vs.map eZ).length:Nat):Int)≤512:=h5;rw[List.length_map]at h5;refine wh ?_;refine⟨[],[],_,_,_,tx ?_,rfl,rfl,rfl⟩;exact Lz.of (ah (Eq.symm (by unfold qG;rw[hd];simp;omega)))
   ·have h5:¬(((vs.map eZ).length:Nat):Int)≤512:=h5;rw[List.length_map]at h5;refine wh ?_;refine⟨[],[],_,_,_,tx ?_,rfl,rfl,rfl⟩;exact Lz.of (ah (Eq.symm (by unfold qG;rw[hd];simp;omega)))
end Go.M
