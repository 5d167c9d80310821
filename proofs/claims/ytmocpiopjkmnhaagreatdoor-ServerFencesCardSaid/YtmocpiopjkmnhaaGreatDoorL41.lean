/-
  Part 41 of the library that the proof leans on.
-/
import Derived.Test.YtmocpiopjkmnhaaGreatDoorL38
import Derived.Test.YtmocpiopjkmnhaaGreatDoorL40
namespace Go.M
open Go Go.Proofs
set_option maxRecDepth 100000
set_option maxHeartbeats 4000000
def TFar (m:LtF):TV→Ob→Nat→Prop:=fun r o c=>∃b:Bool,r= .s (.bool b)∧c=0∧o=[]∧(b=false→m.us.length<1000000∧m.votes.length<1000000∧m.conf.nodes.length<1000000)
theorem far_ok (m:LtF):VC E0 4 0 [.agg (encL m)] [] (TFar m):=by
 refine VC.enterR L0 (show E0.func 4=some Tryz.f4 by kernel_rfl) (fun _ _=>rfl) rfl rfl [] ?_
 conv=>whnf
 refine⟨fun k f o c=>∃i:Nat,i≤m.us.length∧i≤9∧k=m.us.length - i∧c=1∧f=[(1,.ptr 0 0),(2,.s (.bool false)),(3,.s (.int .i64 i))]∧o=[(0,.cells (encL m))],⟨m.us.length,?_⟩,?_⟩
 ·exact⟨[],[some 0],_,_,_,t3,⟨0,Nat.zero_le _,by omega,rfl,rfl,rfl,rfl⟩⟩
 ·rintro k f1 o1 c1 ⟨i,hi,h9,rfl,rfl,rfl,rfl⟩
  conv=>whnf
  (first|refine⟨?_,?_⟩|refine nsplit ?_ ?_|refine bsplit ?_ ?_)<;>intro h<;>have hz_:=True.intro<;>clear hz_
  ·have h:=lenlt.1 h
   conv=>whnf
   (first|refine⟨?_,?_⟩|refine nsplit ?_ ?_|refine bsplit ?_ ?_)<;>intro h8<;>have hz_:=True.intro<;>clear hz_
   ·conv=>whnf
    refine idxI h ?_
    conv=>whnf
    (first|refine⟨?_,?_⟩|refine nsplit ?_ ?_|refine bsplit ?_ ?_)<;>intro hd<;>have hz_:=True.intro<;>clear hz_
    ·conv=>whnf
     exact⟨[],[],_,_,_,t3,_,rfl,rfl,rfl,by intro h;cases h⟩
    ·conv=>whnf
     refine⟨m.us.length - (i+1),?_,by omega⟩
     exact⟨[],[some 0],_,_,_,t3,⟨i+1,h,by omega,rfl,rfl,rfl,rfl⟩⟩
   ·conv=>whnf
    (first|refine⟨?_,?_⟩|refine nsplit ?_ ?_|refine bsplit ?_ ?_)<;>intro q1<;>have hz_:=True.intro<;>clear hz_
    ·conv=>whnf
     exact⟨[],[],_,_,_,t3,_,rfl,rfl,rfl,by intro h;cases h⟩
    have q1:¬((m.us.map encUF).length:Int)>8:=q1
    rw[List.length_map]at q1
    conv=>whnf
    (first|refine⟨?_,?_⟩|refine nsplit ?_ ?_|refine bsplit ?_ ?_)<;>intro q2<;>have hz_:=True.intro<;>clear hz_
    ·conv=>whnf
     exact⟨[],[],_,_,_,t3,_,rfl,rfl,rfl,by intro h;cases h⟩
    have q2:¬((m.votes.map encVF).length:Int)>600:=q2
    rw[List.length_map]at q2
    conv=>whnf
    (first|refine⟨?_,?_⟩|refine nsplit ?_ ?_|refine bsplit ?_ ?_)<;>intro q3<;>have hz_:=True.intro<;>clear hz_
    ·conv=>whnf
     exact⟨[],[],_,_,_,t3,_,rfl,rfl,rfl,by intro h;cases h⟩
    conv=>whnf
    (first|refine⟨?_,?_⟩|refine nsplit ?_ ?_|refine bsplit ?_ ?_)<;>intro q4<;>have hz_:=True.intro<;>clear hz_
    ·conv=>whnf
     exact⟨[],[],_,_,_,t3,_,rfl,rfl,rfl,by intro h;cases h⟩
    ·have q4:¬((m.conf.nodes.map encI1).length:Int)>30:=q4
     rw[List.length_map]at q4
     conv=>whnf
     exact⟨[],[],_,_,_,t3,_,rfl,rfl,rfl,fun _=>⟨by omega,by omega,by omega⟩⟩
  ·conv=>whnf
   (first|refine⟨?_,?_⟩|refine nsplit ?_ ?_|refine bsplit ?_ ?_)<;>intro q1<;>have hz_:=True.intro<;>clear hz_
   ·conv=>whnf
    exact⟨[],[],_,_,_,t3,_,rfl,rfl,rfl,by intro h;cases h⟩
   have q1:¬((m.us.map encUF).length:Int)>8:=q1
   rw[List.length_map]at q1
   conv=>whnf
   (first|refine⟨?_,?_⟩|refine nsplit ?_ ?_|refine bsplit ?_ ?_)<;>intro q2<;>have hz_:=True.intro<;>clear hz_
   ·conv=>whnf
    exact⟨[],[],_,_,_,t3,_,rfl,rfl,rfl,by intro h;cases h⟩
   have q2:¬((m.votes.map encVF).length:Int)>600:=q2
   rw[List.length_map]at q2
   conv=>whnf
   (first|refine⟨?_,?_⟩|refine nsplit ?_ ?_|refine bsplit ?_ ?_)<;>intro q3<;>have hz_:=True.intro<;>clear hz_
   ·conv=>whnf
    exact⟨[],[],_,_,_,t3,_,rfl,rfl,rfl,by intro h;cases h⟩
   conv=>whnf
   (first|refine⟨?_,?_⟩|refine nsplit ?_ ?_|refine bsplit ?_ ?_)<;>intro q4<;>have hz_:=True.intro<;>clear hz_
   ·conv=>whnf
    exact⟨[],[],_,_,_,t3,_,rfl,rfl,rfl,by intro h;cases h⟩
   ·have q4:¬((m.conf.nodes.map encI1).length:Int)>30:=q4
    rw[List.length_map]at q4
    conv=>whnf
    exact⟨[],[],_,_,_,t3,_,rfl,rfl,rfl,fun _=>⟨by omega,by omega,by omega⟩⟩
def TT:TV→Ob→Nat→Prop:=fun r _ _=>r= .s (.bool true)
theorem rightZ:¬rightP zCf:=fun h=>by
 unfold rightP zCf at h
 simp at h
theorem fences_ok (node:Int) (c:CF) (m:LtF):VC E0 3 0 [.s (.int .i64 node),.agg (encCF c),.agg (encL m)] [] TT:=by
 have hfar:=far_ok m
 have haw:=awake_ok
 refine VC.enterR L0 (show E0.func 3=some Tryz.f3 by kernel_rfl) (fun _ _=>rfl) rfl rfl [] ?_
 conv=>whnf
 refine⟨[],[],_,_,_,_,hfar,t3,?_⟩
 rintro r o' c' ⟨b,rfl,rfl,rfl,hb⟩
 cases b
 ·obtain⟨h2,h1,h3⟩:=hb rfl
  clear hb
  conv=>whnf
  (first|refine⟨?_,?_⟩|refine nsplit ?_ ?_|refine bsplit ?_ ?_)<;>intro q1<;>have hz_:=True.intro<;>clear hz_
  ·conv=>whnf
   refine⟨[],[],_,_,_,_,haw,t3,cR ?_⟩
   conv=>whnf
   exact⟨[],[],_,_,_,t3,rfl⟩
  have q1:¬((c.nodes.map encI1).length:Int)>30:=q1
  rw[List.length_map]at q1
  conv=>whnf
  refine⟨[],[],_,_,_,_,srvNew_ok node c (by omega),t3,?_⟩
  rintro r o' c' (⟨e,he,rfl,rfl,rfl⟩|⟨d,q,op,hd,rfl,rfl,rfl⟩)
  ·conv=>whnf
   (first|refine⟨?_,?_⟩|refine nsplit ?_ ?_|refine bsplit ?_ ?_)<;>intro q2<;>have hz_:=True.intro<;>clear hz_
   ·conv=>whnf
    refine⟨[],[],_,_,_,_,haw,t3,cR ?_⟩
    conv=>whnf
    exact⟨[],[],_,_,_,t3,rfl⟩
   ·exact absurd he q2
  ·conv=>whnf
   ((first|(refine⟨fun h_=>?_,fun h_=>?_⟩)|(refine nsplit (fun h_=>?_) (fun h_=>?_))|(refine bsplit (fun h_=>?_) (fun h_=>?_)))<;>first|(exfalso;revert h_;decide;done)|(exact absurd rfl h_)|(have hz_:=True.intro;clear hz_;(conv=>whnf)))
   (first|refine⟨?_,?_⟩|refine nsplit ?_ ?_|refine bsplit ?_ ?_)<;>intro q3<;>have hz_:=True.intro<;>clear hz_
   ·conv=>whnf
    refine⟨[],[],_,_,_,_,haw,t3,cR ?_⟩
    conv=>whnf
    exact⟨[],[],_,_,_,t3,rfl⟩
   have q3:¬m.kind<12:=q3
   have hfen:¬(m.epoch=c.epoch∧m.chain=c.chain)→Fen d m:=fun hn=>⟨by omega,h1,h2,h3,fun hr=>by
    rcases hd with rfl |rfl
    ·exact absurd hr rightZ
    ·exact hn⟩
   have hdn:d.nodes.length<1000000:=by
    rcases hd with rfl |rfl
    ·decide
    ·omega
   have hR:=srvRep_ok node d q op
   have hS:=repSto_ok node d q op
   have hG:=repGot_ok node d q op
   have hL:=srvReads_ok node d q op
   have hT:=fun H=>srvTake_ok node d q op m H hdn
   conv=>whnf
   (first|refine⟨?_,?_⟩|refine nsplit ?_ ?_|refine bsplit ?_ ?_)<;>intro q4<;>have hz_:=True.intro<;>clear hz_
   ·conv=>whnf
    (first|refine⟨?_,?_⟩|refine nsplit ?_ ?_|refine bsplit ?_ ?_)<;>intro q5<;>have hz_:=True.intro<;>clear hz_
    ·conv=>whnf
     refine⟨[],[],_,_,_,_,haw,t3,cR ?_⟩
     conv=>whnf
     exact⟨[],[],_,_,_,t3,rfl⟩
    ·have hF:=hfen fun h=>q5 h.2
     conv=>whnf
     refine⟨[],[some 2,some 3,some 4,some 5,some 6,some 7,some 8,some 9],_,_,_,_,hR,t3,cR ?_⟩
     conv=>whnf
     refine⟨[],[some 3,some 4,some 5,some 6,some 7,some 8],_,_,_,_,hS,t3,cR ?_⟩
     conv=>whnf
     refine⟨[],[some 4,some 5,some 6],_,_,_,_,picZ_ok,t3,cR ?_⟩
     conv=>whnf
     refine⟨[],[some 2,some 3,some 4,some 5,some 6,some 7,some 8,some 9],_,_,_,_,hR,t3,cR ?_⟩
     conv=>whnf
     refine⟨[],[some 3,some 4,some 5,some 6,some 7,some 8],_,_,_,_,hG,t3,cR ?_⟩
     conv=>whnf
     refine⟨[],[some 2,some 3,some 4,some 5,some 6,some 7,some 8,some 9],_,_,_,_,hT hF,t3,cR ?_⟩
     conv=>whnf
     refine⟨[],[some 2,some 3,some 4,some 5,some 6,some 7,some 8,some 9],_,_,_,_,hR,t3,cR ?_⟩
     conv=>whnf
     refine⟨[],[some 3,some 4,some 5,some 6,some 7,some 8],_,_,_,_,hG,t3,cR ?_⟩
     conv=>whnf
     repeat((first|(refine⟨fun h_=>?_,fun h_=>?_⟩)|(refine nsplit (fun h_=>?_) (fun h_=>?_))|(refine bsplit (fun h_=>?_) (fun h_=>?_)))<;>first|(exfalso;revert h_;decide;done)|(exact absurd rfl h_)|(have hz_:=True.intro;clear hz_;(conv=>whnf)))
     refine⟨[],[some 2,some 3,some 4,some 5,some 6,some 7,some 8,some 9],_,_,_,_,hR,t3,cR ?_⟩
     conv=>whnf
     refine⟨[],[some 3,some 4,some 5,some 6,some 7,some 8],_,_,_,_,hS,t3,cR ?_⟩
     conv=>whnf
     refine⟨[],[some 4,some 5,some 6],_,_,_,_,picZ_ok,t3,cR ?_⟩
     conv=>whnf
     refine⟨[],[],_,_,_,_,sameZ_ok,t3,cR ?_⟩
     conv=>whnf
     repeat((first|(refine⟨fun h_=>?_,fun h_=>?_⟩)|(refine nsplit (fun h_=>?_) (fun h_=>?_))|(refine bsplit (fun h_=>?_) (fun h_=>?_)))<;>first|(exfalso;revert h_;decide;done)|(exact absurd rfl h_)|(have hz_:=True.intro;clear hz_;(conv=>whnf)))
     refine⟨[],[some 2,some 3,some 4,some 5,some 6,some 7,some 8,some 9],_,_,_,_,hL,t3,cR ?_⟩
     conv=>whnf
     repeat((first|(refine⟨fun h_=>?_,fun h_=>?_⟩)|(refine nsplit (fun h_=>?_) (fun h_=>?_))|(refine bsplit (fun h_=>?_) (fun h_=>?_)))<;>first|(exfalso;revert h_;decide;done)|(exact absurd rfl h_)|(have hz_:=True.intro;clear hz_;(conv=>whnf)))
     refine⟨[],[],_,_,_,_,haw,t3,cR ?_⟩
     conv=>whnf
     exact⟨[],[],_,_,_,t3,rfl⟩
   ·have hF:=hfen fun h=>q4 h.1
    conv=>whnf
    refine⟨[],[some 2,some 3,some 4,some 5,some 6,some 7,some 8,some 9],_,_,_,_,hR,t3,cR ?_⟩
    conv=>whnf
    refine⟨[],[some 3,some 4,some 5,some 6,some 7,some 8],_,_,_,_,hS,t3,cR ?_⟩
    conv=>whnf
    refine⟨[],[some 4,some 5,some 6],_,_,_,_,picZ_ok,t3,cR ?_⟩
    conv=>whnf
    refine⟨[],[some 2,some 3,some 4,some 5,some 6,some 7,some 8,some 9],_,_,_,_,hR,t3,cR ?_⟩
    conv=>whnf
    refine⟨[],[some 3,some 4,some 5,some 6,some 7,some 8],_,_,_,_,hG,t3,cR ?_⟩
    conv=>whnf
    refine⟨[],[some 2,some 3,some 4,some 5,some 6,some 7,some 8,some 9],_,_,_,_,hT hF,t3,cR ?_⟩
    conv=>whnf
    refine⟨[],[some 2,some 3,some 4,some 5,some 6,some 7,some 8,some 9],_,_,_,_,hR,t3,cR ?_⟩
    conv=>whnf
    refine⟨[],[some 3,some 4,some 5,some 6,some 7,some 8],_,_,_,_,hG,t3,cR ?_⟩
    conv=>whnf
    repeat((first|(refine⟨fun h_=>?_,fun h_=>?_⟩)|(refine nsplit (fun h_=>?_) (fun h_=>?_))|(refine bsplit (fun h_=>?_) (fun h_=>?_)))<;>first|(exfalso;revert h_;decide;done)|(exact absurd rfl h_)|(have hz_:=True.intro;clear hz_;(conv=>whnf)))
    refine⟨[],[some 2,some 3,some 4,some 5,some 6,some 7,some 8,some 9],_,_,_,_,hR,t3,cR ?_⟩
    conv=>whnf
    refine⟨[],[some 3,some 4,some 5,some 6,some 7,some 8],_,_,_,_,hS,t3,cR ?_⟩
    conv=>whnf
    refine⟨[],[some 4,some 5,some 6],_,_,_,_,picZ_ok,t3,cR ?_⟩
    conv=>whnf
    refine⟨[],[],_,_,_,_,sameZ_ok,t3,cR ?_⟩
    conv=>whnf
    repeat((first|(refine⟨fun h_=>?_,fun h_=>?_⟩)|(refine nsplit (fun h_=>?_) (fun h_=>?_))|(refine bsplit (fun h_=>?_) (fun h_=>?_)))<;>first|(exfalso;revert h_;decide;done)|(exact absurd rfl h_)|(have hz_:=True.intro;clear hz_;(conv=>whnf)))
    refine⟨[],[some 2,some 3,some 4,some 5,some 6,some 7,some 8,some 9],_,_,_,_,hL,t3,cR ?_⟩
    conv=>whnf
    repeat((first|(refine⟨fun h_=>?_,fun h_=>?_⟩)|(refine nsplit (fun h_=>?_) (fun h_=>?_))|(refine bsplit (fun h_=>?_) (fun h_=>?_)))<;>first|(exfalso;revert h_;decide;done)|(exact absurd rfl h_)|(have hz_:=True.intro;clear hz_;(conv=>whnf)))
    refine⟨[],[],_,_,_,_,haw,t3,cR ?_⟩
    conv=>whnf
    exact⟨[],[],_,_,_,t3,rfl⟩
 ·conv=>whnf
  refine⟨[],[],_,_,_,_,haw,t3,cR ?_⟩
  conv=>whnf
  exact⟨[],[],_,_,_,t3,rfl⟩
end Go.M
