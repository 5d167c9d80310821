/-
  Part 38 of the library that the proof leans on.
-/
import Derived.Test.YtmocpiopjkmnhaaGreatDoorL17
import Derived.Test.YtmocpiopjkmnhaaGreatDoorL37
namespace Go.M
open Go Go.Proofs
set_option maxRecDepth 100000
set_option maxHeartbeats 4000000
structure Fen (c:CF) (m:LtF):Prop where
 hk:12≤m.kind
 h1:m.votes.length<1000000
 h2:m.us.length<1000000
 h3:m.conf.nodes.length<1000000
 hc:rightP c→¬(m.epoch=c.epoch∧m.chain=c.chain)
theorem repTake_ok (node:Int) (d:CF) (q:RoF) (op:Bool) (m:LtF) (H:Fen d m):VC E0 28 6 [.ptr 0 0,.agg (encL m)] (repO node d q op) (RR nS 6 (repO node d q op)):=by
 have hf:=fence_ok d node m H.hk H.h1 H.h2 H.h3 H.hc
 clear H
 refine VC.enterR L0 (show E0.func 28=some Tryz.f28 by kernel_rfl) (fun _ _=>rfl) rfl rfl [] ?_
 ((conv=>whnf)<;>repeat(with_reducible refine D1 ?_)<;>conv=>whnf)
 refine⟨[],[],_,_,_,_,hf,t3,?_⟩
 rintro r o' c' ⟨n,hn,rfl,rfl,rfl⟩
 conv=>whnf
 (first|refine⟨?_,?_⟩|refine nsplit ?_ ?_|refine bsplit ?_ ?_)<;>intro h0<;>have hz_:=True.intro<;>clear hz_
 ·((conv=>whnf)<;>repeat(with_reducible refine D1 ?_)<;>conv=>whnf)
  exact⟨[],[some 0,some 1,some 2,some 3,some 4,some 5],_,_,_,t3,rfl,rfl,rfl⟩
 ·exact absurd hn h0
theorem srvIn_ok (node:Int) (d:CF) (q:RoF) (op:Bool) (m:LtF) (H:Fen d m) (hn:d.nodes.length<1000000):VC E0 29 8 [.ptr 0 0,.agg (encL m)] (srvO node d q op) (RR (.s (.bool false)) 8 (srvO node d q op)):=by
 have hf:=fence_ok d node m H.hk H.h1 H.h2 H.h3 H.hc
 have hc:=repConf_ok node d q op hn
 clear H
 refine VC.enterR L0 (show E0.func 29=some Tryz.f29 by kernel_rfl) (fun _ _=>rfl) rfl rfl [] ?_
 ((conv=>whnf)<;>repeat(with_reducible refine D1 ?_)<;>conv=>whnf)
 refine⟨[],[some 1,some 2,some 3,some 4,some 5,some 6],_,_,_,_,hc,t3,cR ?_⟩
 conv=>whnf
 refine⟨[],[],_,_,_,_,hf,t3,?_⟩
 rintro r o' c' ⟨n,hn,rfl,rfl,rfl⟩
 conv=>whnf
 (first|refine⟨?_,?_⟩|refine nsplit ?_ ?_|refine bsplit ?_ ?_)<;>intro h0<;>have hz_:=True.intro<;>clear hz_
 ·exact absurd h0 hn
 ·((conv=>whnf)<;>repeat(with_reducible refine D1 ?_)<;>conv=>whnf)
  exact⟨[],[some 0,some 1,some 2,some 3,some 4,some 5,some 6,some 7],_,_,_,t3,rfl,rfl,rfl⟩
theorem srvTake_ok (node:Int) (d:CF) (q:RoF) (op:Bool) (m:LtF) (H:Fen d m) (hn:d.nodes.length<1000000):VC E0 11 8 [.ptr 0 0,.agg (encL m)] (srvO node d q op) (RR nS 8 (srvO node d q op)):=by
 have hch:=checkT m H.hk H.h1 H.h2 H.h3
 have ht:=repTake_ok node d q op m H
 have hi:=srvIn_ok node d q op m H hn
 have hk:=H.hk
 clear H
 refine VC.enterR L0 (show E0.func 11=some Tryz.f11 by kernel_rfl) (fun _ _=>rfl) rfl rfl [] ?_
 ((conv=>whnf)<;>repeat(with_reducible refine D1 ?_)<;>conv=>whnf)
 refine⟨[],[],_,_,_,_,hch,t3,?_⟩
 rintro r o' c' ⟨n,rfl,rfl,rfl⟩
 conv=>whnf
 (first|refine⟨?_,?_⟩|refine nsplit ?_ ?_|refine bsplit ?_ ?_)<;>intro h0<;>have hz_:=True.intro<;>clear hz_
 ·((conv=>whnf)<;>repeat(with_reducible refine D1 ?_)<;>conv=>whnf)
  exact⟨[],[some 0,some 1,some 2,some 3,some 4,some 5,some 6,some 7],_,_,_,t3,rfl,rfl,rfl⟩
 conv=>whnf
 (first|refine⟨?_,?_⟩|refine nsplit ?_ ?_|refine bsplit ?_ ?_)<;>intro h1<;>have hz_:=True.intro<;>clear hz_
 ·((conv=>whnf)<;>repeat(with_reducible refine D1 ?_)<;>conv=>whnf)
  exact⟨[],[some 0,some 1,some 2,some 3,some 4,some 5,some 6,some 7],_,_,_,t3,rfl,rfl,rfl⟩
 ((conv=>whnf)<;>repeat(with_reducible refine D1 ?_)<;>conv=>whnf)
 (first|refine⟨?_,?_⟩|refine nsplit ?_ ?_|refine bsplit ?_ ?_)<;>intro h2<;>have hz_:=True.intro<;>clear hz_
 ·have h2:m.kind=11:=h2
  omega
 conv=>whnf
 (first|refine⟨?_,?_⟩|refine nsplit ?_ ?_|refine bsplit ?_ ?_)<;>intro h3<;>have hz_:=True.intro<;>clear hz_
 ·((conv=>whnf)<;>repeat(with_reducible refine D1 ?_)<;>conv=>whnf)
  refine⟨[],[some 1,some 2,some 3,some 4,some 5,some 6],_,_,_,_,ht,t3,cR ?_⟩
  ((conv=>whnf)<;>repeat(with_reducible refine D1 ?_)<;>conv=>whnf)
  exact⟨[],[some 0,some 1,some 2,some 3,some 4,some 5,some 6,some 7],_,_,_,t3,rfl,rfl,rfl⟩
 conv=>whnf
 (first|refine⟨?_,?_⟩|refine nsplit ?_ ?_|refine bsplit ?_ ?_)<;>intro h4<;>have hz_:=True.intro<;>clear hz_
 ·((conv=>whnf)<;>repeat(with_reducible refine D1 ?_)<;>conv=>whnf)
  refine⟨[],[some 1,some 2,some 3,some 4,some 5,some 6],_,_,_,_,ht,t3,cR ?_⟩
  ((conv=>whnf)<;>repeat(with_reducible refine D1 ?_)<;>conv=>whnf)
  exact⟨[],[some 0,some 1,some 2,some 3,some 4,some 5,some 6,some 7],_,_,_,t3,rfl,rfl,rfl⟩
 conv=>whnf
 (first|refine⟨?_,?_⟩|refine nsplit ?_ ?_|refine bsplit ?_ ?_)<;>intro h5<;>have hz_:=True.intro<;>clear hz_
 ·((conv=>whnf)<;>repeat(with_reducible refine D1 ?_)<;>conv=>whnf)
  refine⟨[],[some 1,some 2,some 3,some 4,some 5,some 6],_,_,_,_,ht,t3,cR ?_⟩
  ((conv=>whnf)<;>repeat(with_reducible refine D1 ?_)<;>conv=>whnf)
  exact⟨[],[some 0,some 1,some 2,some 3,some 4,some 5,some 6,some 7],_,_,_,t3,rfl,rfl,rfl⟩
 conv=>whnf
 (first|refine⟨?_,?_⟩|refine nsplit ?_ ?_|refine bsplit ?_ ?_)<;>intro h6<;>have hz_:=True.intro<;>clear hz_
 ·((conv=>whnf)<;>repeat(with_reducible refine D1 ?_)<;>conv=>whnf)
  refine⟨[],[some 1,some 2,some 3,some 4,some 5,some 6],_,_,_,_,ht,t3,cR ?_⟩
  ((conv=>whnf)<;>repeat(with_reducible refine D1 ?_)<;>conv=>whnf)
  exact⟨[],[some 0,some 1,some 2,some 3,some 4,some 5,some 6,some 7],_,_,_,t3,rfl,rfl,rfl⟩
 conv=>whnf
 refine⟨[],[some 0,some 1,some 2,some 3,some 4,some 5,some 6,some 7],_,_,_,_,hi,t3,cR ?_⟩
 conv=>whnf
 exact⟨[],[some 0,some 1,some 2,some 3,some 4,some 5,some 6,some 7],_,_,_,t3,rfl,rfl,rfl⟩
end Go.M
