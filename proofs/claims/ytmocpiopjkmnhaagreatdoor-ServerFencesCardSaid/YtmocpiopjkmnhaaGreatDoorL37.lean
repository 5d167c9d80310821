/-
  Part 37 of the library that the proof leans on.
-/
import Derived.Test.YtmocpiopjkmnhaaGreatDoorL19
import Derived.Test.YtmocpiopjkmnhaaGreatDoorL36
import Derived.Test.YtmocpiopjkmnhaaGreatDoorL21
import Derived.Test.YtmocpiopjkmnhaaGreatDoorL23
import Derived.Test.YtmocpiopjkmnhaaGreatDoorL25
import Derived.Test.YtmocpiopjkmnhaaGreatDoorL27
import Derived.Test.YtmocpiopjkmnhaaGreatDoorL29
import Derived.Test.YtmocpiopjkmnhaaGreatDoorL31
import Derived.Test.YtmocpiopjkmnhaaGreatDoorL33
import Derived.Test.YtmocpiopjkmnhaaGreatDoorL35
import Derived.Test.YtmocpiopjkmnhaaGreatDoorL17
namespace Go.M
open Go Go.Proofs
set_option maxRecDepth 100000
set_option maxHeartbeats 4000000
theorem checkT20 (m:LtF) (hk:m.kind=20) (h1:m.votes.length<1000000) (h2:m.us.length<1000000) (h3:m.conf.nodes.length<1000000):VC E0 26 0 [.agg (encL m)] [] TI:=by
 have hb:=bareC20 m hk
 have hs:=sameLT m (bareL20 m) h1 h2 h3
 generalize bareL20 m=m2 at hb hs
 have hfineAny:=fineAny m
 have hfineData:=fineData m
 have ha:=addrT m.frm
 have hc:=addrT m.to
 clear h1 h2 h3
 obtain⟨kind,frm,to,chain,epoch,ballot,num,seq,done,ver,slot,key,code,cmd,conf,votes,us,data⟩:=m
 subst hk
 refine VC.enterR L0 (show E0.func 26=some Tryz.f26 by kernel_rfl) (fun _ _=>rfl) rfl rfl [999999] ?_
 conv=>whnf
 refine⟨[],[],_,_,_,_,knownT 20,t3,?_⟩
 rintro r o' c' ⟨b,rfl,rfl,rfl⟩
 cases b
 ·conv=>whnf
  exact⟨[],[],_,_,_,t3,_,rfl,rfl,rfl⟩
 ·((conv=>whnf)<;>repeat(with_reducible refine D1 ?_)<;>conv=>whnf)
  refine⟨[],[],_,_,_,_,ha,t3,?_⟩
  rintro r o' c' ⟨b,rfl,rfl,rfl⟩
  cases b
  ·((conv=>whnf)<;>repeat(with_reducible refine D1 ?_)<;>conv=>whnf)
   exact⟨[],[],_,_,_,t3,_,rfl,rfl,rfl⟩
  ·conv=>whnf
   refine⟨[],[],_,_,_,_,hc,t3,?_⟩
   rintro r o' c' ⟨b,rfl,rfl,rfl⟩
   cases b
   ·((conv=>whnf)<;>repeat(with_reducible refine D1 ?_)<;>conv=>whnf)
    exact⟨[],[],_,_,_,t3,_,rfl,rfl,rfl⟩
   ·conv=>whnf
    refine⟨[],[],_,_,_,_,hb,t3,cR ?_⟩
    conv=>whnf
    refine⟨[],[],_,_,_,_,hs,t3,?_⟩
    rintro r o' c' ⟨b,rfl,rfl,rfl⟩
    cases b
    ·((conv=>whnf)<;>repeat(with_reducible refine D1 ?_)<;>conv=>whnf)
     exact⟨[],[],_,_,_,t3,_,rfl,rfl,rfl⟩
    ·((conv=>whnf)<;>repeat(with_reducible refine D1 ?_)<;>conv=>whnf)
     refine⟨[],[],_,_,_,_,parts20,t3,cR ?_⟩
     conv=>whnf
     repeat(first|(refine⟨by first|decide+kernel|(dsimp only;decide+kernel),?_⟩;have hz_:=True.intro;clear hz_;(conv=>whnf))|(refine⟨_,rfl,?_⟩;have hz_:=True.intro;clear hz_;(conv=>whnf))|((try(first|rw[wr0]|rw[wr1]|rw[wr2]|rw[wr3]|rw[wr4]|rw[wr5]|rw[wr6]|rw[wr7]|rw[wr8]|rw[wr9]|rw[wrA]|rw[wrB]|rw[wrC]|rw[wrD]|rw[wrE]));first|(refine⟨fun h_=>?_,fun h_=>absurd (by first|decide+kernel|rfl |(dsimp only;decide+kernel)) h_⟩;clear h_;(conv=>whnf))|(refine⟨fun h_=>absurd h_ (by first|decide+kernel|(dsimp only;decide+kernel)),fun h_=>?_⟩;clear h_;(conv=>whnf))))
     refine⟨[],[],_,_,_,_,hfineAny,t3,?_⟩
     rintro r o' c' ⟨b,rfl,rfl,rfl⟩
     cases b
     ·conv=>whnf
      repeat(first|(refine⟨by first|decide+kernel|(dsimp only;decide+kernel),?_⟩;have hz_:=True.intro;clear hz_;(conv=>whnf))|(refine⟨_,rfl,?_⟩;have hz_:=True.intro;clear hz_;(conv=>whnf))|((try(first|rw[wr0]|rw[wr1]|rw[wr2]|rw[wr3]|rw[wr4]|rw[wr5]|rw[wr6]|rw[wr7]|rw[wr8]|rw[wr9]|rw[wrA]|rw[wrB]|rw[wrC]|rw[wrD]|rw[wrE]));first|(refine⟨fun h_=>?_,fun h_=>absurd (by first|decide+kernel|rfl |(dsimp only;decide+kernel)) h_⟩;clear h_;(conv=>whnf))|(refine⟨fun h_=>absurd h_ (by first|decide+kernel|(dsimp only;decide+kernel)),fun h_=>?_⟩;clear h_;(conv=>whnf))))
      exact⟨[],[],_,_,_,t3,_,rfl,rfl,rfl⟩
     ·conv=>whnf
      repeat(first|(refine⟨by first|decide+kernel|(dsimp only;decide+kernel),?_⟩;have hz_:=True.intro;clear hz_;(conv=>whnf))|(refine⟨_,rfl,?_⟩;have hz_:=True.intro;clear hz_;(conv=>whnf))|((try(first|rw[wr0]|rw[wr1]|rw[wr2]|rw[wr3]|rw[wr4]|rw[wr5]|rw[wr6]|rw[wr7]|rw[wr8]|rw[wr9]|rw[wrA]|rw[wrB]|rw[wrC]|rw[wrD]|rw[wrE]));first|(refine⟨fun h_=>?_,fun h_=>absurd (by first|decide+kernel|rfl |(dsimp only;decide+kernel)) h_⟩;clear h_;(conv=>whnf))|(refine⟨fun h_=>absurd h_ (by first|decide+kernel|(dsimp only;decide+kernel)),fun h_=>?_⟩;clear h_;(conv=>whnf))))
      refine⟨[],[],_,_,_,_,hfineAny,t3,?_⟩
      rintro r o' c' ⟨b,rfl,rfl,rfl⟩
      cases b
      ·conv=>whnf
       repeat(first|(refine⟨by first|decide+kernel|(dsimp only;decide+kernel),?_⟩;have hz_:=True.intro;clear hz_;(conv=>whnf))|(refine⟨_,rfl,?_⟩;have hz_:=True.intro;clear hz_;(conv=>whnf))|((try(first|rw[wr0]|rw[wr1]|rw[wr2]|rw[wr3]|rw[wr4]|rw[wr5]|rw[wr6]|rw[wr7]|rw[wr8]|rw[wr9]|rw[wrA]|rw[wrB]|rw[wrC]|rw[wrD]|rw[wrE]));first|(refine⟨fun h_=>?_,fun h_=>absurd (by first|decide+kernel|rfl |(dsimp only;decide+kernel)) h_⟩;clear h_;(conv=>whnf))|(refine⟨fun h_=>absurd h_ (by first|decide+kernel|(dsimp only;decide+kernel)),fun h_=>?_⟩;clear h_;(conv=>whnf))))
       exact⟨[],[],_,_,_,t3,_,rfl,rfl,rfl⟩
      ·conv=>whnf
       repeat(first|(refine⟨by first|decide+kernel|(dsimp only;decide+kernel),?_⟩;have hz_:=True.intro;clear hz_;(conv=>whnf))|(refine⟨_,rfl,?_⟩;have hz_:=True.intro;clear hz_;(conv=>whnf))|((try(first|rw[wr0]|rw[wr1]|rw[wr2]|rw[wr3]|rw[wr4]|rw[wr5]|rw[wr6]|rw[wr7]|rw[wr8]|rw[wr9]|rw[wrA]|rw[wrB]|rw[wrC]|rw[wrD]|rw[wrE]));first|(refine⟨fun h_=>?_,fun h_=>absurd (by first|decide+kernel|rfl |(dsimp only;decide+kernel)) h_⟩;clear h_;(conv=>whnf))|(refine⟨fun h_=>absurd h_ (by first|decide+kernel|(dsimp only;decide+kernel)),fun h_=>?_⟩;clear h_;(conv=>whnf))))
       refine⟨[],[],_,_,_,_,hfineAny,t3,?_⟩
       rintro r o' c' ⟨b,rfl,rfl,rfl⟩
       cases b
       ·conv=>whnf
        repeat(first|(refine⟨by first|decide+kernel|(dsimp only;decide+kernel),?_⟩;have hz_:=True.intro;clear hz_;(conv=>whnf))|(refine⟨_,rfl,?_⟩;have hz_:=True.intro;clear hz_;(conv=>whnf))|((try(first|rw[wr0]|rw[wr1]|rw[wr2]|rw[wr3]|rw[wr4]|rw[wr5]|rw[wr6]|rw[wr7]|rw[wr8]|rw[wr9]|rw[wrA]|rw[wrB]|rw[wrC]|rw[wrD]|rw[wrE]));first|(refine⟨fun h_=>?_,fun h_=>absurd (by first|decide+kernel|rfl |(dsimp only;decide+kernel)) h_⟩;clear h_;(conv=>whnf))|(refine⟨fun h_=>absurd h_ (by first|decide+kernel|(dsimp only;decide+kernel)),fun h_=>?_⟩;clear h_;(conv=>whnf))))
        exact⟨[],[],_,_,_,t3,_,rfl,rfl,rfl⟩
       ·conv=>whnf
        repeat(first|(refine⟨by first|decide+kernel|(dsimp only;decide+kernel),?_⟩;have hz_:=True.intro;clear hz_;(conv=>whnf))|(refine⟨_,rfl,?_⟩;have hz_:=True.intro;clear hz_;(conv=>whnf))|((try(first|rw[wr0]|rw[wr1]|rw[wr2]|rw[wr3]|rw[wr4]|rw[wr5]|rw[wr6]|rw[wr7]|rw[wr8]|rw[wr9]|rw[wrA]|rw[wrB]|rw[wrC]|rw[wrD]|rw[wrE]));first|(refine⟨fun h_=>?_,fun h_=>absurd (by first|decide+kernel|rfl |(dsimp only;decide+kernel)) h_⟩;clear h_;(conv=>whnf))|(refine⟨fun h_=>absurd h_ (by first|decide+kernel|(dsimp only;decide+kernel)),fun h_=>?_⟩;clear h_;(conv=>whnf))))
        refine⟨[],[],_,_,_,_,hfineData,t3,?_⟩
        rintro r o' c' ⟨b,rfl,rfl,rfl⟩
        cases b
        ·conv=>whnf
         repeat(first|(refine⟨by first|decide+kernel|(dsimp only;decide+kernel),?_⟩;have hz_:=True.intro;clear hz_;(conv=>whnf))|(refine⟨_,rfl,?_⟩;have hz_:=True.intro;clear hz_;(conv=>whnf))|((try(first|rw[wr0]|rw[wr1]|rw[wr2]|rw[wr3]|rw[wr4]|rw[wr5]|rw[wr6]|rw[wr7]|rw[wr8]|rw[wr9]|rw[wrA]|rw[wrB]|rw[wrC]|rw[wrD]|rw[wrE]));first|(refine⟨fun h_=>?_,fun h_=>absurd (by first|decide+kernel|rfl |(dsimp only;decide+kernel)) h_⟩;clear h_;(conv=>whnf))|(refine⟨fun h_=>absurd h_ (by first|decide+kernel|(dsimp only;decide+kernel)),fun h_=>?_⟩;clear h_;(conv=>whnf))))
         exact⟨[],[],_,_,_,t3,_,rfl,rfl,rfl⟩
        ·conv=>whnf
         repeat(first|(refine⟨by first|decide+kernel|(dsimp only;decide+kernel),?_⟩;have hz_:=True.intro;clear hz_;(conv=>whnf))|(refine⟨_,rfl,?_⟩;have hz_:=True.intro;clear hz_;(conv=>whnf))|((try(first|rw[wr0]|rw[wr1]|rw[wr2]|rw[wr3]|rw[wr4]|rw[wr5]|rw[wr6]|rw[wr7]|rw[wr8]|rw[wr9]|rw[wrA]|rw[wrB]|rw[wrC]|rw[wrD]|rw[wrE]));first|(refine⟨fun h_=>?_,fun h_=>absurd (by first|decide+kernel|rfl |(dsimp only;decide+kernel)) h_⟩;clear h_;(conv=>whnf))|(refine⟨fun h_=>absurd h_ (by first|decide+kernel|(dsimp only;decide+kernel)),fun h_=>?_⟩;clear h_;(conv=>whnf))))
         exact⟨[],[],_,_,_,t3,_,rfl,rfl,rfl⟩
end Go.M
namespace Go.M
open Go Go.Proofs
set_option maxRecDepth 100000
set_option maxHeartbeats 4000000
theorem knownN (k:Int) (h:20<k):VC E0 62 0 [.s (.int .i64 k)] [] (RR (.s (.bool false)) 0 []):=by
 refine VC.enterR L0 (show E0.func 62=some Tryz.f62 by kernel_rfl) (fun _ _=>rfl) rfl rfl [] ?_
 conv=>whnf
 (first|refine⟨?_,?_⟩|refine nsplit ?_ ?_|refine bsplit ?_ ?_)<;>intro h1<;>have hz_:=True.intro<;>clear hz_
 ·conv=>whnf
  (first|refine⟨?_,?_⟩|refine nsplit ?_ ?_|refine bsplit ?_ ?_)<;>intro h2<;>have hz_:=True.intro<;>clear hz_
  ·have h2:k≤20:=h2
   omega
  ·conv=>whnf
   exact⟨[],[],_,_,_,t3,rfl,rfl,rfl⟩
 ·have h1:¬k≥1:=h1
  omega
theorem checkT (m:LtF) (hk:12≤m.kind) (h1:m.votes.length<1000000) (h2:m.us.length<1000000) (h3:m.conf.nodes.length<1000000):VC E0 26 0 [.agg (encL m)] [] TI:=by
 by_cases hb:20<m.kind
 ·have hn:=knownN m.kind hb
  refine VC.enterR L0 (show E0.func 26=some Tryz.f26 by kernel_rfl) (fun _ _=>rfl) rfl rfl [] ?_
  conv=>whnf
  refine⟨[],[],_,_,_,_,hn,t3,cR ?_⟩
  conv=>whnf
  exact⟨[],[],_,_,_,t3,_,rfl,rfl,rfl⟩
 ·have h:m.kind=12∨m.kind=13∨m.kind=14∨m.kind=15∨m.kind=16∨m.kind=17∨m.kind=18∨m.kind=19∨m.kind=20:=by omega
  rcases h with h|h|h|h|h|h|h|h|h
  ·exact checkT12 m h h1 h2 h3
  ·exact checkT13 m h h1 h2 h3
  ·exact checkT14 m h h1 h2 h3
  ·exact checkT15 m h h1 h2 h3
  ·exact checkT16 m h h1 h2 h3
  ·exact checkT17 m h h1 h2 h3
  ·exact checkT18 m h h1 h2 h3
  ·exact checkT19 m h h1 h2 h3
  ·exact checkT20 m h h1 h2 h3
end Go.M
namespace Go.M
open Go Go.Proofs
set_option maxRecDepth 100000
set_option maxHeartbeats 4000000
theorem fencedT (k:Int):VC E0 129 0 [.s (.int .i64 k)] [] TB:=by
 refine VC.enterR L0 (show E0.func 129=some Tryz.f129 by kernel_rfl) (fun _ _=>rfl) rfl rfl [] ?_
 conv=>whnf
 repeat'(first|((first|(refine⟨fun h=>?_,fun h=>?_⟩)|(refine nsplit (fun h=>?_) (fun h=>?_))|(refine bsplit (fun h=>?_) (fun h=>?_)))<;>(conv=>whnf)))
 all_goals
  exact⟨[],[],_,_,_,t3,_,rfl,rfl,rfl⟩
def TNo:TV→Ob→Nat→Prop:=fun r o c=>∃n:Int,n≠0∧r= .s (.int .i64 n)∧c=0∧o=[]
theorem fence_ok (c:CF) (node:Int) (m:LtF) (hk:12≤m.kind) (h1:m.votes.length<1000000) (h2:m.us.length<1000000) (h3:m.conf.nodes.length<1000000) (hc:rightP c→¬(m.epoch=c.epoch∧m.chain=c.chain)):
 VC E0 69 0 [.agg (encCF c),.s (.int .i64 node),.agg (encL m)] [] TNo:=by
 have hch:=checkT m hk h1 h2 h3
 have hr:=right_ok c
 have hf:=fencedT m.kind
 clear h1 h2 h3
 refine VC.enterR L0 (show E0.func 69=some Tryz.f69 by kernel_rfl) (fun _ _=>rfl) rfl rfl [] ?_
 conv=>whnf
 refine⟨[],[],_,_,_,_,hch,t3,?_⟩
 rintro r o' c' ⟨n,rfl,rfl,rfl⟩
 conv=>whnf
 (first|refine⟨?_,?_⟩|refine nsplit ?_ ?_|refine bsplit ?_ ?_)<;>intro h0<;>have hz_:=True.intro<;>clear hz_
 ·conv=>whnf
  exact⟨[],[],_,_,_,t3,_,by decide,rfl,rfl,rfl⟩
 conv=>whnf
 (first|refine⟨?_,?_⟩|refine nsplit ?_ ?_|refine bsplit ?_ ?_)<;>intro h1<;>have hz_:=True.intro<;>clear hz_
 ·conv=>whnf
  exact⟨[],[],_,_,_,t3,_,by decide,rfl,rfl,rfl⟩
 conv=>whnf
 by_cases hp:rightP c
 ·rw[decide_eq_true hp]at hr
  refine⟨[],[],_,_,_,_,hr,t3,cR ?_⟩
  conv=>whnf
  refine⟨[],[],_,_,_,_,hf,t3,?_⟩
  rintro r o' c' ⟨b,rfl,rfl,rfl⟩
  cases b
  ·conv=>whnf
   exact⟨[],[],_,_,_,t3,_,by decide,rfl,rfl,rfl⟩
  ·conv=>whnf
   (first|refine⟨?_,?_⟩|refine nsplit ?_ ?_|refine bsplit ?_ ?_)<;>intro h2<;>have hz_:=True.intro<;>clear hz_
   ·conv=>whnf
    exact⟨[],[],_,_,_,t3,_,by decide,rfl,rfl,rfl⟩
   ·have h2:m.chain=c.chain:=Classical.not_not.1 h2
    conv=>whnf
    (first|refine⟨?_,?_⟩|refine nsplit ?_ ?_|refine bsplit ?_ ?_)<;>intro h3<;>have hz_:=True.intro<;>clear hz_
    ·conv=>whnf
     exact⟨[],[],_,_,_,t3,_,by decide,rfl,rfl,rfl⟩
    ·have h3:m.epoch=c.epoch:=Classical.not_not.1 h3
     exact absurd ⟨h3,h2⟩ (hc hp)
 ·rw[decide_eq_false hp]at hr
  refine⟨[],[],_,_,_,_,hr,t3,cR ?_⟩
  conv=>whnf
  exact⟨[],[],_,_,_,t3,_,by decide,rfl,rfl,rfl⟩
end Go.M
