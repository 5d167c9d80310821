/-
  Part 30 of the library that the proof leans on.
-/
import Derived.Test.YtgjfaieghmigjaaGreatDoorL21
import Derived.Test.YtgjfaieghmigjaaGreatDoorL29
import Derived.Test.YtgjfaieghmigjaaGreatDoorL27
import Derived.Test.YtgjfaieghmigjaaGreatDoorL28
namespace Go.M
open Go Go.Proofs
set_option maxRecDepth 1000000
theorem orcZ (base B:Nat):OrcOk Tryz.prog EZ base B:=by
 refine orcX_ok tabsB0 (fun g hg=>?_) (fun base B=>orcY_ok mixed0 base B) base B
 simp only[List.mem_cons,List.not_mem_nil,or_false]at hg
 rcases hg with rfl |rfl
 ·exact awake18
 ·exact awake22
end Go.M
namespace Go.M
open Go Go.Proofs
set_option maxRecDepth 100000
set_option maxHeartbeats 4000000
theorem awake22_ok:VC EZ 21 0 [] [] (fun r o c=>r= .s (.bool true)∧o=[]∧c=0):=
 VC.awakeX (g:=21) (aw:=[26,21]) tabsB0 (by show(Tryz.prog.funcs[21]?).isSome=true;kernel_rfl) rfl
@[reducible] def st2 (s t:StS):Ob:=[(0,stoC s),(1,mapT s.bs),(2,.cells [.s (.int .u64 t.e),.mp 3,.own (tabT t.t)]),(3,mapT t.bs)]
end Go.M
namespace Go.M
open Go Go.Proofs
set_option maxRecDepth 100000
set_option maxHeartbeats 4000000
theorem blockN_ok (k:Int):VC EZ 77 0 [nilP,.s (.int .u32 k)] [] (RR nilP 0 []):=by
 refine VC.enterR LZ (show EZ.func 77=some Tryz.f77 by kernel_rfl) (fun _ _=>rfl) rfl rfl [] ?_
 ((conv=>whnf)<;>repeat(with_reducible refine D1 ?_)<;>conv=>whnf)
 exact⟨[],[],_,_,_,t3,rfl,rfl,rfl⟩
theorem lastN_ok (k:Int):VC EZ 36 0 [nilP,.s (.int .u32 k)] [] (RR zV 0 []):=by
 refine VC.enterR LZ (show EZ.func 36=some Tryz.f36 by kernel_rfl) (fun _ _=>rfl) rfl rfl [] ?_
 ((conv=>whnf)<;>repeat(with_reducible refine D1 ?_)<;>conv=>whnf)
 refine⟨[],[],_,_,_,_,blockN_ok k,t3,?_⟩
 rintro r o' c' ⟨rfl,rfl,rfl⟩
 ((conv=>whnf)<;>repeat(with_reducible refine D1 ?_)<;>conv=>whnf)
 refine⟨[],[],_,_,_,_,blast_nil,t3,?_⟩
 rintro r o' c' ⟨rfl,rfl,rfl⟩
 ((conv=>whnf)<;>repeat(with_reducible refine D1 ?_)<;>conv=>whnf)
 exact⟨[],[],_,_,_,t3,rfl,rfl,rfl⟩
theorem dirtyN_ok (k d:Int):VC EZ 48 0 [nilP,.s (.int .u32 k),.s (.int .u64 d)] [] (RR (.s (.bool false)) 0 []):=by
 refine VC.enterR LZ (show EZ.func 48=some Tryz.f48 by kernel_rfl) (fun _ _=>rfl) rfl rfl [] ?_
 ((conv=>whnf)<;>repeat(with_reducible refine D1 ?_)<;>conv=>whnf)
 refine⟨[],[],_,_,_,_,blockN_ok k,t3,?_⟩
 rintro r o' c' ⟨rfl,rfl,rfl⟩
 ((conv=>whnf)<;>repeat(with_reducible refine D1 ?_)<;>conv=>whnf)
 refine⟨[],[],_,_,_,_,bdirty_nil d,t3,?_⟩
 rintro r o' c' ⟨rfl,rfl,rfl⟩
 ((conv=>whnf)<;>repeat(with_reducible refine D1 ?_)<;>conv=>whnf)
 exact⟨[],[],_,_,_,t3,rfl,rfl,rfl⟩
theorem nowN_ok (k d:Int):VC EZ 30 0 [nilP,.s (.int .u32 k),.s (.int .u64 d)] [] (RR (encA2 (zeroVs,true)) 0 []):=by
 refine VC.enterR LZ (show EZ.func 30=some Tryz.f30 by kernel_rfl) (fun _ _=>rfl) rfl rfl [] ?_
 ((conv=>whnf)<;>repeat(with_reducible refine D1 ?_)<;>conv=>whnf)
 refine⟨[],[],_,_,_,_,dirtyN_ok k d,t3,?_⟩
 rintro r o' c' ⟨rfl,rfl,rfl⟩
 ((conv=>whnf)<;>repeat(with_reducible refine D1 ?_)<;>conv=>whnf)
 refine⟨[],[],_,_,_,_,lastN_ok k,t3,?_⟩
 rintro r o' c' ⟨rfl,rfl,rfl⟩
 ((conv=>whnf)<;>repeat(with_reducible refine D1 ?_)<;>conv=>whnf)
 exact⟨[],[],_,_,_,t3,rfl,rfl,rfl⟩
theorem lastV_or (vs:List Vs):lastV vs=zeroVs∨lastV vs∈vs:=by
 rcases two_ends vs with rfl |⟨ws,w,rfl⟩
 ·exact .inl lastV_nil
 ·rw[lastV_end];exact .inr (by simp)
theorem pickR_or (vs:List Vs) (v d:Int):pickR vs v d=zeroVs∨pickR vs v d∈vs:=by
 unfold pickR
 split
 ·rename_i x h;exact .inr (List.mem_of_find?_eq_some h)
 ·split
  ·rcases lastV_or (vs.filter fun v=>decide (v.seq≤d))with h|h
   ·exact .inl h
   ·exact .inr (List.mem_filter.1 h).1
  ·exact .inl rfl
theorem small_of {e:Int} {vs:List Vs} (g:Good e vs) {x:Vs} (h:x=zeroVs∨x∈vs):0≤x.ver∧x.data.length<1000000:=by
 rcases h with rfl |h
 ·exact⟨by decide,by decide⟩
 ·have:=g.v x h;omega
@[reducible] def askT (k v d:Int):List TV:=[.s (.int .u32 k),.s (.int .u64 v),.s (.int .u64 d)]
@[reducible] def stA (s:StS) (r:RfS) (k v d:Int):Ob:=[(0,.cells (askT k v d)),(1,.cells [.s (.int .u64 s.e),.mp 2,.own (tabT s.t)]),(2,mapT s.bs),(3,.cells (encRf r))]
theorem answers_ok (us:List UpR) (hu:∀u∈us,UAll u) (tr k v d:Int):VC EZ 5 0 [.sl 7 (us.map encU) false,.s (.int .u64 tr),.agg (askT k v d)] [] (RR (.s (.bool true)) 0 []):=by
 have hr:∀u∈us,URng u:=fun u m=>(hu u m).rng
 by_cases hn:40<us.length
 ·refine VC.enterR LZ (show EZ.func 5=some Tryz.f5 by kernel_rfl) (fun _ _=>rfl) rfl rfl [] ?_
  ((conv=>whnf)<;>repeat(with_reducible refine D1 ?_)<;>conv=>whnf)
  (first|refine⟨?_,?_⟩|refine nsplit ?_ ?_|refine bsplit ?_ ?_)<;>intro h0<;>have hz_:=True.intro<;>clear hz_
  ·((conv=>whnf)<;>repeat(with_reducible refine D1 ?_)<;>conv=>whnf)
   refine⟨[],[],_,_,_,_,awake22_ok,t3,?_⟩
   rintro r o' c' ⟨rfl,rfl,rfl⟩
   ((conv=>whnf)<;>repeat(with_reducible refine D1 ?_)<;>conv=>whnf)
   exact⟨[],[],_,_,_,t3,rfl,rfl,rfl⟩
  ·exact absurd (show(40:Int)<(((us.map encU).length:Nat):Int) by rw[List.length_map];omega) h0
 ·refine VC.enterR LZ (show EZ.func 5=some Tryz.f5 by kernel_rfl) (fun _ _=>rfl) rfl rfl [] ?_
  ((conv=>whnf)<;>repeat(with_reducible refine D1 ?_)<;>conv=>whnf)
  (first|refine⟨?_,?_⟩|refine nsplit ?_ ?_|refine bsplit ?_ ?_)<;>intro h0<;>have hz_:=True.intro<;>clear hz_
  ·exact absurd (show¬(40:Int)<(((us.map encU).length:Nat):Int) by rw[List.length_map];omega) (not_not_intro h0)
  ·((conv=>whnf)<;>repeat(with_reducible refine D1 ?_)<;>conv=>whnf)
   refine⟨[],[],_,_,_,_,knew_ok,t3,?_⟩
   rintro r o' c' ⟨rfl,rfl,rfl⟩
   ((conv=>whnf)<;>repeat(with_reducible refine D1 ?_)<;>conv=>whnf)
   have hri:=run_inv us hr (by omega)
   refine⟨fun q f o c=>∃(i:Nat) (s:StS) (r:RfS),s=runS (us.take i)∧Rel s r∧i≤us.length∧q=us.length - i∧c=4∧f=[(0,.sl 7 (us.map encU) false),(1,.s (.int .u64 tr)),(5,.ptr 0 0),(7,.ptr 1 0),(8,.ptr 3 0),(9,.s (.int .i64 i))]∧o=stA s r k v d,⟨us.length,?_⟩,?_⟩
   ·exact⟨[],[some 0,some 1,some 2,some 3],_,_,_,t3,⟨0,⟨0,[],zeroTab⟩,⟨0,[],[]⟩,rfl,Rel.zero,Nat.zero_le _,rfl,rfl,rfl,rfl⟩⟩
   ·rintro q f1 o1 c1 ⟨i,s,r,hs,hR,hi,rfl,rfl,rfl,rfl⟩
    obtain⟨hI,he⟩:=hri i hi
    rw[←hs]at hI he
    have hso:=hI.ok (by omega)
    have hro:=hR.ok hI (by omega)
    ((conv=>whnf)<;>repeat(with_reducible refine D1 ?_)<;>conv=>whnf)
    (first|refine⟨?_,?_⟩|refine nsplit ?_ ?_|refine bsplit ?_ ?_)<;>intro hlt<;>have hz_:=True.intro<;>clear hz_
    ·have hlt:i<us.length:=lenlt.1 hlt
     ((conv=>whnf)<;>repeat(with_reducible refine D1 ?_)<;>conv=>whnf)
     refine idxI hlt ?_
     ((conv=>whnf)<;>repeat(with_reducible refine D1 ?_)<;>conv=>whnf)
     (first|refine⟨?_,?_⟩|refine nsplit ?_ ?_|refine bsplit ?_ ?_)<;>intro hbig<;>have hz_:=True.intro<;>clear hz_
     ·((conv=>whnf)<;>repeat(with_reducible refine D1 ?_)<;>conv=>whnf)
      refine⟨[],[],_,_,_,_,awake22_ok,t3,?_⟩
      rintro r o' c' ⟨rfl,rfl,rfl⟩
      ((conv=>whnf)<;>repeat(with_reducible refine D1 ?_)<;>conv=>whnf)
      exact⟨[],[],_,_,_,t3,rfl,rfl,rfl⟩
     ·((conv=>whnf)<;>repeat(with_reducible refine D1 ?_)<;>conv=>whnf)
      refine idxI hlt ?_
      ((conv=>whnf)<;>repeat(with_reducible refine D1 ?_)<;>conv=>whnf)
      refine⟨[],[some 1,some 2],_,_,_,_,end_ok s,t3,?_⟩
      rintro r o' c' ⟨rfl,rfl,rfl⟩
      ((conv=>whnf)<;>repeat(with_reducible refine D1 ?_)<;>conv=>whnf)
      rw[show IntKind.u64.wrap (s.e+1)=s.e+1 from IntWalk.u64_in _ (by have:=hI.e;omega)]
      have hur:=(hr _ (List.getElem_mem hlt)).ok (s:=s) hI.e.1 (by omega)
      have ha:=apply_ok s (nxU s us[i]) hso hur
      have hra:=rapply_ok r (nxU s us[i]) hro hur
      obtain⟨_,hR2⟩:=rel_apply hR (nxU s us[i]) hur
      have hnx:(applyS s (nxU s us[i])).2=runS (us.take (i+1)):=by rw[runS_next us i hlt,hs];rfl
      generalize applyS s (nxU s us[i])=w at ha hR2 hnx
      generalize applyR r (nxU s us[i])=w2 at hra hR2
      obtain⟨y,s2⟩:=w
      obtain⟨⟨r2,y2⟩,e2⟩:=w2
      refine⟨[],[some 1,some 2],_,_,_,_,ha,t3,?_⟩
      rintro r o' c' ⟨rfl,rfl,rfl⟩
      ((conv=>whnf)<;>repeat(with_reducible refine D1 ?_)<;>conv=>whnf)
      refine⟨[],[],_,_,_,_,hra,t3,?_⟩
      rintro r o' c' ⟨rfl,rfl,rfl⟩
      ((conv=>whnf)<;>repeat(with_reducible refine D1 ?_)<;>conv=>whnf)
      refine⟨us.length - (i+1),?_,by omega⟩
      exact⟨[],[some 0,some 1,some 2,some 3],_,_,_,t3,⟨i+1,s2,r2,hnx,hR2,hlt,rfl,rfl,rfl,rfl⟩⟩
    ·have hlt:i=us.length:=by have:=mt lenlt.2 hlt
                              omega
     subst hlt
     clear hs hri
     have htr:=ktrim_ok s tr hso (by have:=hI.len;omega)
     rw[show(trimA tr (s,0) (sortZ (keysA s.bs))).1=trimS s tr from rfl]at htr
     have hrt:=rtrimS_ok r tr hro.b (fun b m=>by
      have hl:=lookA_some (n:=b.1) (v:=b.2) (hR.up.imp (fun h=>Int.ne_of_lt h)|>List.pairwise_map.2)
      have:=(hro.l b.1).1
      unfold ofR at this
      rw[hl.2 m]at this
      exact Nat.lt_of_lt_of_le this (by decide))
     have hI2:=hI.trim tr
     have hR2:=rel_trim hR hI tr
     have hso2:=hI2.ok (by omega)
     have hro2:=hR2.ok hI2 (by omega)
     generalize trimS s tr=s2 at htr hI2 hR2 hso2 hro2
     generalize ({r with bs:=r.bs.map (keptOf tr)}:RfS)=r2 at hrt hR2 hro2
     have g:=hI2.g k
     have hnow:=now_ok s2 k d hso2
     have hrnow:=rnow_ok r2 k d hro2
     rw[hR2.of]at hrnow
     have hrnow:VC EZ 31 0 [.agg (encRf r2),.s (.int .u32 k),.s (.int .u64 d)] [] (RR (encA2 (nowS s2 k d)) 0 []):=hrnow
     have hthen:=then_ok s2 k v d hso2
     have hpk:=pick_eq g v d
     have hpr:=small_of g (pickR_or (ofK s2 k) v d)
     have hrthen:=rthen_ok r2 k v d hro2 (by rw[hR2.of];exact hpr.1)
     rw[hR2.of,←hpk]at hrthen
     rw[←hpk]at hpr
     have hrthen:VC EZ 33 0 [.agg (encRf r2),.s (.int .u32 k),.s (.int .u64 v),.s (.int .u64 d)] [] (RR (encA2 (thenS s2 k v d)) 0 []):=hrthen
     have hpr:(thenS s2 k v d).1.data.length<1000000:=hpr.2
     have hnr:(nowS s2 k d).1.data.length<1000000:=by
      unfold nowS
      split
      ·show([]:List Int).length<_;decide
      ·exact(small_of g (lastV_or _)).2
     generalize thenS s2 k v d=tv at hthen hrthen hpr
     generalize nowS s2 k d=nv at hnow hrnow hnr
     obtain⟨x,ok⟩:=nv
     obtain⟨p,th⟩:=tv
     dsimp only at hpr hnr
     ((conv=>whnf)<;>repeat(with_reducible refine D1 ?_)<;>conv=>whnf)
     refine⟨[],[some 1,some 2],_,_,_,_,htr,t3,?_⟩
     rintro r o' c' ⟨rfl,rfl,rfl⟩
     ((conv=>whnf)<;>repeat(with_reducible refine D1 ?_)<;>conv=>whnf)
     refine⟨[],[],_,_,_,_,hrt,t3,?_⟩
     rintro r o' c' ⟨rfl,rfl,rfl⟩
     ((conv=>whnf)<;>repeat(with_reducible refine D1 ?_)<;>conv=>whnf)
     refine⟨[],[some 1,some 2],_,_,_,_,hnow,t3,?_⟩
     rintro r o' c' ⟨rfl,rfl,rfl⟩
     ((conv=>whnf)<;>repeat(with_reducible refine D1 ?_)<;>conv=>whnf)
     refine⟨[],[],_,_,_,_,hrnow,t3,?_⟩
     rintro r o' c' ⟨rfl,rfl,rfl⟩
     ((conv=>whnf)<;>repeat(with_reducible refine D1 ?_)<;>conv=>whnf)
     refine⟨[],[some 1,some 2],_,_,_,_,hthen,t3,?_⟩
     rintro r o' c' ⟨rfl,rfl,rfl⟩
     ((conv=>whnf)<;>repeat(with_reducible refine D1 ?_)<;>conv=>whnf)
     refine⟨[],[],_,_,_,_,hrthen,t3,?_⟩
     rintro r o' c' ⟨rfl,rfl,rfl⟩
     ((conv=>whnf)<;>repeat(with_reducible refine D1 ?_)<;>conv=>whnf)
     refine⟨[],[],_,_,_,_,nowN_ok k d,t3,?_⟩
     rintro r o' c' ⟨rfl,rfl,rfl⟩
     ((conv=>whnf)<;>repeat(with_reducible refine D1 ?_)<;>conv=>whnf)
     refine⟨[],[],_,_,_,_,version_ok x,t3,?_⟩
     rintro r o' c' ⟨rfl,rfl,rfl⟩
     ((conv=>whnf)<;>repeat(with_reducible refine D1 ?_)<;>conv=>whnf)
     refine⟨[],[],_,_,_,_,vsame_ok x hnr,t3,?_⟩
     rintro r o' c' ⟨rfl,rfl,rfl⟩
     ((conv=>whnf)<;>repeat(with_reducible refine D1 ?_)<;>conv=>whnf)
     rw[beq_self_eq_true]
     ((conv=>whnf)<;>repeat(with_reducible refine D1 ?_)<;>conv=>whnf)
     refine⟨[],[],_,_,_,_,version_ok p,t3,?_⟩
     rintro r o' c' ⟨rfl,rfl,rfl⟩
     ((conv=>whnf)<;>repeat(with_reducible refine D1 ?_)<;>conv=>whnf)
     refine⟨[],[],_,_,_,_,vsame_ok p hpr,t3,?_⟩
     rintro r o' c' ⟨rfl,rfl,rfl⟩
     ((conv=>whnf)<;>repeat(with_reducible refine D1 ?_)<;>conv=>whnf)
     rw[beq_self_eq_true]
     ((conv=>whnf)<;>repeat(with_reducible refine D1 ?_)<;>conv=>whnf)
     (first|refine⟨?_,?_⟩|refine nsplit ?_ ?_|refine bsplit ?_ ?_)<;>intro h9<;>have hz_:=True.intro<;>clear hz_
     ·((conv=>whnf)<;>repeat(with_reducible refine D1 ?_)<;>conv=>whnf)
      refine⟨[],[],_,_,_,_,awake22_ok,t3,?_⟩
      rintro r o' c' ⟨rfl,rfl,rfl⟩
      ((conv=>whnf)<;>repeat(with_reducible refine D1 ?_)<;>conv=>whnf)
      exact⟨[],[],_,_,_,t3,rfl,rfl,rfl⟩
     ·exact absurd rfl h9
end Go.M
