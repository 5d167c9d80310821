/-
  Part 29 of the library that the proof leans on.
-/
import Derived.Test.YtgjfaieghmigjaaGreatDoorL21
import Derived.Test.YtgjfaieghmigjaaGreatDoorL28
import Derived.Test.YtgjfaieghmigjaaGreatDoorL27
namespace Go.M
open Go Go.Proofs
set_option maxRecDepth 1000000
theorem orcZ (base B:Nat):OrcOk Tryz.prog EZ base B:=by
 refine orcX_ok tabsB0 (fun g hg=>?_) (fun base B=>orcY_ok mixed0 base B) base B
 simp only[List.mem_cons,List.not_mem_nil,or_false]at hg
 rcases hg with rfl |rfl
 ·exact awake18
 ·exact awake22
theorem awake18_ok:VC EZ 26 0 [] [] (fun r o c=>r= .s (.bool true)∧o=[]∧c=0):=
 VC.awakeX (g:=26) (aw:=[26,21]) tabsB0 (by show(Tryz.prog.funcs[26]?).isSome=true;kernel_rfl) rfl
end Go.M
namespace Go.M
open Go Go.Proofs
set_option maxRecDepth 100000
set_option maxHeartbeats 4000000
theorem awake22_ok:VC EZ 21 0 [] [] (fun r o c=>r= .s (.bool true)∧o=[]∧c=0):=
 VC.awakeX (g:=21) (aw:=[26,21]) tabsB0 (by show(Tryz.prog.funcs[21]?).isSome=true;kernel_rfl) rfl
theorem vrem {a b:Int} (ha:0≤a) (hb:0<b):vint .rem .i64 .i64 a b=some (.int .i64 (a % b)):=by
 show pureV (Go.binOp .rem 0 (.int .i64 a) (.int .i64 b))=_
 simp only[Go.binOp,Op.intDiv]
 rw[Int.tmod_eq_emod_of_nonneg ha]
 simp[show b≠0 by omega]
 rfl
@[reducible] def st2 (s t:StS):Ob:=[(0,stoC s),(1,mapT s.bs),(2,.cells [.s (.int .u64 t.e),.mp 3,.own (tabT t.t)]),(3,mapT t.bs)]
theorem rem_nat {a:Int} {n:Nat} (_:0≤a):∃k:Nat,k≤n∧a % ((n:Int)+1)=k:=
 ⟨(a % ((n:Int)+1)).toNat,by have:=Int.emod_lt_of_pos a (show(0:Int)<(n:Int)+1 by omega);omega,by have:=Int.emod_nonneg a (show(n:Int)+1≠0 by omega);omega⟩
theorem newer_ok (us:List UpR) (hu:∀u∈us,UAll u) (d t:Int) (hd:0≤d∧d≤255) (ht:0≤t∧t≤255):VC EZ 6 0 [.sl 7 (us.map encU) false,.s (.int .u8 d),.s (.int .u8 t)] [] (RR (.s (.bool true)) 0 []):=by
 have hr:∀u∈us,URng u:=fun u m=>(hu u m).rng
 by_cases hn:40<us.length
 ·refine VC.enterR LZ (show EZ.func 6=some Tryz.f6 by kernel_rfl) (fun _ _=>rfl) rfl rfl [] ?_
  ((conv=>whnf)<;>repeat(with_reducible refine D1 ?_)<;>conv=>whnf)
  (first|refine⟨?_,?_⟩|refine nsplit ?_ ?_|refine bsplit ?_ ?_)<;>intro h0<;>have hz_:=True.intro<;>clear hz_
  ·((conv=>whnf)<;>repeat(with_reducible refine D1 ?_)<;>conv=>whnf)
   refine⟨[],[],_,_,_,_,awake22_ok,t3,?_⟩
   rintro r o' c' ⟨rfl,rfl,rfl⟩
   ((conv=>whnf)<;>repeat(with_reducible refine D1 ?_)<;>conv=>whnf)
   exact⟨[],[],_,_,_,t3,rfl,rfl,rfl⟩
  ·exact absurd (show(40:Int)<(((us.map encU).length:Nat):Int) by rw[List.length_map];omega) h0
 ·obtain⟨fi,hfi,hf⟩:=rem_nat (a:=d) (n:=us.length) hd.1
  obtain⟨ta,hta,ht'⟩:=rem_nat (a:=t) (n:=us.length - fi) ht.1
  refine VC.enterR LZ (show EZ.func 6=some Tryz.f6 by kernel_rfl) (fun _ _=>rfl) rfl rfl [] ?_
  ((conv=>whnf)<;>repeat(with_reducible refine D1 ?_)<;>conv=>whnf)
  (first|refine⟨?_,?_⟩|refine nsplit ?_ ?_|refine bsplit ?_ ?_)<;>intro h0<;>have hz_:=True.intro<;>clear hz_
  ·exact absurd (show¬(40:Int)<(((us.map encU).length:Nat):Int) by rw[List.length_map];omega) (not_not_intro h0)
  ·((conv=>whnf)<;>repeat(with_reducible refine D1 ?_)<;>conv=>whnf)
   refine⟨[],[],_,_,_,_,knew_ok,t3,?_⟩
   rintro r o' c' ⟨rfl,rfl,rfl⟩
   ((conv=>whnf)<;>repeat(with_reducible refine D1 ?_)<;>conv=>whnf)
   refine⟨[],[],_,_,_,_,knew_ok,t3,?_⟩
   rintro r o' c' ⟨rfl,rfl,rfl⟩
   ((conv=>whnf)<;>repeat(with_reducible refine D1 ?_)<;>conv=>whnf)
   rw[vrem (by rw[IntWalk.i64_in d (by omega)];omega) (by rw[IntWalk.i64_in _ (by rw[List.length_map];omega)];rw[List.length_map];omega)]
   rw[IntWalk.i64_in d (by omega),IntWalk.i64_in ((((us.map encU).length:Nat):Int)+1) (by rw[List.length_map];omega),List.length_map,hf]
   ((conv=>whnf)<;>repeat(with_reducible refine D1 ?_)<;>conv=>whnf)
   have hl1:IntKind.i64.wrap ((((us.map encU).length:Nat):Int) - (fi:Int))=((us.length - fi:Nat):Int):=by rw[List.length_map,IntWalk.i64_in _ (by omega)];omega
   have hl2:IntKind.i64.wrap (IntKind.i64.wrap ((((us.map encU).length:Nat):Int) - (fi:Int))+1)=((us.length - fi:Nat):Int)+1:=by rw[hl1,IntWalk.i64_in _ (by omega)]
   rw[hl2,IntWalk.i64_in t (by omega),vrem ht.1 (by omega),ht']
   ((conv=>whnf)<;>repeat(with_reducible refine D1 ?_)<;>conv=>whnf)
   rw[show IntKind.i64.wrap ((fi:Int)+(ta:Int))=((fi+ta:Nat):Int)from by rw[IntWalk.i64_in _ (by omega)];omega]
   obtain⟨at',hat⟩:∃a,a=fi+ta:=⟨_,rfl⟩
   rw[←hat]
   have hfa:fi≤at'∧at'≤us.length:=by omega
   clear hat ht' hta hl1 hl2 h0 hf
   have hri:=run_inv us hr (by omega)
   refine⟨fun k f o c=>∃(i:Nat) (r q:StS) (lo:Int),r=runS (us.take i)∧q=runS (us.take (min i at'))∧lo=(runS (us.take (min i fi))).e∧i≤us.length∧k=us.length - i∧c=4∧f=[(0,.sl 7 (us.map encU) false),(7,.ptr 0 0),(8,.ptr 2 0),(9,.s (.int .i64 fi)),(10,.s (.int .i64 at')),(11,.s (.int .u64 lo)),(12,.s (.int .i64 i))]∧o=st2 r q,⟨us.length,?_⟩,?_⟩
   ·exact⟨[],[some 0,some 1,some 2,some 3],_,_,_,t3,⟨0,⟨0,[],zeroTab⟩,⟨0,[],zeroTab⟩,0,rfl,by rw[Nat.zero_min];rfl,by rw[Nat.zero_min];rfl,Nat.zero_le _,rfl,rfl,rfl,rfl⟩⟩
   ·rintro k f1 o1 c1 ⟨i,r,q,lo,hr',hq',hlo,hi,rfl,rfl,rfl,rfl⟩
    ((conv=>whnf)<;>repeat(with_reducible refine D1 ?_)<;>conv=>whnf)
    (first|refine⟨?_,?_⟩|refine nsplit ?_ ?_|refine bsplit ?_ ?_)<;>intro hlt<;>have hz_:=True.intro<;>clear hz_
    ·have hlt:i<us.length:=lenlt.1 hlt
     obtain⟨hrI,hre⟩:=hri i hi
     rw[←hr']at hrI hre
     have hqI:=(hri (min i at') (by omega)).1
     have hqe:=(hri (min i at') (by omega)).2
     rw[←hq']at hqI hqe
     ((conv=>whnf)<;>repeat(with_reducible refine D1 ?_)<;>conv=>whnf)
     refine idxI hlt ?_
     ((conv=>whnf)<;>repeat(with_reducible refine D1 ?_)<;>conv=>whnf)
     (first|refine⟨?_,?_⟩|refine nsplit ?_ ?_|refine bsplit ?_ ?_)<;>intro hbig<;>have hz_:=True.intro<;>clear hz_
     ·((conv=>whnf)<;>repeat(with_reducible refine D1 ?_)<;>conv=>whnf)
      refine⟨[],[],_,_,_,_,awake22_ok,t3,?_⟩
      rintro r o' c' ⟨rfl,rfl,rfl⟩
      ((conv=>whnf)<;>repeat(with_reducible refine D1 ?_)<;>conv=>whnf)
      exact⟨[],[],_,_,_,t3,rfl,rfl,rfl⟩
     ·((conv=>whnf)<;>repeat(with_reducible refine D1 ?_)<;>conv=>whnf)
      refine idxI hlt ?_
      ((conv=>whnf)<;>repeat(with_reducible refine D1 ?_)<;>conv=>whnf)
      refine⟨[],[some 0,some 1],_,_,_,_,end_ok r,t3,?_⟩
      rintro r o' c' ⟨rfl,rfl,rfl⟩
      ((conv=>whnf)<;>repeat(with_reducible refine D1 ?_)<;>conv=>whnf)
      rw[show IntKind.u64.wrap (r.e+1)=r.e+1 from IntWalk.u64_in _ (by have:=hrI.e;omega)]
      have hur:=(hr _ (List.getElem_mem hlt)).ok (s:=r) hrI.e.1 (by omega)
      have huq:=(hr _ (List.getElem_mem hlt)).ok (s:=q) hqI.e.1 (by omega)
      have har:=apply_ok r (nxU r us[i]) (hrI.ok (by omega)) hur
      have hnx:(applyS r (nxU r us[i])).2=runS (us.take (i+1)):=by rw[runS_next us i hlt,hr'];rfl
      obtain⟨r2,hr2⟩:∃x,x=runS (us.take (i+1)):=⟨_,rfl⟩
      rw[hnx,←hr2]at har
      generalize (applyS r (nxU r us[i])).1=y at har
      refine⟨[],[some 0,some 1],_,_,_,_,har,t3,?_⟩
      rintro r o' c' ⟨rfl,rfl,rfl⟩
      ((conv=>whnf)<;>repeat(with_reducible refine D1 ?_)<;>conv=>whnf)
      (first|refine⟨?_,?_⟩|refine nsplit ?_ ?_|refine bsplit ?_ ?_)<;>intro ha<;>have hz_:=True.intro<;>clear hz_
      ·have ha:i<at':=Int.ofNat_lt.1 ha
       obtain rfl:q=r:=by rw[hq',hr',Nat.min_eq_left (by omega)]
       ((conv=>whnf)<;>repeat(with_reducible refine D1 ?_)<;>conv=>whnf)
       refine⟨[],[some 2,some 3],_,_,_,_,har,t3,?_⟩
       rintro r o' c' ⟨rfl,rfl,rfl⟩
       ((conv=>whnf)<;>repeat(with_reducible refine D1 ?_)<;>conv=>whnf)
       (first|refine⟨?_,?_⟩|refine nsplit ?_ ?_|refine bsplit ?_ ?_)<;>intro hb<;>have hz_:=True.intro<;>clear hz_
       ·have hb:i<fi:=Int.ofNat_lt.1 hb
        ((conv=>whnf)<;>repeat(with_reducible refine D1 ?_)<;>conv=>whnf)
        refine⟨[],[some 0,some 1],_,_,_,_,end_ok r2,t3,?_⟩
        rintro r o' c' ⟨rfl,rfl,rfl⟩
        ((conv=>whnf)<;>repeat(with_reducible refine D1 ?_)<;>conv=>whnf)
        refine⟨us.length - (i+1),?_,by omega⟩
        exact⟨[],[some 0,some 1,some 2,some 3],_,_,_,t3,⟨i+1,r2,r2,r2.e,hr2,by rw[hr2,Nat.min_eq_left (by omega)],by rw[hr2,Nat.min_eq_left (by omega)],hlt,rfl,rfl,rfl,rfl⟩⟩
       ·have hb:¬i<fi:=fun h=>hb (Int.ofNat_lt.2 h)
        ((conv=>whnf)<;>repeat(with_reducible refine D1 ?_)<;>conv=>whnf)
        refine⟨us.length - (i+1),?_,by omega⟩
        exact⟨[],[some 0,some 1,some 2,some 3],_,_,_,t3,⟨i+1,r2,r2,lo,hr2,by rw[hr2,Nat.min_eq_left (by omega)],by rw[hlo,Nat.min_eq_right (by omega),Nat.min_eq_right (by omega)],hlt,rfl,rfl,rfl,rfl⟩⟩
      ·have ha:¬i<at':=fun h=>ha (Int.ofNat_lt.2 h)
       ((conv=>whnf)<;>repeat(with_reducible refine D1 ?_)<;>conv=>whnf)
       (first|refine⟨?_,?_⟩|refine nsplit ?_ ?_|refine bsplit ?_ ?_)<;>intro hb<;>have hz_:=True.intro<;>clear hz_
       ·have hb:i<fi:=Int.ofNat_lt.1 hb
        omega
       ·have hb:¬i<fi:=fun h=>hb (Int.ofNat_lt.2 h)
        ((conv=>whnf)<;>repeat(with_reducible refine D1 ?_)<;>conv=>whnf)
        refine⟨us.length - (i+1),?_,by omega⟩
        exact⟨[],[some 0,some 1,some 2,some 3],_,_,_,t3,⟨i+1,r2,q,lo,hr2,by rw[hq',Nat.min_eq_right (by omega),Nat.min_eq_right (by omega)],by rw[hlo,Nat.min_eq_right (by omega),Nat.min_eq_right (by omega)],hlt,rfl,rfl,rfl,rfl⟩⟩
    ·have hlt:i=us.length:=by have:=mt lenlt.2 hlt
                              omega
     subst hlt
     rw[Nat.min_eq_right hfa.2]at hq'
     rw[Nat.min_eq_right hfi]at hlo
     obtain⟨hrI,hre⟩:=hri us.length (Nat.le_refl _)
     rw[←hr']at hrI hre
     obtain⟨hqI,hqe⟩:=hri at' hfa.2
     rw[←hq']at hqI hqe
     have hext:Ext q r:=by rw[hq',hr'];exact run_ext us hr (by omega) at' us.length hfa.2 (Nat.le_refl _)
     have hlow:lo≤q.e:=by rw[hlo,hq'];exact(run_ext us hr (by omega) fi at' hfa.1 hfa.2).e
     clear hr' hq' hlo hri
     have hro:=hrI.ok (by omega)
     have hqo:=hqI.ok (by omega)
     ((conv=>whnf)<;>repeat(with_reducible refine D1 ?_)<;>conv=>whnf)
     refine⟨fun k f o c=>∃j:Nat,j≤us.length∧k=us.length - j∧c=4∧f=[(0,.sl 7 (us.map encU) false),(7,.ptr 0 0),(8,.ptr 2 0),(11,.s (.int .u64 lo)),(14,.s (.int .i64 j))]∧o=st2 r q,⟨us.length,?_⟩,?_⟩
     ·exact⟨[],[some 0,some 1,some 2,some 3],_,_,_,t3,⟨0,Nat.zero_le _,rfl,rfl,rfl,rfl⟩⟩
     ·rintro k f1 o1 c1 ⟨j,hj,rfl,rfl,rfl,rfl⟩
      ((conv=>whnf)<;>repeat(with_reducible refine D1 ?_)<;>conv=>whnf)
      (first|refine⟨?_,?_⟩|refine nsplit ?_ ?_|refine bsplit ?_ ?_)<;>intro hlt<;>have hz_:=True.intro<;>clear hz_
      ·have hlt:j<us.length:=lenlt.1 hlt
       ((conv=>whnf)<;>repeat(with_reducible refine D1 ?_)<;>conv=>whnf)
       refine idxI hlt ?_
       ((conv=>whnf)<;>repeat(with_reducible refine D1 ?_)<;>conv=>whnf)
       obtain⟨k,hk⟩:∃k,k=us[j].key:=⟨_,rfl⟩
       rw[←hk]
       refine⟨[],[some 2,some 3],_,_,_,_,end_ok q,t3,?_⟩
       rintro r o' c' ⟨rfl,rfl,rfl⟩
       ((conv=>whnf)<;>repeat(with_reducible refine D1 ?_)<;>conv=>whnf)
       have hnow:=now_ok r k q.e hro
       have hnew:=now_new hext k
       generalize nowS r k q.e=nw at hnow hnew
       obtain⟨v,ok⟩:=nw
       dsimp only at hnew
       have hlq:=last_ok q k hqo
       obtain⟨hth,hthv⟩:=then_new hrI hext k lo hlow
       have hthen:=then_ok r k (lastV (ofK q k)).ver lo hro
       generalize thenS r k (lastV (ofK q k)).ver lo=th at hth hthv hthen
       obtain⟨x,b⟩:=th
       dsimp only at hth hthv
       subst hth
       cases ok
       ·refine⟨[],[some 0,some 1],_,_,_,_,hnow,t3,?_⟩
        rintro r o' c' ⟨rfl,rfl,rfl⟩
        ((conv=>whnf)<;>repeat(with_reducible refine D1 ?_)<;>conv=>whnf)
        refine⟨[],[some 2,some 3],_,_,_,_,hlq,t3,?_⟩
        rintro r o' c' ⟨rfl,rfl,rfl⟩
        ((conv=>whnf)<;>repeat(with_reducible refine D1 ?_)<;>conv=>whnf)
        refine⟨[],[some 0,some 1],_,_,_,_,hthen,t3,?_⟩
        rintro r o' c' ⟨rfl,rfl,rfl⟩
        ((conv=>whnf)<;>repeat(with_reducible refine D1 ?_)<;>conv=>whnf)
        refine⟨[],[some 2,some 3],_,_,_,_,hlq,t3,?_⟩
        rintro r o' c' ⟨rfl,rfl,rfl⟩
        ((conv=>whnf)<;>repeat(with_reducible refine D1 ?_)<;>conv=>whnf)
        (first|refine⟨?_,?_⟩|refine nsplit ?_ ?_|refine bsplit ?_ ?_)<;>intro hne<;>have hz_:=True.intro<;>clear hz_
        ·exact absurd hthv hne
        ·((conv=>whnf)<;>repeat(with_reducible refine D1 ?_)<;>conv=>whnf)
         refine⟨us.length - (j+1),?_,by omega⟩
         exact⟨[],[some 0,some 1,some 2,some 3],_,_,_,t3,⟨j+1,hlt,rfl,rfl,rfl,rfl⟩⟩
       ·refine⟨[],[some 0,some 1],_,_,_,_,hnow,t3,?_⟩
        rintro r o' c' ⟨rfl,rfl,rfl⟩
        ((conv=>whnf)<;>repeat(with_reducible refine D1 ?_)<;>conv=>whnf)
        refine⟨[],[some 2,some 3],_,_,_,_,hlq,t3,?_⟩
        rintro r o' c' ⟨rfl,rfl,rfl⟩
        ((conv=>whnf)<;>repeat(with_reducible refine D1 ?_)<;>conv=>whnf)
        (first|refine⟨?_,?_⟩|refine nsplit ?_ ?_|refine bsplit ?_ ?_)<;>intro hv<;>have hz_:=True.intro<;>clear hz_
        ·exact absurd (hnew rfl) hv
        ·((conv=>whnf)<;>repeat(with_reducible refine D1 ?_)<;>conv=>whnf)
         refine⟨[],[some 2,some 3],_,_,_,_,hlq,t3,?_⟩
         rintro r o' c' ⟨rfl,rfl,rfl⟩
         ((conv=>whnf)<;>repeat(with_reducible refine D1 ?_)<;>conv=>whnf)
         refine⟨[],[some 0,some 1],_,_,_,_,hthen,t3,?_⟩
         rintro r o' c' ⟨rfl,rfl,rfl⟩
         ((conv=>whnf)<;>repeat(with_reducible refine D1 ?_)<;>conv=>whnf)
         refine⟨[],[some 2,some 3],_,_,_,_,hlq,t3,?_⟩
         rintro r o' c' ⟨rfl,rfl,rfl⟩
         ((conv=>whnf)<;>repeat(with_reducible refine D1 ?_)<;>conv=>whnf)
         (first|refine⟨?_,?_⟩|refine nsplit ?_ ?_|refine bsplit ?_ ?_)<;>intro hne<;>have hz_:=True.intro<;>clear hz_
         ·exact absurd hthv hne
         ·((conv=>whnf)<;>repeat(with_reducible refine D1 ?_)<;>conv=>whnf)
          refine⟨us.length - (j+1),?_,by omega⟩
          exact⟨[],[some 0,some 1,some 2,some 3],_,_,_,t3,⟨j+1,hlt,rfl,rfl,rfl,rfl⟩⟩
      ·have hlt:j=us.length:=by have:=mt lenlt.2 hlt
                                omega
       subst hlt
       ((conv=>whnf)<;>repeat(with_reducible refine D1 ?_)<;>conv=>whnf)
       refine⟨[],[some 0,some 1],_,_,_,_,end_ok r,t3,?_⟩
       rintro r o' c' ⟨rfl,rfl,rfl⟩
       ((conv=>whnf)<;>repeat(with_reducible refine D1 ?_)<;>conv=>whnf)
       have htr:=ktrim_ok r r.e hro (by have:=hrI.len;omega)
       have htI:=hrI.trim r.e
       have hto:=htI.ok (by omega)
       rw[show(trimA r.e (r,0) (sortZ (keysA r.bs))).1=trimS r r.e from rfl]at htr
       have hte:(trimS r r.e).e=r.e:=(trimA_keys r.e (sortZ (keysA r.bs)) (r,0)).2.1
       refine⟨[],[some 0,some 1],_,_,_,_,htr,t3,?_⟩
       rintro r o' c' ⟨rfl,rfl,rfl⟩
       ((conv=>whnf)<;>repeat(with_reducible refine D1 ?_)<;>conv=>whnf)
       refine⟨fun k f o c=>∃j:Nat,j≤us.length∧k=us.length - j∧c=4∧f=[(0,.sl 7 (us.map encU) false),(7,.ptr 0 0),(8,.ptr 2 0),(20,.s (.int .i64 j))]∧o=st2 (trimS r r.e) q,⟨us.length,?_⟩,?_⟩
       ·exact⟨[],[some 0,some 1,some 2,some 3],_,_,_,t3,⟨0,Nat.zero_le _,rfl,rfl,rfl,rfl⟩⟩
       ·rintro k f1 o1 c1 ⟨j,hj,rfl,rfl,rfl,rfl⟩
        ((conv=>whnf)<;>repeat(with_reducible refine D1 ?_)<;>conv=>whnf)
        (first|refine⟨?_,?_⟩|refine nsplit ?_ ?_|refine bsplit ?_ ?_)<;>intro hlt<;>have hz_:=True.intro<;>clear hz_
        ·have hlt:j<us.length:=lenlt.1 hlt
         ((conv=>whnf)<;>repeat(with_reducible refine D1 ?_)<;>conv=>whnf)
         refine idxI hlt ?_
         ((conv=>whnf)<;>repeat(with_reducible refine D1 ?_)<;>conv=>whnf)
         obtain⟨k,hk⟩:∃k,k=us[j].key:=⟨_,rfl⟩
         rw[←hk]
         have hlq:=last_ok q k hqo
         obtain⟨hth,hthv⟩:=then_trim hrI hext k
         have hthen:=then_ok (trimS r r.e) k (lastV (ofK q k)).ver (trimS r r.e).e hto
         rw[show thenS (trimS r r.e) k (lastV (ofK q k)).ver (trimS r r.e).e=thenS (trimS r r.e) k (lastV (ofK q k)).ver r.e from by rw[hte]]at hthen
         generalize thenS (trimS r r.e) k (lastV (ofK q k)).ver r.e=th at hth hthv hthen
         obtain⟨x,b⟩:=th
         dsimp only at hth hthv
         subst hth
         refine⟨[],[some 2,some 3],_,_,_,_,hlq,t3,?_⟩
         rintro r o' c' ⟨rfl,rfl,rfl⟩
         ((conv=>whnf)<;>repeat(with_reducible refine D1 ?_)<;>conv=>whnf)
         refine⟨[],[some 0,some 1],_,_,_,_,end_ok (trimS r r.e),t3,?_⟩
         rintro r o' c' ⟨rfl,rfl,rfl⟩
         ((conv=>whnf)<;>repeat(with_reducible refine D1 ?_)<;>conv=>whnf)
         refine⟨[],[some 0,some 1],_,_,_,_,hthen,t3,?_⟩
         rintro r o' c' ⟨rfl,rfl,rfl⟩
         ((conv=>whnf)<;>repeat(with_reducible refine D1 ?_)<;>conv=>whnf)
         refine⟨[],[some 2,some 3],_,_,_,_,hlq,t3,?_⟩
         rintro r o' c' ⟨rfl,rfl,rfl⟩
         ((conv=>whnf)<;>repeat(with_reducible refine D1 ?_)<;>conv=>whnf)
         (first|refine⟨?_,?_⟩|refine nsplit ?_ ?_|refine bsplit ?_ ?_)<;>intro hne<;>have hz_:=True.intro<;>clear hz_
         ·have hne:x.ver<(lastV (ofK q k)).ver:=hne
          omega
         ·((conv=>whnf)<;>repeat(with_reducible refine D1 ?_)<;>conv=>whnf)
          refine⟨us.length - (j+1),?_,by omega⟩
          exact⟨[],[some 0,some 1,some 2,some 3],_,_,_,t3,⟨j+1,hlt,rfl,rfl,rfl,rfl⟩⟩
        ·((conv=>whnf)<;>repeat(with_reducible refine D1 ?_)<;>conv=>whnf)
         refine⟨[],[],_,_,_,_,awake22_ok,t3,?_⟩
         rintro r o' c' ⟨rfl,rfl,rfl⟩
         ((conv=>whnf)<;>repeat(with_reducible refine D1 ?_)<;>conv=>whnf)
         exact⟨[],[],_,_,_,t3,rfl,rfl,rfl⟩
end Go.M
