/-
  Part 29 of the library that the proof leans on.
-/
import Derived.Test.YtgjfaieghmigjaaGreatDoorL21
import Derived.Test.YtgjfaieghmigjaaGreatDoorL28
import Derived.Test.YtgjfaieghmigjaaGreatDoorL27
namespace Go.M
open Go Go.Proofs
set_option maxRecDepth 1000000
theorem orcZ (base B:Nat):OrcOk Tryz.prog EZ base B:=by
 refine orcX_ok tabsB0 (fun g hg=>?_) (fun base B=>orcY_ok mixed0 base B) base B
 simp only[List.mem_cons,List.not_mem_nil,or_false]at hg
 rcases hg with rfl |rfl
 ·exact awake18
 ·exact awake22
theorem awake18_ok:VC EZ 26 0 [] [] (fun r o c=>r= .s (.bool true)∧o=[]∧c=0):=
 VC.awakeX (g:=26) (aw:=[26,21]) tabsB0 (by show(Tryz.prog.funcs[26]?).isSome=true;kernel_rfl) rfl
end Go.M
namespace Go.M
open Go Go.Proofs
set_option maxRecDepth 100000
set_option maxHeartbeats 4000000
def keyR (k:Int) (j:Nat):Int:=IntKind.u32.wrap (k+j)
theorem keyR_inj {k:Int} {i j:Nat} (hi:i<1000) (hj:j<1000) (h:keyR k i=keyR k j):i=j:=by
 unfold keyR at h
 rw[IntKind.wrap_u32,IntKind.wrap_u32]at h
 omega
def rowR (i:Nat):RowS:=if i=0 then zeroR else⟨1,i,i,if i≤192 then 0 else 9,if i≤192 then 1 else 0⟩
def roomB (k:Int) (i:Nat):List (Int×List Vs):=(List.range i).map fun j=>(keyR k j,[⟨1,((j+1:Nat):Int),[]⟩])
def roomT (k:Int) (i:Nat):StS:=⟨i,roomB k (min i 192),⟨rowR i,zeroR,zeroR,zeroR,zeroR,zeroR⟩⟩
theorem roomB_len (k:Int) (i:Nat):(roomB k i).length=i:=by unfold roomB;simp
theorem lookA_in {α:Type} {n:Int} {v:α}:∀{bs:List (Int×α)},lookA bs n=some v→(n,v)∈bs
 |[],h=>by cases h
 |e::es,h=>by
  unfold lookA at h
  split at h
  ·rename_i he;cases h;rw[he];exact List.mem_cons_self
  ·exact List.mem_cons_of_mem _ (lookA_in h)
theorem roomB_new (k:Int) (i:Nat) (m:Nat) (hm:m≤i) (hi:i<1000):keyR k i∉keysA (roomB k m):=by
 intro he
 unfold roomB keysA at he
 simp only[List.mem_map,List.mem_range,List.map_map,Function.comp]at he
 obtain⟨j,hj,h⟩:=he
 have h:=h.symm
 have:=keyR_inj hi (by omega) h
 omega
theorem roomT_ok (k:Int) (i:Nat) (hi:i<1000):SOk (roomT k i):=⟨fun k' vs h=>by
 have h:=lookA_in h
 unfold roomT roomB at h
 simp only[List.mem_map,List.mem_range,Prod.mk.injEq]at h
 obtain⟨j,hj,_,rfl⟩:=h
 refine⟨fun v hv=>?_,by simp⟩
 simp only[List.mem_singleton]at hv
 subst hv
 exact⟨⟨by simp,by simp⟩,⟨by simp;omega,by simp;omega⟩,by simp⟩⟩
@[reducible] def updR (k:Int) (i:Nat):UpR:=⟨((i+1:Nat):Int),1,((i+1:Nat):Int),2,keyR k i,0,[]⟩
theorem roomB_succ (k:Int) (i:Nat):roomB k (i+1)=roomB k i++[(keyR k i,[⟨1,((i+1:Nat):Int),[]⟩])]:=by
 unfold roomB;rw[List.range_succ,List.map_append];rfl
theorem room_step (k:Int) (i:Nat) (hi:i<900):applyS (roomT k i) (updR k i)=((rowR (i+1),0),roomT k (i+1)):=by
 have h1:chkU (updR k i)=0:=by
  unfold chkU okU kindB
  simp
  omega
 have hk:ofK (roomT k i) (keyR k i)=[]:=ofK_none (lookA_none.2 (roomB_new k i _ (Nat.min_le_left _ _) (by omega)))
 have hrow:((roomT k i).t.row 1).num=i:=by
  show((if(1:Int)=1 then rowR i else _):RowS).num=_
  rw[if_pos rfl];unfold rowR;split
  ·rename_i h;rw[h];rfl
  ·rfl
 have hj:judgeC (roomT k i).t 1 ((i+1:Nat):Int)=0:=by
  unfold judgeC;rw[hrow,if_neg (by omega),if_pos (show(i:Int)<((i+1:Nat):Int) by omega)]
 have ho:outS (roomT k i) (updR k i)=if i<192 then(0,1,true)else(9,0,false):=by
  show outC (updR k i) (lastV (ofK (roomT k i) (keyR k i))).ver (decide ((roomT k i).bs.length<192))=_
  rw[hk,show(roomT k i).bs.length=min i 192 from roomB_len k _]
  show outC (updR k i) 0 _=_
  unfold outC kindB
  by_cases h:i<192
  ·have:min i 192<192:=by omega
   simp[h,this]
  ·have:¬min i 192<192:=by omega
   simp[h,this]
 have hset:∀c v:Int,0≤c→c≤255→setC (roomT k i).t ⟨1,((i+1:Nat):Int),((i+1:Nat):Int),c,v⟩=0:=by
  intro c v h0 h1
  unfold setC
  rw[if_neg (by unfold fineB;simp;omega),if_neg (by rw[hj];decide)]
 unfold applyS
 rw[if_neg (by rw[h1];decide),if_neg (by show¬((((i+1:Nat):Int) - 1)≠(i:Int));omega),if_neg (by rw[hj];decide)]
 have hrw:rowS (roomT k i) (updR k i)=rowR (i+1):=by
  by_cases h:i<192
  ·rw[if_pos h]at ho
   unfold rowS;rw[ho];unfold rowR
   rw[if_neg (show¬i+1=0 by omega),if_pos (show i+1≤192 by omega),if_pos (show i+1≤192 by omega)]
  ·rw[if_neg h]at ho
   unfold rowS;rw[ho];unfold rowR
   rw[if_neg (show¬i+1=0 by omega),if_neg (show¬i+1≤192 by omega),if_neg (show¬i+1≤192 by omega)]
 have hs0:setC (roomT k i).t (rowR (i+1))=0:=by
  unfold rowR
  rw[if_neg (show¬i+1=0 by omega)]
  refine hset _ _ ?_ ?_<;>split<;>decide
 have hst:setT (roomT k i).t (rowR (i+1))=(roomT k (i+1)).t:=by
  unfold setT
  rw[if_pos hs0]
  have:(rowR (i+1)).client=1:=by unfold rowR;rw[if_neg (by omega)]
  rw[this];rfl
 rw[hrw,hs0,hst]
 refine congrArg (fun x=>((rowR (i+1),(0:Int)),x)) ?_
 unfold wrote
 rw[ho]
 by_cases h:i<192
 ·rw[if_pos h,if_pos rfl]
  have hp:putB [] ⟨1,((i+1:Nat):Int),[]⟩=[⟨1,((i+1:Nat):Int),[]⟩]:=by unfold putB putE;simp;omega
  have hb:putA (roomB k (min i 192)) (keyR k i) [⟨1,((i+1:Nat):Int),[]⟩]=roomB k (min (i+1) 192):=by
   rw[putA_new (roomB_new k i _ (Nat.min_le_left _ _) (by omega)),Nat.min_eq_left (by omega),Nat.min_eq_left (by omega),roomB_succ]
  show(⟨((i+1:Nat):Int),putA (roomB k (min i 192)) (keyR k i) (putB (ofK (roomT k i) (keyR k i)) ⟨1,((i+1:Nat):Int),[]⟩),(roomT k (i+1)).t⟩:StS)=_
  rw[hk,hp,hb];rfl
 ·rw[if_neg h,if_neg (by decide)]
  show(⟨((i+1:Nat):Int),roomB k (min i 192),(roomT k (i+1)).t⟩:StS)=_
  rw[show min i 192=min (i+1) 192 from by omega];rfl
end Go.M
namespace Go.M
open Go Go.Proofs
set_option maxRecDepth 100000
set_option maxHeartbeats 4000000
theorem updR_ok (k:Int) (i:Nat) (hi:i<900):UOk (updR k i):=⟨by simp;omega,by simp;omega,by simp,by
 show 0≤keyR k i∧keyR k i≤4294967295
 unfold keyR;rw[IntKind.wrap_u32];omega⟩
theorem room_n (m:Int) (_:0≤m∧m≤255):∃n:Nat,n<900∧192≤n∧(192+m % 4:Int)=n:=⟨(192+m % 4).toNat,by omega,by omega,by omega⟩
theorem room_ok (k m:Int) (hm:0≤m∧m≤255):VC EZ 4 0 [.s (.int .u32 k),.s (.int .u8 m)] [] (RR (.s (.bool true)) 0 []):=by
 obtain⟨n,hn,hn2,he⟩:=room_n m hm
 have hnn:IntKind.i64.wrap (192+(IntKind.i64.wrap m).tmod 4)=(n:Int):=by
  rw[IntWalk.i64_in m (by omega),Int.tmod_eq_emod_of_nonneg hm.1,IntWalk.i64_in _ (by omega)];exact he
 refine VC.enterR LZ (show EZ.func 4=some Tryz.f4 by kernel_rfl) (fun _ _=>rfl) rfl rfl [] ?_
 ((conv=>whnf)<;>repeat(with_reducible refine D1 ?_)<;>conv=>whnf)
 refine⟨[],[],_,_,_,_,knew_ok,t3,?_⟩
 rintro r o' c' ⟨rfl,rfl,rfl⟩
 ((conv=>whnf)<;>repeat(with_reducible refine D1 ?_)<;>conv=>whnf)
 rw[hnn]
 refine⟨fun k' f o c=>∃(i:Nat) (r:StS),r=roomT k i∧i≤n∧k'=n - i∧c=2∧f=[(0,.s (.int .u32 k)),(5,.ptr 0 0),(6,.s (.int .i64 n)),(7,.s (.int .i64 i))]∧o=stO r,⟨n,?_⟩,?_⟩
 ·exact⟨[],[some 0,some 1],_,_,_,t3,⟨0,⟨0,[],zeroTab⟩,rfl,Nat.zero_le _,rfl,rfl,rfl,rfl⟩⟩
 ·rintro k' f1 o1 c1 ⟨i,r,hr,hi,rfl,rfl,rfl,rfl⟩
  ((conv=>whnf)<;>repeat(with_reducible refine D1 ?_)<;>conv=>whnf)
  (first|refine⟨?_,?_⟩|refine nsplit ?_ ?_|refine bsplit ?_ ?_)<;>intro hlt<;>have hz_:=True.intro<;>clear hz_
  ·have hlt:i<n:=by exact Int.ofNat_lt.1 hlt
   have hs:=room_step k i (by omega)
   have ha:=apply_ok (roomT k i) (updR k i) (roomT_ok k i (by omega)) (updR_ok k i (by omega))
   rw[hs,←hr]at ha
   have w1:IntKind.u64.wrap (i:Int)=(i:Int):=IntWalk.u64_in _ (by omega)
   have w2:IntKind.u64.wrap ((i:Int)+1)=((i+1:Nat):Int):=by rw[IntWalk.u64_in _ (by omega)];omega
   have w3:IntKind.u32.wrap (i:Int)=(i:Int):=IntWalk.u32_in _ (by omega)
   have w4:IntKind.u32.wrap (k+(i:Int))=keyR k i:=rfl
   have w5:IntKind.i64.wrap ((i:Int)+1)=((i+1:Nat):Int):=by rw[IntWalk.i64_in _ (by omega)];omega
   by_cases h:i<192
   ·rw[show rowR (i+1)=⟨1,((i+1:Nat):Int),((i+1:Nat):Int),0,1⟩from by
     unfold rowR;rw[if_neg (show¬i+1=0 by omega),if_pos (show i+1≤192 by omega),if_pos (show i+1≤192 by omega)]]at ha
    have ha:VC EZ 23 2 [.ptr 0 0,.agg (encU (updR k i))] (stO r) (RR (.tup [.agg [.s (.int .i64 1),.s (.int .u64 ((i+1:Nat):Int)),.s (.int .u64 ((i+1:Nat):Int)),.s (.int .i64 0),.s (.int .u64 1)],.s (.int .i64 0)]) 2 (stO (roomT k (i+1)))):=ha
    ((conv=>whnf)<;>repeat(with_reducible refine D1 ?_)<;>conv=>whnf)
    rw[w1,w2,w3,w4]
    refine⟨[],[some 0,some 1],_,_,_,_,ha,t3,?_⟩
    rintro r o' c' ⟨rfl,rfl,rfl⟩
    ((conv=>whnf)<;>repeat(with_reducible refine D1 ?_)<;>conv=>whnf)
    repeat'(first|((first|(refine⟨fun h=>?_,fun h=>?_⟩)|(refine nsplit (fun h=>?_) (fun h=>?_))|(refine bsplit (fun h=>?_) (fun h=>?_)))<;>((conv=>whnf)<;>repeat(with_reducible refine D1 ?_)<;>conv=>whnf)))
    all_goals try(exfalso;omega)
    all_goals
     rw[w5]
     refine⟨n - (i+1),?_,by omega⟩
     exact⟨[],[some 0,some 1],_,_,_,t3,⟨i+1,roomT k (i+1),rfl,by omega,rfl,rfl,rfl,rfl⟩⟩
   ·rw[show rowR (i+1)=⟨1,((i+1:Nat):Int),((i+1:Nat):Int),9,0⟩from by
     unfold rowR;rw[if_neg (show¬i+1=0 by omega),if_neg (show¬i+1≤192 by omega),if_neg (show¬i+1≤192 by omega)]]at ha
    have ha:VC EZ 23 2 [.ptr 0 0,.agg (encU (updR k i))] (stO r) (RR (.tup [.agg [.s (.int .i64 1),.s (.int .u64 ((i+1:Nat):Int)),.s (.int .u64 ((i+1:Nat):Int)),.s (.int .i64 9),.s (.int .u64 0)],.s (.int .i64 0)]) 2 (stO (roomT k (i+1)))):=ha
    ((conv=>whnf)<;>repeat(with_reducible refine D1 ?_)<;>conv=>whnf)
    rw[w1,w2,w3,w4]
    refine⟨[],[some 0,some 1],_,_,_,_,ha,t3,?_⟩
    rintro r o' c' ⟨rfl,rfl,rfl⟩
    ((conv=>whnf)<;>repeat(with_reducible refine D1 ?_)<;>conv=>whnf)
    repeat'(first|((first|(refine⟨fun h=>?_,fun h=>?_⟩)|(refine nsplit (fun h=>?_) (fun h=>?_))|(refine bsplit (fun h=>?_) (fun h=>?_)))<;>((conv=>whnf)<;>repeat(with_reducible refine D1 ?_)<;>conv=>whnf)))
    all_goals try(exfalso;omega)
    all_goals
     rw[w5]
     refine⟨n - (i+1),?_,by omega⟩
     exact⟨[],[some 0,some 1],_,_,_,t3,⟨i+1,roomT k (i+1),rfl,by omega,rfl,rfl,rfl,rfl⟩⟩
  ·have hlt:¬i<n:=fun q=>hlt (Int.ofNat_lt.2 q)
   obtain rfl:i=n:=by omega
   have hkl:(sortZ (keysA r.bs)).length=192:=by
    unfold sortZ;rw[List.length_mergeSort,List.length_map,hr];show(roomB k (min i 192)).length=_;rw[roomB_len];omega
   have hbl:r.bs.length<4096:=by rw[hr];show(roomB k (min i 192)).length<_;rw[roomB_len];omega
   have hre:r.e=i:=by rw[hr];rfl
   ((conv=>whnf)<;>repeat(with_reducible refine D1 ?_)<;>conv=>whnf)
   refine⟨[],[some 0,some 1],_,_,_,_,kkeys_ok r hbl,t3,?_⟩
   rintro r o' c' ⟨rfl,rfl,rfl⟩
   ((conv=>whnf)<;>repeat(with_reducible refine D1 ?_)<;>conv=>whnf)
   (first|refine⟨?_,?_⟩|refine nsplit ?_ ?_|refine bsplit ?_ ?_)<;>intro h1<;>have hz_:=True.intro<;>clear hz_
   ·((conv=>whnf)<;>repeat(with_reducible refine D1 ?_)<;>conv=>whnf)
    refine⟨[],[some 0,some 1],_,_,_,_,end_ok r,t3,?_⟩
    rintro r o' c' ⟨rfl,rfl,rfl⟩
    ((conv=>whnf)<;>repeat(with_reducible refine D1 ?_)<;>conv=>whnf)
    rw[hre,show IntKind.u64.wrap (i:Int)=(i:Int)from IntWalk.u64_in _ (by omega)]
    (first|refine⟨?_,?_⟩|refine nsplit ?_ ?_|refine bsplit ?_ ?_)<;>intro h2<;>have hz_:=True.intro<;>clear hz_
    ·((conv=>whnf)<;>repeat(with_reducible refine D1 ?_)<;>conv=>whnf)
     refine⟨[],[],_,_,_,_,awake18_ok,t3,?_⟩
     rintro r o' c' ⟨rfl,rfl,rfl⟩
     ((conv=>whnf)<;>repeat(with_reducible refine D1 ?_)<;>conv=>whnf)
     exact⟨[],[],_,_,_,t3,rfl,rfl,rfl⟩
    ·exact absurd rfl h2
   ·exact absurd (show(((sortZ (keysA r.bs)).map encK).length:Int)=192 by rw[List.length_map,hkl];rfl) h1
end Go.M
