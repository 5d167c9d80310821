/-
  Part 15 of the library that the proof leans on.
-/
import Derived.Test.YtgjfaieghmigjaaGreatDoorL13
import Derived.Test.YtgjfaieghmigjaaGreatDoorL14
import Derived.WalkKit
import Derived.Deep.RegionLaw
import Derived.Lib.SliceRun
import Derived.Shelf.RegionOpenPlain
import Derived.KernelRfl
namespace Go.M
open Go Go.Proofs
set_option maxRecDepth 100000
noncomputable def EW:=envD Tryz.prog tabs0 56 4 (orcX tabs0 [21] noOrc)
noncomputable def TW:=tE EW [33,37]
theorem rowsW:[33,37].all (eqRow EW)=true:=by kernel_rfl
theorem LW:EnvLe TW EW:=tE_le (fun t z h=>by
 simp only[EW,envD,envT,envOf,Option.bind_eq_some_iff,grd_some,Option.some.injEq]at h
 obtain⟨i,h1,z',h2,h3,rfl⟩:=h
 exact h3) rowsW
end Go.M
namespace Go.M
open Go Go.Proofs
set_option maxRecDepth 100000
set_option maxHeartbeats 4000000
structure Rd where
 (token client num key:Int)
 deriving DecidableEq
@[reducible] def encRd (r:Rd):List TV:=[.s (.int .u64 r.token),.s (.int .i64 r.client),.s (.int .u64 r.num),.s (.int .u32 r.key)]
@[reducible] def zeroRd:Rd:=⟨0,0,0,0⟩
@[reducible] def stI (n:Int) (k:IntKind) (l:List Rd):Ob:=[(0,.arr 4 true (l.map encRd)),(1,.cells [.s (.int k n)])]
def askB (n:Int) (r:Rd):Bool:=decide (r.client=n)
def toldB (n:Int) (r:Rd):Bool:=decide (r.token=n)
theorem ask1C (n:Int) (r:Rd):VC EW 53 1 [.agg (encRd r),.ptr 0 0] [(0,.cells [.s (.int .i64 n)])] (RR (.s (.bool (askB n r))) 1 [(0,.cells [.s (.int .i64 n)])]):=by
 refine VC.enterR LW (show EW.func 53=some Tryz.f53 by kernel_rfl) (fun _ _=>rfl) rfl rfl [] ?_
 conv=>whnf
 (first|refine⟨?_,?_⟩|refine nsplit ?_ ?_|refine bsplit ?_ ?_)<;>intro h<;>have hz_:=True.intro<;>clear hz_
 ·have h:r.client=n:=h
  conv=>whnf
  refine⟨[],[some 0],?_⟩
  iterate 3 constructor
  refine⟨⟨?_,?_,?_⟩,rfl,rfl,rfl⟩
  all_goals(repeat' first|exact LF|constructor)
  exact Lz.of (bool_eq (Eq.symm (decide_eq_true h)))
 ·have h:¬r.client=n:=h
  conv=>whnf
  refine⟨[],[some 0],?_⟩
  iterate 3 constructor
  refine⟨⟨?_,?_,?_⟩,rfl,rfl,rfl⟩
  all_goals(repeat' first|exact LF|constructor)
  exact Lz.of (bool_eq (Eq.symm (decide_eq_false h)))
theorem told1C (n:Int) (r:Rd):VC EW 55 1 [.agg (encRd r),.ptr 0 0] [(0,.cells [.s (.int .u64 n)])] (RR (.s (.bool (toldB n r))) 1 [(0,.cells [.s (.int .u64 n)])]):=by
 refine VC.enterR LW (show EW.func 55=some Tryz.f55 by kernel_rfl) (fun _ _=>rfl) rfl rfl [] ?_
 conv=>whnf
 (first|refine⟨?_,?_⟩|refine nsplit ?_ ?_|refine bsplit ?_ ?_)<;>intro h<;>have hz_:=True.intro<;>clear hz_
 ·have h:r.token=n:=h
  conv=>whnf
  refine⟨[],[some 0],?_⟩
  iterate 3 constructor
  refine⟨⟨?_,?_,?_⟩,rfl,rfl,rfl⟩
  all_goals(repeat' first|exact LF|constructor)
  exact Lz.of (bool_eq (Eq.symm (decide_eq_true h)))
 ·have h:¬r.token=n:=h
  conv=>whnf
  refine⟨[],[some 0],?_⟩
  iterate 3 constructor
  refine⟨⟨?_,?_,?_⟩,rfl,rfl,rfl⟩
  all_goals(repeat' first|exact LF|constructor)
  exact Lz.of (bool_eq (Eq.symm (decide_eq_false h)))
def FirstI (p:Rd→Bool) (l:List Rd) (i:Int):Prop:=(i= -1∧∀v∈l,p v=false)∨∃j:Nat,∃h:j<l.length,i=j∧(∀v∈l.take j,p v=false)∧p l[j]=true
theorem idxA_ok (n:Int) (l:List Rd) (hl:l.length<1000000):VC EW 54 2 [.tk 0,.clo 53 [] [.ptr 1 0]] (stI n .i64 l)
 (fun r o c=>∃i:Int,r= .s (.int .i64 i)∧c=2∧o=stI n .i64 l∧FirstI (askB n) l i):=by
 refine VC.enterR LW (show EW.func 54=some Tryz.f54 by kernel_rfl) (fun _ _=>rfl) rfl rfl [] ?_
 conv=>whnf
 refine⟨fun k f o c=>∃j:Nat,j≤l.length∧k=l.length - j∧(∀v∈l.take j,askB n v=false)∧c=2∧f=[(0,.tk 0),(1,.clo 53 [] [.ptr 1 0]),(7,.s (.int .i64 l.length)),(8,.s (.int .i64 j))]∧o=stI n .i64 l,⟨l.length,?_⟩,?_⟩
 ·refine⟨[],[some 0,some 1],?_⟩
  iterate 3 constructor
  refine⟨⟨?_,?_,?_⟩,⟨0,Nat.zero_le _,rfl,by simp,rfl,rfl,rfl⟩⟩
  all_goals(repeat' first|exact LF|constructor)
  all_goals exact Lz.of (by simp[goInt])
 ·rintro k f1 o1 c1 ⟨j,hj,rfl,hb,rfl,rfl,rfl⟩
  conv=>whnf
  (first|refine⟨?_,?_⟩|refine nsplit ?_ ?_|refine bsplit ?_ ?_)<;>intro h<;>have hz_:=True.intro<;>clear hz_
  ·have h:j<l.length:=by simpa using h
   conv=>whnf
   refine⟨⟨by omega,by simp;omega⟩,encRd l[j],by simp[h],?_⟩
   conv=>whnf
   refine⟨[],[some 1],_,_,_,_,ask1C n l[j],t3,?_⟩
   rintro r o' c' ⟨rfl,rfl,rfl⟩
   have hz_:=True.intro
   clear hz_
   cases hv:askB n l[j]
   ·conv=>whnf
    refine⟨l.length - (j+1),?_,by omega⟩
    exact⟨[],[some 0,some 1],_,_,_,t3,⟨j+1,h,rfl,by intro v hv';rw[List.take_succ_eq_append_getElem h]at hv';rcases List.mem_append.1 hv' with h1|h1;exact hb v h1;simp at h1;subst h1;exact hv,rfl,rfl,rfl⟩⟩
   ·conv=>whnf
    exact⟨[],[some 0,some 1],_,_,_,t3,(j:Int),rfl,rfl,rfl,.inr ⟨j,h,rfl,hb,hv⟩⟩
  ·have h':j=l.length:=by have:¬j<l.length:=by simpa using h
                          omega
   subst h'
   rw[List.take_length]at hb
   conv=>whnf
   exact⟨[],[some 0,some 1],_,_,_,t3,-1,rfl,rfl,rfl,.inl ⟨rfl,hb⟩⟩
theorem idxT_ok (n:Int) (l:List Rd) (hl:l.length<1000000):VC EW 54 2 [.tk 0,.clo 55 [] [.ptr 1 0]] (stI n .u64 l)
 (fun r o c=>∃i:Int,r= .s (.int .i64 i)∧c=2∧o=stI n .u64 l∧FirstI (toldB n) l i):=by
 refine VC.enterR LW (show EW.func 54=some Tryz.f54 by kernel_rfl) (fun _ _=>rfl) rfl rfl [] ?_
 conv=>whnf
 refine⟨fun k f o c=>∃j:Nat,j≤l.length∧k=l.length - j∧(∀v∈l.take j,toldB n v=false)∧c=2∧f=[(0,.tk 0),(1,.clo 55 [] [.ptr 1 0]),(7,.s (.int .i64 l.length)),(8,.s (.int .i64 j))]∧o=stI n .u64 l,⟨l.length,?_⟩,?_⟩
 ·refine⟨[],[some 0,some 1],?_⟩
  iterate 3 constructor
  refine⟨⟨?_,?_,?_⟩,⟨0,Nat.zero_le _,rfl,by simp,rfl,rfl,rfl⟩⟩
  all_goals(repeat' first|exact LF|constructor)
  all_goals exact Lz.of (by simp[goInt])
 ·rintro k f1 o1 c1 ⟨j,hj,rfl,hb,rfl,rfl,rfl⟩
  conv=>whnf
  (first|refine⟨?_,?_⟩|refine nsplit ?_ ?_|refine bsplit ?_ ?_)<;>intro h<;>have hz_:=True.intro<;>clear hz_
  ·have h:j<l.length:=by simpa using h
   conv=>whnf
   refine⟨⟨by omega,by simp;omega⟩,encRd l[j],by simp[h],?_⟩
   conv=>whnf
   refine⟨[],[some 1],_,_,_,_,told1C n l[j],t3,?_⟩
   rintro r o' c' ⟨rfl,rfl,rfl⟩
   have hz_:=True.intro
   clear hz_
   cases hv:toldB n l[j]
   ·conv=>whnf
    refine⟨l.length - (j+1),?_,by omega⟩
    exact⟨[],[some 0,some 1],_,_,_,t3,⟨j+1,h,rfl,by intro v hv';rw[List.take_succ_eq_append_getElem h]at hv';rcases List.mem_append.1 hv' with h1|h1;exact hb v h1;simp at h1;subst h1;exact hv,rfl,rfl,rfl⟩⟩
   ·conv=>whnf
    exact⟨[],[some 0,some 1],_,_,_,t3,(j:Int),rfl,rfl,rfl,.inr ⟨j,h,rfl,hb,hv⟩⟩
  ·have h':j=l.length:=by have:¬j<l.length:=by simpa using h
                          omega
   subst h'
   rw[List.take_length]at hb
   conv=>whnf
   exact⟨[],[some 0,some 1],_,_,_,t3,-1,rfl,rfl,rfl,.inl ⟨rfl,hb⟩⟩
def others (n:Int) (l:List Rd):List Rd:=l.filter fun r=> !askB n r
theorem others_all {n:Int} {l:List Rd} (h:∀v∈l,askB n v=false):others n l=l:=by
 unfold others
 rw[List.filter_eq_self]
 intro v hv
 rw[h v hv];rfl
theorem others_snoc (n:Int) (l:List Rd) (j:Nat) (h:j<l.length):others n (l.take (j+1))=others n (l.take j)++if askB n l[j]=true then []else [l[j]]:=by
 unfold others
 rw[List.take_succ_eq_append_getElem h,List.filter_append]
 congr 1
 by_cases hb:askB n l[j]=true<;>simp[hb]
theorem others_bad {n:Int} {l:List Rd} {j:Nat} (h:j<l.length) (hb:askB n l[j]=true):others n (l.take (j+1))=others n (l.take j):=by
 rw[others_snoc n l j h,if_pos hb,List.append_nil]
theorem others_good {n:Int} {l:List Rd} {j:Nat} (h:j<l.length) (hb:askB n l[j]=false):others n (l.take (j+1))=others n (l.take j)++[l[j]]:=by
 rw[others_snoc n l j h,if_neg (by rw[hb];decide)]
def LeftR (l:List Rd) (n:Int):TV→Ob→Nat→Prop:=fun r o c=>c=2∧((r= .tk 0∧o=stI n .i64 l∧others n l=l)∨∃(i:Nat) (ws:List Rd),r= .pv 0 i∧o=stI n .i64 ws∧ws.take i=others n l∧i≤ws.length)
theorem delF_ok (n:Int) (l:List Rd) (hl:l.length<1000000):VC EW 110 2 [.tk 0,.clo 53 [] [.ptr 1 0]] (stI n .i64 l) (LeftR l n):=by
 refine VC.enterR LW (show EW.func 110=some Tryz.f110 by kernel_rfl) (fun _ _=>rfl) rfl rfl [] ?_
 conv=>whnf
 refine⟨[],[some 0,some 1],_,_,_,_,idxA_ok n l hl,t3,?_⟩
 rintro r o' c' ⟨i0,rfl,rfl,rfl,hi0⟩
 conv=>whnf
 (first|refine⟨?_,?_⟩|refine nsplit ?_ ?_|refine bsplit ?_ ?_)<;>intro hm<;>have hz_:=True.intro<;>clear hz_
 ·have hm:i0= -1:=hm
  rcases hi0 with⟨_,hall⟩|⟨j,h,e,_,_⟩
  ·conv=>whnf
   exact⟨[],[some 0,some 1],_,_,_,t3,rfl,.inl ⟨rfl,rfl,others_all hall⟩⟩
  ·omega
 ·have hm:¬i0= -1:=hm
  rcases hi0 with⟨e,_⟩|⟨j0,h0,rfl,hb0,hv0⟩
  ·exact absurd e hm
  conv=>whnf
  refine⟨fun k f o c=>∃(i j:Nat) (ws:List Rd),i<j∧j≤l.length∧k=l.length - j∧ws.length=l.length∧ws.take i=others n (l.take j)∧ws.drop j=l.drop j∧c=2∧f=[(0,.tk 0),(1,.clo 53 [] [.ptr 1 0]),(5,.s (.int .i64 i)),(6,.s (.int .i64 j))]∧o=stI n .i64 ws,⟨l.length - (j0+1),?_⟩,?_⟩
  ·exact⟨[],[some 0,some 1],_,_,_,t3,⟨j0,j0+1,l,by omega,h0,rfl,rfl,(by rw[others_bad h0 hv0];exact(others_all hb0).symm),rfl,rfl,rfl,rfl⟩⟩
  ·rintro k f1 o1 c1 ⟨i,j,ws,hij,hj,rfl,hlen,htk,hdr,rfl,rfl,rfl⟩
   conv=>whnf
   (first|refine⟨?_,?_⟩|refine nsplit ?_ ?_|refine bsplit ?_ ?_)<;>intro h<;>have hz_:=True.intro<;>clear hz_
   ·have h:j<l.length:=by rw[List.length_map,hlen]at h;omega
    have hw:ws[j]? =some l[j]:=by
     have:=congrArg (fun q=>q[0]?) hdr
     simpa[h]using this
    have hdr1:ws.drop (j+1)=l.drop (j+1):=by
     have:=congrArg (List.drop 1) hdr
     simpa[List.drop_drop,Nat.add_comm]using this
    conv=>whnf
    refine⟨⟨by omega,by simp;omega⟩,encRd l[j],by simp[hw],?_⟩
    conv=>whnf
    refine⟨[],[some 1],_,_,_,_,ask1C n l[j],t3,?_⟩
    rintro r o' c' ⟨rfl,rfl,rfl⟩
    have hz_:=True.intro
    clear hz_
    cases hv:askB n l[j]
    ·conv=>whnf
     refine⟨⟨by omega,by simp;omega⟩,encRd (ws[i]'(by omega)),by simp[show i<ws.length by omega],?_⟩
     conv=>whnf
     refine⟨l.length - (j+1),?_,by omega⟩
     refine⟨[],[some 0,some 1],?_⟩
     iterate 3 constructor
     refine⟨⟨?_,?_,?_⟩,⟨i+1,j+1,ws.set i l[j],by omega,h,rfl,by simpa using hlen,(by rw[others_good h hv,List.take_succ_eq_append_getElem (by simp;omega),List.take_set_of_le (Nat.le_refl _),htk];simp),(by rw[List.drop_set_of_lt (by omega)];exact hdr1),rfl,rfl,rfl⟩⟩
     all_goals(repeat' first|exact LF|constructor)
     refine Lz.of ?_
     rw[List.map_set];rfl
    ·conv=>whnf
     refine⟨l.length - (j+1),?_,by omega⟩
     exact⟨[],[some 0,some 1],_,_,_,t3,⟨i,j+1,ws,by omega,h,rfl,hlen,(by rw[others_bad h hv];exact htk),hdr1,rfl,rfl,rfl⟩⟩
   ·have h':j=l.length:=by have:¬(j:Int)<(((ws.map encRd).length:Nat):Int):=h
                           rw[List.length_map,hlen]at this;omega
    subst h'
    rw[List.take_length]at htk
    conv=>whnf
    refine⟨⟨by omega,by simp;try omega,by simp⟩,.inr ?_⟩
    conv=>whnf
    refine⟨fun hc=>absurd hc (by simp;omega),fun _=>?_⟩
    conv=>whnf
    refine⟨⟨by omega,by simp;try omega,by simp;try omega⟩,.inr ?_⟩
    conv=>whnf
    refine⟨[],[some 0,some 1],?_⟩
    iterate 3 constructor
    refine⟨⟨?_,?_,?_⟩,rfl,.inr ⟨i,ws.take i++List.replicate (ws.length - i) zeroRd,rfl,rfl,(by rw[List.take_left' (by simp;omega)];exact htk),by simp;omega⟩⟩
    all_goals(repeat' first|exact LF|constructor)
    all_goals first
     |exact Lz.of (Int.toNat_natCast i)
     |(refine Lz.of ?_;rw[Int.toNat_natCast,List.map_append,List.map_take,List.length_map,List.map_replicate];rfl)
theorem cloneR_ok (l:List Rd) (hl:l.length<1000000):VC EW 57 1 [.tk 0] [(0,.arr 4 true (l.map encRd))] (fun r o c=>(l=[]∧r= .sl 0 [] true∧c=1∧o=[(0,.arr 4 true (l.map encRd))])∨(r= .tk 1∧c=2∧o=[(0,.arr 4 true (l.map encRd)),(1,.arr 4 true (l.map encRd))])):=by
 refine VC.enterR LW (show EW.func 57=some Tryz.f57 by kernel_rfl) (fun _ _=>rfl) rfl rfl [] ?_
 conv=>whnf
 refine⟨fun h0=>?_,?_⟩
 ·have h0:l=[]:=List.map_eq_nil_iff.1 h0
  conv=>whnf
  exact⟨[],[some 0],_,_,_,t3,.inl ⟨h0,rfl,rfl,rfl⟩⟩
 ·conv=>whnf
  refine⟨by simp;omega,?_⟩
  conv=>whnf
  exact⟨[],[some 0,some 2],_,_,_,t3,.inr ⟨rfl,rfl,rfl⟩⟩
theorem without_ok (n:Int) (l:List Rd) (hl:l.length<1000000):VC EW 52 2 [.tk 0,.clo 53 [] [.ptr 1 0]] (stI n .i64 l)
 (fun r o c=>c=3∧∃ws:List Rd,o=[(0,.arr 4 true (l.map encRd)),(1,.cells [.s (.int .i64 n)]),(2,.arr 4 true (ws.map encRd))]∧((r= .tk 2∧ws=others n l)∨∃i:Nat,r= .pv 2 i∧ws.take i=others n l∧i≤ws.length)):=by
 refine VC.enterR LW (show EW.func 52=some Tryz.f52 by kernel_rfl) (fun _ _=>rfl) rfl rfl [] ?_
 conv=>whnf
 refine⟨[],[some 0],_,_,_,_,cloneR_ok l hl,t3,?_⟩
 rintro r o' c' (⟨h0,rfl,rfl,rfl⟩|⟨rfl,rfl,rfl⟩)
 ·subst h0
  conv=>whnf
  refine⟨[],[none,some 1],_,_,_,_,delF_ok n [] (by decide),t3,?_⟩
  rintro r o' c' ⟨rfl,⟨rfl,rfl,h1⟩|⟨i,ws,rfl,rfl,h1,h2⟩⟩
  ·conv=>whnf
   exact⟨[],[some 0,some 1,some 3],_,_,_,t3,rfl,[],rfl,.inl ⟨rfl,h1.symm⟩⟩
  ·conv=>whnf
   exact⟨[],[some 0,some 1,some 3],_,_,_,t3,rfl,ws,rfl,.inr ⟨i,rfl,h1,h2⟩⟩
 ·conv=>whnf
  refine⟨[],[some 3,some 1],_,_,_,_,delF_ok n l hl,t3,?_⟩
  rintro r o' c' ⟨rfl,⟨rfl,rfl,h1⟩|⟨i,ws,rfl,rfl,h1,h2⟩⟩
  ·conv=>whnf
   exact⟨[],[some 0,some 1,some 3],_,_,_,t3,rfl,l,rfl,.inl ⟨rfl,h1.symm⟩⟩
  ·conv=>whnf
   exact⟨[],[some 0,some 1,some 3],_,_,_,t3,rfl,ws,rfl,.inr ⟨i,rfl,h1,h2⟩⟩
end Go.M
namespace Go.M
open Go Go.Proofs
set_option maxRecDepth 100000
set_option maxHeartbeats 4000000
structure WsS where
 (last:Int) (l:List Rd)
@[reducible] def wsT (s:WsS):TO:=.cells [.s (.int .u64 s.last),.own (.arr 4 true (s.l.map encRd))]
@[reducible] def stWs (s:WsS):Ob:=[(0,wsT s)]
def hitB (c n k:Int) (r:Rd):Bool:=decide (r.client=c∧r.num=n∧r.key=k)
def askP (s:WsS) (c n k:Int):WsS×Rd×Int:=
 if(c<1∨6<c)∨n=0 then(s,zeroRd,1)
 else match s.l.find? (hitB c n k)with
 |some r=>(s,r,0)
 |none=>if 16≤(others c s.l).length then(s,zeroRd,9)else(⟨IntKind.u64.wrap (s.last+1),others c s.l++[⟨IntKind.u64.wrap (s.last+1),c,n,k⟩]⟩,⟨IntKind.u64.wrap (s.last+1),c,n,k⟩,0)
theorem askP_bad {s:WsS} {c n k:Int} (h:(c<1∨6<c)∨n=0):askP s c n k=(s,zeroRd,1):=if_pos h
theorem askP_hit {s:WsS} {c n k:Int} (h:¬((c<1∨6<c)∨n=0)) {r:Rd} (hf:s.l.find? (hitB c n k)=some r):askP s c n k=(s,r,0):=by
 unfold askP;rw[if_neg h,hf]
theorem askP_full {s:WsS} {c n k:Int} (h:¬((c<1∨6<c)∨n=0)) (hf:s.l.find? (hitB c n k)=none) (h2:16≤(others c s.l).length):askP s c n k=(s,zeroRd,9):=by
 unfold askP;rw[if_neg h,hf];exact if_pos h2
theorem askP_new {s:WsS} {c n k:Int} (h:¬((c<1∨6<c)∨n=0)) (hf:s.l.find? (hitB c n k)=none) (h2:¬16≤(others c s.l).length):askP s c n k=(⟨IntKind.u64.wrap (s.last+1),others c s.l++[⟨IntKind.u64.wrap (s.last+1),c,n,k⟩]⟩,⟨IntKind.u64.wrap (s.last+1),c,n,k⟩,0):=by
 unfold askP;rw[if_neg h,hf];exact if_neg h2
@[reducible] def encP (p:WsS×Rd×Int):TV:=.tup [.agg (encRd p.2.1),.s (.int .i64 p.2.2)]
theorem find_at {p:Rd→Bool} {l:List Rd} {i:Nat} (h:i<l.length) (h0:∀v∈l.take i,p v=false) (h1:p l[i]=true):l.find? p=some l[i]:=by
 induction l generalizing i with
 |nil=>simp at h
 |cons a l ih=>
  cases i with
  |zero=>exact List.find?_cons_of_pos h1
  |succ i=>
   rw[List.find?_cons_of_neg (by rw[h0 a (by simp)];decide),ih (by simpa using h) (fun v m=>h0 v (by simp[m])) (by simpa using h1)]
   rfl
theorem find_no {p:Rd→Bool} {l:List Rd} (h0:∀v∈l,p v=false):l.find? p=none:=by
 rw[List.find?_eq_none]
 intro v m
 rw[h0 v m];decide
@[reducible] def nilP:TV:=.s (.pointer none)
theorem askNil_ok (c n k:Int):VC EW 12 0 [nilP,.s (.int .i64 c),.s (.int .u64 n),.s (.int .u32 k)] [] (RR (.tup [.agg (encRd zeroRd),.s (.int .i64 2)]) 0 []):=by
 refine VC.enterR LW (show EW.func 12=some Tryz.f12 by kernel_rfl) (fun _ _=>rfl) rfl rfl [] ?_
 conv=>whnf
 exact⟨[],[],_,_,_,t3,rfl,rfl,rfl⟩
theorem wask_ok (s:WsS) (c n k:Int) (hl:s.l.length<1000):VC EW 12 1 [.ptr 0 0,.s (.int .i64 c),.s (.int .u64 n),.s (.int .u32 k)] (stWs s) (RR (encP (askP s c n k)) 1 (stWs (askP s c n k).1)):=by
 obtain⟨last,l⟩:=s
 dsimp only at hl
 generalize hP:askP ⟨last,l⟩ c n k=P
 refine VC.enterR LW (show EW.func 12=some Tryz.f12 by kernel_rfl) (fun _ _=>rfl) rfl rfl [] ?_
 conv=>whnf
 (first|refine⟨?_,?_⟩|refine nsplit ?_ ?_|refine bsplit ?_ ?_)<;>intro h1<;>have hz_:=True.intro<;>clear hz_
 ·have h1:c<1:=h1
  rw[askP_bad (.inl (.inl h1))]at hP
  subst hP
  conv=>whnf
  exact⟨[],[some 0],_,_,_,t3,rfl,rfl,rfl⟩
 ·have h1:¬c<1:=h1
  conv=>whnf
  (first|refine⟨?_,?_⟩|refine nsplit ?_ ?_|refine bsplit ?_ ?_)<;>intro h2<;>have hz_:=True.intro<;>clear hz_
  ·have h2:6<c:=h2
   rw[askP_bad (.inl (.inr h2))]at hP
   subst hP
   conv=>whnf
   exact⟨[],[some 0],_,_,_,t3,rfl,rfl,rfl⟩
  ·have h2:¬6<c:=h2
   conv=>whnf
   (first|refine⟨?_,?_⟩|refine nsplit ?_ ?_|refine bsplit ?_ ?_)<;>intro h3<;>have hz_:=True.intro<;>clear hz_
   ·have h3:n=0:=h3
    rw[askP_bad (.inr h3)]at hP
    subst hP
    conv=>whnf
    exact⟨[],[some 0],_,_,_,t3,rfl,rfl,rfl⟩
   ·have h3:¬n=0:=h3
    have hgood:¬((c<1∨6<c)∨n=0):=by omega
    conv=>whnf
    refine⟨[],[some 3,some 1],_,_,_,_,without_ok c l (by omega),t3,?_⟩
    rintro r o' c' ⟨rfl,ws,rfl,⟨rfl,hw⟩|⟨j,rfl,hw,hj⟩⟩
    ·have hll:(others c l).length≤l.length:=List.length_filter_le _ _
     have hwl:ws.length=(others c l).length:=by rw[hw]
     conv=>whnf
     refine⟨fun q f o cc=>∃i:Nat,i≤l.length∧q=l.length - i∧(∀v∈l.take i,hitB c n k v=false)∧cc=5∧f=[(0,.ptr 0 0),(2,.s (.int .u64 n)),(3,.s (.int .u32 k)),(5,.ptr 1 0),(8,.ptr 2 0),(10,.tk 4),(37,.tk 3),(38,.s (.int .i64 l.length)),(39,.s (.int .i64 i))]∧o=[(0,.cells [.s (.int .u64 last),.tk 3]),(1,.cells [.s (.int .i64 c)]),(2,.cells (encRd zeroRd)),(3,.arr 4 true (l.map encRd)),(4,.arr 4 true (ws.map encRd))],⟨l.length,?_⟩,?_⟩
     ·refine⟨[],[some 0,some 1,some 2,some 3,some 6],?_⟩
      iterate 3 constructor
      refine⟨⟨?_,?_,?_⟩,⟨0,Nat.zero_le _,rfl,by simp,rfl,rfl,rfl⟩⟩
      all_goals(repeat' first|exact LF|constructor)
      all_goals exact Lz.of (by simp[goInt])
     ·rintro q1 f1 o1 c1 ⟨i,hi,rfl,h0,rfl,rfl,rfl⟩
      conv=>whnf
      (first|refine⟨?_,?_⟩|refine nsplit ?_ ?_|refine bsplit ?_ ?_)<;>intro h<;>have hz_:=True.intro<;>clear hz_
      ·have h:i<l.length:=Int.ofNat_lt.1 h
       have h9:∀{r:Rd},hitB c n k l[i]=false→∀v∈l.take (i+1),hitB c n k v=false:=fun hb v m=>by
        rw[List.take_succ_eq_append_getElem h]at m
        rcases List.mem_append.1 m with m|m
        ·exact h0 v m
        ·rw[List.mem_singleton]at m;rw[m];exact hb
       conv=>whnf
       refine⟨⟨by omega,by simp;omega⟩,encRd l[i],by simp[h],?_⟩
       conv=>whnf
       (first|refine⟨?_,?_⟩|refine nsplit ?_ ?_|refine bsplit ?_ ?_)<;>intro ha<;>have hz_:=True.intro<;>clear hz_
       ·have ha:l[i].client=c:=ha
        conv=>whnf
        (first|refine⟨?_,?_⟩|refine nsplit ?_ ?_|refine bsplit ?_ ?_)<;>intro hb<;>have hz_:=True.intro<;>clear hz_
        ·have hb:l[i].num=n:=hb
         conv=>whnf
         (first|refine⟨?_,?_⟩|refine nsplit ?_ ?_|refine bsplit ?_ ?_)<;>intro hk<;>have hz_:=True.intro<;>clear hz_
         ·have hk:l[i].key=k:=hk
          rw[askP_hit hgood (find_at h h0 (decide_eq_true ⟨ha,hb,hk⟩))]at hP
          subst hP
          conv=>whnf
          exact⟨[],[some 0],_,_,_,t3,rfl,rfl,rfl⟩
         ·have hk:¬l[i].key=k:=hk
          conv=>whnf
          rw[wrap_small i (by omega)]
          refine⟨l.length - (i+1),?_,by omega⟩
          exact⟨[],[some 0,some 1,some 2,some 3,some 4],_,_,_,t3,⟨i+1,h,rfl,h9 (r:=zeroRd) (decide_eq_false fun q=>hk q.2.2),rfl,rfl,rfl⟩⟩
        ·have hb:¬l[i].num=n:=hb
         conv=>whnf
         rw[wrap_small i (by omega)]
         refine⟨l.length - (i+1),?_,by omega⟩
         exact⟨[],[some 0,some 1,some 2,some 3,some 4],_,_,_,t3,⟨i+1,h,rfl,h9 (r:=zeroRd) (decide_eq_false fun q=>hb q.2.1),rfl,rfl,rfl⟩⟩
       ·have ha:¬l[i].client=c:=ha
        conv=>whnf
        rw[wrap_small i (by omega)]
        refine⟨l.length - (i+1),?_,by omega⟩
        exact⟨[],[some 0,some 1,some 2,some 3,some 4],_,_,_,t3,⟨i+1,h,rfl,h9 (r:=zeroRd) (decide_eq_false fun q=>ha q.1),rfl,rfl,rfl⟩⟩
      ·obtain rfl:i=l.length:=by have h:¬(i:Int)<l.length:=h;omega
       rw[List.take_length]at h0
       have hno:=find_no h0
       conv=>whnf
       skip
       conv=>whnf
       (first|refine⟨?_,?_⟩|refine nsplit ?_ ?_|refine bsplit ?_ ?_)<;>intro h6<;>have hz_:=True.intro<;>clear hz_
       ·have h6:16≤(others c l).length:=by(have h7:=h6;simp at h7;omega)
        rw[askP_full hgood hno h6]at hP
        subst hP
        conv=>whnf
        exact⟨[],[some 0],_,_,_,t3,rfl,rfl,rfl⟩
       ·have h6:¬16≤(others c l).length:=by(have h7:=h6;simp at h7;omega)
        rw[askP_new hgood hno h6]at hP
        subst hP
        ((conv=>whnf)<;>repeat(with_reducible refine D1 ?_)<;>conv=>whnf)
        refine⟨by simp;omega,?hx1⟩
        conv=>whnf
        refine⟨[],[some 0],?_⟩
        iterate 3 constructor
        refine⟨⟨?_,?_,?_⟩,rfl,rfl,rfl⟩
        all_goals(repeat' first|exact LF|constructor)
        all_goals(refine Lz.of ?_;rw[←hw];simp)
    ·have hll:(others c l).length≤l.length:=List.length_filter_le _ _
     have hjl:j=(others c l).length:=by rw[←hw,List.length_take];omega
     conv=>whnf
     refine⟨fun q f o cc=>∃i:Nat,i≤l.length∧q=l.length - i∧(∀v∈l.take i,hitB c n k v=false)∧cc=5∧f=[(0,.ptr 0 0),(2,.s (.int .u64 n)),(3,.s (.int .u32 k)),(5,.ptr 1 0),(8,.ptr 2 0),(10,(.pv 4 j)),(37,.tk 3),(38,.s (.int .i64 l.length)),(39,.s (.int .i64 i))]∧o=[(0,.cells [.s (.int .u64 last),.tk 3]),(1,.cells [.s (.int .i64 c)]),(2,.cells (encRd zeroRd)),(3,.arr 4 true (l.map encRd)),(4,.arr 4 true (ws.map encRd))],⟨l.length,?_⟩,?_⟩
     ·refine⟨[],[some 0,some 1,some 2,some 3,some 6],?_⟩
      iterate 3 constructor
      refine⟨⟨?_,?_,?_⟩,⟨0,Nat.zero_le _,rfl,by simp,rfl,rfl,rfl⟩⟩
      all_goals(repeat' first|exact LF|constructor)
      all_goals exact Lz.of (by simp[goInt])
     ·rintro q1 f1 o1 c1 ⟨i,hi,rfl,h0,rfl,rfl,rfl⟩
      conv=>whnf
      (first|refine⟨?_,?_⟩|refine nsplit ?_ ?_|refine bsplit ?_ ?_)<;>intro h<;>have hz_:=True.intro<;>clear hz_
      ·have h:i<l.length:=Int.ofNat_lt.1 h
       have h9:∀{r:Rd},hitB c n k l[i]=false→∀v∈l.take (i+1),hitB c n k v=false:=fun hb v m=>by
        rw[List.take_succ_eq_append_getElem h]at m
        rcases List.mem_append.1 m with m|m
        ·exact h0 v m
        ·rw[List.mem_singleton]at m;rw[m];exact hb
       conv=>whnf
       refine⟨⟨by omega,by simp;omega⟩,encRd l[i],by simp[h],?_⟩
       conv=>whnf
       (first|refine⟨?_,?_⟩|refine nsplit ?_ ?_|refine bsplit ?_ ?_)<;>intro ha<;>have hz_:=True.intro<;>clear hz_
       ·have ha:l[i].client=c:=ha
        conv=>whnf
        (first|refine⟨?_,?_⟩|refine nsplit ?_ ?_|refine bsplit ?_ ?_)<;>intro hb<;>have hz_:=True.intro<;>clear hz_
        ·have hb:l[i].num=n:=hb
         conv=>whnf
         (first|refine⟨?_,?_⟩|refine nsplit ?_ ?_|refine bsplit ?_ ?_)<;>intro hk<;>have hz_:=True.intro<;>clear hz_
         ·have hk:l[i].key=k:=hk
          rw[askP_hit hgood (find_at h h0 (decide_eq_true ⟨ha,hb,hk⟩))]at hP
          subst hP
          conv=>whnf
          exact⟨[],[some 0],_,_,_,t3,rfl,rfl,rfl⟩
         ·have hk:¬l[i].key=k:=hk
          conv=>whnf
          rw[wrap_small i (by omega)]
          refine⟨l.length - (i+1),?_,by omega⟩
          exact⟨[],[some 0,some 1,some 2,some 3,some 4],_,_,_,t3,⟨i+1,h,rfl,h9 (r:=zeroRd) (decide_eq_false fun q=>hk q.2.2),rfl,rfl,rfl⟩⟩
        ·have hb:¬l[i].num=n:=hb
         conv=>whnf
         rw[wrap_small i (by omega)]
         refine⟨l.length - (i+1),?_,by omega⟩
         exact⟨[],[some 0,some 1,some 2,some 3,some 4],_,_,_,t3,⟨i+1,h,rfl,h9 (r:=zeroRd) (decide_eq_false fun q=>hb q.2.1),rfl,rfl,rfl⟩⟩
       ·have ha:¬l[i].client=c:=ha
        conv=>whnf
        rw[wrap_small i (by omega)]
        refine⟨l.length - (i+1),?_,by omega⟩
        exact⟨[],[some 0,some 1,some 2,some 3,some 4],_,_,_,t3,⟨i+1,h,rfl,h9 (r:=zeroRd) (decide_eq_false fun q=>ha q.1),rfl,rfl,rfl⟩⟩
      ·obtain rfl:i=l.length:=by have h:¬(i:Int)<l.length:=h;omega
       rw[List.take_length]at h0
       have hno:=find_no h0
       conv=>whnf
       refine⟨by simp;omega,?hx2⟩
       conv=>whnf
       (first|refine⟨?_,?_⟩|refine nsplit ?_ ?_|refine bsplit ?_ ?_)<;>intro h6<;>have hz_:=True.intro<;>clear hz_
       ·have h6:16≤(others c l).length:=by(have h7:=h6;simp at h7;omega)
        rw[askP_full hgood hno h6]at hP
        subst hP
        conv=>whnf
        exact⟨[],[some 0],_,_,_,t3,rfl,rfl,rfl⟩
       ·have h6:¬16≤(others c l).length:=by(have h7:=h6;simp at h7;omega)
        rw[askP_new hgood hno h6]at hP
        subst hP
        ((conv=>whnf)<;>repeat(with_reducible refine D1 ?_)<;>conv=>whnf)
        refine⟨⟨by simp;omega,by simp;omega,by simp⟩,?hx3⟩
        conv=>whnf
        refine⟨[],[some 0],?_⟩
        iterate 3 constructor
        refine⟨⟨?_,?_,?_⟩,rfl,rfl,rfl⟩
        all_goals(repeat' first|exact LF|constructor)
        all_goals(refine Lz.of ?_;rw[←hw];simp)
end Go.M
namespace Go.M
open Go Go.Proofs
set_option maxRecDepth 100000
set_option maxHeartbeats 4000000
theorem map_erase {α β:Type} (f:α→β):∀(l:List α) (i:Nat),(l.eraseIdx i).map f=(l.map f).eraseIdx i
 |[],_=>rfl
 |_::_,0=>rfl
 |a::l,i+1=>by show f a::(l.eraseIdx i).map f=f a::(l.map f).eraseIdx i;rw[map_erase f l i]
theorem delO_ok (l:List Rd) (i:Nat) (h:i<l.length):VC EW 56 1 [.tk 0,.s (.int .i64 i),.s (.int .i64 ((i+1:Nat):Int))] [(0,.arr 4 true (l.map encRd))] (RR (.tk 1) 2 [(1,.arr 4 true ((l.eraseIdx i).map encRd))]):=by
 have hd:=VC.deleteO (E:=EW) (g:=56) (z:=4) (es:=l.map encRd) (i:=i) (by show(Tryz.prog.funcs[56]?).isSome=true;kernel_rfl) (fun b a h r hr=>by
  show(match Nat.beq 56 56,delK 4 b a h with|true,some r=>some r|_,_=>_)=_
  rw[hr]) (by simpa using h)
 refine VC.mono hd ?_
 rintro r o c ⟨rfl,rfl,rfl⟩
 exact⟨rfl,rfl,by rw[map_erase]⟩
def toldP (s:WsS) (t:Int):WsS×Rd×Bool:=(⟨s.last,s.l.filter fun r=> !toldB t r⟩,((s.l.filter (toldB t)).getLast?).getD zeroRd,s.l.any (toldB t))
@[reducible] def RisesT (l:List Rd):Prop:=l.Pairwise fun a b=>a.token<b.token
theorem told_no {l:List Rd} {t:Int} (h:∀v∈l,toldB t v=false):(l.filter fun r=> !toldB t r)=l∧l.filter (toldB t)=[]∧l.any (toldB t)=false:=by
 refine⟨List.filter_eq_self.2 fun v m=>by rw[h v m];rfl,List.filter_eq_nil_iff.2 fun v m=>by rw[h v m];decide,?_⟩
 rw[List.any_eq_false]
 intro v m
 rw[h v m];decide
theorem told_one:∀{l:List Rd} {t:Int} {j:Nat} (_:RisesT l) (h:j<l.length) (_:toldB t l[j]=true),(l.filter fun r=> !toldB t r)=l.eraseIdx j∧l.filter (toldB t)=[l[j]]∧l.any (toldB t)=true
 |[],_,_,_,h,_=>absurd h (by simp)
 |a::l,t,0,hp,_,hb=>by
  have hb:toldB t a=true:=hb
  have ht:a.token=t:=of_decide_eq_true hb
  obtain⟨h1,_⟩:=List.pairwise_cons.1 hp
  obtain⟨n1,n2,_⟩:=told_no (l:=l) (t:=t) fun v m=>decide_eq_false (by have:=h1 v m;omega)
  refine⟨?_,?_,?_⟩
  ·rw[List.filter_cons_of_neg (by rw[hb];decide),n1];rfl
  ·rw[List.filter_cons_of_pos hb,n2];rfl
  ·rw[List.any_cons,hb];rfl
 |a::l,t,j+1,hp,h,hb=>by
  have h:j<l.length:=by simpa using h
  have hb:toldB t l[j]=true:=hb
  have ht:l[j].token=t:=of_decide_eq_true hb
  obtain⟨h1,h2⟩:=List.pairwise_cons.1 hp
  have ha:toldB t a=false:=decide_eq_false (by have:=h1 l[j] (List.getElem_mem h);omega)
  obtain⟨n1,n2,n3⟩:=told_one h2 h hb
  refine⟨?_,?_,?_⟩
  ·rw[List.filter_cons_of_pos (by rw[ha];rfl),n1];rfl
  ·rw[List.filter_cons_of_neg (by rw[ha];decide),n2];rfl
  ·rw[List.any_cons,ha,n3];rfl
@[reducible] def encT2 (p:WsS×Rd×Bool):TV:=.tup [.agg (encRd p.2.1),.s (.bool p.2.2)]
theorem toldNil_ok (t:Int):VC EW 14 0 [nilP,.s (.int .u64 t)] [] (RR (.tup [.agg (encRd zeroRd),.s (.bool false)]) 0 []):=by
 refine VC.enterR LW (show EW.func 14=some Tryz.f14 by kernel_rfl) (fun _ _=>rfl) rfl rfl [] ?_
 conv=>whnf
 exact⟨[],[],_,_,_,t3,rfl,rfl,rfl⟩
theorem wtold_ok (s:WsS) (t:Int) (hl:s.l.length<1000) (hp:RisesT s.l):VC EW 14 1 [.ptr 0 0,.s (.int .u64 t)] (stWs s) (RR (encT2 (toldP s t)) 1 (stWs (toldP s t).1)):=by
 obtain⟨last,l⟩:=s
 dsimp only at hl hp
 have hP:toldP ⟨last,l⟩ t=(⟨last,l.filter fun r=> !toldB t r⟩,((l.filter (toldB t)).getLast?).getD zeroRd,l.any (toldB t)):=rfl
 generalize toldP ⟨last,l⟩ t=P at hP
 refine VC.enterR LW (show EW.func 14=some Tryz.f14 by kernel_rfl) (fun _ _=>rfl) rfl rfl [] ?_
 conv=>whnf
 refine⟨[],[some 3,some 1],_,_,_,_,idxT_ok t l (by omega),t3,?_⟩
 rintro r o' c' ⟨i0,rfl,rfl,rfl,hi0⟩
 conv=>whnf
 (first|refine⟨?_,?_⟩|refine nsplit ?_ ?_|refine bsplit ?_ ?_)<;>intro hm<;>have hz_:=True.intro<;>clear hz_
 ·have hm:i0<0:=hm
  rcases hi0 with⟨_,hall⟩|⟨j,h,e,_,_⟩
  ·obtain⟨n1,n2,n3⟩:=told_no hall
   rw[n1,n2,n3]at hP
   subst hP
   conv=>whnf
   exact⟨[],[some 0],_,_,_,t3,rfl,rfl,rfl⟩
  ·omega
 ·have hm:¬i0<0:=hm
  rcases hi0 with⟨e,_⟩|⟨j,h,rfl,hb,hv⟩
  ·omega
  obtain⟨n1,n2,n3⟩:=told_one hp h hv
  rw[n1,n2,n3]at hP
  subst hP
  conv=>whnf
  refine⟨⟨by omega,by simp;omega⟩,encRd l[j],by simp[h],?_⟩
  conv=>whnf
  rw[wrap_small j (by omega)]
  refine⟨[],[some 3],_,_,_,_,delO_ok l j h,t3,cR ?_⟩
  conv=>whnf
  exact⟨[],[some 0],_,_,_,t3,rfl,rfl,rfl⟩
end Go.M
namespace Go.M
open Go Go.Proofs
set_option maxRecDepth 100000
set_option maxHeartbeats 4000000
@[reducible] def encWs (s:WsS):List TV:=[.s (.int .u64 s.last),.sl 4 (s.l.map encRd) false]
@[reducible] def zWs:TO:=.cells [.s (.int .u64 0),.sl 0 [] true]
@[reducible] def encPR (p:WsS×Rd×Int):TV:=.tup [.agg (encWs p.1),.agg (encRd p.2.1),.s (.int .i64 p.2.2)]
@[reducible] def encTR (p:WsS×Rd×Bool):TV:=.tup [.agg (encWs p.1),.agg (encRd p.2.1),.s (.bool p.2.2)]
theorem rask_ok (s:WsS) (c n k:Int) (hl:s.l.length<1000):VC EW 13 0 [.agg (encWs s),.s (.int .i64 c),.s (.int .u64 n),.s (.int .u32 k)] [] (RR (encPR (askP s c n k)) 0 []):=by
 obtain⟨last,l⟩:=s
 dsimp only at hl
 generalize hP:askP ⟨last,l⟩ c n k=P
 refine VC.enterR LW (show EW.func 13=some Tryz.f13 by kernel_rfl) (fun _ _=>rfl) rfl rfl [] ?_
 conv=>whnf
 (first|refine⟨?_,?_⟩|refine nsplit ?_ ?_|refine bsplit ?_ ?_)<;>intro h1<;>have hz_:=True.intro<;>clear hz_
 ·have h1:c<1:=h1
  rw[askP_bad (.inl (.inl h1))]at hP
  subst hP
  conv=>whnf
  exact⟨[],[],_,_,_,t3,rfl,rfl,rfl⟩
 ·have h1:¬c<1:=h1
  conv=>whnf
  (first|refine⟨?_,?_⟩|refine nsplit ?_ ?_|refine bsplit ?_ ?_)<;>intro h2<;>have hz_:=True.intro<;>clear hz_
  ·have h2:6<c:=h2
   rw[askP_bad (.inl (.inr h2))]at hP
   subst hP
   conv=>whnf
   exact⟨[],[],_,_,_,t3,rfl,rfl,rfl⟩
  ·have h2:¬6<c:=h2
   conv=>whnf
   (first|refine⟨?_,?_⟩|refine nsplit ?_ ?_|refine bsplit ?_ ?_)<;>intro h3<;>have hz_:=True.intro<;>clear hz_
   ·have h3:n=0:=h3
    rw[askP_bad (.inr h3)]at hP
    subst hP
    conv=>whnf
    exact⟨[],[],_,_,_,t3,rfl,rfl,rfl⟩
   ·have h3:¬n=0:=h3
    have hgood:¬((c<1∨6<c)∨n=0):=by omega
    conv=>whnf
    refine⟨fun q f o cc=>∃i:Nat,i≤l.length∧q=l.length - i∧(∀v∈l.take i,hitB c n k v=false)∧cc=4∧f=[(1,.s (.int .i64 c)),(2,.s (.int .u64 n)),(3,.s (.int .u32 k)),(4,.ptr 0 0),(8,.ptr 1 0),(9,.ptr 2 0),(11,.tk 3),(12,.s (.int .i64 i))]∧o=[(0,.cells (encWs ⟨last,l⟩)),(1,zWs),(2,.cells (encRd zeroRd)),(3,.arr 4 true ((others c (l.take i)).map encRd))],⟨l.length,?_⟩,?_⟩
    ·exact⟨[],[some 0,some 1,some 2,none],_,_,_,t3,⟨0,Nat.zero_le _,rfl,by simp,rfl,rfl,rfl⟩⟩
    ·rintro q1 f1 o1 c1 ⟨i,hi,rfl,h0,rfl,rfl,rfl⟩
     have hol:(others c (l.take i)).length≤i:=Nat.le_trans (List.length_filter_le _ _) (by rw[List.length_take];omega)
     conv=>whnf
     (first|refine⟨?_,?_⟩|refine nsplit ?_ ?_|refine bsplit ?_ ?_)<;>intro h<;>have hz_:=True.intro<;>clear hz_
     ·have h:i<l.length:=lenlt.1 h
      have h9:hitB c n k l[i]=false→∀v∈l.take (i+1),hitB c n k v=false:=fun hb v m=>by
       rw[List.take_succ_eq_append_getElem h]at m
       rcases List.mem_append.1 m with m|m
       ·exact h0 v m
       ·rw[List.mem_singleton]at m;rw[m];exact hb
      conv=>whnf
      refine idxI h ?_
      conv=>whnf
      (first|refine⟨?_,?_⟩|refine nsplit ?_ ?_|refine bsplit ?_ ?_)<;>intro ha<;>have hz_:=True.intro<;>clear hz_
      ·have ha:¬l[i].client=c:=ha
       conv=>whnf
       refine⟨by simp;omega,?_⟩
       conv=>whnf
       rw[wrap_small i (by omega)]
       refine⟨l.length - (i+1),?_,by omega⟩
       refine⟨[],[some 0,some 1,some 2,some 6],?_⟩
       iterate 3 constructor
       refine⟨⟨?_,?_,?_⟩,⟨i+1,h,rfl,h9 (decide_eq_false fun q=>ha q.1),rfl,rfl,rfl⟩⟩
       all_goals(repeat' first|exact LF|constructor)
       all_goals exact Lz.of (by rw[others_good h (decide_eq_false ha),List.map_append];rfl)
      ·have ha:l[i].client=c:=Classical.not_not.1 ha
       conv=>whnf
       (first|refine⟨?_,?_⟩|refine nsplit ?_ ?_|refine bsplit ?_ ?_)<;>intro hb<;>have hz_:=True.intro<;>clear hz_
       ·have hb:l[i].num=n:=hb
        conv=>whnf
        (first|refine⟨?_,?_⟩|refine nsplit ?_ ?_|refine bsplit ?_ ?_)<;>intro hk<;>have hz_:=True.intro<;>clear hz_
        ·have hk:l[i].key=k:=hk
         rw[askP_hit hgood (find_at h h0 (decide_eq_true ⟨ha,hb,hk⟩))]at hP
         subst hP
         ((conv=>whnf)<;>repeat(with_reducible refine D1 ?_)<;>conv=>whnf)
         exact⟨[],[],_,_,_,t3,rfl,rfl,rfl⟩
        ·have hk:¬l[i].key=k:=hk
         conv=>whnf
         rw[wrap_small i (by omega)]
         refine⟨l.length - (i+1),?_,by omega⟩
         refine⟨[],[some 0,some 1,some 2,some 3],?_⟩
         iterate 3 constructor
         refine⟨⟨?_,?_,?_⟩,⟨i+1,h,rfl,h9 (decide_eq_false fun q=>hk q.2.2),rfl,rfl,rfl⟩⟩
         all_goals(repeat' first|exact LF|constructor)
         all_goals exact Lz.of (by rw[others_bad h (decide_eq_true ha)])
       ·have hb:¬l[i].num=n:=hb
        conv=>whnf
        rw[wrap_small i (by omega)]
        refine⟨l.length - (i+1),?_,by omega⟩
        refine⟨[],[some 0,some 1,some 2,some 3],?_⟩
        iterate 3 constructor
        refine⟨⟨?_,?_,?_⟩,⟨i+1,h,rfl,h9 (decide_eq_false fun q=>hb q.2.1),rfl,rfl,rfl⟩⟩
        all_goals(repeat' first|exact LF|constructor)
        all_goals exact Lz.of (by rw[others_bad h (decide_eq_true ha)])
     ·obtain rfl:i=l.length:=by have h:¬(i:Int)<(((l.map encRd).length:Nat):Int):=h;rw[List.length_map]at h;omega
      rw[List.take_length]at h0 hol
      have hno:=find_no h0
      rw[List.take_length]
      conv=>whnf
      (first|refine⟨?_,?_⟩|refine nsplit ?_ ?_|refine bsplit ?_ ?_)<;>intro h6<;>have hz_:=True.intro<;>clear hz_
      ·have h6:16≤(others c l).length:=by have h7:=h6;simp at h7;omega
       rw[askP_full hgood hno h6]at hP
       subst hP
       conv=>whnf
       exact⟨[],[],_,_,_,t3,rfl,rfl,rfl⟩
      ·have h6:¬16≤(others c l).length:=by have h7:=h6;simp at h7;omega
       rw[askP_new hgood hno h6]at hP
       subst hP
       conv=>whnf
       refine⟨by simp;omega,?_⟩
       ((conv=>whnf)<;>repeat(with_reducible refine D1 ?_)<;>conv=>whnf)
       refine⟨[6],[],?_⟩
       iterate 3 constructor
       refine⟨⟨?_,?_,?_⟩,rfl,rfl,rfl⟩
       all_goals(repeat' first|exact LF|constructor)
       all_goals(refine Lz.of ?_;simp)
theorem rtold_ok (s:WsS) (t:Int) (hl:s.l.length<1000):VC EW 15 0 [.agg (encWs s),.s (.int .u64 t)] [] (RR (encTR (toldP s t)) 0 []):=by
 obtain⟨last,l⟩:=s
 dsimp only at hl
 have hP:toldP ⟨last,l⟩ t=(⟨last,l.filter fun r=> !toldB t r⟩,((l.filter (toldB t)).getLast?).getD zeroRd,l.any (toldB t)):=rfl
 generalize toldP ⟨last,l⟩ t=P at hP
 refine VC.enterR LW (show EW.func 15=some Tryz.f15 by kernel_rfl) (fun _ _=>rfl) rfl rfl [] ?_
 conv=>whnf
 refine⟨fun q f o cc=>∃i:Nat,i≤l.length∧q=l.length - i∧cc=5∧f=[(1,.s (.int .u64 t)),(2,.ptr 0 0),(4,.ptr 1 0),(5,.ptr 2 0),(7,.tk 4),(8,.ptr 3 0),(9,.s (.bool ((l.take i).any (toldB t)))),(10,.s (.int .i64 i))]∧o=[(0,.cells (encWs ⟨last,l⟩)),(1,zWs),(2,.cells (encRd zeroRd)),(3,.cells (encRd ((((l.take i).filter (toldB t)).getLast?).getD zeroRd))),(4,.arr 4 true (((l.take i).filter fun r=> !toldB t r).map encRd))],⟨l.length,?_⟩,?_⟩
 ·exact⟨[],[some 0,some 1,some 2,some 3,none],_,_,_,t3,⟨0,Nat.zero_le _,rfl,rfl,rfl,rfl⟩⟩
 ·rintro q1 f1 o1 c1 ⟨i,hi,rfl,rfl,rfl,rfl⟩
  have hol:((l.take i).filter fun r=> !toldB t r).length≤i:=Nat.le_trans (List.length_filter_le _ _) (by rw[List.length_take];omega)
  conv=>whnf
  (first|refine⟨?_,?_⟩|refine nsplit ?_ ?_|refine bsplit ?_ ?_)<;>intro h<;>have hz_:=True.intro<;>clear hz_
  ·have h:i<l.length:=lenlt.1 h
   have e1:l.take (i+1)=l.take i++[l[i]]:=List.take_succ_eq_append_getElem h
   conv=>whnf
   refine idxI h ?_
   conv=>whnf
   (first|refine⟨?_,?_⟩|refine nsplit ?_ ?_|refine bsplit ?_ ?_)<;>intro ha<;>have hz_:=True.intro<;>clear hz_
   ·have ha:toldB t l[i]=true:=decide_eq_true ha
    conv=>whnf
    refine idxI h ?_
    conv=>whnf
    rw[wrap_small i (by omega)]
    refine⟨l.length - (i+1),?_,by omega⟩
    refine⟨[],[some 0,some 1,some 2,some 3,some 4],?_⟩
    iterate 3 constructor
    refine⟨⟨?_,?_,?_⟩,⟨i+1,h,rfl,rfl,rfl,rfl⟩⟩
    all_goals(repeat' first|exact LF|constructor)
    all_goals first
     |exact Lz.of (by rw[e1,List.any_append,List.any_cons,ha];simp)
     |exact Lz.of (by rw[e1,List.filter_append,List.filter_cons_of_neg (by rw[ha];decide)];simp)
     |exact Lz.of (by rw[e1,List.filter_append,List.filter_cons_of_pos ha,List.filter_nil,List.getLast?_append];rfl)
   ·have ha:toldB t l[i]=false:=decide_eq_false ha
    conv=>whnf
    refine idxI h ?_
    conv=>whnf
    refine⟨by simp;omega,?_⟩
    conv=>whnf
    rw[wrap_small i (by omega)]
    refine⟨l.length - (i+1),?_,by omega⟩
    refine⟨[],[some 0,some 1,some 2,some 3,some 6],?_⟩
    iterate 3 constructor
    refine⟨⟨?_,?_,?_⟩,⟨i+1,h,rfl,rfl,rfl,rfl⟩⟩
    all_goals(repeat' first|exact LF|constructor)
    all_goals first
     |exact Lz.of (by rw[e1,List.any_append,List.any_cons,ha];simp)
     |exact Lz.of (by rw[e1,List.filter_append,List.filter_cons_of_pos (by rw[ha];rfl),List.map_append];rfl)
     |exact Lz.of (by rw[e1,List.filter_append,List.filter_cons_of_neg (by rw[ha];decide)];simp)
  ·obtain rfl:i=l.length:=by have h:¬(i:Int)<(((l.map encRd).length:Nat):Int):=h;rw[List.length_map]at h;omega
   rw[List.take_length]
   rw[List.take_length]at hol
   subst hP
   ((conv=>whnf)<;>repeat(with_reducible refine D1 ?_)<;>conv=>whnf)
   exact⟨[4],[],_,_,_,t3,rfl,rfl,rfl⟩
end Go.M
namespace Go.M
open Go Go.RowKit Go.Proofs
theorem info33:(Tryz.prog.info? 33).map (fun i=>(i.zero,i.size,i.bytes))=some (some (.agg #[.int .u64 0,.int .i64 0,.int .u64 0,.int .u32 0]),4,32):=by kernel_rfl
@[reducible] def zRead:List Value:=[.int .u64 0,.int .i64 0,.int .u64 0,.int .u32 0]
set_option maxRecDepth 1000000 in
set_option maxRecDepth 1000000 in
theorem clear_read (w:World) (ty:TypeId) (b o n c:Nat) (hn:n=1) (hc:∀j,j<4→(w.cell? ⟨b,o+j,none⟩).isSome=true) (hf:∀j,j<4→w.frozen? ⟨b,o+j,none⟩=false):
 (Builtin.clear_ #[46] ty #[.slice (some ⟨b,o,none⟩) n c]).run Tryz.prog w= .ok (.tuple #[]) (w.setCells b o zRead):=by
 subst hn
 show(Builtin.clear_ #[46] ty #[.slice (some ⟨b,o,none⟩) (0+1) c]).run Tryz.prog w=_
 have hE:=envOk Tryz.prog noOrc
 have hu:(envOf Tryz.prog noOrc).desc 46=some (.slice 33):=by kernel_rfl
 have hz:(envOf Tryz.prog noOrc).zero 33=some (.agg #[.int .u64 0,.int .i64 0,.int .u64 0,.int .u32 0]):=by kernel_rfl
 have hst:=run_storeCells_cells (P:=Tryz.prog) b o zRead 0 w (by simpa using hc) (by simpa using hf) (by intro v hv;simp at hv;rcases hv with rfl |rfl |rfl |rfl<;>rfl)
 simp only[Nat.add_zero]at hst
 have hzc:(Builtin.zeroCells (Value.agg #[.int .u64 0,.int .i64 0,.int .u64 0,.int .u32 0]).cells (0+1)).toList=zRead:=by kernel_rfl
 have ht:(#[46]:Array TypeId)[0]? =some 46:=rfl
 have ha:(#[Value.slice (some ⟨b,o,none⟩) (0+1) c]:Array Value)[0]? =some (Value.slice (some ⟨b,o,none⟩) (0+1) c):=rfl
 unfold Builtin.clear_
 simp only[ht,ha,Sem.run_bind,g_under hE hu w,Result.andThen_ok,g_zero hE hz w,hzc,hst,Sem.run_pure]
set_option maxHeartbeats 4000000 in
set_option maxRecDepth 1000000 in
set_option maxRecDepth 1000000 in
theorem del_run (b off len cap i j:Nat) (cs:List Value) (w:World) (hl:cs.length=len*4) (hlc:len≤cap) (hi:i<len) (hj:j=i+1)
 (hc:∀t v,cs[t]? =some v→w.cell? ⟨b,off+t,none⟩=some v) (hf:∀t,t<cs.length→w.frozen? ⟨b,off+t,none⟩=false) (h1:∀v∈cs,v.oneCell'=true):
 Calls Tryz.prog 56 #[.slice (some ⟨b,off,none⟩) len cap,.int .i64 i,.int .i64 j] w fun e w'=>e= .returned (.slice (some ⟨b,off,none⟩) (len - 1) cap)∧
  w'=(w.drew.setCells b (off+i*4) (cs.drop (j*4))).setCells b (off+(len - 1)*4) zRead:=by
 obtain⟨i0,hi0,hz0,hz1,hz2⟩:=info_parts info33
 obtain⟨news,hnews⟩:∃news,news=cs.drop (j*4):=⟨_,rfl⟩
 have hlen:news.length=(len - j)*4:=by rw[hnews];simp;omega
 have hget:∀t u,news[t]? =some u→w.cell? ⟨b,off+j*4+t,none⟩=some u:=by
  intro t u hu
  rw[hnews,List.getElem?_drop]at hu
  rw[show off+j*4+t=off+(j*4+t) by omega]
  exact hc _ _ hu
 have hsome:∀t,t<cs.length→(w.cell? ⟨b,off+t,none⟩).isSome=true:=fun t ht=>by rw[hc t cs[t] (by simp[ht])];rfl
 obtain⟨A,hA,hsrc⟩:∃A:Addr,(if cap=j then some (⟨b,off,none⟩:Addr)else some ⟨b,off+j*4,none⟩)=some A∧Hid (∀t u,news[t]? =some u→w.drew.cell? (A.add t)=some u):=by
  by_cases h:cap=j
  ·refine⟨⟨b,off,none⟩,by simp[h],fun t u hu=>?_⟩
   have h0:news.length=0:=by rw[hlen];omega
   rw[List.length_eq_zero_iff.1 h0]at hu
   simp at hu
  ·refine⟨⟨b,off+j*4,none⟩,by simp[h],fun t u hu=>?_⟩
   rw[Addr.add_lit]
   exact hget t u hu
 have s1:Hid (news.length=(len - j)*4):=hlen
 have s2:Hid (∀u∈news,u.oneCell'=true):=by
  intro u hu
  rw[hnews]at hu
  exact h1 u (List.mem_of_mem_drop hu)
 have s3:Hid (∀t,t<news.length→(w.drew.cell? ⟨b,off+i*4+t,none⟩).isSome=true∧w.drew.frozen? ⟨b,off+i*4+t,none⟩=false):=by
  intro t ht
  rw[hlen]at ht
  rw[show off+i*4+t=off+(i*4+t) by omega]
  exact⟨hsome _ (by omega),hf _ (by omega)⟩
 obtain⟨W1,hW1⟩:∃W1,W1=w.drew.setCells b (off+i*4) news:=⟨_,rfl⟩
 have hW:Hid (W1=w.drew.setCells b (off+i*4) news):=hW1
 have hcl:∀ty,(Builtin.clear_ #[46] ty #[.slice (some ⟨b,off+(i+(len - j))*4,none⟩) (len - (i+(len - j))) (cap - (i+(len - j)))]).run Tryz.prog W1= .ok (.tuple #[]) (W1.setCells b (off+(i+(len - j))*4) zRead):=fun ty=>by
  refine clear_read W1 ty b _ _ _ (by omega) (fun t ht=>?_) (fun t ht=>?_)
  ·rw[hW1,World.cell?_setCells_out _ _ _ _ _ (fun _ _=>.inr (by simp only;rw[hlen];omega))]
   rw[show off+(i+(len - j))*4+t=off+((i+(len - j))*4+t) by omega]
   exact hsome _ (by omega)
  ·rw[hW1,World.frozen?_setCells,show off+(i+(len - j))*4+t=off+((i+(len - j))*4+t) by omega]
   exact hf _ (by omega)
 have hN:Hid (news=cs.drop (j*4)):=hnews
 have hic:i≤cap:=by omega
 have hjc:j≤cap:=by omega
 have hjl:j≤len:=by omega
 have hij:i≤j:=by omega
 have hne:¬(i:Int)=(j:Int):=by omega
 have hsum:Hid (i+(len - j)=len - 1):=(by omega:i+(len - j)=len - 1)
 have hroom:Hid (i+(len - j)≤cap):=(by omega:i+(len - j)≤cap)
 clear hc hf hget hsome hW1 hnews h1 hlen hj hi hl
 go_enter Tryz.func56,Tryz.ntmps56
 go_wp2_with fail
 go_region_law (refine step_append_room rfl (.tmp 22) (.tmp 25) 46 rfl 33 i0 4 Tryz.underlying46 hi0 hz1 b off i cap (by simp[Act.eval,Act.put]) A (len - j) (cap - j) news (by simp[Act.eval,Act.put]) s1.out hsrc.out s2.out hroom.out s3.out ?_;rw[←hW.out])
 go_wp2
 go_ret
 refine⟨?_,by rw[hsum.out,hW.out,hN.out]⟩
 show Ending.returned (Value.slice (some ⟨b,off,none⟩) (i+(len - j)) cap)=_
 rw[hsum.out]
end Go.M
namespace Go.M
open Go Go.Proofs
set_option maxRecDepth 1000000
theorem mixedW:Tryz.prog.follows .mixedOrders=true:=by kernel_rfl
theorem tabsBW:tabsB tabs0 1=true:=by kernel_rfl
theorem awakeW22:AwakeT Tryz.prog tabs0 21:=awakeT_of (n:=1) mixedW tabsBW (fs:=[66]) (bs:=[]) (ps:=[]) (m:=100000) (k:=100000) (by kernel_rfl)
theorem orcW0 (base B:Nat):OrcOk Tryz.prog EW base B:=by
 refine orcD_ok (zero:=zRead) (by decide) rfl rfl del_run (fun base B=>orcX_ok tabsBW (fun g hg=>?_) (fun base B=>noOrc_ok) base B) base B
 simp only[List.mem_cons,List.not_mem_nil,or_false]at hg
 subst hg
 exact awakeW22
theorem awakeW_ok:VC EW 21 0 [] [] (RR (.s (.bool true)) 0 []):=VC.mono (VC.awakeD (n:=1) tabsBW (by show(Tryz.prog.funcs[21]?).isSome=true;kernel_rfl) rfl rfl) fun _ _ _ h=>⟨h.1,h.2.2,h.2.1⟩
end Go.M
namespace Go.M
open Go Go.Proofs
set_option maxRecDepth 100000
set_option maxHeartbeats 4000000
theorem wnew_ok:VC EW 11 0 [] [] (RR (.ptr 0 0) 1 (stWs ⟨0,[]⟩)):=by
 refine VC.enterR LW (show EW.func 11=some Tryz.f11 by kernel_rfl) (fun _ _=>rfl) rfl rfl [] ?_
 conv=>whnf
 exact⟨[],[some 0],_,_,_,t3,rfl,rfl,rfl⟩
theorem cwlen_ok (s:WsS):VC EW 17 1 [.ptr 0 0] (stWs s) (RR (.s (.int .i64 s.l.length)) 1 (stWs s)):=by
 refine VC.enterR LW (show EW.func 17=some Tryz.f17 by kernel_rfl) (fun _ _=>rfl) rfl rfl [] ?_
 conv=>whnf
 refine⟨[],[some 0],?_⟩
 iterate 3 constructor
 refine⟨⟨?_,?_,?_⟩,rfl,rfl,rfl⟩
 all_goals(repeat' first|exact LF|constructor)
 all_goals exact Lz.of (by simp[goInt])
theorem lenNil_ok:VC EW 17 0 [nilP] [] (RR (.s (.int .i64 0)) 0 []):=by
 refine VC.enterR LW (show EW.func 17=some Tryz.f17 by kernel_rfl) (fun _ _=>rfl) rfl rfl [] ?_
 conv=>whnf
 exact⟨[],[],_,_,_,t3,rfl,rfl,rfl⟩
theorem cwclear_ok (s:WsS):VC EW 16 1 [.ptr 0 0] (stWs s) (RR (.s (.int .i64 s.l.length)) 1 (stWs ⟨s.last,[]⟩)):=by
 refine VC.enterR LW (show EW.func 16=some Tryz.f16 by kernel_rfl) (fun _ _=>rfl) rfl rfl [] ?_
 conv=>whnf
 refine⟨[],[some 0],_,_,_,_,cwlen_ok s,t3,cR ?_⟩
 conv=>whnf
 (first|refine⟨?_,?_⟩|refine nsplit ?_ ?_|refine bsplit ?_ ?_)<;>intro h<;>have hz_:=True.intro<;>clear hz_
 ·conv=>whnf
  exact⟨[],[some 0],_,_,_,t3,rfl,rfl,rfl⟩
 ·have h0:s.l=[]:=by
   have h:¬(s.l.length:Int)>0:=h
   exact List.length_eq_zero_iff.1 (by omega)
  conv=>whnf
  refine⟨[],[some 0],?_⟩
  iterate 3 constructor
  refine⟨⟨?_,?_,?_⟩,rfl,rfl,rfl⟩
  all_goals(repeat' first|exact LF|constructor)
  all_goals exact Lz.of (by rw[h0])
theorem clearNil_ok:VC EW 16 0 [nilP] [] (RR (.s (.int .i64 0)) 0 []):=by
 refine VC.enterR LW (show EW.func 16=some Tryz.f16 by kernel_rfl) (fun _ _=>rfl) rfl rfl [] ?_
 conv=>whnf
 refine⟨[],[],_,_,_,_,lenNil_ok,t3,cR ?_⟩
 conv=>whnf
 (first|refine⟨?_,?_⟩|refine nsplit ?_ ?_|refine bsplit ?_ ?_)<;>intro h<;>have hz_:=True.intro<;>clear hz_
 ·exact absurd h (by decide)
 conv=>whnf
 exact⟨[],[],_,_,_,t3,rfl,rfl,rfl⟩
theorem list_ok (s:WsS) (hl:s.l.length<1000):VC EW 19 1 [.ptr 0 0] (stWs s) (RR (.sl 4 (s.l.map encRd) false) 1 (stWs s)):=by
 refine VC.enterR LW (show EW.func 19=some Tryz.f19 by kernel_rfl) (fun _ _=>rfl) rfl rfl [] ?_
 conv=>whnf
 refine⟨[],[some 1],_,_,_,_,cloneR_ok s.l (by omega),t3,?_⟩
 rintro r o' c' (⟨h0,rfl,rfl,rfl⟩|⟨rfl,rfl,rfl⟩)
 ·conv=>whnf
  refine⟨[],[some 0],?_⟩
  iterate 3 constructor
  refine⟨⟨?_,?_,?_⟩,rfl,rfl,rfl⟩
  all_goals(repeat' first|exact LF|constructor)
  all_goals exact Lz.of (by rw[h0];rfl)
 ·conv=>whnf
  exact⟨[3],[some 0],_,_,_,t3,rfl,rfl,rfl⟩
theorem listNil_ok:VC EW 19 0 [nilP] [] (RR (.sl 0 [] true) 0 []):=by
 refine VC.enterR LW (show EW.func 19=some Tryz.f19 by kernel_rfl) (fun _ _=>rfl) rfl rfl [] ?_
 conv=>whnf
 exact⟨[],[],_,_,_,t3,rfl,rfl,rfl⟩
theorem wsame_ok (l:List Rd) (hl:l.length<1000):VC EW 18 0 [.sl 4 (l.map encRd) false,.sl 4 (l.map encRd) false] [] (RR (.s (.bool true)) 0 []):=by
 refine VC.enterR LW (show EW.func 18=some Tryz.f18 by kernel_rfl) (fun _ _=>rfl) rfl rfl [] ?_
 conv=>whnf
 (first|refine⟨?_,?_⟩|refine nsplit ?_ ?_|refine bsplit ?_ ?_)<;>intro h0<;>have hz_:=True.intro<;>clear hz_
 ·exact absurd rfl h0
 ·conv=>whnf
  refine⟨fun k f o c=>∃i:Nat,i≤l.length∧k=l.length - i∧c=0∧f=[(0,.sl 4 (l.map encRd) false),(1,.sl 4 (l.map encRd) false),(5,.s (.int .i64 i))]∧o=[],⟨l.length,?_⟩,?_⟩
  ·exact⟨[],[],_,_,_,t3,⟨0,Nat.zero_le _,rfl,rfl,rfl,rfl⟩⟩
  ·rintro k f1 o1 c1 ⟨i,hi,rfl,rfl,rfl,rfl⟩
   conv=>whnf
   (first|refine⟨?_,?_⟩|refine nsplit ?_ ?_|refine bsplit ?_ ?_)<;>intro h<;>have hz_:=True.intro<;>clear hz_
   ·have h:i<l.length:=lenlt.1 h
    ((conv=>whnf)<;>repeat(with_reducible refine D1 ?_)<;>conv=>whnf)
    refine idxI h ?_
    conv=>whnf
    refine idxI h ?_
    conv=>whnf
    (first|refine⟨?_,?_⟩|refine nsplit ?_ ?_|refine bsplit ?_ ?_)<;>intro hv<;>have hz_:=True.intro<;>clear hz_
    ·exact absurd hv (by simp[veq1])
    ·((conv=>whnf)<;>repeat(with_reducible refine D1 ?_)<;>conv=>whnf)
     rw[wrap_small i (by omega)]
     refine⟨l.length - (i+1),?_,by omega⟩
     exact⟨[],[],_,_,_,t3,⟨i+1,h,rfl,rfl,rfl,rfl⟩⟩
   ·conv=>whnf
    exact⟨[],[],_,_,_,t3,rfl,rfl,rfl⟩
@[reducible] def OnceL (l:List Rd):Prop:=l.Pairwise fun a b=>a.client≠b.client∧a.token<b.token
theorem once_ok (l:List Rd) (hl:l.length<1000) (hp:OnceL l):VC EW 20 0 [.sl 4 (l.map encRd) false] [] (RR (.s (.bool true)) 0 []):=by
 have hpi:∀(i j:Nat) (hj:j<l.length) (hij:i<j),(l[i]'(by omega)).client≠l[j].client∧(l[i]'(by omega)).token<l[j].token:=fun i j hj hij=>List.pairwise_iff_getElem.1 hp i j (by omega) hj hij
 refine VC.enterR LW (show EW.func 20=some Tryz.f20 by kernel_rfl) (fun _ _=>rfl) rfl rfl [] ?_
 conv=>whnf
 refine⟨fun k f o c=>∃i:Nat,i≤l.length∧k=l.length - i∧c=0∧f=[(0,.sl 4 (l.map encRd) false),(3,.s (.int .i64 i))]∧o=[],⟨l.length,?_⟩,?_⟩
 ·exact⟨[],[],_,_,_,t3,⟨0,Nat.zero_le _,rfl,rfl,rfl,rfl⟩⟩
 ·rintro k f1 o1 c1 ⟨i,hi,rfl,rfl,rfl,rfl⟩
  conv=>whnf
  (first|refine⟨?_,?_⟩|refine nsplit ?_ ?_|refine bsplit ?_ ?_)<;>intro h<;>have hz_:=True.intro<;>clear hz_
  ·have h:i<l.length:=lenlt.1 h
   conv=>whnf
   refine⟨fun k f o c=>∃j:Nat,j≤i∧k=i - j∧c=0∧f=[(0,.sl 4 (l.map encRd) false),(3,.s (.int .i64 i)),(4,.s (.int .i64 j))]∧o=[],⟨i,?_⟩,?_⟩
   ·exact⟨[],[],_,_,_,t3,⟨0,Nat.zero_le _,rfl,rfl,rfl,rfl⟩⟩
   ·rintro k f1 o1 c1 ⟨j,hj,rfl,rfl,rfl,rfl⟩
    conv=>whnf
    (first|refine⟨?_,?_⟩|refine nsplit ?_ ?_|refine bsplit ?_ ?_)<;>intro hji<;>have hz_:=True.intro<;>clear hz_
    ·have hji:j<i:=Int.ofNat_lt.1 hji
     have hx:=hpi j i h hji
     ((conv=>whnf)<;>repeat(with_reducible refine D1 ?_)<;>conv=>whnf)
     refine idxI (show j<l.length by omega) ?_
     conv=>whnf
     refine idxI h ?_
     conv=>whnf
     (first|refine⟨?_,?_⟩|refine nsplit ?_ ?_|refine bsplit ?_ ?_)<;>intro ha<;>have hz_:=True.intro<;>clear hz_
     ·exact absurd ha hx.1
     ·conv=>whnf
      refine idxI (show j<l.length by omega) ?_
      conv=>whnf
      refine idxI h ?_
      conv=>whnf
      (first|refine⟨?_,?_⟩|refine nsplit ?_ ?_|refine bsplit ?_ ?_)<;>intro hb<;>have hz_:=True.intro<;>clear hz_
      ·exact absurd hx.2 (Int.not_lt.2 hb)
      ·((conv=>whnf)<;>repeat(with_reducible refine D1 ?_)<;>conv=>whnf)
       rw[wrap_small j (by omega)]
       refine⟨i - (j+1),?_,by omega⟩
       exact⟨[],[],_,_,_,t3,⟨j+1,hji,rfl,rfl,rfl,rfl⟩⟩
    ·conv=>whnf
     rw[wrap_small i (by omega)]
     refine⟨l.length - (i+1),?_,by omega⟩
     exact⟨[],[],_,_,_,t3,⟨i+1,h,rfl,rfl,rfl,rfl⟩⟩
  ·conv=>whnf
   exact⟨[],[],_,_,_,t3,rfl,rfl,rfl⟩
structure WInv (s:WsS) (i:Nat):Prop where
 last:0≤s.last∧s.last≤i
 len:s.l.length≤i
 once:OnceL s.l
 le:∀r∈s.l,r.token≤s.last
theorem WInv.rises {s:WsS} {i:Nat} (H:WInv s i):RisesT s.l:=H.once.imp fun h=>h.2
theorem WInv.ask {s:WsS} {i:Nat} (H:WInv s i) (hi:i<1000) (c n k:Int):WInv (askP s c n k).1 (i+1):=by
 have H1:WInv s (i+1):=⟨⟨H.last.1,by have:=H.last.2;omega⟩,by have:=H.len;omega,H.once,H.le⟩
 by_cases hg:(c<1∨6<c)∨n=0
 ·rw[askP_bad hg];exact H1
 cases hf:s.l.find? (hitB c n k)with
 |some r=>rw[askP_hit hg hf];exact H1
 |none=>
  by_cases h6:16≤(others c s.l).length
  ·rw[askP_full hg hf h6];exact H1
  ·rw[askP_new hg hf h6]
   have hw:IntKind.u64.wrap (s.last+1)=s.last+1:=IntWalk.u64_in _ (by have:=H.last;omega)
   rw[hw]
   have hol:(others c s.l).length≤s.l.length:=List.length_filter_le _ _
   refine⟨⟨by have:=H.last;show 0≤s.last+1;omega,by have:=H.last;show s.last+1≤_;omega⟩,by
    have:=H.len;show(others c s.l++[_]).length≤_;rw[List.length_append];simp;omega,?_,fun r m=>?_⟩
   ·unfold OnceL
    rw[List.pairwise_append]
    refine⟨H.once.sublist List.filter_sublist,List.pairwise_singleton _ _,fun a ma b mb=>?_⟩
    rw[List.mem_singleton]at mb
    subst mb
    obtain⟨m1,m2⟩:=List.mem_filter.1 ma
    have:=H.le a m1
    refine⟨fun q=>?_,by show a.token<s.last+1;omega⟩
    have m3:askB c a=true:=decide_eq_true q
    rw[m3]at m2
    cases m2
   ·rcases List.mem_append.1 m with m|m
    ·have:=H.le r (List.mem_filter.1 m).1
     show r.token≤s.last+1
     omega
    ·rw[List.mem_singleton]at m
     subst m
     exact Int.le_refl _
theorem WInv.told {s:WsS} {i:Nat} (H:WInv s i) (t:Int):WInv (toldP s t).1 (i+1):=⟨⟨H.last.1,by have:=H.last.2;show s.last≤_;omega⟩,by
 have:=H.len
 have h2:(s.l.filter fun r=> !toldB t r).length≤s.l.length:=List.length_filter_le _ _
 show(s.l.filter _).length≤_;omega,H.once.sublist List.filter_sublist,fun r m=>H.le r (List.mem_filter.1 m).1⟩
theorem WInv.clear {s:WsS} {i:Nat} (H:WInv s i):WInv ⟨s.last,[]⟩ (i+1):=⟨⟨H.last.1,by have:=H.last.2;show s.last≤_;omega⟩,Nat.zero_le _,.nil,fun r m=>by cases m⟩
structure Opw where
 (kind client num key:Int)
@[reducible] def encOw (o:Opw):List TV:=[.s (.int .i64 o.kind),.s (.int .i64 o.client),.s (.int .u64 o.num),.s (.int .u32 o.key)]
theorem waits_ok (l:List Opw) (_:l.length≤9223372036854775807):VC EW 3 0 [.sl 4 (l.map encOw) false] [] (RR (.s (.bool true)) 0 []):=by
 refine VC.enterR LW (show EW.func 3=some Tryz.f3 by kernel_rfl) (fun _ _=>rfl) rfl rfl [] ?_
 conv=>whnf
 refine⟨[],[],_,_,_,_,wnew_ok,t3,cR ?_⟩
 conv=>whnf
 refine⟨fun q f o c=>∃(i:Nat) (s:WsS),WInv s i∧i≤l.length∧i≤60∧q=l.length - i∧c=2∧f=[(0,.sl 4 (l.map encOw) false),(3,.ptr 0 0),(4,.ptr 1 0),(5,.s (.int .i64 i))]∧o=[(0,wsT s),(1,.cells (encWs s))],⟨l.length,?_⟩,?_⟩
 ·exact⟨[],[some 0,some 1],_,_,_,t3,⟨0,⟨0,[]⟩,⟨⟨by decide,by decide⟩,Nat.zero_le _,.nil,fun r m=>by cases m⟩,Nat.zero_le _,by decide,rfl,rfl,rfl,rfl⟩⟩
 ·rintro q1 f1 o1 c1 ⟨i,s,W,hi,h60,rfl,rfl,rfl,rfl⟩
  conv=>whnf
  (first|refine⟨?_,?_⟩|refine nsplit ?_ ?_|refine bsplit ?_ ?_)<;>intro h<;>have hz_:=True.intro<;>clear hz_
  ·have h:i<l.length:=lenlt.1 h
   conv=>whnf
   (first|refine⟨?_,?_⟩|refine nsplit ?_ ?_|refine bsplit ?_ ?_)<;>intro h6<;>have hz_:=True.intro<;>clear hz_
   ·have h6:i<60:=by have h6:(i:Int)<60:=h6;omega
    have hask:=wask_ok s l[i].client l[i].num l[i].key (by have:=W.len;omega)
    have hrask:=rask_ok s l[i].client l[i].num l[i].key (by have:=W.len;omega)
    have htold:=wtold_ok s l[i].num (by have:=W.len;omega) W.rises
    have hrtold:=rtold_ok s l[i].num (by have:=W.len;omega)
    have hclear:=cwclear_ok s
    have WA:=W.ask (by omega) l[i].client l[i].num l[i].key
    have WT:=W.told l[i].num
    have WC:=W.clear
    conv=>whnf
    refine idxI h ?_
    conv=>whnf
    (first|refine⟨?_,?_⟩|refine nsplit ?_ ?_|refine bsplit ?_ ?_)<;>intro k0<;>have hz_:=True.intro<;>clear hz_
    ·generalize askP s l[i].client l[i].num l[i].key=P at hask hrask WA
     obtain⟨s2,r2,e2⟩:=P
     dsimp only at WA
     clear htold hrtold hclear WT WC
     conv=>whnf
     refine⟨[],[some 0],_,_,_,_,hask,t3,cR ?_⟩
     conv=>whnf
     refine⟨[],[],_,_,_,_,hrask,t3,cR ?_⟩
     conv=>whnf
     (first|refine⟨?_,?_⟩|refine nsplit ?_ ?_|refine bsplit ?_ ?_)<;>intro g0<;>have hz_:=True.intro<;>clear hz_
     ·exact absurd g0 (by simp[veq1])
     conv=>whnf
     (first|refine⟨?_,?_⟩|refine nsplit ?_ ?_|refine bsplit ?_ ?_)<;>intro g9<;>have hz_:=True.intro<;>clear hz_
     ·exact absurd rfl g9
     ((conv=>whnf)<;>repeat(with_reducible refine D1 ?_)<;>conv=>whnf)
     have hlen:=cwlen_ok s2
     have hlist:=list_ok s2 (by have:=WA.len;omega)
     have hsame:=wsame_ok s2.l (by have:=WA.len;omega)
     have honce:=once_ok s2.l (by have:=WA.len;omega) WA.once
     refine⟨[],[some 0],_,_,_,_,hlen,t3,cR ?_⟩
     conv=>whnf
     (first|refine⟨?_,?_⟩|refine nsplit ?_ ?_|refine bsplit ?_ ?_)<;>intro g1<;>have hz_:=True.intro<;>clear hz_
     ·exact absurd (by simp) g1
     conv=>whnf
     refine⟨[],[some 0],_,_,_,_,hlist,t3,cR ?_⟩
     conv=>whnf
     refine⟨[],[],_,_,_,_,hsame,t3,cR ?_⟩
     conv=>whnf
     refine⟨[],[some 0],_,_,_,_,hlist,t3,cR ?_⟩
     conv=>whnf
     refine⟨[],[],_,_,_,_,honce,t3,cR ?_⟩
     ((conv=>whnf)<;>repeat(with_reducible refine D1 ?_)<;>conv=>whnf)
     rw[wrap_small i (by omega)]
     refine⟨l.length - (i+1),?_,by omega⟩
     exact⟨[],[some 0,some 1],_,_,_,t3,⟨i+1,s2,WA,h,by omega,rfl,rfl,rfl,rfl⟩⟩
    ·conv=>whnf
     (first|refine⟨?_,?_⟩|refine nsplit ?_ ?_|refine bsplit ?_ ?_)<;>intro k1<;>have hz_:=True.intro<;>clear hz_
     ·generalize toldP s l[i].num=P at htold hrtold WT
      obtain⟨s2,r2,e2⟩:=P
      dsimp only at WT
      clear hask hrask hclear WA WC
      conv=>whnf
      refine⟨[],[some 0],_,_,_,_,htold,t3,cR ?_⟩
      conv=>whnf
      refine⟨[],[],_,_,_,_,hrtold,t3,cR ?_⟩
      conv=>whnf
      (first|refine⟨?_,?_⟩|refine nsplit ?_ ?_|refine bsplit ?_ ?_)<;>intro g0<;>have hz_:=True.intro<;>clear hz_
      ·exact absurd g0 (by simp[veq1])
      conv=>whnf
      rw[beq_self_eq_true]
      ((conv=>whnf)<;>repeat(with_reducible refine D1 ?_)<;>conv=>whnf)
      have hlen:=cwlen_ok s2
      have hlist:=list_ok s2 (by have:=WT.len;omega)
      have hsame:=wsame_ok s2.l (by have:=WT.len;omega)
      have honce:=once_ok s2.l (by have:=WT.len;omega) WT.once
      refine⟨[],[some 0],_,_,_,_,hlen,t3,cR ?_⟩
      conv=>whnf
      (first|refine⟨?_,?_⟩|refine nsplit ?_ ?_|refine bsplit ?_ ?_)<;>intro g1<;>have hz_:=True.intro<;>clear hz_
      ·exact absurd (by simp) g1
      conv=>whnf
      refine⟨[],[some 0],_,_,_,_,hlist,t3,cR ?_⟩
      conv=>whnf
      refine⟨[],[],_,_,_,_,hsame,t3,cR ?_⟩
      conv=>whnf
      refine⟨[],[some 0],_,_,_,_,hlist,t3,cR ?_⟩
      conv=>whnf
      refine⟨[],[],_,_,_,_,honce,t3,cR ?_⟩
      ((conv=>whnf)<;>repeat(with_reducible refine D1 ?_)<;>conv=>whnf)
      rw[wrap_small i (by omega)]
      refine⟨l.length - (i+1),?_,by omega⟩
      exact⟨[],[some 0,some 1],_,_,_,t3,⟨i+1,s2,WT,h,by omega,rfl,rfl,rfl,rfl⟩⟩
     ·((conv=>whnf)<;>repeat(with_reducible refine D1 ?_)<;>conv=>whnf)
      refine⟨[],[some 0],_,_,_,_,hclear,t3,cR ?_⟩
      conv=>whnf
      (first|refine⟨?_,?_⟩|refine nsplit ?_ ?_|refine bsplit ?_ ?_)<;>intro g0<;>have hz_:=True.intro<;>clear hz_
      ·exact absurd (by simp) g0
      ((conv=>whnf)<;>repeat(with_reducible refine D1 ?_)<;>conv=>whnf)
      have hlen:=cwlen_ok (WsS.mk s.last [])
      have hlist:=list_ok (WsS.mk s.last []) (by have:=WC.len;omega)
      have hsame:=wsame_ok (WsS.mk s.last []).l (by have:=WC.len;omega)
      have honce:=once_ok (WsS.mk s.last []).l (by have:=WC.len;omega) WC.once
      refine⟨[],[some 0],_,_,_,_,hlen,t3,cR ?_⟩
      conv=>whnf
      (first|refine⟨?_,?_⟩|refine nsplit ?_ ?_|refine bsplit ?_ ?_)<;>intro g1<;>have hz_:=True.intro<;>clear hz_
      ·exact absurd (by simp) g1
      conv=>whnf
      refine⟨[],[some 0],_,_,_,_,hlist,t3,cR ?_⟩
      conv=>whnf
      refine⟨[],[],_,_,_,_,hsame,t3,cR ?_⟩
      conv=>whnf
      refine⟨[],[some 0],_,_,_,_,hlist,t3,cR ?_⟩
      conv=>whnf
      refine⟨[],[],_,_,_,_,honce,t3,cR ?_⟩
      ((conv=>whnf)<;>repeat(with_reducible refine D1 ?_)<;>conv=>whnf)
      rw[wrap_small i (by omega)]
      refine⟨l.length - (i+1),?_,by omega⟩
      exact⟨[],[some 0,some 1],_,_,_,t3,⟨i+1,(WsS.mk s.last []),WC,h,by omega,rfl,rfl,rfl,rfl⟩⟩
   ·conv=>whnf
    refine⟨[],[],_,_,_,_,askNil_ok 1 1 1,t3,cR ?_⟩
    conv=>whnf
    refine⟨[],[],_,_,_,_,toldNil_ok 1,t3,cR ?_⟩
    conv=>whnf
    (first|refine⟨?_,?_⟩|refine nsplit ?_ ?_|refine bsplit ?_ ?_)<;>intro e1<;>have hz_:=True.intro<;>clear hz_
    ·conv=>whnf
     (first|refine⟨?_,?_⟩|refine nsplit ?_ ?_|refine bsplit ?_ ?_)<;>intro e2<;>have hz_:=True.intro<;>clear hz_
     ·conv=>whnf
      (first|refine⟨?_,?_⟩|refine nsplit ?_ ?_|refine bsplit ?_ ?_)<;>intro e3<;>have hz_:=True.intro<;>clear hz_
      ·conv=>whnf
       refine⟨[],[],_,_,_,_,clearNil_ok,t3,cR ?_⟩
       conv=>whnf
       (first|refine⟨?_,?_⟩|refine nsplit ?_ ?_|refine bsplit ?_ ?_)<;>intro e4<;>have hz_:=True.intro<;>clear hz_
       ·conv=>whnf
        refine⟨[],[],_,_,_,_,lenNil_ok,t3,cR ?_⟩
        conv=>whnf
        (first|refine⟨?_,?_⟩|refine nsplit ?_ ?_|refine bsplit ?_ ?_)<;>intro e5<;>have hz_:=True.intro<;>clear hz_
        ·conv=>whnf
         refine⟨[],[],_,_,_,_,listNil_ok,t3,cR ?_⟩
         conv=>whnf
         (first|refine⟨?_,?_⟩|refine nsplit ?_ ?_|refine bsplit ?_ ?_)<;>intro e6<;>have hz_:=True.intro<;>clear hz_
         ·conv=>whnf
          refine⟨[],[],_,_,_,_,awakeW_ok,t3,cR ?_⟩
          conv=>whnf
          exact⟨[],[],_,_,_,t3,rfl,rfl,rfl⟩
         ·exact absurd rfl e6
        ·exact absurd rfl e5
       ·exact absurd rfl e4
      ·exact absurd (by simp[veq1]) e3
     ·exact absurd rfl e2
    ·exact absurd (by simp[veq1]) e1
  ·conv=>whnf
   refine⟨[],[],_,_,_,_,askNil_ok 1 1 1,t3,cR ?_⟩
   conv=>whnf
   refine⟨[],[],_,_,_,_,toldNil_ok 1,t3,cR ?_⟩
   conv=>whnf
   (first|refine⟨?_,?_⟩|refine nsplit ?_ ?_|refine bsplit ?_ ?_)<;>intro e1<;>have hz_:=True.intro<;>clear hz_
   ·conv=>whnf
    (first|refine⟨?_,?_⟩|refine nsplit ?_ ?_|refine bsplit ?_ ?_)<;>intro e2<;>have hz_:=True.intro<;>clear hz_
    ·conv=>whnf
     (first|refine⟨?_,?_⟩|refine nsplit ?_ ?_|refine bsplit ?_ ?_)<;>intro e3<;>have hz_:=True.intro<;>clear hz_
     ·conv=>whnf
      refine⟨[],[],_,_,_,_,clearNil_ok,t3,cR ?_⟩
      conv=>whnf
      (first|refine⟨?_,?_⟩|refine nsplit ?_ ?_|refine bsplit ?_ ?_)<;>intro e4<;>have hz_:=True.intro<;>clear hz_
      ·conv=>whnf
       refine⟨[],[],_,_,_,_,lenNil_ok,t3,cR ?_⟩
       conv=>whnf
       (first|refine⟨?_,?_⟩|refine nsplit ?_ ?_|refine bsplit ?_ ?_)<;>intro e5<;>have hz_:=True.intro<;>clear hz_
       ·conv=>whnf
        refine⟨[],[],_,_,_,_,listNil_ok,t3,cR ?_⟩
        conv=>whnf
        (first|refine⟨?_,?_⟩|refine nsplit ?_ ?_|refine bsplit ?_ ?_)<;>intro e6<;>have hz_:=True.intro<;>clear hz_
        ·conv=>whnf
         refine⟨[],[],_,_,_,_,awakeW_ok,t3,cR ?_⟩
         conv=>whnf
         exact⟨[],[],_,_,_,t3,rfl,rfl,rfl⟩
        ·exact absurd rfl e6
       ·exact absurd rfl e5
      ·exact absurd rfl e4
     ·exact absurd (by simp[veq1]) e3
    ·exact absurd rfl e2
   ·exact absurd (by simp[veq1]) e1
end Go.M
