/-
  Part 32 of the library that the proof leans on.
-/
import Derived.Test.YtgjfaieghmigjaaGreatDoorL22
import Derived.Test.YtgjfaieghmigjaaGreatDoorL31
import Derived.Test.YtgjfaieghmigjaaGreatDoorL30
namespace Go.M
open Go Go.Proofs
set_option maxRecDepth 1000000
theorem orcZ (base B:Nat):OrcOk Tryz.prog EZ base B:=by
 refine orcX_ok tabsB0 (fun g hg=>?_) (fun base B=>orcY_ok mixed0 base B) base B
 simp only[List.mem_cons,List.not_mem_nil,or_false]at hg
 rcases hg with rfl |rfl
 ·exact awake18
 ·exact awake22
theorem awake18_ok:VC EZ 26 0 [] [] (RR (.s (.bool true)) 0 []):=VC.mono (R:=fun r o c=>r= .s (.bool true)∧o=[]∧c=0)
 (VC.awakeX (g:=26) (aw:=[26,21]) tabsB0 (by show(Tryz.prog.funcs[26]?).isSome=true;kernel_rfl) rfl) fun _ _ _ h=>⟨h.1,h.2.2,h.2.1⟩
end Go.M
namespace Go.M
open Go Go.Proofs
set_option maxRecDepth 100000
set_option maxHeartbeats 4000000
@[reducible] def st2 (s t:StS):Ob:=[(0,stoC s),(1,mapT s.bs),(2,.cells [.s (.int .u64 t.e),.mp 3,.own (tabT t.t)]),(3,mapT t.bs)]
end Go.M
namespace Go.M
open Go Go.Proofs
set_option maxRecDepth 100000
set_option maxHeartbeats 4000000
theorem lastV_or (vs:List Vs):lastV vs=zeroVs∨lastV vs∈vs:=by
 rcases two_ends vs with rfl |⟨ws,w,rfl⟩
 ·exact .inl lastV_nil
 ·rw[lastV_end];exact .inr (by simp)
theorem pickR_or (vs:List Vs) (v d:Int):pickR vs v d=zeroVs∨pickR vs v d∈vs:=by
 unfold pickR
 split
 ·rename_i x h;exact .inr (List.mem_of_find?_eq_some h)
 ·split
  ·rcases lastV_or (vs.filter fun v=>decide (v.seq≤d))with h|h
   ·exact .inl h
   ·exact .inr (List.mem_filter.1 h).1
  ·exact .inl rfl
theorem small_of {e:Int} {vs:List Vs} (g:Good e vs) {x:Vs} (h:x=zeroVs∨x∈vs):0≤x.ver∧x.data.length<1000000:=by
 rcases h with rfl |h
 ·exact⟨by decide,by decide⟩
 ·have:=g.v x h;omega
@[reducible] def askT (k v d:Int):List TV:=[.s (.int .u32 k),.s (.int .u64 v),.s (.int .u64 d)]
@[reducible] def stA (s:StS) (r:RfS) (k v d:Int):Ob:=[(0,.cells (askT k v d)),(1,.cells [.s (.int .u64 s.e),.mp 2,.own (tabT s.t)]),(2,mapT s.bs),(3,.cells (encRf r))]
end Go.M
namespace Go.M
open Go Go.Proofs
set_option maxRecDepth 100000
set_option maxHeartbeats 4000000
structure LdS where
 (x:InS) (s:StS) (last:Int) (ok:Bool)
def rdVer (x:InS):InS×Int×Vs:=
 let p1:=x.get 4
 let p2:=p1.1.get 8
 let p3:=p2.1.get 8
 let p4:=p3.1.text 2048
 (p4.1,IntKind.i64.wrap p1.2,⟨p2.2,p3.2,p4.2⟩)
def ldStep (q:LdS):LdS:=
 let p:=rdVer q.x
 if q.ok=true∧q.last<p.2.1∧p.2.2.seq≤q.s.e then⟨p.1,putS q.s (IntKind.u32.wrap p.2.1) p.2.2,p.2.1,decide (putE (ofK q.s (IntKind.u32.wrap p.2.1)) p.2.2=0)⟩
 else⟨p.1,q.s,p.2.1,false⟩
def ldN (q:LdS):Nat→LdS
 |0=>q
 |n+1=>ldStep (ldN q n)
theorem InS.next_e {x:InS} {w:Nat} (h:x.e≠0):x.next w=(x,none):=by unfold InS.next;rw[if_pos h]
theorem InS.get_e {x:InS} {w:Nat} (h:x.e≠0):(x.get w).1=x:=by unfold InS.get InS.upto;rw[InS.next_e h]
theorem InS.text_e {x:InS} {m:Int} (h:x.e≠0):(x.text m).1=x:=by unfold InS.text;rw[InS.next_e h]
theorem rdVer_e {x:InS} (h:x.e≠0):(rdVer x).1=x:=by
 unfold rdVer
 dsimp only
 rw[InS.get_e h,InS.get_e h,InS.get_e h,InS.text_e h]
theorem ldStep_x (q:LdS):(ldStep q).x=(rdVer q.x).1:=by unfold ldStep;dsimp only;split<;>rfl
theorem ldN_e {q:LdS} {i n:Nat} (h:(ldN q i).x.e≠0) (hn:i≤n):(ldN q n).x=(ldN q i).x:=by
 induction n with
 |zero=>obtain rfl:i=0:=by omega
        rfl
 |succ n ih=>
  rcases Nat.eq_or_lt_of_le hn with rfl |hn
  ·rfl
  ·have:=ih (by omega)
   rw[ldN,ldStep_x,rdVer_e (by rw[this];exact h),this]
theorem InS.text_bytes {x:InS} {m:Int} (h:bytesB x):bytesB (x.text m).1:=by
 have hb:=(InS.next_bytes (n:=2) h).1
 unfold InS.text
 generalize x.next 2=q at hb
 obtain⟨y,r⟩:=q
 cases r with
 |none=>exact hb
 |some b=>
  dsimp only
  split
  ·intro z hz;simp at hz
  ·exact(InS.next_bytes (n:=(numL b).toNat) hb).1
theorem InS.text_len {x:InS} {m:Int} (hm:0≤m):((x.text m).2.length:Int)≤m:=by
 unfold InS.text
 generalize x.next 2=q
 obtain⟨y,r⟩:=q
 cases r with
 |none=>exact hm
 |some b=>
  dsimp only
  split
  ·exact hm
  ·rename_i h
   unfold InS.raw
   have hl:=fun l=>InS.next_len (s:=y) (n:=(numL b).toNat) (l:=l)
   have hr:=numL_range b
   generalize y.next (numL b).toNat=p at hl
   obtain⟨z,o⟩:=p
   cases o with
   |none=>exact hm
   |some l=>have:=hl l rfl;show(l.length:Int)≤m;omega
theorem get_rng {x:InS} {w:Nat}:0≤(x.get w).2∧(x.get w).2≤18446744073709551615:=by
 have:=InS.upto_range (s:=x) (n:=w) (m:=18446744073709551615)
 unfold InS.get
 omega
theorem rdVer_ok (x:InS):VOk (rdVer x).2.2:=⟨get_rng,get_rng,by
 have:=InS.text_len (x:=(((x.get 4).1.get 8).1.get 8).1) (m:=2048) (by decide)
 show(InS.text (((x.get 4).1.get 8).1.get 8).1 2048).2.length≤2048
 omega⟩
theorem rdVer_bytes {x:InS} (h:bytesB x):bytesB (rdVer x).1:=InS.text_bytes (get_bytes (get_bytes (get_bytes h)))
theorem ldN_bytes {q:LdS} (h:bytesB q.x):∀n,bytesB (ldN q n).x
 |0=>h
 |n+1=>by rw[ldN,ldStep_x];exact rdVer_bytes (ldN_bytes h n)
def LdOk (s:StS) (n:Nat):Prop:=∀k vs,lookA s.bs k=some vs→(∀v∈vs,VOk v)∧vs.length≤n
theorem LdOk.ok {s:StS} {n:Nat} (h:LdOk s n) (hn:n<1000):SOk s:=⟨fun k vs hk=>⟨(h k vs hk).1,by have:=(h k vs hk).2;omega⟩⟩
theorem LdOk.put {s:StS} {n:Nat} (h:LdOk s n) (k:Int) {v:Vs} (hv:VOk v):LdOk (putS s k v) (n+1):=by
 have hof:(∀w∈ofK s k,VOk w)∧(ofK s k).length≤n:=by
  cases hk:lookA s.bs k with
  |none=>rw[ofK_none hk];exact⟨by simp,Nat.zero_le _⟩
  |some vs=>rw[ofK_some hk];exact h k vs hk
 intro k' vs hk
 have hk:lookA (putA s.bs k (putB (ofK s k) v)) k'=some vs:=hk
 rw[lookA_put]at hk
 split at hk
 ·cases hk
  unfold putB
  split
  ·refine⟨fun w m=>?_,by rw[List.length_append];simp;exact hof.2⟩
   rcases List.mem_append.1 m with m|m
   ·exact hof.1 w m
   ·simp at m;rw[m];exact hv
  ·exact⟨hof.1,by omega⟩
 ·exact⟨(h k' vs hk).1,by have:=(h k' vs hk).2;omega⟩
theorem LdOk.step {q:LdS} {n:Nat} (h:LdOk q.s n):LdOk (ldStep q).s (n+1):=by
 unfold ldStep
 dsimp only
 split
 ·exact h.put _ (rdVer_ok q.x)
 ·exact fun k vs hk=>⟨(h k vs hk).1,by have:=(h k vs hk).2;omega⟩
@[reducible] def ldX1 (b:List Int):InS:=((InS.mk b 0).get 8).1
@[reducible] def ldS0 (b:List Int):StS:=⟨((InS.mk b 0).get 8).2,[],(rdAll (ldX1 b)).t⟩
@[reducible] def ldX3 (b:List Int):InS×Int:=(rdAll (ldX1 b)).x.upto 2 192
@[reducible] def ld0 (b:List Int):LdS:=⟨(ldX3 b).1,ldS0 b,-1,fineS (ldS0 b)⟩
@[reducible] def ldA (b:List Int):LdS:=ldN (ld0 b) (ldX3 b).2.toNat
def loadC (b:List Int):Int:=if rdC (ldX1 b)≠0 then rdC (ldX1 b)else if(ldA b).x.done≠0 then(ldA b).x.done else if(ldA b).ok=true then 0 else 4
@[reducible] def stLd (q:LdS):Ob:=[(0,stoC q.s),(1,mapT q.s.bs),(2,InO q.x)]
theorem load_ok (b:List Int) (hl:b.length<1000000) (hb:∀x∈b,0≤x∧x<256):VC EZ 38 0 [.sl 1 (encU8 b) false] [] (if loadC b=0 then RR (.tup [.ptr 0 0,.s (.int .i64 0)]) 2 (stO (ldA b).s)else RR (.tup [nilP,.s (.int .i64 (loadC b))]) 0 []):=by
 have h0:=of_ok b hl
 have hb0:bytesB ⟨b,0⟩:=hb
 have h1:=get_ok ⟨b,0⟩ 8 (by decide) (by decide) hb0
 have hb1:bytesB (ldX1 b):=get_bytes hb0
 have h2:=sread_ok (ldX1 b) hb1
 have hb2:bytesB (rdAll (ldX1 b)).x:=rdN_bytes (InS.upto_bytes hb1) _
 have h3:=upto_ok (rdAll (ldX1 b)).x 2 192 (by decide) (by decide) hb2
 have hf:=fine_ok (ldS0 b)
 refine VC.enterR LZ (show EZ.func 38=some Tryz.f38 by kernel_rfl) (fun _ _=>rfl) rfl rfl [] ?_
 conv=>whnf
 refine⟨[],[],_,_,_,_,h0,t3,cR ?_⟩
 conv=>whnf
 refine⟨[],[],_,_,_,_,knew_ok,t3,cR ?_⟩
 conv=>whnf
 refine⟨[],[some 0],_,_,_,_,h1,t3,cR ?_⟩
 conv=>whnf
 by_cases hc:rdC (ldX1 b)=0
 ·rw[if_pos hc]at h2
  have hr:=InS.upto_range (s:=(rdAll (ldX1 b)).x) (n:=2) (m:=192)
  have hle:=InS.upto_le (s:=(rdAll (ldX1 b)).x) (n:=2) (m:=192) (by decide)
  have hC:loadC b=if(ldA b).x.done≠0 then(ldA b).x.done else if(ldA b).ok=true then 0 else 4:=by unfold loadC;rw[if_neg (not_not_intro hc)]
  have hA:ldN (ld0 b) (ldX3 b).2.toNat=ldA b:=rfl
  have hbs:=ldN_bytes (q:=ld0 b) (InS.upto_bytes hb2)
  have hok0:LdOk (ldS0 b) 0:=fun k vs h=>by cases h
  have hq0:ld0 b=⟨(ldX3 b).1,ldS0 b,-1,fineS (ldS0 b)⟩:=rfl
  generalize loadC b=code at hC
  generalize ldA b=A at hC hA
  generalize ld0 b=q0 at hq0 hA hbs
  refine⟨[],[some 0],_,_,_,_,h2,t3,cR ?_⟩
  conv=>whnf
  (first|refine⟨?_,?_⟩|refine nsplit ?_ ?_|refine bsplit ?_ ?_)<;>intro e0<;>have hz_:=True.intro<;>clear hz_
  ·exact absurd rfl e0
  conv=>whnf
  refine⟨[],[some 1,some 2],_,_,_,_,hf,t3,cR ?_⟩
  conv=>whnf
  refine⟨[],[some 0],_,_,_,_,h3,t3,cR ?_⟩
  conv=>whnf
  obtain⟨n,hn⟩:∃n:Nat,(ldX3 b).2=n:=⟨(ldX3 b).2.toNat,by show _=(((ldX3 b).2.toNat:Nat):Int);have h:0≤(ldX3 b).2:=hr.1;omega⟩
  have hle:(ldX3 b).2≤192:=hle
  rw[hn]at hle hA
  rw[Int.toNat_natCast]at hA
  refine⟨fun k f o c=>∃(i:Nat) (q:LdS),ldN q0 i=q∧LdOk q.s i∧i≤n∧k=n - i∧c=3∧f=[(4,.ptr 2 0),(5,.ptr 0 0),(8,.s (.bool q.ok)),(9,.s (.int .i64 q.last)),(36,.s (.int .u64 n)),(37,.s (.int .u64 i))]∧o=stLd q,⟨n,?_⟩,?_⟩
  ·refine⟨[],[some 1,some 2,some 0],?_⟩
   iterate 3 constructor
   refine⟨⟨?_,?_,?_⟩,⟨0,⟨(ldX3 b).1,ldS0 b,-1,fineS (ldS0 b)⟩,hq0,hok0,Nat.zero_le _,rfl,rfl,rfl,rfl⟩⟩
   all_goals(repeat' first|exact LF|constructor)
   all_goals exact Lz.int hn
  ·rintro k f1 o1 c1 ⟨i,q,hq,hok,hi,rfl,rfl,rfl,rfl⟩
   conv=>whnf
   (first|refine⟨?_,?_⟩|refine nsplit ?_ ?_|refine bsplit ?_ ?_)<;>intro h<;>have hz_:=True.intro<;>clear hz_
   ·have h:i<n:=Int.ofNat_lt.1 h
    have hst:ldN q0 (i+1)=ldStep q:=by rw[←hq];rfl
    have hx:(ldN q0 (i+1)).x=(rdVer q.x).1:=by rw[hst,ldStep_x]
    have hbi:=hbs i
    rw[hq]at hbi
    have hw:IntKind.u64.wrap ((i:Int)+1)=((i+1:Nat):Int):=by rw[IntWalk.u64_in _ (by omega)];omega
    have hok2:=hok.step
    have hso:=hok.ok (by omega)
    clear hq
    obtain⟨y,s,last,ok⟩:=q
    have hv:=rdVer_ok y
    have g1:=get_ok y 4 (by decide) (by decide) hbi
    have b1:=get_bytes (w:=4) hbi
    have g2:=get_ok _ 8 (by decide) (by decide) b1
    have b2:=get_bytes (w:=8) b1
    have g3:=get_ok _ 8 (by decide) (by decide) b2
    have b3:=get_bytes (w:=8) b2
    have g4:=text_ok _ 2048 b3
    unfold ldStep rdVer at hst hok2
    unfold rdVer at hv hx
    dsimp only at hst hx hok hok2 hbi b1 b2 b3 g1 g2 g3 g4 hso hv
    generalize y.get 4=p1 at hst hx hok2 g1 g2 g3 g4 hv
    generalize p1.1.get 8=p2 at hst hx hok2 g2 g3 g4 hv
    generalize p2.1.get 8=p3 at hst hx hok2 g3 g4 hv
    generalize p3.1.text 2048=p4 at hst hx hok2 g4 hv
    have hput:=kput_ok s (IntKind.u32.wrap (IntKind.i64.wrap p1.2)) ⟨p2.2,p3.2,p4.2⟩ hv.ver hso
    generalize putS s (IntKind.u32.wrap (IntKind.i64.wrap p1.2)) ⟨p2.2,p3.2,p4.2⟩=s' at hst hok2 hput
    generalize putE (ofK s (IntKind.u32.wrap (IntKind.i64.wrap p1.2))) ⟨p2.2,p3.2,p4.2⟩=c' at hst hok2 hput
    conv=>whnf
    refine⟨[],[some 2],_,_,_,_,g1,t3,cR ?_⟩
    conv=>whnf
    refine⟨[],[some 2],_,_,_,_,g2,t3,cR ?_⟩
    conv=>whnf
    refine⟨[],[some 2],_,_,_,_,g3,t3,cR ?_⟩
    conv=>whnf
    refine⟨[],[some 2],_,_,_,_,g4,t3,cR ?_⟩
    conv=>whnf
    refine⟨[],[some 2],_,_,_,_,err_ok p4.1,t3,cR ?_⟩
    conv=>whnf
    (first|refine⟨?_,?_⟩|refine nsplit ?_ ?_|refine bsplit ?_ ?_)<;>intro he<;>have hz_:=True.intro<;>clear hz_
    ·have he:p4.1.e≠0:=he
     have hAx:A.x=p4.1:=by rw[←hA,ldN_e (i:=i+1) (n:=n) (by rw[hx];exact he) h,hx]
     have hd:A.x.done=p4.1.e:=by rw[hAx];unfold InS.done;rw[if_pos he]
     rw[hd,if_pos he]at hC
     subst hC
     conv=>whnf
     refine⟨[],[some 2],_,_,_,_,err_ok p4.1,t3,cR ?_⟩
     conv=>whnf
     rw[if_neg he]
     exact⟨[],[],_,_,_,t3,rfl,rfl,rfl⟩
    ·((conv=>whnf)<;>repeat(with_reducible refine D1 ?_)<;>conv=>whnf)
     cases ok
     ·rw[if_neg (by simp)]at hst hok2
      ((conv=>whnf)<;>repeat(with_reducible refine D1 ?_)<;>conv=>whnf)
      rw[hw]
      refine⟨n - (i+1),?_,by omega⟩
      exact⟨[],[some 0,some 1,some 2],_,_,_,t3,⟨i+1,_,hst,hok2,h,rfl,rfl,rfl,rfl⟩⟩
     ·conv=>whnf
      (first|refine⟨?_,?_⟩|refine nsplit ?_ ?_|refine bsplit ?_ ?_)<;>intro hk<;>have hz_:=True.intro<;>clear hz_
      ·have hk:last<IntKind.i64.wrap p1.2:=hk
       conv=>whnf
       (first|refine⟨?_,?_⟩|refine nsplit ?_ ?_|refine bsplit ?_ ?_)<;>intro hs<;>have hz_:=True.intro<;>clear hz_
       ·have hs:p3.2≤s.e:=hs
        rw[if_pos ⟨rfl,hk,hs⟩]at hst hok2
        conv=>whnf
        refine⟨[],[some 0,some 1],_,_,_,_,hput,t3,cR ?_⟩
        conv=>whnf
        (first|refine⟨?_,?_⟩|refine nsplit ?_ ?_|refine bsplit ?_ ?_)<;>intro hz<;>have hz_:=True.intro<;>clear hz_
        ·have hz:c'=0:=hz
         rw[decide_eq_true hz]at hst hok2
         ((conv=>whnf)<;>repeat(with_reducible refine D1 ?_)<;>conv=>whnf)
         rw[hw]
         refine⟨n - (i+1),?_,by omega⟩
         exact⟨[],[some 0,some 1,some 2],_,_,_,t3,⟨i+1,_,hst,hok2,h,rfl,rfl,rfl,rfl⟩⟩
        ·have hz:¬c'=0:=hz
         rw[decide_eq_false hz]at hst hok2
         ((conv=>whnf)<;>repeat(with_reducible refine D1 ?_)<;>conv=>whnf)
         rw[hw]
         refine⟨n - (i+1),?_,by omega⟩
         exact⟨[],[some 0,some 1,some 2],_,_,_,t3,⟨i+1,_,hst,hok2,h,rfl,rfl,rfl,rfl⟩⟩
       ·have hs:¬p3.2≤s.e:=hs
        rw[if_neg (fun q=>hs q.2.2)]at hst hok2
        ((conv=>whnf)<;>repeat(with_reducible refine D1 ?_)<;>conv=>whnf)
        rw[hw]
        refine⟨n - (i+1),?_,by omega⟩
        exact⟨[],[some 0,some 1,some 2],_,_,_,t3,⟨i+1,_,hst,hok2,h,rfl,rfl,rfl,rfl⟩⟩
      ·have hk:¬last<IntKind.i64.wrap p1.2:=hk
       rw[if_neg (fun q=>hk q.2.1)]at hst hok2
       ((conv=>whnf)<;>repeat(with_reducible refine D1 ?_)<;>conv=>whnf)
       rw[hw]
       refine⟨n - (i+1),?_,by omega⟩
       exact⟨[],[some 0,some 1,some 2],_,_,_,t3,⟨i+1,_,hst,hok2,h,rfl,rfl,rfl,rfl⟩⟩
   ·obtain rfl:i=n:=by have h:¬(i:Int)<n:=h;omega
    rw[hq]at hA
    subst hA
    obtain⟨y,s,last,ok⟩:=q
    dsimp only at hC
    conv=>whnf
    refine⟨[],[some 2],_,_,_,_,done2_ok y,t3,cR ?_⟩
    conv=>whnf
    (first|refine⟨?_,?_⟩|refine nsplit ?_ ?_|refine bsplit ?_ ?_)<;>intro he<;>have hz_:=True.intro<;>clear hz_
    ·have he:y.done≠0:=he
     rw[if_pos he]at hC
     subst hC
     conv=>whnf
     rw[if_neg he]
     exact⟨[],[],_,_,_,t3,rfl,rfl,rfl⟩
    ·have he:¬y.done≠0:=he
     rw[if_neg he]at hC
     cases ok
     ·rw[if_neg (by simp)]at hC
      subst hC
      conv=>whnf
      rw[if_neg (by decide)]
      exact⟨[],[],_,_,_,t3,rfl,rfl,rfl⟩
     ·rw[if_pos rfl]at hC
      subst hC
      conv=>whnf
      rw[if_pos rfl]
      exact⟨[],[some 0,some 1],_,_,_,t3,rfl,rfl,rfl⟩
 ·rw[if_neg hc]at h2
  rw[show loadC b=rdC (ldX1 b)from if_pos hc,if_neg hc]
  refine⟨[],[some 0],_,_,_,_,h2,t3,cR ?_⟩
  conv=>whnf
  (first|refine⟨?_,?_⟩|refine nsplit ?_ ?_|refine bsplit ?_ ?_)<;>intro e0<;>have hz_:=True.intro<;>clear hz_
  ·conv=>whnf
   exact⟨[],[],_,_,_,t3,rfl,rfl,rfl⟩
  ·exact absurd hc e0
end Go.M
namespace Go.M
open Go Go.Proofs
set_option maxRecDepth 100000
set_option maxHeartbeats 4000000
structure LdR where
 (x:InS) (bs:List (Int×List Vs)) (ok:Bool)
def nextKey (bs:List (Int×List Vs)) (k:Int):Bool:=match bs.getLast? with|none=>true|some p=>decide (p.1<k)
theorem nextKey_at {bs:List (Int×List Vs)} (h:0<bs.length) (k:Int):nextKey bs k=decide ((bs[bs.length - 1]'(by omega)).1<k):=by
 unfold nextKey
 rw[List.getLast?_eq_getElem?,List.getElem?_eq_getElem (by omega)]
def rdKey (x:InS):Int:=IntKind.u32.wrap (x.get 4).2
def lrStep (e:Int) (q:LdR):LdR:=
 let p:=rdVer q.x
 ⟨p.1,q.bs++[(rdKey q.x,[p.2.2])],q.ok&&(decide (0<p.2.2.ver∧0<p.2.2.seq∧p.2.2.seq≤e)&&nextKey q.bs (rdKey q.x))⟩
def lrN (e:Int) (q:LdR):Nat→LdR
 |0=>q
 |n+1=>lrStep e (lrN e q n)
theorem lrN_bytes (e:Int) {q:LdR} (h:bytesB q.x):∀n,bytesB (lrN e q n).x
 |0=>h
 |n+1=>rdVer_bytes (lrN_bytes e h n)
theorem lrN_e {e:Int} {q:LdR} {i n:Nat} (h:(lrN e q i).x.e≠0) (hn:i≤n):(lrN e q n).x=(lrN e q i).x:=by
 induction n with
 |zero=>obtain rfl:i=0:=by omega
        rfl
 |succ n ih=>
  rcases Nat.eq_or_lt_of_le hn with rfl |hn
  ·rfl
  ·have:=ih (by omega)
   show(rdVer (lrN e q n).x).1=_
   rw[rdVer_e (by rw[this];exact h),this]
theorem lrN_len (e:Int) (q:LdR):∀n,(lrN e q n).bs.length=q.bs.length+n
 |0=>rfl
 |n+1=>by show((lrN e q n).bs++[_]).length=_;rw[List.length_append,lrN_len e q n];rfl
@[reducible] def goodB (rows:List RowS) (e:Int):Bool:=rows.all fun r=>decide (r.seq≤e)
@[reducible] def lrX3 (b:List Int):InS×Int:=(rlAll (ldX1 b)).x.upto 2 192
@[reducible] def lrE (b:List Int):Int:=((InS.mk b 0).get 8).2
@[reducible] def lr0 (b:List Int):LdR:=⟨(lrX3 b).1,[],goodB (rlAll (ldX1 b)).rows (lrE b)⟩
@[reducible] def lrA (b:List Int):LdR:=lrN (lrE b) (lr0 b) (lrX3 b).2.toNat
def lrC (b:List Int):Int:=if rlC (ldX1 b)≠0 then rlC (ldX1 b)else if(lrA b).x.done≠0 then(lrA b).x.done else if(lrA b).ok=true then 0 else 4
def lrS (b:List Int):RfS:=if lrC b=0 then⟨lrE b,(lrA b).bs,(rlAll (ldX1 b)).rows⟩else⟨0,[],[]⟩
@[reducible] def stLr (q:LdR) (e:Int) (rows:List RowS):Ob:=[(0,.cells [.s (.int .u64 0),.sl 0 [] true,.sl 0 [] true]),(1,InC q.x),(2,.cells [.s (.int .u64 e),.own (.arr 2 true (q.bs.map encBl)),rowsL rows])]
theorem rload_ok (b:List Int) (_:b.length<1000000) (hb:∀x∈b,0≤x∧x<256):VC EZ 51 0 [.sl 1 (encU8 b) false] [] (RR (.tup [.agg (encRf (lrS b)),.s (.int .i64 (lrC b))]) 0 []):=by
 have hb0:bytesB ⟨b,0⟩:=hb
 have h1:=refGet_ok ⟨b,0⟩ 8 (by decide) (by decide)
 have hb1:bytesB (ldX1 b):=get_bytes hb0
 have h2:=rread_ok (ldX1 b) hb1
 have hrl:=rlN_len (rl0 (ldX1 b)) ((ldX1 b).upto 1 6).2.toNat
 have hrb:bytesB (rlAll (ldX1 b)).x:=rlN_bytes (InS.upto_bytes hb1) _
 have h3:=refUpto_ok (rlAll (ldX1 b)).x 2 192 (by decide) (by decide)
 have hr:=InS.upto_range (s:=(rlAll (ldX1 b)).x) (n:=2) (m:=192)
 have hle:=InS.upto_le (s:=(rlAll (ldX1 b)).x) (n:=2) (m:=192) (by decide)
 have hle6:=InS.upto_le (s:=ldX1 b) (n:=1) (m:=6) (by decide)
 have hr6:=InS.upto_range (s:=ldX1 b) (n:=1) (m:=6)
 have hr6l:(rlAll (ldX1 b)).rows.length≤6:=by show(rlN _ _).rows.length≤6;rw[hrl];show 0+_≤6;omega
 have hS:lrS b=if lrC b=0 then⟨lrE b,(lrA b).bs,(rlAll (ldX1 b)).rows⟩else⟨0,[],[]⟩:=rfl
 have hC:lrC b=if rlC (ldX1 b)≠0 then rlC (ldX1 b)else if(lrA b).x.done≠0 then(lrA b).x.done else if(lrA b).ok=true then 0 else 4:=rfl
 have hbs:=lrN_bytes (lrE b) (q:=lr0 b) (InS.upto_bytes hrb)
 have hln:=lrN_len (lrE b) (lr0 b)
 have hA:lrN (lrE b) (lr0 b) (lrX3 b).2.toNat=lrA b:=rfl
 have hq0:lr0 b=⟨(lrX3 b).1,[],goodB (rlAll (ldX1 b)).rows (lrE b)⟩:=rfl
 rw[show(rlAll (ldX1 b)).x.upto 2 192=lrX3 b from rfl]at h3 hr hle
 rw[show((InS.mk b 0).get 8).2=lrE b from rfl]at h1
 generalize lrS b=sv at hS
 generalize lrC b=code at hC hS
 generalize lrA b=A at hC hA hS
 generalize lr0 b=q0 at hq0 hA hbs hln
 have hql:q0.bs.length=0:=by rw[hq0];rfl
 generalize lrX3 b=x3 at h3 hr hle hq0 hA
 generalize lrE b=ee at h1 hA hbs hln hq0 hS
 generalize (rlAll (ldX1 b)).rows=rows at h2 hr6l hq0 hS
 generalize rlC (ldX1 b)=c1 at h2 hC
 obtain⟨y3,m⟩:=x3
 dsimp only at hr hle hA hq0 h3
 obtain⟨n,rfl⟩:∃n:Nat,m=n:=⟨m.toNat,by omega⟩
 rw[Int.toNat_natCast]at hA
 refine VC.enterR LZ (show EZ.func 51=some Tryz.f51 by kernel_rfl) (fun _ _=>rfl) rfl rfl [] ?_
 conv=>whnf
 refine⟨[],[],_,_,_,_,h1,t3,cR ?_⟩
 conv=>whnf
 refine⟨[],[],_,_,_,_,h2,t3,cR ?_⟩
 conv=>whnf
 by_cases hc:c1=0
 ·subst hc
  rw[if_neg (by decide)]at hC
  rw[if_pos rfl]
  (first|refine⟨?_,?_⟩|refine nsplit ?_ ?_|refine bsplit ?_ ?_)<;>intro e0<;>have hz_:=True.intro<;>clear hz_
  ·exact absurd rfl e0
  conv=>whnf
  refine⟨fun k f o c=>∃i:Nat,i≤rows.length∧k=rows.length - i∧c=3∧f=[(2,.ptr 0 0),(4,.ptr 1 0),(5,.s (.int .u64 ee)),(6,rowsL rows),(8,.ptr 2 0),(9,.s (.bool (goodB (rows.take i) ee))),(10,.s (.int .i64 i))]∧o=[(0,.cells [.s (.int .u64 0),.sl 0 [] true,.sl 0 [] true]),(1,InC (rlAll (ldX1 b)).x),(2,.cells [.s (.int .u64 ee),.sl 0 [] true,rowsL rows])],⟨rows.length,?_⟩,?_⟩
  ·exact⟨[],[some 0,some 1,some 2],_,_,_,t3,⟨0,Nat.zero_le _,rfl,rfl,rfl,rfl⟩⟩
  ·rintro k f1 o1 c1 ⟨i,hi,rfl,rfl,rfl,rfl⟩
   conv=>whnf
   (first|refine⟨?_,?_⟩|refine nsplit ?_ ?_|refine bsplit ?_ ?_)<;>intro hk<;>have hz_:=True.intro<;>clear hz_
   ·have hk:i<rows.length:=lenlt.1 hk
    have hg1:goodB (rows.take (i+1)) ee=(goodB (rows.take i) ee&&decide (rows[i].seq≤ee)):=by
     unfold goodB
     rw[List.take_succ_eq_append_getElem hk,List.all_append];simp
    generalize goodB (rows.take i) ee=g at hg1
    conv=>whnf
    cases g
    ·rw[Bool.false_and]at hg1
     conv=>whnf
     refine⟨rows.length - (i+1),?_,by omega⟩
     rw[show IntKind.i64.wrap ((i:Int)+1)=((i+1:Nat):Int)from wrap_small i (by omega)]
     refine⟨[],[some 0,some 1,some 2],?_⟩
     iterate 3 constructor
     refine⟨⟨?_,?_,?_⟩,⟨i+1,hk,rfl,rfl,rfl,rfl⟩⟩
     all_goals(repeat' first|exact LF|constructor)
     all_goals exact Lz.of (by rw[hg1])
    ·rw[Bool.true_and]at hg1
     conv=>whnf
     refine idxI hk ?_
     conv=>whnf
     (first|refine⟨?_,?_⟩|refine nsplit ?_ ?_|refine bsplit ?_ ?_)<;>intro hv<;>have hz_:=True.intro<;>clear hz_
     ·have hv:rows[i].seq≤ee:=hv
      rw[decide_eq_true hv]at hg1
      conv=>whnf
      refine⟨rows.length - (i+1),?_,by omega⟩
      rw[show IntKind.i64.wrap ((i:Int)+1)=((i+1:Nat):Int)from wrap_small i (by omega)]
      refine⟨[],[some 0,some 1,some 2],?_⟩
      iterate 3 constructor
      refine⟨⟨?_,?_,?_⟩,⟨i+1,hk,rfl,rfl,rfl,rfl⟩⟩
      all_goals(repeat' first|exact LF|constructor)
      all_goals exact Lz.of (by rw[hg1])
     ·have hv:¬rows[i].seq≤ee:=hv
      rw[decide_eq_false hv]at hg1
      conv=>whnf
      refine⟨rows.length - (i+1),?_,by omega⟩
      rw[show IntKind.i64.wrap ((i:Int)+1)=((i+1:Nat):Int)from wrap_small i (by omega)]
      refine⟨[],[some 0,some 1,some 2],?_⟩
      iterate 3 constructor
      refine⟨⟨?_,?_,?_⟩,⟨i+1,hk,rfl,rfl,rfl,rfl⟩⟩
      all_goals(repeat' first|exact LF|constructor)
      all_goals exact Lz.of (by rw[hg1])
   ·obtain rfl:i=rows.length:=by have:=mt lenlt.2 hk;omega
    rw[List.take_length]
    conv=>whnf
    refine⟨[],[],_,_,_,_,h3,t3,cR ?_⟩
    conv=>whnf
    refine⟨fun k f o c=>∃(i:Nat) (q:LdR),lrN ee q0 i=q∧i≤n∧k=n - i∧c=3∧f=[(2,.ptr 0 0),(4,.ptr 1 0),(5,.s (.int .u64 ee)),(8,.ptr 2 0),(9,.s (.bool q.ok)),(11,.s (.int .u64 n)),(12,.s (.int .u64 i))]∧o=stLr q ee rows,⟨n,?_⟩,?_⟩
    ·exact⟨[],[some 0,some 1,some 2],_,_,_,t3,⟨0,⟨y3,[],goodB rows ee⟩,hq0,Nat.zero_le _,rfl,rfl,rfl,rfl⟩⟩
    ·rintro k f1 o1 c1 ⟨i,q,hq,hi,rfl,rfl,rfl,rfl⟩
     conv=>whnf
     (first|refine⟨?_,?_⟩|refine nsplit ?_ ?_|refine bsplit ?_ ?_)<;>intro h<;>have hz_:=True.intro<;>clear hz_
     ·have h:i<n:=Int.ofNat_lt.1 h
      have hst:lrN ee q0 (i+1)=lrStep ee q:=by rw[←hq];rfl
      have hx:(lrN ee q0 (i+1)).x=(rdVer q.x).1:=by rw[hst];rfl
      have hbi:=hbs i
      have hli:=hln i
      rw[hq]at hbi hli
      rw[hql,Nat.zero_add]at hli
      have hw:IntKind.u64.wrap ((i:Int)+1)=((i+1:Nat):Int):=by rw[IntWalk.u64_in _ (by omega)];omega
      clear hq
      obtain⟨y,bs,ok⟩:=q
      dsimp only at hli
      have b1:=get_bytes (w:=4) hbi
      have b2:=get_bytes (w:=8) b1
      have b3:=get_bytes (w:=8) b2
      have g1:=refGet_ok y 4 (by decide) (by decide)
      have g2:=refGet_ok (y.get 4).1 8 (by decide) (by decide)
      have g3:=refGet_ok ((y.get 4).1.get 8).1 8 (by decide) (by decide)
      have g4:=refText_ok (((y.get 4).1.get 8).1.get 8).1 2048 b3
      clear b1 b2 b3
      unfold lrStep rdVer rdKey at hst
      unfold rdVer at hx
      dsimp only at hst hx hbi g1 g2 g3 g4
      generalize y.get 4=p1 at hst hx g1 g2 g3 g4
      generalize p1.1.get 8=p2 at hst hx g2 g3 g4
      generalize p2.1.get 8=p3 at hst hx g3 g4
      generalize p3.1.text 2048=p4 at hst hx g4
      conv=>whnf
      refine⟨[],[],_,_,_,_,g1,t3,cR ?_⟩
      conv=>whnf
      refine⟨[],[],_,_,_,_,g2,t3,cR ?_⟩
      conv=>whnf
      refine⟨[],[],_,_,_,_,g3,t3,cR ?_⟩
      conv=>whnf
      refine⟨[],[],_,_,_,_,g4,t3,cR ?_⟩
      conv=>whnf
      (first|refine⟨?_,?_⟩|refine nsplit ?_ ?_|refine bsplit ?_ ?_)<;>intro he<;>have hz_:=True.intro<;>clear hz_
      ·have he:p4.1.e≠0:=he
       have hAx:A.x=p4.1:=by rw[←hA,lrN_e (i:=i+1) (n:=n) (by rw[hx];exact he) h,hx]
       have hd:A.x.done=p4.1.e:=by rw[hAx];unfold InS.done;rw[if_pos he]
       rw[hd,if_pos he]at hC
       subst hC
       rw[if_neg he]at hS
       subst hS
       ((conv=>whnf)<;>repeat(with_reducible refine D1 ?_)<;>conv=>whnf)
       exact⟨[],[],_,_,_,t3,rfl,rfl,rfl⟩
      ·conv=>whnf
       cases ok
       ·rw[Bool.false_and]at hst
        conv=>whnf
        refine⟨by simp;omega,?_⟩
        conv=>whnf
        rw[hw]
        refine⟨n - (i+1),?_,by omega⟩
        refine⟨[],[some 0,some 1,some 2],?_⟩
        iterate 3 constructor
        refine⟨⟨?_,?_,?_⟩,⟨i+1,_,hst,h,rfl,rfl,rfl,rfl⟩⟩
        all_goals(repeat' first|exact LF|constructor)
        all_goals exact Lz.of (by rw[List.map_append];rfl)
       ·rw[Bool.true_and]at hst
        conv=>whnf
        (first|refine⟨?_,?_⟩|refine nsplit ?_ ?_|refine bsplit ?_ ?_)<;>intro hv<;>have hz_:=True.intro<;>clear hz_
        ·have hv:0<p2.2:=hv
         conv=>whnf
         (first|refine⟨?_,?_⟩|refine nsplit ?_ ?_|refine bsplit ?_ ?_)<;>intro hs<;>have hz_:=True.intro<;>clear hz_
         ·have hs:0<p3.2:=hs
          conv=>whnf
          (first|refine⟨?_,?_⟩|refine nsplit ?_ ?_|refine bsplit ?_ ?_)<;>intro hse<;>have hz_:=True.intro<;>clear hz_
          ·have hse:p3.2≤ee:=hse
           rw[decide_eq_true ⟨hv,hs,hse⟩,Bool.true_and]at hst
           conv=>whnf
           (first|refine⟨?_,?_⟩|refine nsplit ?_ ?_|refine bsplit ?_ ?_)<;>intro hz<;>have hz_:=True.intro<;>clear hz_
           ·obtain rfl:bs=[]:=by have hz:(((bs.map encBl).length:Nat):Int)=0:=hz
                                 rw[List.length_map]at hz;exact List.length_eq_zero_iff.1 (by omega)
            rw[show nextKey [] (IntKind.u32.wrap p1.2)=true from rfl]at hst
            conv=>whnf
            refine⟨by simp,?_⟩
            conv=>whnf
            rw[hw]
            refine⟨n - (i+1),?_,by omega⟩
            exact⟨[],[some 0,some 1,some 2],_,_,_,t3,⟨i+1,_,hst,h,rfl,rfl,rfl,rfl⟩⟩
           ·have hz:0<bs.length:=by have hz:¬(((bs.map encBl).length:Nat):Int)=0:=hz
                                    rw[List.length_map]at hz;omega
            rw[nextKey_at hz]at hst
            conv=>whnf
            rw[show IntKind.i64.wrap ((((bs.map encBl).length:Nat):Int) - 1)=((bs.length - 1:Nat):Int)from by rw[List.length_map,IntWalk.i64_in _ (by omega)];omega]
            refine⟨⟨by omega,by simp;omega⟩,encBl (bs[bs.length - 1]'(by omega)),by simp[show bs.length - 1<bs.length by omega],?_⟩
            conv=>whnf
            (first|refine⟨?_,?_⟩|refine nsplit ?_ ?_|refine bsplit ?_ ?_)<;>intro hk<;>have hz_:=True.intro<;>clear hz_
            ·have hk:(bs[bs.length - 1]'(by omega)).1<IntKind.u32.wrap p1.2:=hk
             rw[decide_eq_true hk]at hst
             conv=>whnf
             refine⟨by simp;omega,?_⟩
             conv=>whnf
             rw[hw]
             refine⟨n - (i+1),?_,by omega⟩
             refine⟨[],[some 0,some 1,some 2],?_⟩
             iterate 3 constructor
             refine⟨⟨?_,?_,?_⟩,⟨i+1,_,hst,h,rfl,rfl,rfl,rfl⟩⟩
             all_goals(repeat' first|exact LF|constructor)
             all_goals exact Lz.of (by rw[List.map_append];rfl)
            ·have hk:¬(bs[bs.length - 1]'(by omega)).1<IntKind.u32.wrap p1.2:=hk
             rw[decide_eq_false hk]at hst
             conv=>whnf
             refine⟨by simp;omega,?_⟩
             conv=>whnf
             rw[hw]
             refine⟨n - (i+1),?_,by omega⟩
             refine⟨[],[some 0,some 1,some 2],?_⟩
             iterate 3 constructor
             refine⟨⟨?_,?_,?_⟩,⟨i+1,_,hst,h,rfl,rfl,rfl,rfl⟩⟩
             all_goals(repeat' first|exact LF|constructor)
             all_goals exact Lz.of (by rw[List.map_append];rfl)
          ·have hse:¬p3.2≤ee:=hse
           rw[decide_eq_false (fun q=>hse q.2.2),Bool.false_and]at hst
           conv=>whnf
           refine⟨by simp;omega,?_⟩
           conv=>whnf
           rw[hw]
           refine⟨n - (i+1),?_,by omega⟩
           refine⟨[],[some 0,some 1,some 2],?_⟩
           iterate 3 constructor
           refine⟨⟨?_,?_,?_⟩,⟨i+1,_,hst,h,rfl,rfl,rfl,rfl⟩⟩
           all_goals(repeat' first|exact LF|constructor)
           all_goals exact Lz.of (by rw[List.map_append];rfl)
         ·have hs:¬0<p3.2:=hs
          rw[decide_eq_false (fun q=>hs q.2.1),Bool.false_and]at hst
          conv=>whnf
          refine⟨by simp;omega,?_⟩
          conv=>whnf
          rw[hw]
          refine⟨n - (i+1),?_,by omega⟩
          refine⟨[],[some 0,some 1,some 2],?_⟩
          iterate 3 constructor
          refine⟨⟨?_,?_,?_⟩,⟨i+1,_,hst,h,rfl,rfl,rfl,rfl⟩⟩
          all_goals(repeat' first|exact LF|constructor)
          all_goals exact Lz.of (by rw[List.map_append];rfl)
        ·have hv:¬0<p2.2:=hv
         rw[decide_eq_false (fun q=>hv q.1),Bool.false_and]at hst
         conv=>whnf
         refine⟨by simp;omega,?_⟩
         conv=>whnf
         rw[hw]
         refine⟨n - (i+1),?_,by omega⟩
         refine⟨[],[some 0,some 1,some 2],?_⟩
         iterate 3 constructor
         refine⟨⟨?_,?_,?_⟩,⟨i+1,_,hst,h,rfl,rfl,rfl,rfl⟩⟩
         all_goals(repeat' first|exact LF|constructor)
         all_goals exact Lz.of (by rw[List.map_append];rfl)
     ·obtain rfl:i=n:=by have h:¬(i:Int)<n:=h;omega
      rw[hq]at hA
      subst hA
      obtain⟨y,bs,ok⟩:=q
      dsimp only at hC
      conv=>whnf
      refine⟨[],[],_,_,_,_,refDone_ok y,t3,cR ?_⟩
      conv=>whnf
      (first|refine⟨?_,?_⟩|refine nsplit ?_ ?_|refine bsplit ?_ ?_)<;>intro he<;>have hz_:=True.intro<;>clear hz_
      ·have he:y.done≠0:=he
       rw[if_pos he]at hC
       subst hC
       rw[if_neg he]at hS
       subst hS
       conv=>whnf
       exact⟨[],[],_,_,_,t3,rfl,rfl,rfl⟩
      ·have he:¬y.done≠0:=he
       rw[if_neg he]at hC
       cases ok
       ·rw[if_neg (by simp)]at hC
        subst hC
        rw[if_neg (by decide)]at hS
        subst hS
        conv=>whnf
        exact⟨[],[],_,_,_,t3,rfl,rfl,rfl⟩
       ·rw[if_pos rfl]at hC
        subst hC
        rw[if_pos rfl]at hS
        subst hS
        conv=>whnf
        exact⟨[3],[],_,_,_,t3,rfl,rfl,rfl⟩
 ·rw[if_pos hc]at hC
  subst hC
  rw[if_neg hc]at hS
  subst hS
  rw[if_neg hc]
  (first|refine⟨?_,?_⟩|refine nsplit ?_ ?_|refine bsplit ?_ ?_)<;>intro e0<;>have hz_:=True.intro<;>clear hz_
  ·conv=>whnf
   exact⟨[],[],_,_,_,t3,rfl,rfl,rfl⟩
  ·exact absurd hc e0
end Go.M
namespace Go.M
open Go Go.Proofs
set_option maxRecDepth 100000
set_option maxHeartbeats 4000000
@[reducible] def verB (k:Int) (v:Vs):List Int:=bigL 4 k.toNat++bigL 8 v.ver.toNat++bigL 8 v.seq.toNat++(bigL 2 v.data.length++v.data)
@[reducible] def keyB (s:StS) (k:Int):List Int:=verB k (lastV (ofK s k))
@[reducible] def headB (e:Int) (rows:List RowS) (n:Nat):List Int:=bigL 8 e.toNat++rowsB rows++bigL 2 n
@[reducible] def picB (s:StS):List Int:=headB s.e (rowsT s.t) s.bs.length++(sortZ (keysA s.bs)).flatMap (keyB s)
structure PicOk (s:StS):Prop where
 ok:SOk s
 e:0≤s.e∧s.e≤18446744073709551615
 rows:∀r∈rowsT s.t,RowOk r
 n:s.bs.length≤300
 keys:∀k∈keysA s.bs,0≤k∧k≤4294967295
theorem PicOk.last {s:StS} (H:PicOk s) (k:Int):VOk (lastV (ofK s k)):=by
 rcases lastV_or (ofK s k)with h|h
 ·rw[h];exact⟨by decide,by decide,by decide⟩
 ·exact(ofK_ok H.ok k).1 _ h
theorem verB_len {k:Int} {v:Vs} (h:v.data.length≤2048):(verB k v).length≤2070:=by simp[verB,bigL_len];omega
theorem flatK_len {s:StS} (H:PicOk s) (l:List Int):(l.flatMap (keyB s)).length≤l.length*2070:=by
 induction l with
 |nil=>simp
 |cons k l ih=>
  rw[List.flatMap_cons,List.length_append,List.length_cons]
  have:=verB_len (k:=k) (H.last k).len
  show(verB k _).length+_≤_
  omega
@[reducible] def stPic (s:StS) (x:OutS):Ob:=[(0,stoC s),(1,mapT s.bs),(2,OutO x)]
theorem new1M_ok:VC EZ 91 0 [.s (.int .i64 1048576)] [] (RR (.ptr 0 0) 1 [(0,OutO ⟨[],1048576,0⟩)]):=new_ok 1048576
@[reducible] def xH (s:StS):OutS:=⟨headB s.e (rowsT s.t) s.bs.length,1048576,0⟩
theorem picture_ok (s:StS) (H:PicOk s):VC EZ 39 2 [.ptr 0 0] (stO s) (RR (.sl 1 (encU8 (picB s)) false) 2 (stO s)):=by
 have hn:=H.n
 have hkeys:∀k∈sortZ (keysA s.bs),0≤k∧k≤4294967295:=fun k m=>H.keys k (by unfold sortZ at m;exact List.mem_mergeSort.1 m)
 have hsl:(sortZ (keysA s.bs)).length=s.bs.length:=by unfold sortZ;rw[List.length_mergeSort,List.length_map]
 have hkk:=kkeys_ok s (by omega)
 have hrl:=rowsT_len s.t
 have hf26:=flat_len26 (rowsT s.t)
 have R0:Room ⟨[],1048576,0⟩ 800000:=⟨rfl,rfl,by decide⟩
 have R1:Room (OutS.add ⟨[],1048576,0⟩ (bigL 8 s.e.toNat)) 799992:=R0.add (by rw[bigL_len];decide)
 have R2:Room ((OutS.add ⟨[],1048576,0⟩ (bigL 8 s.e.toNat)).add (rowsB (rowsT s.t))) 799000:=R1.add (by unfold rowsB;rw[List.length_append,bigL_len,hf26];omega)
 have R3:Room (xH s) 700000:=by
  have:=R2.add (x:=bigL 2 s.bs.length) (j:=700000) (by rw[bigL_len];decide)
  exact this
 refine VC.enterR LZ (show EZ.func 39=some Tryz.f39 by kernel_rfl) (fun _ _=>rfl) rfl rfl [] ?_
 conv=>whnf
 refine⟨[],[],_,_,_,_,new1M_ok,t3,cR ?_⟩
 conv=>whnf
 refine⟨[],[some 2],_,_,_,_,numI_ok ⟨[],1048576,0⟩ s.e 8 800000 R0 (by decide) (by decide) (by decide) H.e.1 H.e.2 (by have:=H.e;omega),t3,cR ?_⟩
 conv=>whnf
 refine⟨[],[some 4,some 2],_,_,_,_,sput_ok s.t _ 799992 R1 (by decide) H.rows,t3,cR ?_⟩
 conv=>whnf
 conv=>whnf
 rw[List.length_map,show IntKind.u64.wrap ((s.bs.length:Nat):Int)=((s.bs.length:Nat):Int)from IntWalk.u64_in _ (by omega)]
 refine⟨[],[some 2],_,_,_,_,numI_ok _ ((s.bs.length:Nat):Int) 2 799000 R2 (by decide) (by decide) (by decide) (by omega) (by omega) (by rw[Int.toNat_natCast];omega),t3,cR ?_⟩
 conv=>whnf
 refine⟨[],[some 0,some 1],_,_,_,_,hkk,t3,cR ?_⟩
 conv=>whnf
 rw[show(((OutS.add ⟨[],1048576,0⟩ (bigL 8 s.e.toNat)).add (rowsB (rowsT s.t))).add (bigL 2 ((s.bs.length:Nat):Int).toNat))=xH s from by rw[Int.toNat_natCast];simp only[OutS.add,xH,headB,List.nil_append]]
 have hpic:picB s=((xH s).add ((sortZ (keysA s.bs)).flatMap (keyB s))).b:=rfl
 rw[hpic]
 have hfk:=fun n=>flatK_len H ((sortZ (keysA s.bs)).take n)
 generalize sortZ (keysA s.bs)=ks at hkeys hsl hfk
 refine⟨fun q f o c=>∃i:Nat,i≤ks.length∧q=ks.length - i∧c=3∧f=[(0,.ptr 0 0),(3,.ptr 2 0),(33,.sl 1 (ks.map encK) false),(34,.s (.int .i64 ks.length)),(35,.s (.int .i64 i))]∧o=stPic s ((xH s).add ((ks.take i).flatMap (keyB s))),⟨ks.length,?_⟩,?_⟩
 ·refine⟨[],[some 0,some 1,some 2],?_⟩
  iterate 3 constructor
  refine⟨⟨?_,?_,?_⟩,⟨0,Nat.zero_le _,rfl,rfl,rfl,rfl⟩⟩
  all_goals(repeat' first|exact LF|constructor)
  ·exact Lz.int (by rw[List.length_map])
  ·exact Lz.of (by simp)
 ·rintro q f1 o1 c1 ⟨i,hi,rfl,rfl,rfl,rfl⟩
  conv=>whnf
  (first|refine⟨?_,?_⟩|refine nsplit ?_ ?_|refine bsplit ?_ ?_)<;>intro h<;>have hz_:=True.intro<;>clear hz_
  ·have h:i<ks.length:=by have h:(i:Int)<ks.length:=h
                          omega
   have hx:=hkeys _ (List.getElem_mem h)
   have hfl:=hfk i
   rw[List.length_take,Nat.min_eq_left hi]at hfl
   have hlast:=last_ok s ks[i] H.ok
   have hv:=H.last ks[i]
   have hnx:=flat_next (keyB s) h
   rw[show keyB s ks[i]=verB ks[i] (lastV (ofK s ks[i]))from rfl]at hnx
   have R4:Room ((xH s).add ((ks.take i).flatMap (keyB s))) 3000:=R3.add (by omega)
   generalize hX:(xH s).add ((ks.take i).flatMap (keyB s))=X at R4
   generalize lastV (ofK s ks[i])=v at hlast hv hnx
   conv=>whnf
   refine idxI h ?_
   refine⟨[],[some 0,some 1],_,_,_,_,hlast,t3,cR ?_⟩
   conv=>whnf
   rw[show IntKind.u64.wrap ks[i]=ks[i]from IntWalk.u64_in _ (by omega)]
   refine⟨[],[some 2],_,_,_,_,numI_ok X ks[i] 4 3000 R4 (by decide) (by decide) (by decide) hx.1 (by omega) (by omega),t3,cR ?_⟩
   conv=>whnf
   have R5:=R4.add (x:=bigL 4 ks[i].toNat) (j:=2990) (by rw[bigL_len];decide)
   refine⟨[],[some 2],_,_,_,_,numI_ok _ v.ver 8 2990 R5 (by decide) (by decide) (by decide) hv.ver.1 hv.ver.2 (by have:=hv.ver;omega),t3,cR ?_⟩
   conv=>whnf
   have R6:=R5.add (x:=bigL 8 v.ver.toNat) (j:=2980) (by rw[bigL_len];decide)
   refine⟨[],[some 2],_,_,_,_,numI_ok _ v.seq 8 2980 R6 (by decide) (by decide) (by decide) hv.seq.1 hv.seq.2 (by have:=hv.seq;omega),t3,cR ?_⟩
   conv=>whnf
   have R7:=R6.add (x:=bigL 8 v.seq.toNat) (j:=2970) (by rw[bigL_len];decide)
   refine⟨[],[some 2],_,_,_,_,outText_ok _ v.data 2970 R7 (by have:=hv.len;omega) (by have:=hv.len;omega),t3,cR ?_⟩
   conv=>whnf
   rw[show((((X.add (bigL 4 ks[i].toNat)).add (bigL 8 v.ver.toNat)).add (bigL 8 v.seq.toNat)).add (bigL 2 v.data.length++v.data))=(xH s).add ((ks.take (i+1)).flatMap (keyB s))from by rw[hnx,←hX];simp only[OutS.add,verB,List.append_assoc]]
   refine⟨ks.length - (i+1),?_,by omega⟩
   exact⟨[],[some 0,some 1,some 2],_,_,_,t3,⟨i+1,h,rfl,rfl,rfl,rfl⟩⟩
  ·obtain rfl:i=ks.length:=by have h:¬(i:Int)<ks.length:=h;omega
   have hfl:=hfk ks.length
   rw[List.take_length]at hfl
   have R4:Room ((xH s).add (ks.flatMap (keyB s))) 3000:=R3.add (by omega)
   rw[List.take_length]
   generalize (xH s).add (ks.flatMap (keyB s))=X at R4
   have hd:=done_ok X R4.ok (by have:=R4.l;omega)
   rw[if_pos R4.e,R4.e]at hd
   conv=>whnf
   refine⟨[],[some 2],_,_,_,_,hd,t3,cR ?_⟩
   conv=>whnf
   (first|refine⟨?_,?_⟩|refine nsplit ?_ ?_|refine bsplit ?_ ?_)<;>intro h0<;>have hz_:=True.intro<;>clear hz_
   ·exact absurd rfl h0
   ·conv=>whnf
    exact⟨[],[some 0,some 1],_,_,_,t3,rfl,rfl,rfl⟩
end Go.M
namespace Go.M
open Go Go.Proofs
set_option maxRecDepth 100000
set_option maxHeartbeats 4000000
@[reducible] def stRB (l:List Int):Ob:=[(0,.arr 1 true (encU8 l))]
@[reducible] def blB (b:Int×List Vs):List Int:=verB b.1 (lastV b.2)
@[reducible] def picRf (r:RfS):List Int:=headB r.e r.rows r.bs.length++r.bs.flatMap blB
structure RPicOk (r:RfS):Prop where
 e:0≤r.e∧r.e≤18446744073709551615
 rn:r.rows.length≤6
 rows:∀x∈r.rows,RowOk x
 n:r.bs.length≤300
 bs:∀b∈r.bs,(0≤b.1∧b.1≤4294967295)∧VOk (lastV b.2)∧b.2.length<1000000
end Go.M
namespace Go.M
open Go Go.Proofs
set_option maxHeartbeats 1000000
theorem strict_ext {a b:List Int} (ha:a.Pairwise (· <·)) (hb:b.Pairwise (· <·)) (h:∀x,x∈a↔x∈b):a=b:=by
 induction a generalizing b with
 |nil=>cases b with
  |nil=>rfl
  |cons y b=>exact absurd ((h y).2 (by simp)) (by simp)
 |cons x a ih=>
  cases b with
  |nil=>exact absurd ((h x).1 (by simp)) (by simp)
  |cons y b=>
   rw[List.pairwise_cons]at ha hb
   have hxy:x=y:=by
    rcases List.mem_cons.1 ((h x).1 (by simp))with e|m
    ·exact e
    ·rcases List.mem_cons.1 ((h y).2 (by simp))with e|m2
     ·exact e.symm
     ·have:=hb.1 x m;have:=ha.1 y m2;omega
   subst hxy
   rw[ih ha.2 hb.2 fun z=>?_]
   constructor
   ·intro m
    rcases List.mem_cons.1 ((h z).1 (List.mem_cons_of_mem _ m))with rfl |m2
    ·exact absurd (ha.1 z m) (by omega)
    ·exact m2
   ·intro m
    rcases List.mem_cons.1 ((h z).2 (List.mem_cons_of_mem _ m))with rfl |m2
    ·exact absurd (hb.1 z m) (by omega)
    ·exact m2
theorem sortZ_up {l:List Int} (h:l.Nodup):(sortZ l).Pairwise (· <·):=by
 have hs:(sortZ l).Pairwise fun a b=>decide (a≤b)=true:=by
  unfold sortZ
  exact List.pairwise_mergeSort (fun a b c h1 h2=>by simp at*;omega) (fun a b=>by simp;omega) l
 have hn:=sortZ_nodup h
 refine(hs.and hn).imp fun {a b} h=>?_
 have:=h.1;have:=h.2
 simp at*
 omega
theorem Rel.keys {s:StS} {r:RfS} (H:Rel s r) (hn:(keysA s.bs).Nodup):sortZ (keysA s.bs)=r.bs.map (·.1):=by
 refine strict_ext (sortZ_up hn) (List.pairwise_map.2 H.up) fun k=>?_
 rw[sortZ_mem]
 have h1:=lookA_none (n:=k) (es:=s.bs)
 have h2:=lookA_none (n:=k) (es:=r.bs)
 rw[H.lk]at h2
 exact Decidable.not_iff_not.1 (h1.symm.trans h2)
theorem Rel.at_ {s:StS} {r:RfS} (H:Rel s r) {b:Int×List Vs} (m:b∈r.bs):ofK s b.1=b.2:=by
 have hl:=lookA_some (n:=b.1) (v:=b.2) (H.up.imp (fun h=>Int.ne_of_lt h)|>List.pairwise_map.2)
 rw[←H.of]
 unfold ofR
 rw[hl.2 m];rfl
end Go.M
namespace Go.M
open Go Go.Proofs
set_option maxRecDepth 100000
set_option maxHeartbeats 4000000
structure OpS where
 kind:Int
 next:Bool
 u:UpR
 key:Int
 ver:Int
 done:Int
@[reducible] def encO (o:OpS):List TV:=[.s (.int .i64 o.kind),.s (.bool o.next),.s (.int .u64 o.u.seq),.s (.int .i64 o.u.client),.s (.int .u64 o.u.num),.s (.int .i64 o.u.kind),.s (.int .u32 o.u.key),.s (.int .u64 o.u.ver),.sl 1 (encU8 o.u.data) false,.s (.int .u32 o.key),.s (.int .u64 o.ver),.s (.int .u64 o.done)]
def bigO (o:OpS):Bool:=decide (2100<o.u.data.length)
def farB (l:List OpS):Bool:=l.any bigO||decide (60<l.length)
theorem far_ok (l:List OpS) (hn:l.length≤9223372036854775807):VC EZ 37 0 [.sl 12 (l.map encO) false] [] (RR (.s (.bool (farB l))) 0 []):=by
 refine VC.enterR LZ (show EZ.func 37=some Tryz.f37 by kernel_rfl) (fun _ _=>rfl) rfl rfl [] ?_
 conv=>whnf
 refine⟨fun k f o c=>∃i:Nat,i≤l.length∧k=l.length - i∧(∀x∈l.take i,¬bigO x=true)∧c=0∧f=[(0,.sl 12 (l.map encO) false),(3,.s (.int .i64 i))]∧o=[],⟨l.length,?_⟩,?_⟩
 ·exact⟨[],[],_,_,_,t3,⟨0,Nat.zero_le _,rfl,by simp,rfl,rfl,rfl⟩⟩
 ·rintro k f1 o1 c1 ⟨i,hi,rfl,h0,rfl,rfl,rfl⟩
  conv=>whnf
  (first|refine⟨?_,?_⟩|refine nsplit ?_ ?_|refine bsplit ?_ ?_)<;>intro h<;>have hz_:=True.intro<;>clear hz_
  ·have h:i<l.length:=lenlt.1 h
   conv=>whnf
   refine idxI h ?_
   conv=>whnf
   (first|refine⟨?_,?_⟩|refine nsplit ?_ ?_|refine bsplit ?_ ?_)<;>intro hb<;>have hz_:=True.intro<;>clear hz_
   ·have hb:bigO l[i]=true:=decide_eq_true (by have hb:(2100:Int)<(((encU8 l[i].u.data).length:Nat):Int):=hb;rw[show(encU8 l[i].u.data).length=l[i].u.data.length from by unfold encU8;rw[List.length_map]]at hb;omega)
    conv=>whnf
    refine⟨[],[],?_⟩
    iterate 3 constructor
    refine⟨⟨?_,?_,?_⟩,rfl,rfl,rfl⟩
    all_goals(repeat' first|exact LF|constructor)
    exact Lz.of (bool_eq (by unfold farB;rw[List.any_eq_true.2 ⟨_,List.getElem_mem h,hb⟩];rfl))
   ·have hb:¬bigO l[i]=true:=fun q=>hb (by
     have q:=of_decide_eq_true q
     show(2100:Int)<(((encU8 l[i].u.data).length:Nat):Int)
     rw[show(encU8 l[i].u.data).length=l[i].u.data.length from by unfold encU8;rw[List.length_map]];omega)
    conv=>whnf
    refine⟨l.length - (i+1),?_,by omega⟩
    rw[show IntKind.i64.wrap ((i:Int)+1)=((i+1:Nat):Int)from by rw[IntWalk.i64_in _ (by omega)];omega]
    exact⟨[],[],_,_,_,t3,⟨i+1,h,rfl,take_all h h0 hb,rfl,rfl,rfl⟩⟩
  ·obtain rfl:i=l.length:=by have:=mt lenlt.2 h;omega
   rw[List.take_length]at h0
   conv=>whnf
   (first|refine⟨?_,?_⟩|refine nsplit ?_ ?_|refine bsplit ?_ ?_)<;>intro h6<;>have hz_:=True.intro<;>clear hz_
   all_goals
    conv=>whnf
    refine⟨[],[],?_⟩
    iterate 3 constructor
    refine⟨⟨?_,?_,?_⟩,rfl,rfl,rfl⟩
    all_goals(repeat' first|exact LF|constructor)
    exact Lz.of (bool_eq (by
     unfold farB
     rw[show l.any bigO=false from by rw[Bool.eq_false_iff];intro q;obtain⟨x,m,hx⟩:=List.any_eq_true.1 q;exact h0 x m hx]
     rw[List.length_map]at h6
     simp
     omega))
theorem row18_ok (r:RowS):VC EZ 45 0 [.agg (encR r)] [] (RR (.agg (encR r)) 0 []):=by
 refine VC.enterR LZ (show EZ.func 45=some Tryz.f45 by kernel_rfl) (fun _ _=>rfl) rfl rfl [] ?_
 conv=>whnf
 exact⟨[],[],_,_,_,t3,rfl,rfl,rfl⟩
theorem version18_ok (v:Vs):VC EZ 46 0 [.agg (encV v)] [] (RR (.agg (encV v)) 0 []):=by
 refine VC.enterR LZ (show EZ.func 46=some Tryz.f46 by kernel_rfl) (fun _ _=>rfl) rfl rfl [] ?_
 conv=>whnf
 exact⟨[],[],_,_,_,t3,rfl,rfl,rfl⟩
@[reducible] def uOf (s:StS) (o:OpS):UpR:=if o.next=true then {o.u with seq:=s.e+1}else o.u
@[reducible] def stepS (s:StS) (o:OpS):StS:=if o.kind=0 then(applyS s (uOf s o)).2 else trimS s o.done
@[reducible] def stepR (s:StS) (r:RfS) (o:OpS):RfS:=if o.kind=0 then(applyR r (uOf s o)).1.1 else {r with bs:=r.bs.map (keptOf o.done)}
end Go.M
namespace Go.M
open Go Go.Proofs
set_option maxRecDepth 100000
set_option maxHeartbeats 4000000
theorem Std.high {i:Int} {l:List RowS} (h:Std i l):∀r∈l.filter nz,r.client<i+l.length:=by
 induction l generalizing i with
 |nil=>simp
 |cons r l ih=>
  obtain⟨h1,_,h2⟩:=h
  intro x m
  rw[List.mem_filter]at m
  obtain⟨m,hx⟩:=m
  have hx:x.num≠0:=by simpa using hx
  rw[List.length_cons]
  rcases List.mem_cons.1 m with rfl |m
  ·rw[h1 hx];omega
  ·have:=ih h2 x (List.mem_filter.2 ⟨m,by simpa using hx⟩);omega
theorem getC_rows {t:TabS} (H:Std 1 (lstT t)) (c:Int):((getR (rowsT t) c).getD zeroR,(getR (rowsT t) c).isSome)=getC t c:=by
 unfold getC
 by_cases hc:1≤c∧c≤6
 ·rw[H.get hc.1 (by show c<1+6;omega),row_lst t hc]
  generalize (lstT t).getD (c - 1).toNat zeroR=r
  by_cases hz:r.num=0
  ·rw[if_pos hz,if_pos (.inr hz)];rfl
  ·rw[if_neg hz,if_neg (by rintro(q|q);exact q hc;exact hz q)];rfl
 ·rw[if_pos (.inl hc),getR_no fun r m=>by
   have h1:=H.low r m
   have h2:=H.high r m
   have h2:r.client<1+6:=h2
   omega]
  rfl
theorem same18_ok (s:StS) (r:RfS) (o:OpS) (n:Nat) (H:Rel s r) (I:SInv s n) (hn:n<400) (hnum:0≤o.u.num):VC EZ 42 2 [.ptr 0 0,.agg (encRf r),.agg (encO o)] (stO s) (RR (.s (.bool true)) 2 (stO s)):=by
 have hso:=I.ok (by omega)
 have hro:=H.ok I (by omega)
 have hlen:s.bs.length<900:=by have:=I.len;omega
 have g:=I.g o.key
 have hll:=I.gl o.key
 have hof:=rof_ok r o.key (by have:=hro.b;omega)
 rw[H.of]at hof
 have hrow:=krow_ok s o.u.client
 have hget:=rget_ok r.rows o.u.client (by have:=hro.w;omega)
 rw[H.rows]at hget
 have hgc:=getC_rows H.std o.u.client
 have hget:VC EZ 96 0 [rowsL (rowsT s.t),.s (.int .i64 o.u.client)] [] (RR (encG ((getR (rowsT s.t) o.u.client).getD zeroR,(getR (rowsT s.t) o.u.client).isSome)) 0 []):=hget
 rw[hgc]at hget
 have hj:=kjudge_ok s o.u.client o.u.num
 have hrj:=rjudge_ok r.rows o.u.client o.u.num (by have:=hro.w;omega)
 rw[H.rows,judge_rows H.std _ _ hnum]at hrj
 have hkk:=kkeys_ok s (by omega)
 rw[H.keys I.nd]at hkk
 have hlast:=last_ok s o.key hso
 have hrlast:=rlast_ok (ofK s o.key) (by omega)
 have hclean:=clean_ok s o.key o.done hso
 rw[clean_eq g]at hclean
 have hrclean:=rclean_ok (ofK s o.key) o.done (by omega)
 have hdirty:=dirty_ok s o.key o.done hso
 have hrdirty:=rdirty_ok (ofK s o.key) o.done (by omega)
 have hpick:=pick_ok s o.key o.ver o.done hso
 rw[pick_eq g]at hpick
 have hrpick:=rpick_ok (ofK s o.key) o.ver o.done (by omega)
 have h1:=(small_of g (lastV_or _)).2
 have h2:(cleanR (ofK s o.key) o.done).data.length<1000000:=(small_of g (by
  rcases lastV_or ((ofK s o.key).filter fun v=>decide (v.seq≤o.done))with h|h
  ·exact .inl h
  ·exact .inr (List.mem_filter.1 h).1)).2
 have h3:=(small_of g (pickR_or (ofK s o.key) o.ver o.done)).2
 generalize getC s.t o.u.client=gc at hrow hget
 generalize lastV (ofK s o.key)=vl at hlast hrlast h1
 generalize cleanR (ofK s o.key) o.done=vc at hclean hrclean h2
 generalize pickR (ofK s o.key) o.ver o.done=vp at hpick hrpick h3
 generalize (decide (0<(ofK s o.key).length∧o.done<(lastV (ofK s o.key)).seq))=bd at hdirty hrdirty
 obtain⟨x,ok⟩:=gc
 have hbl:r.bs.length<900:=hro.b
 have hrr:=H.rows
 have hre:=H.e
 obtain⟨re,rb,rr⟩:=r
 dsimp only at hrr hre hbl hkk
 subst hrr
 subst hre
 refine VC.enterR LZ (show EZ.func 42=some Tryz.f42 by kernel_rfl) (fun _ _=>rfl) rfl rfl [] ?_
 conv=>whnf
 refine⟨[],[],_,_,_,_,hof,t3,cR ?_⟩
 conv=>whnf
 refine⟨[],[some 0,some 1],_,_,_,_,hrow,t3,cR ?_⟩
 conv=>whnf
 refine⟨[],[],_,_,_,_,hget,t3,cR ?_⟩
 ((conv=>whnf)<;>repeat(with_reducible refine D1 ?_)<;>conv=>whnf)
 refine⟨[],[],_,_,_,_,row18_ok x,t3,cR ?_⟩
 conv=>whnf
 (first|refine⟨?_,?_⟩|refine nsplit ?_ ?_|refine bsplit ?_ ?_)<;>intro h8<;>have hz_:=True.intro<;>clear hz_
 ·exact absurd h8 (by simp[veq1])
 ·conv=>whnf
  rw[beq_self_eq_true]
  conv=>whnf
  refine⟨[],[some 0,some 1],_,_,_,_,end_ok s,t3,cR ?_⟩
  conv=>whnf
  (first|refine⟨?_,?_⟩|refine nsplit ?_ ?_|refine bsplit ?_ ?_)<;>intro h9<;>have hz_:=True.intro<;>clear hz_
  ·exact absurd rfl h9
  ·conv=>whnf
   refine⟨[],[some 0,some 1],_,_,_,_,hj,t3,cR ?_⟩
   conv=>whnf
   refine⟨[],[],_,_,_,_,hrj,t3,cR ?_⟩
   conv=>whnf
   (first|refine⟨?_,?_⟩|refine nsplit ?_ ?_|refine bsplit ?_ ?_)<;>intro h10<;>have hz_:=True.intro<;>clear hz_
   ·exact absurd rfl h10
   ·((conv=>whnf)<;>repeat(with_reducible refine D1 ?_)<;>conv=>whnf)
    refine⟨[],[some 0,some 1],_,_,_,_,hkk,t3,cR ?_⟩
    conv=>whnf
    (first|refine⟨?_,?_⟩|refine nsplit ?_ ?_|refine bsplit ?_ ?_)<;>intro h11<;>have hz_:=True.intro<;>clear hz_
    ·exact absurd (by simp) h11
    ·conv=>whnf
     refine⟨fun k f oo c=>∃i:Nat,i≤rb.length∧k=rb.length - i∧c=4∧f=[(0,.ptr 0 0),(4,.ptr 2 0),(5,.ptr 3 0),(7,vsL (ofK s o.key)),(12,.sl 1 ((rb.map (·.1)).map encK) false),(13,.s (.int .i64 i))]∧oo=[(0,stoC s),(1,mapT s.bs),(2,.cells (encRf ⟨s.e,rb,rowsT s.t⟩)),(3,.cells (encO o))],⟨rb.length,?_⟩,?_⟩
     ·exact⟨[],[some 0,some 1,some 2,some 3],_,_,_,t3,⟨0,Nat.zero_le _,rfl,rfl,rfl,rfl⟩⟩
     ·rintro k f1 o1 c1 ⟨i,hi,rfl,rfl,rfl,rfl⟩
      conv=>whnf
      (first|refine⟨?_,?_⟩|refine nsplit ?_ ?_|refine bsplit ?_ ?_)<;>intro h<;>have hz_:=True.intro<;>clear hz_
      ·have h:i<rb.length:=by have h:=lenlt.1 h
                              rwa [List.length_map]at h
       ((conv=>whnf)<;>repeat(with_reducible refine D1 ?_)<;>conv=>whnf)
       refine idxI (show i<(rb.map (·.1)).length by rw[List.length_map];exact h) ?_
       conv=>whnf
       refine idxI h ?_
       conv=>whnf
       (first|refine⟨?_,?_⟩|refine nsplit ?_ ?_|refine bsplit ?_ ?_)<;>intro hv<;>have hz_:=True.intro<;>clear hz_
       ·exact absurd (by simp) hv
       ·((conv=>whnf)<;>repeat(with_reducible refine D1 ?_)<;>conv=>whnf)
        refine⟨rb.length - (i+1),?_,by omega⟩
        exact⟨[],[some 0,some 1,some 2,some 3],_,_,_,t3,⟨i+1,h,rfl,rfl,rfl,rfl⟩⟩
      ·((conv=>whnf)<;>repeat(with_reducible refine D1 ?_)<;>conv=>whnf)
       refine⟨[],[some 0,some 1],_,_,_,_,hlast,t3,cR ?_⟩
       conv=>whnf
       refine⟨[],[],_,_,_,_,version18_ok vl,t3,cR ?_⟩
       conv=>whnf
       refine⟨[],[],_,_,_,_,hrlast,t3,cR ?_⟩
       conv=>whnf
       refine⟨[],[],_,_,_,_,vsame_ok vl h1,t3,cR ?_⟩
       conv=>whnf
       refine⟨[],[some 0,some 1],_,_,_,_,hclean,t3,cR ?_⟩
       conv=>whnf
       refine⟨[],[],_,_,_,_,version18_ok vc,t3,cR ?_⟩
       conv=>whnf
       refine⟨[],[],_,_,_,_,hrclean,t3,cR ?_⟩
       conv=>whnf
       refine⟨[],[],_,_,_,_,vsame_ok vc h2,t3,cR ?_⟩
       conv=>whnf
       refine⟨[],[some 0,some 1],_,_,_,_,hdirty,t3,cR ?_⟩
       conv=>whnf
       refine⟨[],[],_,_,_,_,hrdirty,t3,cR ?_⟩
       conv=>whnf
       rw[beq_self_eq_true]
       conv=>whnf
       refine⟨[],[some 0,some 1],_,_,_,_,hpick,t3,cR ?_⟩
       conv=>whnf
       refine⟨[],[],_,_,_,_,version18_ok vp,t3,cR ?_⟩
       conv=>whnf
       refine⟨[],[],_,_,_,_,hrpick,t3,cR ?_⟩
       conv=>whnf
       refine⟨[],[],_,_,_,_,vsame_ok vp h3,t3,cR ?_⟩
       ((conv=>whnf)<;>repeat(with_reducible refine D1 ?_)<;>conv=>whnf)
       exact⟨[],[some 0,some 1],_,_,_,t3,rfl,rfl,rfl⟩
end Go.M
namespace Go.M
open Go Go.Proofs
set_option maxRecDepth 100000
set_option maxHeartbeats 4000000
structure PInv (s:StS):Prop where
 keys:∀k,lookA s.bs k≠none→0≤k∧k≤4294967295
 rows:∀r∈lstT s.t,RowOk r
structure PlayI (s:StS) (r:RfS) (i:Nat):Prop where
 rel:Rel s r
 inv:SInv s i
 p:PInv s
 e:s.e≤i
theorem flatMap_eq {α β:Type} {f g:α→List β} {l:List α} (h:∀a∈l,f a=g a):l.flatMap f=l.flatMap g:=by
 induction l with
 |nil=>rfl
 |cons a l ih=>rw[List.flatMap_cons,List.flatMap_cons,h a (by simp),ih fun b m=>h b (by simp[m])]
theorem PlayI.same {s:StS} {r:RfS} {i:Nat} (H:PlayI s r i):picRf r=picB s:=by
 show headB r.e r.rows r.bs.length++r.bs.flatMap blB=headB s.e (rowsT s.t) s.bs.length++(sortZ (keysA s.bs)).flatMap (keyB s)
 rw[H.rel.e,H.rel.rows,H.rel.len,H.rel.keys H.inv.nd,List.flatMap_map]
 congr 1
 exact flatMap_eq fun b m=>by show verB b.1 (lastV b.2)=verB b.1 (lastV (ofK s b.1));rw[H.rel.at_ m]
end Go.M
namespace Go.M
open Go Go.Proofs
set_option maxRecDepth 100000
set_option maxHeartbeats 4000000
theorem rdN_front (q:RdS):∀n,rdN q (n+1)=rdN (rdStep q) n
 |0=>rfl
 |n+1=>by rw[rdN,rdN_front q n];rfl
structure Slot (c:Int) (r:RowS):Prop where
 z:r.num=0→r=zeroR
 n:r.num≠0→r.client=c∧fineB r=true∧RowOk r
structure TabOkS (t:TabS):Prop where
 s1:Slot 1 t.r1
 s2:Slot 2 t.r2
 s3:Slot 3 t.r3
 s4:Slot 4 t.r4
 s5:Slot 5 t.r5
 s6:Slot 6 t.r6
end Go.M
namespace Go.M
open Go Go.Proofs
set_option maxRecDepth 100000
set_option maxHeartbeats 4000000
theorem numL_inj:∀(n:Nat) (l m:List Int),l.length=n→m.length=n→n≤8→(∀x∈l,0≤x∧x<256)→(∀x∈m,0≤x∧x<256)→numL l=numL m→l=m
 |0,l,m,hl,hm,_,_,_,_=>by rw[List.length_eq_zero_iff.1 hl,List.length_eq_zero_iff.1 hm]
 |n+1,l,m,hl,hm,h8,bl,bm,h=>by
  rcases List.eq_nil_or_concat l with rfl |⟨a,x,rfl⟩
  ·cases hl
  rcases List.eq_nil_or_concat m with rfl |⟨b,y,rfl⟩
  ·cases hm
  have la:a.length=n:=by simp at hl;exact hl
  have lb:b.length=n:=by simp at hm;exact hm
  have ba:∀x∈a,0≤x∧x<256:=fun z hz=>bl z (by simp[hz])
  have bb:∀x∈b,0≤x∧x<256:=fun z hz=>bm z (by simp[hz])
  have hx:=bl x (by simp)
  have hy:=bm y (by simp)
  simp only[List.concat_eq_append]at h ⊢
  rw[numL_snoc,numL_snoc]at h
  have ha:=numL_lt a (by omega) ba
  have hb:=numL_lt b (by omega) bb
  have h7:(256:Int) ^ a.length≤256 ^ 7:=by
   have:(256:Nat) ^ a.length≤256 ^ 7:=Nat.pow_le_pow_right (by decide) (by omega)
   exact_mod_cast this
  have h7b:(256:Int) ^ b.length≤256 ^ 7:=by
   have:(256:Nat) ^ b.length≤256 ^ 7:=Nat.pow_le_pow_right (by decide) (by omega)
   exact_mod_cast this
  have ra:=numL_range a
  have rb:=numL_range b
  unfold numS at h
  have e7:(256:Int) ^ 7=72057594037927936:=by decide
  rw[e7]at h7 h7b
  rw[Int.emod_eq_of_lt (by omega) (by omega),Int.emod_eq_of_lt (by omega) (by omega)]at h
  have hab:numL a=numL b:=by omega
  have hxy:x=y:=by omega
  rw[numL_inj n a b la lb (by omega) ba bb hab,hxy]
theorem big_num (l:List Int) (h8:l.length≤8) (hb:∀x∈l,0≤x∧x<256):bigL l.length (numL l).toNat=l:=by
 have hr:=numL_range l
 have hlt:=numL_lt l h8 hb
 have hn:(numL l).toNat<256 ^ l.length:=by
  have:((numL l).toNat:Int)<((256 ^ l.length:Nat):Int):=by rw[Int.toNat_of_nonneg hr.1];exact_mod_cast hlt
  exact_mod_cast this
 refine numL_inj l.length _ l (bigL_len _ _) rfl h8 (bigL_byte _ _) hb ?_
 rw[numL_big _ _ h8 hn];omega
theorem next_inv {x:InS} {n:Nat} (h:(x.next n).1.e=0):x.e=0∧∃l,l.length=n∧x.b=l++(x.next n).1.b∧(x.next n).2=some l:=by
 unfold InS.next at h ⊢
 split at h
 ·rename_i q;exact absurd h q
 ·rename_i q
  split at h
  ·cases h
  ·rename_i q2
   rw[if_neg q,if_neg q2]
   exact⟨by omega,x.b.take n,by simp;omega,(List.take_append_drop n x.b).symm,rfl⟩
theorem upto_inv {x:InS} {w:Nat} {m:Int} (h8:w≤8) (hb:bytesB x) (h:(x.upto w m).1.e=0):x.e=0∧x.b=bigL w (x.upto w m).2.toNat++(x.upto w m).1.b∧0≤(x.upto w m).2∧(x.upto w m).2<256 ^ w:=by
 have hbs:=(InS.next_bytes (n:=w) hb).2
 have hin:=next_inv (x:=x) (n:=w)
 unfold InS.upto at h ⊢
 generalize x.next w=q at h hbs hin
 obtain⟨y,o⟩:=q
 cases o with
 |none=>
  obtain⟨_,l,_,_,hl⟩:=hin h
  cases hl
 |some l=>
  dsimp only at h hin ⊢
  split at h
  ·cases h
  ·rename_i hm
   obtain⟨h0,l',hl,hx,e⟩:=hin h
   cases e
   rw[if_neg hm]
   have hr:=numL_range l
   have hlt:=numL_lt l (by omega) (hbs l rfl)
   have hbn:=big_num l (by omega) (hbs l rfl)
   rw[hl]at hlt hbn
   exact⟨h0,by dsimp only;rw[hbn];exact hx,hr.1,hlt⟩
theorem get_inv {x:InS} {w:Nat} (h8:w≤8) (hb:bytesB x) (h:(x.get w).1.e=0):x.e=0∧x.b=bigL w (x.get w).2.toNat++(x.get w).1.b∧0≤(x.get w).2∧(x.get w).2<256 ^ w:=upto_inv h8 hb h
theorem text_inv {x:InS} {m:Int} (hb:bytesB x) (h:(x.text m).1.e=0):x.e=0∧x.b=(bigL 2 (x.text m).2.length++(x.text m).2)++(x.text m).1.b:=by
 have hbs:=(InS.next_bytes (n:=2) hb).2
 have hin:=next_inv (x:=x) (n:=2)
 unfold InS.text at h ⊢
 generalize x.next 2=q at h hbs hin
 obtain⟨y,o⟩:=q
 cases o with
 |none=>
  obtain⟨_,l,_,_,hl⟩:=hin h
  cases hl
 |some l=>
  dsimp only at h hin ⊢
  split at h
  ·cases h
  ·rename_i hm
   rw[if_neg hm]
   have h:(y.next (numL l).toNat).1.e=0:=h
   obtain⟨hy,d,hd,hyb,hdo⟩:=next_inv h
   obtain⟨h0,l',hl,hx,e⟩:=hin hy
   cases e
   have hbn:=big_num l (by omega) (hbs l rfl)
   rw[hl,←hd]at hbn
   refine⟨h0,?_⟩
   show x.b=(bigL 2 (((y.next (numL l).toNat).2).getD []).length++((y.next (numL l).toNat).2).getD [])++(y.next (numL l).toNat).1.b
   rw[hdo]
   show x.b=(bigL 2 d.length++d)++_
   rw[hbn,List.append_assoc,←hyb]
   exact hx
end Go.M
namespace Go.M
open Go Go.Proofs
set_option maxRecDepth 100000
set_option maxHeartbeats 4000000
@[reducible] def putsV (s:StS) (S:StS) (ks:List Int):StS:=ks.foldl (fun S k=>putS S k (lastV (ofK s k))) S
structure VNew (e:Int) (v:Vs):Prop where
 ok:VOk v
 ver:v.ver≠0
 seq:v.seq≠0
 le:v.seq≤e
end Go.M
namespace Go.M
open Go Go.Proofs
set_option maxRecDepth 100000
set_option maxHeartbeats 4000000
structure GInv (s:StS):Prop where
 tab:TabOkS s.t
 late:∀r∈rowsT s.t,r.seq≤s.e
 ne:∀k,lookA s.bs k≠some []
 len:s.bs.length≤192
theorem Slot.zero (c:Int):Slot c zeroR:=⟨fun _=>rfl,fun h=>absurd rfl h⟩
theorem GInv.zero:GInv ⟨0,[],zeroTab⟩:=⟨⟨Slot.zero 1,Slot.zero 2,Slot.zero 3,Slot.zero 4,Slot.zero 5,Slot.zero 6⟩,fun r m=>by simp[rowsT,nz]at m,fun k h=>(by cases h),by decide⟩
theorem fineB_iff {r:RowS} (h:fineB r=true):(1≤r.client∧r.client≤6)∧1≤r.num∧1≤r.seq∧0≤r.code∧r.code≤255:=of_decide_eq_true h
theorem TabOkS.put {t:TabS} (H:TabOkS t) {x:RowS} (hf:fineB x=true) (hx:RowOk x):TabOkS (t.put x.client x):=by
 have hc:=fineB_iff hf
 have hs:Slot x.client x:=⟨fun h=>by omega,fun _=>⟨rfl,hf,hx⟩⟩
 generalize x.client=c at hs hc
 rcases cases6 hc.1 with rfl |rfl |rfl |rfl |rfl |rfl
 ·exact⟨hs,H.s2,H.s3,H.s4,H.s5,H.s6⟩
 ·exact⟨H.s1,hs,H.s3,H.s4,H.s5,H.s6⟩
 ·exact⟨H.s1,H.s2,hs,H.s4,H.s5,H.s6⟩
 ·exact⟨H.s1,H.s2,H.s3,hs,H.s5,H.s6⟩
 ·exact⟨H.s1,H.s2,H.s3,H.s4,hs,H.s6⟩
 ·exact⟨H.s1,H.s2,H.s3,H.s4,H.s5,hs⟩
structure Sib (s r:StS):Prop where
 e:s.e=r.e
 t:s.t=r.t
 len:s.bs.length=r.bs.length
 lk:∀k,lookA s.bs k=none↔lookA r.bs k=none
 last:∀k,lastV (ofK s k)=lastV (ofK r k)
end Go.M
namespace Go.M
open Go Go.Proofs
set_option maxRecDepth 100000
set_option maxHeartbeats 4000000
theorem rdRow_inv {x:InS} (hb:bytesB x) (h:(rdRow x).1.e=0):x.e=0∧x.b=rowB (rdRow x).2++(rdRow x).1.b∧(0≤(rdRow x).2.client∧(rdRow x).2.client<256)∧(0≤(rdRow x).2.code∧(rdRow x).2.code<256):=by
 unfold rdRow at h ⊢
 dsimp only at h ⊢
 have b1:=get_bytes (w:=1) hb
 have b2:=get_bytes (w:=8) b1
 have b3:=get_bytes (w:=8) b2
 have b4:=get_bytes (w:=1) b3
 have i5:=get_inv (w:=8) (by decide) b4 h
 have i4:=get_inv (w:=1) (by decide) b3 i5.1
 have i3:=get_inv (w:=8) (by decide) b2 i4.1
 have i2:=get_inv (w:=8) (by decide) b1 i3.1
 have i1:=get_inv (w:=1) (by decide) hb i2.1
 clear h
 generalize ((((x.get 1).1.get 8).1.get 8).1.get 1).1.get 8=p5 at i5
 generalize (((x.get 1).1.get 8).1.get 8).1.get 1=p4 at i4 i5
 generalize ((x.get 1).1.get 8).1.get 8=p3 at i3 i4
 generalize (x.get 1).1.get 8=p2 at i2 i3
 generalize x.get 1=p1 at i1 i2
 have e1:(256:Int) ^ 1=256:=by decide
 have r1:=i1.2.2
 have r4:=i4.2.2
 rw[e1]at r1 r4
 have w1:IntKind.i64.wrap p1.2=p1.2:=IntWalk.i64_in _ (by omega)
 have w4:IntKind.i64.wrap p4.2=p4.2:=IntWalk.i64_in _ (by omega)
 refine⟨i1.1,?_,?_,?_⟩
 ·rw[i1.2.1,i2.2.1,i3.2.1,i4.2.1,i5.2.1,w1,w4]
  simp only[rowB,List.append_assoc]
 ·rw[w1];exact r1
 ·rw[w4];exact r4
structure Upto (t:TabS) (c:Int):Prop where
 tab:TabOkS t
 hi:∀r∈rowsT t,r.client≤c
theorem rows_put {t:TabS} {c:Int} (H:Upto t c) {x:RowS} (hf:fineB x=true) (hx:RowOk x) (hc:c<x.client):rowsT (t.put x.client x)=rowsT t++[x]∧Upto (t.put x.client x) x.client:=by
 have hfi:=fineB_iff hf
 have hnz:nz x=true:=by show decide (x.num≠0)=true;exact decide_eq_true (by omega)
 have key:rowsT (t.put x.client x)=rowsT t++[x]:=by
  obtain⟨r1,r2,r3,r4,r5,r6⟩:=t
  have G:=H.hi
  have z:∀(k:Int) (r:RowS),Slot k r→r∈lstT ⟨r1,r2,r3,r4,r5,r6⟩→x.client≤k→nz r=false:=fun k r S m hk=>by
   cases hq:nz r
   ·rfl
   ·have hne:r.num≠0:=of_decide_eq_true hq
    have h1:=(S.n hne).1
    have:=G r (List.mem_filter.2 ⟨m,hq⟩)
    omega
  have T:=H.tab
  have z1:=z 1 r1 T.s1 (by simp)
  have z2:=z 2 r2 T.s2 (by simp)
  have z3:=z 3 r3 T.s3 (by simp)
  have z4:=z 4 r4 T.s4 (by simp)
  have z5:=z 5 r5 T.s5 (by simp)
  have z6:=z 6 r6 T.s6 (by simp)
  clear z G T H
  generalize x.client=k at hc z1 z2 z3 z4 z5 z6 hfi
  rcases cases6 hfi.1 with rfl |rfl |rfl |rfl |rfl |rfl
  ·show [x,r2,r3,r4,r5,r6].filter nz=[r1,r2,r3,r4,r5,r6].filter nz++[x]
   simp only[List.filter_cons,z1 (by decide),z2 (by decide),z3 (by decide),z4 (by decide),z5 (by decide),z6 (by decide),hnz,List.filter_nil];simp
  ·show [r1,x,r3,r4,r5,r6].filter nz=[r1,r2,r3,r4,r5,r6].filter nz++[x]
   simp only[List.filter_cons,z2 (by decide),z3 (by decide),z4 (by decide),z5 (by decide),z6 (by decide),hnz,List.filter_nil];cases nz r1<;>simp
  ·show [r1,r2,x,r4,r5,r6].filter nz=[r1,r2,r3,r4,r5,r6].filter nz++[x]
   simp only[List.filter_cons,z3 (by decide),z4 (by decide),z5 (by decide),z6 (by decide),hnz,List.filter_nil]
   cases nz r1<;>cases nz r2<;>simp
  ·show [r1,r2,r3,x,r5,r6].filter nz=[r1,r2,r3,r4,r5,r6].filter nz++[x]
   simp only[List.filter_cons,z4 (by decide),z5 (by decide),z6 (by decide),hnz,List.filter_nil]
   cases nz r1<;>cases nz r2<;>cases nz r3<;>simp
  ·show [r1,r2,r3,r4,x,r6].filter nz=[r1,r2,r3,r4,r5,r6].filter nz++[x]
   simp only[List.filter_cons,z5 (by decide),z6 (by decide),hnz,List.filter_nil]
   cases nz r1<;>cases nz r2<;>cases nz r3<;>cases nz r4<;>simp
  ·show [r1,r2,r3,r4,r5,x].filter nz=[r1,r2,r3,r4,r5,r6].filter nz++[x]
   simp only[List.filter_cons,z6 (by decide),hnz,List.filter_nil]
   cases nz r1<;>cases nz r2<;>cases nz r3<;>cases nz r4<;>cases nz r5<;>simp
 refine⟨key,H.tab.put hf hx,fun r m=>?_⟩
 rw[key]at m
 rcases List.mem_append.1 m with m|m
 ·have:=H.hi r m;omega
 ·rw[List.mem_singleton]at m;rw[m];exact Int.le_refl _
end Go.M
namespace Go.M
open Go Go.Proofs
set_option maxRecDepth 100000
set_option maxHeartbeats 4000000
theorem rdStep_ok {q:RdS} (h:(rdStep q).ok=true):q.ok=true∧q.last<(rdRow q.x).2.client∧setC q.t (rdRow q.x).2=0∧rdStep q=⟨(rdRow q.x).1,setT q.t (rdRow q.x).2,(rdRow q.x).2.client,true⟩:=by
 unfold rdStep at h ⊢
 dsimp only at h ⊢
 split at h
 ·rename_i hc
  have hs:setC q.t (rdRow q.x).2=0:=of_decide_eq_true h
  rw[if_pos hc,decide_eq_true hs]
  exact⟨hc.1,hc.2,hs,rfl⟩
 ·cases h
theorem setC_zero {t:TabS} {x:RowS} (h:setC t x=0):fineB x=true∧setT t x=t.put x.client x:=by
 refine⟨?_,if_pos h⟩
 unfold setC at h
 split at h
 ·cases h
 ·rename_i q;simpa using q
theorem rdN_inv:∀(n:Nat) (q:RdS),bytesB q.x→Upto q.t q.last→(rdN q n).x.e=0→(rdN q n).ok=true→
 q.ok=true∧q.x.e=0∧∃rows:List RowS,rows.length=n∧q.x.b=rows.flatMap rowB++(rdN q n).x.b∧rowsT (rdN q n).t=rowsT q.t++rows∧Upto (rdN q n).t (rdN q n).last
 |0,q,_,hU,he,hok=>⟨hok,he,[],rfl,by simp[rdN],by simp[rdN],hU⟩
 |n+1,q,hb,hU,he,hok=>by
  rw[rdN_front]at he hok ⊢
  have hq':(rdStep q).ok=true:=by
   cases hq:(rdStep q).ok
   ·have:∀m,(rdN (rdStep q) m).ok=false:=fun m=>by
     induction m with
     |zero=>exact hq
     |succ m ih=>
      show(rdStep (rdN (rdStep q) m)).ok=false
      cases hz:(rdStep (rdN (rdStep q) m)).ok
      ·rfl
      ·rw[(rdStep_ok hz).1]at ih;cases ih
    rw[this n]at hok;cases hok
   ·rfl
  obtain⟨h1,h2,h3,h4⟩:=rdStep_ok hq'
  obtain⟨hf,hset⟩:=setC_zero h3
  have hfi:=fineB_iff hf
  have hrow:RowOk (rdRow q.x).2:=⟨by omega,get_rng,get_rng,hfi.2.2.2,get_rng⟩
  obtain⟨hk,hU2⟩:=rows_put hU hf hrow h2
  rw[h4,hset]at he hok ⊢
  obtain⟨_,he2,rows,hl,hxb,hrows,hU3⟩:=rdN_inv n ⟨(rdRow q.x).1,q.t.put (rdRow q.x).2.client (rdRow q.x).2,(rdRow q.x).2.client,true⟩ (rdRow_bytes hb) hU2 he hok
  obtain⟨e1,e2,_,_⟩:=rdRow_inv hb he2
  refine⟨h1,e1,(rdRow q.x).2::rows,by rw[List.length_cons,hl],?_,?_,hU3⟩
  ·rw[List.flatMap_cons,List.append_assoc,←hxb];exact e2
  ·rw[hrows]
   show rowsT (q.t.put (rdRow q.x).2.client (rdRow q.x).2)++rows=_
   rw[hk,List.append_assoc];rfl
theorem Upto.zero:Upto zeroTab 0:=⟨GInv.zero.tab,fun r m=>by simp[rowsT,nz]at m⟩
theorem rdAll_inv {x:InS} (hb:bytesB x) (h:rdC x=0):x.e=0∧(rdAll x).x.e=0∧x.b=rowsB (rowsT (rdAll x).t)++(rdAll x).x.b∧TabOkS (rdAll x).t:=by
 have hA:(rdAll x).x.e=0∧(rdAll x).ok=true:=by
  unfold rdC at h
  split at h
  ·rename_i q;exact absurd h q
  ·rename_i q
   split at h
   ·rename_i q2;exact⟨by omega,q2⟩
   ·cases h
 obtain⟨_,h1,rows,hl,hxb,hrows,hU⟩:=rdN_inv (x.upto 1 6).2.toNat (rd0 x) (InS.upto_bytes hb) Upto.zero hA.1 hA.2
 have hu:=upto_inv (w:=1) (m:=6) (by decide) hb h1
 refine⟨hu.1,hA.1,?_,hU.tab⟩
 have hz:rowsT zeroTab=[]:=by simp[rowsT,nz]
 have hrows:rowsT (rdAll x).t=rowsT zeroTab++rows:=hrows
 rw[hz,List.nil_append]at hrows
 rw[hrows,hu.2.1]
 show bigL 1 (x.upto 1 6).2.toNat++(x.upto 1 6).1.b=(bigL 1 rows.length++rows.flatMap rowB)++_
 rw[hl,List.append_assoc]
 congr 1
end Go.M
namespace Go.M
open Go Go.Proofs
set_option maxRecDepth 100000
set_option maxHeartbeats 4000000
theorem putA_end {α:Type} {es:List (Int×α)} {k:Int} {v:α} (h:lookA es k=none):putA es k v=es++[(k,v)]:=by
 induction es with
 |nil=>rfl
 |cons e es ih=>
  obtain⟨j,w⟩:=e
  have h:(if k=j then some w else lookA es k)=none:=h
  show(if k=j then(k,v)::es else(j,w)::putA es k v)=_
  by_cases hj:k=j
  ·rw[if_pos hj]at h;cases h
  ·rw[if_neg hj]at h
   rw[if_neg hj,ih h];rfl
theorem rdVer_inv {x:InS} (hb:bytesB x) (h:(rdVer x).1.e=0):x.e=0∧x.b=verB (rdVer x).2.1 (rdVer x).2.2++(rdVer x).1.b∧(0≤(rdVer x).2.1∧(rdVer x).2.1≤4294967295):=by
 unfold rdVer at h ⊢
 dsimp only at h ⊢
 have b1:=get_bytes (w:=4) hb
 have b2:=get_bytes (w:=8) b1
 have b3:=get_bytes (w:=8) b2
 have i4:=text_inv (m:=2048) b3 h
 have i3:=get_inv (w:=8) (by decide) b2 i4.1
 have i2:=get_inv (w:=8) (by decide) b1 i3.1
 have i1:=get_inv (w:=4) (by decide) hb i2.1
 clear h
 generalize (((x.get 4).1.get 8).1.get 8).1.text 2048=p4 at i4
 generalize ((x.get 4).1.get 8).1.get 8=p3 at i3 i4
 generalize (x.get 4).1.get 8=p2 at i2 i3
 generalize x.get 4=p1 at i1 i2
 have e1:(256:Int) ^ 4=4294967296:=by decide
 have r1:=i1.2.2
 rw[e1]at r1
 have w1:IntKind.i64.wrap p1.2=p1.2:=IntWalk.i64_in _ (by omega)
 refine⟨i1.1,?_,?_⟩
 ·rw[i1.2.1,i2.2.1,i3.2.1,i4.2,w1]
  simp only[verB,List.append_assoc]
 ·rw[w1];omega
theorem ldStep_ok {q:LdS} (h:(ldStep q).ok=true):q.ok=true∧q.last<(rdVer q.x).2.1∧(rdVer q.x).2.2.seq≤q.s.e∧putE (ofK q.s (IntKind.u32.wrap (rdVer q.x).2.1)) (rdVer q.x).2.2=0∧ldStep q=⟨(rdVer q.x).1,putS q.s (IntKind.u32.wrap (rdVer q.x).2.1) (rdVer q.x).2.2,(rdVer q.x).2.1,true⟩:=by
 unfold ldStep at h ⊢
 dsimp only at h ⊢
 split at h
 ·rename_i hc
  have hs:=of_decide_eq_true h
  rw[if_pos hc,decide_eq_true hs]
  exact⟨hc.1,hc.2.1,hc.2.2,hs,rfl⟩
 ·cases h
theorem ldN_false {q:LdS} (h:q.ok=false):∀m,(ldN q m).ok=false
 |0=>h
 |m+1=>by
  show(ldStep (ldN q m)).ok=false
  cases hz:(ldStep (ldN q m)).ok
  ·rfl
  ·have:=(ldStep_ok hz).1;rw[ldN_false h m]at this;cases this
@[reducible] def kvB (p:Int×Vs):List Int:=verB p.1 p.2
@[reducible] def one (p:Int×Vs):Int×List Vs:=(p.1,[p.2])
theorem ldN_inv:∀(n:Nat) (q:LdS),bytesB q.x→(∀k,q.last<k→lookA q.s.bs k=none)→(ldN q n).x.e=0→(ldN q n).ok=true→
 q.ok=true∧q.x.e=0∧∃l:List (Int×Vs),l.length=n∧q.x.b=l.flatMap kvB++(ldN q n).x.b∧(ldN q n).s={q.s with bs:=q.s.bs++l.map one}∧(∀p∈l,q.last<p.1)∧l.Pairwise (fun a b=>a.1<b.1)
 |0,q,_,_,he,hok=>⟨hok,he,[],rfl,by simp[ldN],by simp[ldN],by simp,.nil⟩
 |n+1,q,hb,hlk,he,hok=>by
  have front:ldN q (n+1)=ldN (ldStep q) n:=by
   have:∀n,ldN q (n+1)=ldN (ldStep q) n:=fun n=>by
    induction n with
    |zero=>rfl
    |succ n ih=>rw[ldN,ih];rfl
   exact this n
  rw[front]at he hok ⊢
  have hq':(ldStep q).ok=true:=by
   cases hq:(ldStep q).ok
   ·rw[ldN_false hq n]at hok;cases hok
   ·rfl
  obtain⟨h1,h2,h3,h4,h5⟩:=ldStep_ok hq'
  have hxe:(ldN (ldStep q) n).x.e=0→(ldStep q).x.e=0:=fun z=>by
   cases Int.decEq (ldStep q).x.e 0 with
   |isTrue q=>exact q
   |isFalse hne=>
    have:=ldN_e (q:=ldStep q) (i:=0) (n:=n) hne (Nat.zero_le _)
    rw[this]at z;exact z
  have hse:=hxe he
  rw[ldStep_x]at hse
  obtain⟨e1,e2,hk⟩:=rdVer_inv hb hse
  have hw:IntKind.u32.wrap (rdVer q.x).2.1=(rdVer q.x).2.1:=IntWalk.u32_in _ (by omega)
  have hnone:=hlk _ h2
  rw[hw]at h4 h5
  rw[ofK_none hnone]at h4
  have hput:putS q.s (rdVer q.x).2.1 (rdVer q.x).2.2={q.s with bs:=q.s.bs++[((rdVer q.x).2.1,[(rdVer q.x).2.2])]}:=by
   unfold putS
   rw[ofK_none hnone,show putB [] (rdVer q.x).2.2=[(rdVer q.x).2.2]from by unfold putB;rw[if_pos h4];rfl,putA_end hnone]
  rw[h5]at he hok ⊢
  obtain⟨_,_,l,hl,hxb,hs,hlo,hup⟩:=ldN_inv n ⟨(rdVer q.x).1,putS q.s (rdVer q.x).2.1 (rdVer q.x).2.2,(rdVer q.x).2.1,true⟩ (rdVer_bytes hb) (fun k hk=>by
   show lookA (putA q.s.bs _ _) k=none
   have hk:(rdVer q.x).2.1<k:=hk
   rw[lookA_put,if_neg (by omega)]
   exact hlk k (by omega)) he hok
  refine⟨h1,e1,((rdVer q.x).2.1,(rdVer q.x).2.2)::l,by rw[List.length_cons,hl],?_,?_,?_,?_⟩
  ·rw[List.flatMap_cons,List.append_assoc,←hxb];exact e2
  ·rw[hs,hput,List.map_cons]
   show(⟨q.s.e,(q.s.bs++[_])++_,q.s.t⟩:StS)=⟨q.s.e,q.s.bs++(_::_),q.s.t⟩
   rw[List.append_assoc];rfl
  ·intro p m
   rcases List.mem_cons.1 m with rfl |m
   ·exact h2
   ·have:=hlo p m;show q.last<p.1;have:(rdVer q.x).2.1<p.1:=this;omega
  ·exact List.pairwise_cons.2 ⟨hlo,hup⟩
end Go.M
namespace Go.M
open Go Go.Proofs
set_option maxRecDepth 100000
set_option maxHeartbeats 4000000
theorem load_back {b:List Int} (hb:∀x∈b,0≤x∧x<256) (h:loadC b=0):picB (ldA b).s=b∧(ldA b).s.e=(ldS0 b).e∧(ldA b).s.t=(ldS0 b).t∧TabOkS (ldA b).s.t:=by
 have hb0:bytesB ⟨b,0⟩:=hb
 have hb1:bytesB (ldX1 b):=get_bytes hb0
 have hb2:bytesB (rdAll (ldX1 b)).x:=rdN_bytes (InS.upto_bytes hb1) _
 have hc:rdC (ldX1 b)=0∧(ldA b).x.done=0∧(ldA b).ok=true:=by
  unfold loadC at h
  split at h
  ·rename_i q;exact absurd h q
  ·rename_i q
   split at h
   ·rename_i q2;exact absurd h q2
   ·rename_i q2
    split at h
    ·rename_i q3;exact⟨Decidable.not_not.1 q,Decidable.not_not.1 q2,q3⟩
    ·cases h
 obtain⟨h1,h2,h3⟩:=hc
 have hd:(ldA b).x.e=0∧(ldA b).x.b=[]:=by
  unfold InS.done at h2
  split at h2
  ·rename_i q;exact absurd h2 q
  ·rename_i q
   split at h2
   ·cases h2
   ·rename_i q2;exact⟨Decidable.not_not.1 q,List.length_eq_zero_iff.1 (by omega)⟩
 obtain⟨_,he,l,hl,hxb,hs,hlo,hup⟩:=ldN_inv (ldX3 b).2.toNat (ld0 b) (InS.upto_bytes hb2) (fun k _=>rfl) hd.1 h3
 have hu:=upto_inv (w:=2) (m:=192) (by decide) hb2 he
 obtain⟨r1,r2,r3,r4⟩:=rdAll_inv hb1 h1
 have hg:=get_inv (w:=8) (by decide) hb0 r1
 have hA:(ldA b).s=⟨(ldS0 b).e,l.map one,(ldS0 b).t⟩:=hs
 have hxb:(ldX3 b).1.b=l.flatMap kvB++(ldA b).x.b:=hxb
 rw[hd.2,List.append_nil]at hxb
 have hbb:b=bigL 8 (ldS0 b).e.toNat++(rowsB (rowsT (ldS0 b).t)++(bigL 2 (ldX3 b).2.toNat++l.flatMap kvB)):=by
  rw[←hxb,←hu.2.1,←r3]
  exact hg.2.1
 have hkeys:keysA (l.map one)=l.map (·.1):=by unfold keysA;rw[List.map_map];rfl
 have hup2:(l.map (·.1)).Pairwise (· <·):=List.pairwise_map.2 hup
 have hnd:(keysA (l.map one)).Nodup:=by rw[hkeys];exact hup2.imp (fun h=>Int.ne_of_lt h)
 have hsort:sortZ (keysA (l.map one))=l.map (·.1):=by
  rw[hkeys]at hnd ⊢
  exact strict_ext (sortZ_up hnd) hup2 fun k=>sortZ_mem
 refine⟨?_,by rw[hA],by rw[hA],by rw[hA];exact r4⟩
 rw[hA]
 show headB (ldS0 b).e (rowsT (ldS0 b).t) (l.map one).length++(sortZ (keysA (l.map one))).flatMap (keyB ⟨(ldS0 b).e,l.map one,(ldS0 b).t⟩)=b
 rw[hsort,List.flatMap_map,List.length_map,hl]
 refine Eq.trans ?_ hbb.symm
 rw[headB,List.append_assoc,List.append_assoc]
 congr 3
 refine flatMap_eq fun p m=>?_
 show verB p.1 (lastV (ofK ⟨(ldS0 b).e,l.map one,(ldS0 b).t⟩ p.1))=verB p.1 p.2
 rw[ofK_some (show lookA (l.map one) p.1=some [p.2]from(lookA_some (n:=p.1) (v:=[p.2]) hnd).2 (List.mem_map_of_mem m))]
 rw[show lastV [p.2]=p.2 from lastV_end [] p.2]
end Go.M
namespace Go.M
open Go Go.Proofs
set_option maxRecDepth 100000
set_option maxHeartbeats 4000000
structure RdSim (a:RdS) (b:RdL):Prop where
 x:a.x=b.x
 ok:a.ok=b.ok
 g:a.ok=true→rowsT a.t=b.rows∧Upto a.t a.last∧(b.rows.getLast?.map (·.client)).getD 0=a.last
theorem Upto.free {t:TabS} {c d:Int} (H:Upto t c) (hd:c<d):(t.row d).num=0:=by
 obtain⟨r1,r2,r3,r4,r5,r6⟩:=t
 have T:=H.tab
 have key:∀(k:Int) (r:RowS),Slot k r→r∈lstT ⟨r1,r2,r3,r4,r5,r6⟩→k=d→r.num=0:=fun k r S m hk=>by
  cases Int.decEq r.num 0 with
  |isTrue q=>exact q
  |isFalse q=>
   have h1:=(S.n q).1
   have:=H.hi r (List.mem_filter.2 ⟨m,decide_eq_true q⟩)
   omega
 unfold TabS.row
 split
 ·rename_i h;exact key 1 r1 T.s1 (by simp) h.symm
 split
 ·rename_i h;exact key 2 r2 T.s2 (by simp) h.symm
 split
 ·rename_i h;exact key 3 r3 T.s3 (by simp) h.symm
 split
 ·rename_i h;exact key 4 r4 T.s4 (by simp) h.symm
 split
 ·rename_i h;exact key 5 r5 T.s5 (by simp) h.symm
 split
 ·rename_i h;exact key 6 r6 T.s6 (by simp) h.symm
 rfl
theorem getLast_app {α:Type} (l:List α) (x:α):(l++[x]).getLast? =some x:=by simp
theorem nextB_lt {rows:List RowS} {r:RowS} {last:Int} (h:(rows.getLast?.map (·.client)).getD 0=last):(last<r.client→nextB rows r=true)∧(¬last<r.client→rows=[]∧r.client≤0∨nextB rows r=false):=by
 unfold nextB
 cases hl:rows.getLast? with
 |none=>
  rw[hl]at h
  have h:(0:Int)=last:=h
  exact⟨fun _=>rfl,fun q=>.inl ⟨List.getLast?_eq_none_iff.1 hl,by omega⟩⟩
 |some p=>
  rw[hl]at h
  have h:p.client=last:=h
  exact⟨fun q=>decide_eq_true (by omega),fun q=>.inr (decide_eq_false (by omega))⟩
theorem RdSim.step {a:RdS} {b:RdL} (H:RdSim a b):RdSim (rdStep a) (rlStep b):=by
 have hx:(rdStep a).x=(rlStep b).x:=by rw[rdStep_x,rlStep_x,H.x]
 have hok:=H.ok
 cases ha:a.ok
 ·rw[ha]at hok
  have e1:(rdStep a).ok=false:=by
   cases hz:(rdStep a).ok
   ·rfl
   ·rw[(rdStep_ok hz).1]at ha;cases ha
  have e2:(rlStep b).ok=false:=by unfold rlStep;rw[←hok];rfl
  exact⟨hx,by rw[e1,e2],fun q=>by rw[e1]at q;cases q⟩
 ·rw[ha]at hok
  obtain⟨hr,hU,hl⟩:=H.g ha
  have hl2:=nextB_lt (r:=(rdRow a.x).2) hl
  have e2:(rlStep b).ok=(fineB (rdRow a.x).2&&nextB b.rows (rdRow a.x).2):=by unfold rlStep;rw[←hok,H.x];rfl
  by_cases hlt:a.last<(rdRow a.x).2.client
  ·have hn:=hl2.1 hlt
   have e1:rdStep a=⟨(rdRow a.x).1,setT a.t (rdRow a.x).2,(rdRow a.x).2.client,decide (setC a.t (rdRow a.x).2=0)⟩:=if_pos ⟨ha,hlt⟩
   rw[hn,Bool.and_true]at e2
   cases hf:fineB (rdRow a.x).2
   ·rw[hf]at e2
    have hs:setC a.t (rdRow a.x).2=1:=if_pos hf
    have e3:(rdStep a).ok=false:=by rw[e1];exact decide_eq_false (by rw[hs];decide)
    exact⟨hx,by rw[e2,e3],fun q=>by rw[e3]at q;cases q⟩
   ·rw[hf]at e2
    have hfi:=fineB_iff hf
    have hfree:=hU.free hlt
    have hj:judgeC a.t (rdRow a.x).2.client (rdRow a.x).2.num=0:=by
     unfold judgeC
     rw[if_neg (by omega),if_pos (by omega)]
    have hs:setC a.t (rdRow a.x).2=0:=by
     unfold setC
     rw[if_neg (by rw[hf];decide),if_neg (by rw[hj];decide)]
    have ht:setT a.t (rdRow a.x).2=a.t.put (rdRow a.x).2.client (rdRow a.x).2:=if_pos hs
    have hrow:RowOk (rdRow a.x).2:=⟨by omega,get_rng,get_rng,hfi.2.2.2,get_rng⟩
    obtain⟨hk,hU2⟩:=rows_put hU hf hrow hlt
    have e3:(rdStep a).ok=true:=by rw[e1];exact decide_eq_true hs
    refine⟨hx,by rw[e2,e3],fun _=>?_⟩
    rw[e1,ht]
    refine⟨?_,hU2,?_⟩
    ·show rowsT (a.t.put _ _)=b.rows++[(rdRow b.x).2]
     rw[hk,hr,H.x]
    ·show(((b.rows++[(rdRow b.x).2]).getLast?).map (·.client)).getD 0=_
     rw[getLast_app,H.x];rfl
  ·have e1:(rdStep a).ok=false:=by
    cases hz:(rdStep a).ok
    ·rfl
    ·exact absurd (rdStep_ok hz).2.1 hlt
   have e3:(rlStep b).ok=false:=by
    rw[e2]
    rcases hl2.2 hlt with⟨_,q⟩|q
    ·cases hf:fineB (rdRow a.x).2
     ·rfl
     ·have:=fineB_iff hf;omega
    ·rw[q,Bool.and_false]
   exact⟨hx,by rw[e1,e3],fun q=>by rw[e1]at q;cases q⟩
theorem rd_sim (x:InS):RdSim (rdAll x) (rlAll x):=by
 have h0:RdSim (rd0 x) (rl0 x):=⟨rfl,rfl,fun _=>⟨by simp[rowsT,nz],Upto.zero,rfl⟩⟩
 have:∀n,RdSim (rdN (rd0 x) n) (rlN (rl0 x) n):=fun n=>by
  induction n with
  |zero=>exact h0
  |succ n ih=>exact ih.step
 exact this _
theorem rl_same (x:InS):(rlAll x).x=(rdAll x).x∧rlC x=rdC x∧(rdC x=0→(rlAll x).rows=rowsT (rdAll x).t):=by
 have H:=rd_sim x
 refine⟨H.x.symm,by unfold rlC rdC;rw[H.x,H.ok],fun h=>?_⟩
 have hA:(rdAll x).ok=true:=by
  unfold rdC at h
  split at h
  ·rename_i q;exact absurd h q
  ·split at h
   ·rename_i q2;exact q2
   ·cases h
 exact(H.g hA).1.symm
end Go.M
namespace Go.M
open Go Go.Proofs
set_option maxRecDepth 100000
set_option maxHeartbeats 4000000
structure One (e:Int) (p:Int×List Vs) (v:Vs):Prop where
 is:p.2=[v]
 ver:1≤v.ver∧v.ver≤18446744073709551615
 seq:1≤v.seq∧v.seq≤e
 len:v.data.length≤2048
structure LdSim (e:Int) (t:TabS) (a:LdS) (b:LdR):Prop where
 x:a.x=b.x
 ok:a.ok=b.ok
 se:a.s.e=e
 st:a.s.t=t
 g:a.ok=true→a.s.bs=b.bs∧(∀p∈b.bs,(0≤p.1∧p.1≤4294967295)∧p.1≤a.last∧∃v,One e p v)∧b.bs.Pairwise (fun p q=>p.1<q.1)∧(b.bs.getLast?.map (·.1)).getD (-1)=a.last
theorem key_rng {x:InS} (hb:bytesB x):0≤(x.get 4).2∧(x.get 4).2≤4294967295:=by
 have hr:=@get_rng x 4
 cases Int.decEq (x.get 4).1.e 0 with
 |isTrue q=>
  have h:=(get_inv (w:=4) (by decide) hb q).2.2
  have e1:(256:Int) ^ 4=4294967296:=by decide
  rw[e1]at h
  omega
 |isFalse q=>
  have:(x.get 4).2=0:=by
   unfold InS.get InS.upto at q ⊢
   generalize hn:x.next 4=p at q ⊢
   obtain⟨y,o⟩:=p
   cases o with
   |none=>rfl
   |some l=>
    dsimp only at q ⊢
    split
    ·rfl
    ·rename_i h
     rw[if_neg h]at q
     exfalso
     apply q
     unfold InS.next at hn
     split at hn
     ·cases hn
     ·split at hn
      ·cases hn
      ·cases hn;rfl
  omega
theorem nextKey_lt {bs:List (Int×List Vs)} {k last:Int} (hk:0≤k) (h:(bs.getLast?.map (·.1)).getD (-1)=last):nextKey bs k=decide (last<k):=by
 unfold nextKey
 cases hl:bs.getLast? with
 |none=>
  rw[hl]at h
  have h:(-1:Int)=last:=h
  exact(decide_eq_true (by omega)).symm
 |some p=>
  rw[hl]at h
  have h:p.1=last:=h
  show decide (p.1<k)=_
  rw[h]
theorem LdSim.step {e:Int} {t:TabS} {a:LdS} {b:LdR} (H:LdSim e t a b) (hb:bytesB a.x):LdSim e t (ldStep a) (lrStep e b):=by
 have hx:(ldStep a).x=(lrStep e b).x:=by rw[ldStep_x,H.x];rfl
 have he:(ldStep a).s.e=e:=by
  unfold ldStep;dsimp only;split<;>exact H.se
 have ht:(ldStep a).s.t=t:=by
  unfold ldStep;dsimp only;split<;>exact H.st
 have hok:=H.ok
 cases ha:a.ok
 ·rw[ha]at hok
  have e1:(ldStep a).ok=false:=by
   cases hz:(ldStep a).ok
   ·rfl
   ·rw[(ldStep_ok hz).1]at ha;cases ha
  have e2:(lrStep e b).ok=false:=by unfold lrStep;rw[←hok];rfl
  exact⟨hx,by rw[e1,e2],he,ht,fun q=>by rw[e1]at q;cases q⟩
 ·rw[ha]at hok
  obtain⟨hbs,hp,hpw,hl⟩:=H.g ha
  have hkr:=key_rng hb
  have hk1:(rdVer a.x).2.1=(a.x.get 4).2:=IntWalk.i64_in _ (by omega)
  have hk2:rdKey b.x=(a.x.get 4).2:=by rw[←H.x];exact IntWalk.u32_in _ (by omega)
  have hk3:IntKind.u32.wrap (rdVer a.x).2.1=(a.x.get 4).2:=by rw[hk1];exact IntWalk.u32_in _ (by omega)
  have hv:=rdVer_ok a.x
  have e2:(lrStep e b).ok=(decide (0<(rdVer a.x).2.2.ver∧0<(rdVer a.x).2.2.seq∧(rdVer a.x).2.2.seq≤e)&&decide (a.last<(a.x.get 4).2)):=by
   unfold lrStep
   rw[←hok,hk2,nextKey_lt hkr.1 hl,H.x];rfl
  have e2b:(lrStep e b).bs=b.bs++[((a.x.get 4).2,[(rdVer a.x).2.2])]:=by
   unfold lrStep
   rw[hk2,H.x]
  generalize (a.x.get 4).2=k at hkr hk1 hk2 hk3 e2 e2b
  have hnone:a.last<k→lookA a.s.bs k=none:=fun hlt=>by
   rw[hbs]
   refine lookA_none.2 fun m=>?_
   obtain⟨p,mp,rfl⟩:=List.mem_map.1 m
   have:=(hp p mp).2.1
   omega
  have hput:putE [] (rdVer a.x).2.2=if(rdVer a.x).2.2.ver=0∨(rdVer a.x).2.2.seq=0 then 1 else 0:=by
   have:=hv.len
   unfold putE
   rw[if_neg (by omega)]
   split
   ·rfl
   ·rw[if_neg (by simp)]
  by_cases hc:0<(rdVer a.x).2.2.ver∧0<(rdVer a.x).2.2.seq∧(rdVer a.x).2.2.seq≤e∧a.last<k
  ·obtain⟨c1,c2,c3,c4⟩:=hc
   rw[decide_eq_true ⟨c1,c2,c3⟩,decide_eq_true c4]at e2
   have hn:=hnone c4
   have hz0:¬((rdVer a.x).2.2.ver=0∨(rdVer a.x).2.2.seq=0):=by omega
   have e1:ldStep a=⟨(rdVer a.x).1,putS a.s k (rdVer a.x).2.2,k,true⟩:=by
    unfold ldStep
    dsimp only
    rw[hk3,hk1,if_pos ⟨ha,c4,by rw[H.se];exact c3⟩,ofK_none hn,hput,if_neg hz0]
    rfl
   refine⟨hx,by rw[e1,e2];rfl,he,ht,fun _=>?_⟩
   rw[e1,e2b]
   have hps:(putS a.s k (rdVer a.x).2.2).bs=a.s.bs++[(k,[(rdVer a.x).2.2])]:=by
    show putA a.s.bs k (putB (ofK a.s k) _)=_
    rw[ofK_none hn,show putB [] (rdVer a.x).2.2=[(rdVer a.x).2.2]from by unfold putB;rw[hput,if_neg hz0,if_pos rfl];rfl,putA_end hn]
   refine⟨by rw[hps,hbs],fun p m=>?_,?_,by rw[getLast_app];rfl⟩
   ·rcases List.mem_append.1 m with m|m
    ·obtain⟨q1,q2,v,q3⟩:=hp p m
     exact⟨q1,by show p.1≤k;omega,v,q3⟩
    ·rw[List.mem_singleton]at m
     subst m
     exact⟨hkr,Int.le_refl _,_,rfl,⟨by omega,hv.ver.2⟩,⟨by omega,c3⟩,hv.len⟩
   ·rw[List.pairwise_append]
    refine⟨hpw,List.pairwise_singleton _ _,fun p mp q mq=>?_⟩
    rw[List.mem_singleton]at mq
    subst mq
    have:=(hp p mp).2.1
    show p.1<k
    omega
  ·have e1:(ldStep a).ok=false:=by
    cases hz:(ldStep a).ok
    ·rfl
    ·obtain⟨_,c4,c3,c1,_⟩:=ldStep_ok hz
     rw[hk1]at c4
     rw[H.se]at c3
     rw[hk3,ofK_none (hnone c4),hput]at c1
     split at c1
     ·cases c1
     ·have:=hv.ver.1
      have:=hv.seq.1
      exact absurd ⟨by omega,by omega,c3,c4⟩ hc
   have e3:(lrStep e b).ok=false:=by
    rw[e2,Bool.and_eq_false_iff]
    by_cases h4:a.last<k
    ·exact .inl (decide_eq_false fun q=>hc ⟨q.1,q.2.1,q.2.2,h4⟩)
    ·exact .inr (decide_eq_false h4)
   exact⟨hx,by rw[e1,e3],he,ht,fun q=>by rw[e1]at q;cases q⟩
theorem LdSim.all {e:Int} {t:TabS} {a:LdS} {b:LdR} (H:LdSim e t a b) (hb:bytesB a.x):∀n,LdSim e t (ldN a n) (lrN e b n)
 |0=>H
 |n+1=>(H.all hb n).step (ldN_bytes hb n)
theorem Slot.std {c:Int} {r:RowS} (S:Slot c r):(r.num≠0→r.client=c)∧0≤r.num:=⟨fun h=>(S.n h).1,by
 cases Int.decEq r.num 0 with
 |isTrue q=>omega
 |isFalse q=>have:=fineB_iff (S.n q).2.1;omega⟩
theorem TabOkS.std {t:TabS} (H:TabOkS t):Std 1 (lstT t):=⟨H.s1.std.1,H.s1.std.2,H.s2.std.1,H.s2.std.2,H.s3.std.1,H.s3.std.2,H.s4.std.1,H.s4.std.2,H.s5.std.1,H.s5.std.2,H.s6.std.1,H.s6.std.2,trivial⟩
theorem fine_rows (s:StS) (rows:List RowS) (h:rowsT s.t=rows):fineS s=goodB rows s.e:=by
 subst h
 unfold fineS goodB
 rw[List.all_eq_not_any_not]
 congr 2
 funext r
 unfold lateB
 rw[←decide_not]
 exact decide_eq_decide.2 ⟨fun q=>by omega,fun q=>by omega⟩
theorem load_same {b:List Int} (hb:∀x∈b,0≤x∧x<256):lrC b=loadC b∧(loadC b=0→Rel (ldA b).s (lrS b)∧SInv (ldA b).s 1∧PicOk (ldA b).s∧picB (ldA b).s=b):=by
 have hb0:bytesB ⟨b,0⟩:=hb
 have hb1:bytesB (ldX1 b):=get_bytes hb0
 have hb2:bytesB (rdAll (ldX1 b)).x:=rdN_bytes (InS.upto_bytes hb1) _
 obtain⟨sx,sc,sr⟩:=rl_same (ldX1 b)
 by_cases hc:rdC (ldX1 b)=0
 ·have hrows:=sr hc
  have hx3:lrX3 b=ldX3 b:=by show(rlAll (ldX1 b)).x.upto 2 192=(rdAll (ldX1 b)).x.upto 2 192;rw[sx]
  have h0:LdSim (lrE b) (rdAll (ldX1 b)).t (ld0 b) (lr0 b):=⟨by show(ldX3 b).1=(lrX3 b).1;rw[hx3],by
   show fineS (ldS0 b)=goodB (rlAll (ldX1 b)).rows (lrE b)
   exact fine_rows _ _ hrows.symm,rfl,rfl,fun _=>⟨rfl,fun p (m:p∈[])=>(by cases m),.nil,rfl⟩⟩
  have hS:LdSim (lrE b) (rdAll (ldX1 b)).t (ldA b) (lrA b):=by
   have:=h0.all (InS.upto_bytes hb2) (ldX3 b).2.toNat
   show LdSim _ _ (ldN (ld0 b) (ldX3 b).2.toNat) (lrN (lrE b) (lr0 b) (lrX3 b).2.toNat)
   rw[hx3]
   exact this
  have hcc:lrC b=loadC b:=by
   unfold lrC loadC
   rw[sc,hc,hS.x,hS.ok]
  refine⟨hcc,fun h=>?_⟩
  obtain⟨k1,k2,k3,k4⟩:=load_back hb h
  have hok:(ldA b).ok=true:=by
   unfold loadC at h
   rw[if_neg (by rw[hc];decide)]at h
   split at h
   ·rename_i q;exact absurd h q
   ·split at h
    ·assumption
    ·cases h
  obtain⟨g1,g2,g3,g4⟩:=hS.g hok
  have hSr:lrS b=⟨lrE b,(lrA b).bs,(rlAll (ldX1 b)).rows⟩:=if_pos (hcc.trans h)
  have hkeys:(keysA (ldA b).s.bs).Pairwise (· <·):=by
   rw[g1]
   exact List.pairwise_map.2 g3
  have hnd:(keysA (ldA b).s.bs).Nodup:=hkeys.imp fun h=>Int.ne_of_lt h
  have hof:∀k,ofK (ldA b).s k=[]∨∃p∈(lrA b).bs,∃v,One (lrE b) p v∧ofK (ldA b).s k=[v]:=fun k=>by
   cases hk:lookA (ldA b).s.bs k with
   |none=>exact .inl (ofK_none hk)
   |some vs=>
    have hm:=(lookA_some hnd).1 hk
    rw[g1]at hm
    obtain⟨_,_,v,hv⟩:=g2 _ hm
    exact .inr ⟨_,hm,v,hv,by rw[ofK_some hk];exact hv.is⟩
  have hE:(ldA b).s.e=lrE b:=hS.se
  have hEr:0≤lrE b∧lrE b≤18446744073709551615:=get_rng
  have hlen:(ldA b).s.bs.length≤192:=by
   rw[g1]
   show(lrN (lrE b) (lr0 b) (lrX3 b).2.toNat).bs.length≤192
   rw[lrN_len]
   have:=InS.upto_le (s:=(rlAll (ldX1 b)).x) (n:=2) (m:=192) (by decide)
   have:(lrX3 b).2≤192:=this
   show 0+_≤192
   omega
  have I:SInv (ldA b).s 1:=⟨by rw[hE];exact hEr,hnd,by omega,fun k=>by
   rcases hof k with h|⟨p,_,v,hv,h⟩
   ·rw[h];exact .nil _
   ·rw[h,hE]
    exact⟨List.pairwise_singleton _ _,fun w m=>by rw[List.mem_singleton]at m;subst m;exact⟨hv.ver,hv.seq,hv.len⟩⟩,fun k=>by
   rcases hof k with h|⟨p,_,v,hv,h⟩<;>rw[h]<;>simp⟩
  refine⟨⟨by rw[hSr,hE],by rw[hSr];exact g3,fun k=>by rw[hSr,g1],by rw[hSr,g1],k4.std,by
   rw[hSr,hS.st];exact hrows⟩,I,⟨I.ok (by decide),I.e,fun r m=>?_,by omega,fun k m=>?_⟩,k1⟩
  ·have T:=k4
   generalize (ldA b).s.t=tt at T m
   obtain⟨r1,r2,r3,r4,r5,r6⟩:=tt
   obtain⟨m1,m2⟩:=List.mem_filter.1 m
   have m2:r.num≠0:=of_decide_eq_true m2
   have m1:r=r1∨r=r2∨r=r3∨r=r4∨r=r5∨r=r6:=by simpa using m1
   rcases m1 with rfl |rfl |rfl |rfl |rfl |rfl
   ·exact(T.s1.n m2).2.2
   ·exact(T.s2.n m2).2.2
   ·exact(T.s3.n m2).2.2
   ·exact(T.s4.n m2).2.2
   ·exact(T.s5.n m2).2.2
   ·exact(T.s6.n m2).2.2
  ·rw[g1]at m
   obtain⟨p,mp,rfl⟩:=List.mem_map.1 m
   exact(g2 p mp).1
 ·have e1:loadC b=rdC (ldX1 b):=if_pos hc
  have e2:lrC b=rlC (ldX1 b):=if_pos (by rw[sc];exact hc)
  exact⟨by rw[e1,e2,sc],fun q=>absurd (e1.symm.trans q) hc⟩
end Go.M
namespace Go.M
open Go Go.Proofs
set_option maxRecDepth 100000
set_option maxHeartbeats 4000000
theorem loads_ok (b:List Int) (hb:∀x∈b,0≤x∧x<256) (o:OpS) (hu:UOk o.u):VC EZ 10 0 [.sl 1 (encU8 b) false,.agg (encO o)] [] (RR (.s (.bool true)) 0 []):=by
 have hf:=far_ok [o] (by simp)
 obtain⟨hsame,hcase⟩:=load_same hb
 refine VC.enterR LZ (show EZ.func 10=some Tryz.f10 by kernel_rfl) (fun _ _=>rfl) rfl rfl [] ?_
 conv=>whnf
 (first|refine⟨?_,?_⟩|refine nsplit ?_ ?_|refine bsplit ?_ ?_)<;>intro h0<;>have hz_:=True.intro<;>clear hz_
 ·conv=>whnf
  refine⟨[],[],_,_,_,_,awake18_ok,t3,cR ?_⟩
  conv=>whnf
  exact⟨[],[],_,_,_,t3,rfl,rfl,rfl⟩
 ·have hl:b.length<1000000:=by
   have h0:¬(4000:Int)<(((encU8 b).length:Nat):Int):=h0
   rw[show(encU8 b).length=b.length from by unfold encU8;rw[List.length_map]]at h0
   omega
  have hload:=load_ok b hl hb
  have hrl:=rload_ok b hl hb
  rw[hsame]at hrl
  conv=>whnf
  refine⟨[1],[],_,_,_,_,hf,t3,cR ?_⟩
  conv=>whnf
  (first|refine⟨?_,?_⟩|refine nsplit ?_ ?_|refine bsplit ?_ ?_)<;>intro h1<;>have hz_:=True.intro<;>clear hz_
  ·conv=>whnf
   refine⟨[],[],_,_,_,_,awake18_ok,t3,cR ?_⟩
   conv=>whnf
   exact⟨[],[],_,_,_,t3,rfl,rfl,rfl⟩
  ·conv=>whnf
   by_cases hc:loadC b=0
   ·obtain⟨R,I,P,hpic⟩:=hcase hc
    have hsm:=same18_ok (ldA b).s (lrS b) o 1 R I (by decide) hu.num.1
    have hp:=picture_ok (ldA b).s P
    have hsb:=same_ok b hl
    rw[hpic]at hp
    rw[if_pos hc]at hload
    rw[hc]at hrl
    generalize (ldA b).s=s at hload hsm hp
    generalize lrS b=r at hrl hsm
    refine⟨[],[],_,_,_,_,hload,t3,cR ?_⟩
    conv=>whnf
    refine⟨[],[],_,_,_,_,hrl,t3,cR ?_⟩
    conv=>whnf
    (first|refine⟨?_,?_⟩|refine nsplit ?_ ?_|refine bsplit ?_ ?_)<;>intro h2<;>have hz_:=True.intro<;>clear hz_
    ·exact absurd rfl h2
    conv=>whnf
    (first|refine⟨?_,?_⟩|refine nsplit ?_ ?_|refine bsplit ?_ ?_)<;>intro h3<;>have hz_:=True.intro<;>clear hz_
    ·exact absurd rfl h3
    conv=>whnf
    refine⟨[],[some 2,some 3],_,_,_,_,hsm,t3,cR ?_⟩
    conv=>whnf
    refine⟨[],[some 2,some 3],_,_,_,_,hp,t3,cR ?_⟩
    conv=>whnf
    refine⟨[],[],_,_,_,_,hsb,t3,cR ?_⟩
    conv=>whnf
    refine⟨[],[],_,_,_,_,awake18_ok,t3,cR ?_⟩
    conv=>whnf
    exact⟨[],[],_,_,_,t3,rfl,rfl,rfl⟩
   ·rw[if_neg hc]at hload
    generalize loadC b=code at hload hrl hc
    generalize lrS b=r at hrl
    refine⟨[],[],_,_,_,_,hload,t3,cR ?_⟩
    conv=>whnf
    refine⟨[],[],_,_,_,_,hrl,t3,cR ?_⟩
    conv=>whnf
    (first|refine⟨?_,?_⟩|refine nsplit ?_ ?_|refine bsplit ?_ ?_)<;>intro h2<;>have hz_:=True.intro<;>clear hz_
    ·exact absurd rfl h2
    conv=>whnf
    (first|refine⟨?_,?_⟩|refine nsplit ?_ ?_|refine bsplit ?_ ?_)<;>intro h3<;>have hz_:=True.intro<;>clear hz_
    ·conv=>whnf
     refine⟨[],[],_,_,_,_,awake18_ok,t3,cR ?_⟩
     conv=>whnf
     exact⟨[],[],_,_,_,t3,rfl,rfl,rfl⟩
    ·exact absurd hc h3
end Go.M
