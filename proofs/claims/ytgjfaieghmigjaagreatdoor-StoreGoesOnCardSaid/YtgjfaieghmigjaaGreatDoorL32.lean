/-
  Part 32 of the library that the proof leans on.
-/
import Derived.Test.YtgjfaieghmigjaaGreatDoorL22
import Derived.Test.YtgjfaieghmigjaaGreatDoorL31
import Derived.Test.YtgjfaieghmigjaaGreatDoorL30
namespace Go.M
open Go Go.Proofs
set_option maxRecDepth 1000000
theorem orcZ (base B:Nat):OrcOk Tryz.prog EZ base B:=by
 refine orcX_ok tabsB0 (fun g hg=>?_) (fun base B=>orcY_ok mixed0 base B) base B
 simp only[List.mem_cons,List.not_mem_nil,or_false]at hg
 rcases hg with rfl |rfl
 ·exact awake18
 ·exact awake22
theorem awake18_ok:VC EZ 26 0 [] [] (RR (.s (.bool true)) 0 []):=VC.mono (R:=fun r o c=>r= .s (.bool true)∧o=[]∧c=0)
 (VC.awakeX (g:=26) (aw:=[26,21]) tabsB0 (by show(Tryz.prog.funcs[26]?).isSome=true;kernel_rfl) rfl) fun _ _ _ h=>⟨h.1,h.2.2,h.2.1⟩
end Go.M
namespace Go.M
open Go Go.Proofs
set_option maxRecDepth 100000
set_option maxHeartbeats 4000000
@[reducible] def st2 (s t:StS):Ob:=[(0,stoC s),(1,mapT s.bs),(2,.cells [.s (.int .u64 t.e),.mp 3,.own (tabT t.t)]),(3,mapT t.bs)]
end Go.M
namespace Go.M
open Go Go.Proofs
set_option maxRecDepth 100000
set_option maxHeartbeats 4000000
theorem lastV_or (vs:List Vs):lastV vs=zeroVs∨lastV vs∈vs:=by
 rcases two_ends vs with rfl |⟨ws,w,rfl⟩
 ·exact .inl lastV_nil
 ·rw[lastV_end];exact .inr (by simp)
@[reducible] def askT (k v d:Int):List TV:=[.s (.int .u32 k),.s (.int .u64 v),.s (.int .u64 d)]
@[reducible] def stA (s:StS) (r:RfS) (k v d:Int):Ob:=[(0,.cells (askT k v d)),(1,.cells [.s (.int .u64 s.e),.mp 2,.own (tabT s.t)]),(2,mapT s.bs),(3,.cells (encRf r))]
end Go.M
namespace Go.M
open Go Go.Proofs
set_option maxRecDepth 100000
set_option maxHeartbeats 4000000
structure LdS where
 (x:InS) (s:StS) (last:Int) (ok:Bool)
def rdVer (x:InS):InS×Int×Vs:=
 let p1:=x.get 4
 let p2:=p1.1.get 8
 let p3:=p2.1.get 8
 let p4:=p3.1.text 2048
 (p4.1,IntKind.i64.wrap p1.2,⟨p2.2,p3.2,p4.2⟩)
def ldStep (q:LdS):LdS:=
 let p:=rdVer q.x
 if q.ok=true∧q.last<p.2.1∧p.2.2.seq≤q.s.e then⟨p.1,putS q.s (IntKind.u32.wrap p.2.1) p.2.2,p.2.1,decide (putE (ofK q.s (IntKind.u32.wrap p.2.1)) p.2.2=0)⟩
 else⟨p.1,q.s,p.2.1,false⟩
def ldN (q:LdS):Nat→LdS
 |0=>q
 |n+1=>ldStep (ldN q n)
theorem InS.next_e {x:InS} {w:Nat} (h:x.e≠0):x.next w=(x,none):=by unfold InS.next;rw[if_pos h]
theorem InS.get_e {x:InS} {w:Nat} (h:x.e≠0):(x.get w).1=x:=by unfold InS.get InS.upto;rw[InS.next_e h]
theorem InS.text_e {x:InS} {m:Int} (h:x.e≠0):(x.text m).1=x:=by unfold InS.text;rw[InS.next_e h]
theorem rdVer_e {x:InS} (h:x.e≠0):(rdVer x).1=x:=by
 unfold rdVer
 dsimp only
 rw[InS.get_e h,InS.get_e h,InS.get_e h,InS.text_e h]
theorem ldStep_x (q:LdS):(ldStep q).x=(rdVer q.x).1:=by unfold ldStep;dsimp only;split<;>rfl
theorem ldN_e {q:LdS} {i n:Nat} (h:(ldN q i).x.e≠0) (hn:i≤n):(ldN q n).x=(ldN q i).x:=by
 induction n with
 |zero=>obtain rfl:i=0:=by omega
        rfl
 |succ n ih=>
  rcases Nat.eq_or_lt_of_le hn with rfl |hn
  ·rfl
  ·have:=ih (by omega)
   rw[ldN,ldStep_x,rdVer_e (by rw[this];exact h),this]
theorem InS.text_bytes {x:InS} {m:Int} (h:bytesB x):bytesB (x.text m).1:=by
 have hb:=(InS.next_bytes (n:=2) h).1
 unfold InS.text
 generalize x.next 2=q at hb
 obtain⟨y,r⟩:=q
 cases r with
 |none=>exact hb
 |some b=>
  dsimp only
  split
  ·intro z hz;simp at hz
  ·exact(InS.next_bytes (n:=(numL b).toNat) hb).1
theorem InS.text_len {x:InS} {m:Int} (hm:0≤m):((x.text m).2.length:Int)≤m:=by
 unfold InS.text
 generalize x.next 2=q
 obtain⟨y,r⟩:=q
 cases r with
 |none=>exact hm
 |some b=>
  dsimp only
  split
  ·exact hm
  ·rename_i h
   unfold InS.raw
   have hl:=fun l=>InS.next_len (s:=y) (n:=(numL b).toNat) (l:=l)
   have hr:=numL_range b
   generalize y.next (numL b).toNat=p at hl
   obtain⟨z,o⟩:=p
   cases o with
   |none=>exact hm
   |some l=>have:=hl l rfl;show(l.length:Int)≤m;omega
theorem get_rng {x:InS} {w:Nat}:0≤(x.get w).2∧(x.get w).2≤18446744073709551615:=by
 have:=InS.upto_range (s:=x) (n:=w) (m:=18446744073709551615)
 unfold InS.get
 omega
theorem rdVer_ok (x:InS):VOk (rdVer x).2.2:=⟨get_rng,get_rng,by
 have:=InS.text_len (x:=(((x.get 4).1.get 8).1.get 8).1) (m:=2048) (by decide)
 show(InS.text (((x.get 4).1.get 8).1.get 8).1 2048).2.length≤2048
 omega⟩
theorem rdVer_bytes {x:InS} (h:bytesB x):bytesB (rdVer x).1:=InS.text_bytes (get_bytes (get_bytes (get_bytes h)))
theorem ldN_bytes {q:LdS} (h:bytesB q.x):∀n,bytesB (ldN q n).x
 |0=>h
 |n+1=>by rw[ldN,ldStep_x];exact rdVer_bytes (ldN_bytes h n)
def LdOk (s:StS) (n:Nat):Prop:=∀k vs,lookA s.bs k=some vs→(∀v∈vs,VOk v)∧vs.length≤n
theorem LdOk.ok {s:StS} {n:Nat} (h:LdOk s n) (hn:n<1000):SOk s:=⟨fun k vs hk=>⟨(h k vs hk).1,by have:=(h k vs hk).2;omega⟩⟩
theorem LdOk.put {s:StS} {n:Nat} (h:LdOk s n) (k:Int) {v:Vs} (hv:VOk v):LdOk (putS s k v) (n+1):=by
 have hof:(∀w∈ofK s k,VOk w)∧(ofK s k).length≤n:=by
  cases hk:lookA s.bs k with
  |none=>rw[ofK_none hk];exact⟨by simp,Nat.zero_le _⟩
  |some vs=>rw[ofK_some hk];exact h k vs hk
 intro k' vs hk
 have hk:lookA (putA s.bs k (putB (ofK s k) v)) k'=some vs:=hk
 rw[lookA_put]at hk
 split at hk
 ·cases hk
  unfold putB
  split
  ·refine⟨fun w m=>?_,by rw[List.length_append];simp;exact hof.2⟩
   rcases List.mem_append.1 m with m|m
   ·exact hof.1 w m
   ·simp at m;rw[m];exact hv
  ·exact⟨hof.1,by omega⟩
 ·exact⟨(h k' vs hk).1,by have:=(h k' vs hk).2;omega⟩
theorem LdOk.step {q:LdS} {n:Nat} (h:LdOk q.s n):LdOk (ldStep q).s (n+1):=by
 unfold ldStep
 dsimp only
 split
 ·exact h.put _ (rdVer_ok q.x)
 ·exact fun k vs hk=>⟨(h k vs hk).1,by have:=(h k vs hk).2;omega⟩
@[reducible] def ldX1 (b:List Int):InS:=((InS.mk b 0).get 8).1
@[reducible] def ldS0 (b:List Int):StS:=⟨((InS.mk b 0).get 8).2,[],(rdAll (ldX1 b)).t⟩
@[reducible] def ldX3 (b:List Int):InS×Int:=(rdAll (ldX1 b)).x.upto 2 192
@[reducible] def ld0 (b:List Int):LdS:=⟨(ldX3 b).1,ldS0 b,-1,fineS (ldS0 b)⟩
@[reducible] def ldA (b:List Int):LdS:=ldN (ld0 b) (ldX3 b).2.toNat
def loadC (b:List Int):Int:=if rdC (ldX1 b)≠0 then rdC (ldX1 b)else if(ldA b).x.done≠0 then(ldA b).x.done else if(ldA b).ok=true then 0 else 4
@[reducible] def stLd (q:LdS):Ob:=[(0,stoC q.s),(1,mapT q.s.bs),(2,InO q.x)]
theorem load_ok (b:List Int) (hl:b.length<1000000) (hb:∀x∈b,0≤x∧x<256):VC EZ 38 0 [.sl 1 (encU8 b) false] [] (if loadC b=0 then RR (.tup [.ptr 0 0,.s (.int .i64 0)]) 2 (stO (ldA b).s)else RR (.tup [nilP,.s (.int .i64 (loadC b))]) 0 []):=by
 have h0:=of_ok b hl
 have hb0:bytesB ⟨b,0⟩:=hb
 have h1:=get_ok ⟨b,0⟩ 8 (by decide) (by decide) hb0
 have hb1:bytesB (ldX1 b):=get_bytes hb0
 have h2:=sread_ok (ldX1 b) hb1
 have hb2:bytesB (rdAll (ldX1 b)).x:=rdN_bytes (InS.upto_bytes hb1) _
 have h3:=upto_ok (rdAll (ldX1 b)).x 2 192 (by decide) (by decide) hb2
 have hf:=fine_ok (ldS0 b)
 refine VC.enterR LZ (show EZ.func 38=some Tryz.f38 by kernel_rfl) (fun _ _=>rfl) rfl rfl [] ?_
 conv=>whnf
 refine⟨[],[],_,_,_,_,h0,t3,cR ?_⟩
 conv=>whnf
 refine⟨[],[],_,_,_,_,knew_ok,t3,cR ?_⟩
 conv=>whnf
 refine⟨[],[some 0],_,_,_,_,h1,t3,cR ?_⟩
 conv=>whnf
 by_cases hc:rdC (ldX1 b)=0
 ·rw[if_pos hc]at h2
  have hr:=InS.upto_range (s:=(rdAll (ldX1 b)).x) (n:=2) (m:=192)
  have hle:=InS.upto_le (s:=(rdAll (ldX1 b)).x) (n:=2) (m:=192) (by decide)
  have hC:loadC b=if(ldA b).x.done≠0 then(ldA b).x.done else if(ldA b).ok=true then 0 else 4:=by unfold loadC;rw[if_neg (not_not_intro hc)]
  have hA:ldN (ld0 b) (ldX3 b).2.toNat=ldA b:=rfl
  have hbs:=ldN_bytes (q:=ld0 b) (InS.upto_bytes hb2)
  have hok0:LdOk (ldS0 b) 0:=fun k vs h=>by cases h
  have hq0:ld0 b=⟨(ldX3 b).1,ldS0 b,-1,fineS (ldS0 b)⟩:=rfl
  generalize loadC b=code at hC
  generalize ldA b=A at hC hA
  generalize ld0 b=q0 at hq0 hA hbs
  refine⟨[],[some 0],_,_,_,_,h2,t3,cR ?_⟩
  conv=>whnf
  (first|refine⟨?_,?_⟩|refine nsplit ?_ ?_|refine bsplit ?_ ?_)<;>intro e0<;>have hz_:=True.intro<;>clear hz_
  ·exact absurd rfl e0
  conv=>whnf
  refine⟨[],[some 1,some 2],_,_,_,_,hf,t3,cR ?_⟩
  conv=>whnf
  refine⟨[],[some 0],_,_,_,_,h3,t3,cR ?_⟩
  conv=>whnf
  obtain⟨n,hn⟩:∃n:Nat,(ldX3 b).2=n:=⟨(ldX3 b).2.toNat,by show _=(((ldX3 b).2.toNat:Nat):Int);have h:0≤(ldX3 b).2:=hr.1;omega⟩
  have hle:(ldX3 b).2≤192:=hle
  rw[hn]at hle hA
  rw[Int.toNat_natCast]at hA
  refine⟨fun k f o c=>∃(i:Nat) (q:LdS),ldN q0 i=q∧LdOk q.s i∧i≤n∧k=n - i∧c=3∧f=[(4,.ptr 2 0),(5,.ptr 0 0),(8,.s (.bool q.ok)),(9,.s (.int .i64 q.last)),(36,.s (.int .u64 n)),(37,.s (.int .u64 i))]∧o=stLd q,⟨n,?_⟩,?_⟩
  ·refine⟨[],[some 1,some 2,some 0],?_⟩
   iterate 3 constructor
   refine⟨⟨?_,?_,?_⟩,⟨0,⟨(ldX3 b).1,ldS0 b,-1,fineS (ldS0 b)⟩,hq0,hok0,Nat.zero_le _,rfl,rfl,rfl,rfl⟩⟩
   all_goals(repeat' first|exact LF|constructor)
   all_goals exact Lz.int hn
  ·rintro k f1 o1 c1 ⟨i,q,hq,hok,hi,rfl,rfl,rfl,rfl⟩
   conv=>whnf
   (first|refine⟨?_,?_⟩|refine nsplit ?_ ?_|refine bsplit ?_ ?_)<;>intro h<;>have hz_:=True.intro<;>clear hz_
   ·have h:i<n:=Int.ofNat_lt.1 h
    have hst:ldN q0 (i+1)=ldStep q:=by rw[←hq];rfl
    have hx:(ldN q0 (i+1)).x=(rdVer q.x).1:=by rw[hst,ldStep_x]
    have hbi:=hbs i
    rw[hq]at hbi
    have hw:IntKind.u64.wrap ((i:Int)+1)=((i+1:Nat):Int):=by rw[IntWalk.u64_in _ (by omega)];omega
    have hok2:=hok.step
    have hso:=hok.ok (by omega)
    clear hq
    obtain⟨y,s,last,ok⟩:=q
    have hv:=rdVer_ok y
    have g1:=get_ok y 4 (by decide) (by decide) hbi
    have b1:=get_bytes (w:=4) hbi
    have g2:=get_ok _ 8 (by decide) (by decide) b1
    have b2:=get_bytes (w:=8) b1
    have g3:=get_ok _ 8 (by decide) (by decide) b2
    have b3:=get_bytes (w:=8) b2
    have g4:=text_ok _ 2048 b3
    unfold ldStep rdVer at hst hok2
    unfold rdVer at hv hx
    dsimp only at hst hx hok hok2 hbi b1 b2 b3 g1 g2 g3 g4 hso hv
    generalize y.get 4=p1 at hst hx hok2 g1 g2 g3 g4 hv
    generalize p1.1.get 8=p2 at hst hx hok2 g2 g3 g4 hv
    generalize p2.1.get 8=p3 at hst hx hok2 g3 g4 hv
    generalize p3.1.text 2048=p4 at hst hx hok2 g4 hv
    have hput:=kput_ok s (IntKind.u32.wrap (IntKind.i64.wrap p1.2)) ⟨p2.2,p3.2,p4.2⟩ hv.ver hso
    generalize putS s (IntKind.u32.wrap (IntKind.i64.wrap p1.2)) ⟨p2.2,p3.2,p4.2⟩=s' at hst hok2 hput
    generalize putE (ofK s (IntKind.u32.wrap (IntKind.i64.wrap p1.2))) ⟨p2.2,p3.2,p4.2⟩=c' at hst hok2 hput
    conv=>whnf
    refine⟨[],[some 2],_,_,_,_,g1,t3,cR ?_⟩
    conv=>whnf
    refine⟨[],[some 2],_,_,_,_,g2,t3,cR ?_⟩
    conv=>whnf
    refine⟨[],[some 2],_,_,_,_,g3,t3,cR ?_⟩
    conv=>whnf
    refine⟨[],[some 2],_,_,_,_,g4,t3,cR ?_⟩
    conv=>whnf
    refine⟨[],[some 2],_,_,_,_,err_ok p4.1,t3,cR ?_⟩
    conv=>whnf
    (first|refine⟨?_,?_⟩|refine nsplit ?_ ?_|refine bsplit ?_ ?_)<;>intro he<;>have hz_:=True.intro<;>clear hz_
    ·have he:p4.1.e≠0:=he
     have hAx:A.x=p4.1:=by rw[←hA,ldN_e (i:=i+1) (n:=n) (by rw[hx];exact he) h,hx]
     have hd:A.x.done=p4.1.e:=by rw[hAx];unfold InS.done;rw[if_pos he]
     rw[hd,if_pos he]at hC
     subst hC
     conv=>whnf
     refine⟨[],[some 2],_,_,_,_,err_ok p4.1,t3,cR ?_⟩
     conv=>whnf
     rw[if_neg he]
     exact⟨[],[],_,_,_,t3,rfl,rfl,rfl⟩
    ·((conv=>whnf)<;>repeat(with_reducible refine D1 ?_)<;>conv=>whnf)
     cases ok
     ·rw[if_neg (by simp)]at hst hok2
      ((conv=>whnf)<;>repeat(with_reducible refine D1 ?_)<;>conv=>whnf)
      rw[hw]
      refine⟨n - (i+1),?_,by omega⟩
      exact⟨[],[some 0,some 1,some 2],_,_,_,t3,⟨i+1,_,hst,hok2,h,rfl,rfl,rfl,rfl⟩⟩
     ·conv=>whnf
      (first|refine⟨?_,?_⟩|refine nsplit ?_ ?_|refine bsplit ?_ ?_)<;>intro hk<;>have hz_:=True.intro<;>clear hz_
      ·have hk:last<IntKind.i64.wrap p1.2:=hk
       conv=>whnf
       (first|refine⟨?_,?_⟩|refine nsplit ?_ ?_|refine bsplit ?_ ?_)<;>intro hs<;>have hz_:=True.intro<;>clear hz_
       ·have hs:p3.2≤s.e:=hs
        rw[if_pos ⟨rfl,hk,hs⟩]at hst hok2
        conv=>whnf
        refine⟨[],[some 0,some 1],_,_,_,_,hput,t3,cR ?_⟩
        conv=>whnf
        (first|refine⟨?_,?_⟩|refine nsplit ?_ ?_|refine bsplit ?_ ?_)<;>intro hz<;>have hz_:=True.intro<;>clear hz_
        ·have hz:c'=0:=hz
         rw[decide_eq_true hz]at hst hok2
         ((conv=>whnf)<;>repeat(with_reducible refine D1 ?_)<;>conv=>whnf)
         rw[hw]
         refine⟨n - (i+1),?_,by omega⟩
         exact⟨[],[some 0,some 1,some 2],_,_,_,t3,⟨i+1,_,hst,hok2,h,rfl,rfl,rfl,rfl⟩⟩
        ·have hz:¬c'=0:=hz
         rw[decide_eq_false hz]at hst hok2
         ((conv=>whnf)<;>repeat(with_reducible refine D1 ?_)<;>conv=>whnf)
         rw[hw]
         refine⟨n - (i+1),?_,by omega⟩
         exact⟨[],[some 0,some 1,some 2],_,_,_,t3,⟨i+1,_,hst,hok2,h,rfl,rfl,rfl,rfl⟩⟩
       ·have hs:¬p3.2≤s.e:=hs
        rw[if_neg (fun q=>hs q.2.2)]at hst hok2
        ((conv=>whnf)<;>repeat(with_reducible refine D1 ?_)<;>conv=>whnf)
        rw[hw]
        refine⟨n - (i+1),?_,by omega⟩
        exact⟨[],[some 0,some 1,some 2],_,_,_,t3,⟨i+1,_,hst,hok2,h,rfl,rfl,rfl,rfl⟩⟩
      ·have hk:¬last<IntKind.i64.wrap p1.2:=hk
       rw[if_neg (fun q=>hk q.2.1)]at hst hok2
       ((conv=>whnf)<;>repeat(with_reducible refine D1 ?_)<;>conv=>whnf)
       rw[hw]
       refine⟨n - (i+1),?_,by omega⟩
       exact⟨[],[some 0,some 1,some 2],_,_,_,t3,⟨i+1,_,hst,hok2,h,rfl,rfl,rfl,rfl⟩⟩
   ·obtain rfl:i=n:=by have h:¬(i:Int)<n:=h;omega
    rw[hq]at hA
    subst hA
    obtain⟨y,s,last,ok⟩:=q
    dsimp only at hC
    conv=>whnf
    refine⟨[],[some 2],_,_,_,_,done2_ok y,t3,cR ?_⟩
    conv=>whnf
    (first|refine⟨?_,?_⟩|refine nsplit ?_ ?_|refine bsplit ?_ ?_)<;>intro he<;>have hz_:=True.intro<;>clear hz_
    ·have he:y.done≠0:=he
     rw[if_pos he]at hC
     subst hC
     conv=>whnf
     rw[if_neg he]
     exact⟨[],[],_,_,_,t3,rfl,rfl,rfl⟩
    ·have he:¬y.done≠0:=he
     rw[if_neg he]at hC
     cases ok
     ·rw[if_neg (by simp)]at hC
      subst hC
      conv=>whnf
      rw[if_neg (by decide)]
      exact⟨[],[],_,_,_,t3,rfl,rfl,rfl⟩
     ·rw[if_pos rfl]at hC
      subst hC
      conv=>whnf
      rw[if_pos rfl]
      exact⟨[],[some 0,some 1],_,_,_,t3,rfl,rfl,rfl⟩
 ·rw[if_neg hc]at h2
  rw[show loadC b=rdC (ldX1 b)from if_pos hc,if_neg hc]
  refine⟨[],[some 0],_,_,_,_,h2,t3,cR ?_⟩
  conv=>whnf
  (first|refine⟨?_,?_⟩|refine nsplit ?_ ?_|refine bsplit ?_ ?_)<;>intro e0<;>have hz_:=True.intro<;>clear hz_
  ·conv=>whnf
   exact⟨[],[],_,_,_,t3,rfl,rfl,rfl⟩
  ·exact absurd hc e0
end Go.M
namespace Go.M
open Go Go.Proofs
set_option maxRecDepth 100000
set_option maxHeartbeats 4000000
@[reducible] def verB (k:Int) (v:Vs):List Int:=bigL 4 k.toNat++bigL 8 v.ver.toNat++bigL 8 v.seq.toNat++(bigL 2 v.data.length++v.data)
@[reducible] def keyB (s:StS) (k:Int):List Int:=verB k (lastV (ofK s k))
@[reducible] def headB (e:Int) (rows:List RowS) (n:Nat):List Int:=bigL 8 e.toNat++rowsB rows++bigL 2 n
@[reducible] def picB (s:StS):List Int:=headB s.e (rowsT s.t) s.bs.length++(sortZ (keysA s.bs)).flatMap (keyB s)
structure PicOk (s:StS):Prop where
 ok:SOk s
 e:0≤s.e∧s.e≤18446744073709551615
 rows:∀r∈rowsT s.t,RowOk r
 n:s.bs.length≤300
 keys:∀k∈keysA s.bs,0≤k∧k≤4294967295
theorem PicOk.last {s:StS} (H:PicOk s) (k:Int):VOk (lastV (ofK s k)):=by
 rcases lastV_or (ofK s k)with h|h
 ·rw[h];exact⟨by decide,by decide,by decide⟩
 ·exact(ofK_ok H.ok k).1 _ h
theorem verB_len {k:Int} {v:Vs} (h:v.data.length≤2048):(verB k v).length≤2070:=by simp[verB,bigL_len];omega
theorem flatK_len {s:StS} (H:PicOk s) (l:List Int):(l.flatMap (keyB s)).length≤l.length*2070:=by
 induction l with
 |nil=>simp
 |cons k l ih=>
  rw[List.flatMap_cons,List.length_append,List.length_cons]
  have:=verB_len (k:=k) (H.last k).len
  show(verB k _).length+_≤_
  omega
@[reducible] def stPic (s:StS) (x:OutS):Ob:=[(0,stoC s),(1,mapT s.bs),(2,OutO x)]
theorem new1M_ok:VC EZ 91 0 [.s (.int .i64 1048576)] [] (RR (.ptr 0 0) 1 [(0,OutO ⟨[],1048576,0⟩)]):=new_ok 1048576
@[reducible] def xH (s:StS):OutS:=⟨headB s.e (rowsT s.t) s.bs.length,1048576,0⟩
theorem picture_ok (s:StS) (H:PicOk s):VC EZ 39 2 [.ptr 0 0] (stO s) (RR (.sl 1 (encU8 (picB s)) false) 2 (stO s)):=by
 have hn:=H.n
 have hkeys:∀k∈sortZ (keysA s.bs),0≤k∧k≤4294967295:=fun k m=>H.keys k (by unfold sortZ at m;exact List.mem_mergeSort.1 m)
 have hsl:(sortZ (keysA s.bs)).length=s.bs.length:=by unfold sortZ;rw[List.length_mergeSort,List.length_map]
 have hkk:=kkeys_ok s (by omega)
 have hrl:=rowsT_len s.t
 have hf26:=flat_len26 (rowsT s.t)
 have R0:Room ⟨[],1048576,0⟩ 800000:=⟨rfl,rfl,by decide⟩
 have R1:Room (OutS.add ⟨[],1048576,0⟩ (bigL 8 s.e.toNat)) 799992:=R0.add (by rw[bigL_len];decide)
 have R2:Room ((OutS.add ⟨[],1048576,0⟩ (bigL 8 s.e.toNat)).add (rowsB (rowsT s.t))) 799000:=R1.add (by unfold rowsB;rw[List.length_append,bigL_len,hf26];omega)
 have R3:Room (xH s) 700000:=by
  have:=R2.add (x:=bigL 2 s.bs.length) (j:=700000) (by rw[bigL_len];decide)
  exact this
 refine VC.enterR LZ (show EZ.func 39=some Tryz.f39 by kernel_rfl) (fun _ _=>rfl) rfl rfl [] ?_
 conv=>whnf
 refine⟨[],[],_,_,_,_,new1M_ok,t3,cR ?_⟩
 conv=>whnf
 refine⟨[],[some 2],_,_,_,_,numI_ok ⟨[],1048576,0⟩ s.e 8 800000 R0 (by decide) (by decide) (by decide) H.e.1 H.e.2 (by have:=H.e;omega),t3,cR ?_⟩
 conv=>whnf
 refine⟨[],[some 4,some 2],_,_,_,_,sput_ok s.t _ 799992 R1 (by decide) H.rows,t3,cR ?_⟩
 conv=>whnf
 conv=>whnf
 rw[List.length_map,show IntKind.u64.wrap ((s.bs.length:Nat):Int)=((s.bs.length:Nat):Int)from IntWalk.u64_in _ (by omega)]
 refine⟨[],[some 2],_,_,_,_,numI_ok _ ((s.bs.length:Nat):Int) 2 799000 R2 (by decide) (by decide) (by decide) (by omega) (by omega) (by rw[Int.toNat_natCast];omega),t3,cR ?_⟩
 conv=>whnf
 refine⟨[],[some 0,some 1],_,_,_,_,hkk,t3,cR ?_⟩
 conv=>whnf
 rw[show(((OutS.add ⟨[],1048576,0⟩ (bigL 8 s.e.toNat)).add (rowsB (rowsT s.t))).add (bigL 2 ((s.bs.length:Nat):Int).toNat))=xH s from by rw[Int.toNat_natCast];simp only[OutS.add,xH,headB,List.nil_append]]
 have hpic:picB s=((xH s).add ((sortZ (keysA s.bs)).flatMap (keyB s))).b:=rfl
 rw[hpic]
 have hfk:=fun n=>flatK_len H ((sortZ (keysA s.bs)).take n)
 generalize sortZ (keysA s.bs)=ks at hkeys hsl hfk
 refine⟨fun q f o c=>∃i:Nat,i≤ks.length∧q=ks.length - i∧c=3∧f=[(0,.ptr 0 0),(3,.ptr 2 0),(33,.sl 1 (ks.map encK) false),(34,.s (.int .i64 ks.length)),(35,.s (.int .i64 i))]∧o=stPic s ((xH s).add ((ks.take i).flatMap (keyB s))),⟨ks.length,?_⟩,?_⟩
 ·refine⟨[],[some 0,some 1,some 2],?_⟩
  iterate 3 constructor
  refine⟨⟨?_,?_,?_⟩,⟨0,Nat.zero_le _,rfl,rfl,rfl,rfl⟩⟩
  all_goals(repeat' first|exact LF|constructor)
  ·exact Lz.int (by rw[List.length_map])
  ·exact Lz.of (by simp)
 ·rintro q f1 o1 c1 ⟨i,hi,rfl,rfl,rfl,rfl⟩
  conv=>whnf
  (first|refine⟨?_,?_⟩|refine nsplit ?_ ?_|refine bsplit ?_ ?_)<;>intro h<;>have hz_:=True.intro<;>clear hz_
  ·have h:i<ks.length:=by have h:(i:Int)<ks.length:=h
                          omega
   have hx:=hkeys _ (List.getElem_mem h)
   have hfl:=hfk i
   rw[List.length_take,Nat.min_eq_left hi]at hfl
   have hlast:=last_ok s ks[i] H.ok
   have hv:=H.last ks[i]
   have hnx:=flat_next (keyB s) h
   rw[show keyB s ks[i]=verB ks[i] (lastV (ofK s ks[i]))from rfl]at hnx
   have R4:Room ((xH s).add ((ks.take i).flatMap (keyB s))) 3000:=R3.add (by omega)
   generalize hX:(xH s).add ((ks.take i).flatMap (keyB s))=X at R4
   generalize lastV (ofK s ks[i])=v at hlast hv hnx
   conv=>whnf
   refine idxI h ?_
   refine⟨[],[some 0,some 1],_,_,_,_,hlast,t3,cR ?_⟩
   conv=>whnf
   rw[show IntKind.u64.wrap ks[i]=ks[i]from IntWalk.u64_in _ (by omega)]
   refine⟨[],[some 2],_,_,_,_,numI_ok X ks[i] 4 3000 R4 (by decide) (by decide) (by decide) hx.1 (by omega) (by omega),t3,cR ?_⟩
   conv=>whnf
   have R5:=R4.add (x:=bigL 4 ks[i].toNat) (j:=2990) (by rw[bigL_len];decide)
   refine⟨[],[some 2],_,_,_,_,numI_ok _ v.ver 8 2990 R5 (by decide) (by decide) (by decide) hv.ver.1 hv.ver.2 (by have:=hv.ver;omega),t3,cR ?_⟩
   conv=>whnf
   have R6:=R5.add (x:=bigL 8 v.ver.toNat) (j:=2980) (by rw[bigL_len];decide)
   refine⟨[],[some 2],_,_,_,_,numI_ok _ v.seq 8 2980 R6 (by decide) (by decide) (by decide) hv.seq.1 hv.seq.2 (by have:=hv.seq;omega),t3,cR ?_⟩
   conv=>whnf
   have R7:=R6.add (x:=bigL 8 v.seq.toNat) (j:=2970) (by rw[bigL_len];decide)
   refine⟨[],[some 2],_,_,_,_,outText_ok _ v.data 2970 R7 (by have:=hv.len;omega) (by have:=hv.len;omega),t3,cR ?_⟩
   conv=>whnf
   rw[show((((X.add (bigL 4 ks[i].toNat)).add (bigL 8 v.ver.toNat)).add (bigL 8 v.seq.toNat)).add (bigL 2 v.data.length++v.data))=(xH s).add ((ks.take (i+1)).flatMap (keyB s))from by rw[hnx,←hX];simp only[OutS.add,verB,List.append_assoc]]
   refine⟨ks.length - (i+1),?_,by omega⟩
   exact⟨[],[some 0,some 1,some 2],_,_,_,t3,⟨i+1,h,rfl,rfl,rfl,rfl⟩⟩
  ·obtain rfl:i=ks.length:=by have h:¬(i:Int)<ks.length:=h;omega
   have hfl:=hfk ks.length
   rw[List.take_length]at hfl
   have R4:Room ((xH s).add (ks.flatMap (keyB s))) 3000:=R3.add (by omega)
   rw[List.take_length]
   generalize (xH s).add (ks.flatMap (keyB s))=X at R4
   have hd:=done_ok X R4.ok (by have:=R4.l;omega)
   rw[if_pos R4.e,R4.e]at hd
   conv=>whnf
   refine⟨[],[some 2],_,_,_,_,hd,t3,cR ?_⟩
   conv=>whnf
   (first|refine⟨?_,?_⟩|refine nsplit ?_ ?_|refine bsplit ?_ ?_)<;>intro h0<;>have hz_:=True.intro<;>clear hz_
   ·exact absurd rfl h0
   ·conv=>whnf
    exact⟨[],[some 0,some 1],_,_,_,t3,rfl,rfl,rfl⟩
end Go.M
namespace Go.M
open Go Go.Proofs
set_option maxRecDepth 100000
set_option maxHeartbeats 4000000
@[reducible] def stRB (l:List Int):Ob:=[(0,.arr 1 true (encU8 l))]
@[reducible] def blB (b:Int×List Vs):List Int:=verB b.1 (lastV b.2)
@[reducible] def picRf (r:RfS):List Int:=headB r.e r.rows r.bs.length++r.bs.flatMap blB
structure RPicOk (r:RfS):Prop where
 e:0≤r.e∧r.e≤18446744073709551615
 rn:r.rows.length≤6
 rows:∀x∈r.rows,RowOk x
 n:r.bs.length≤300
 bs:∀b∈r.bs,(0≤b.1∧b.1≤4294967295)∧VOk (lastV b.2)∧b.2.length<1000000
end Go.M
namespace Go.M
open Go Go.Proofs
set_option maxHeartbeats 1000000
theorem strict_ext {a b:List Int} (ha:a.Pairwise (· <·)) (hb:b.Pairwise (· <·)) (h:∀x,x∈a↔x∈b):a=b:=by
 induction a generalizing b with
 |nil=>cases b with
  |nil=>rfl
  |cons y b=>exact absurd ((h y).2 (by simp)) (by simp)
 |cons x a ih=>
  cases b with
  |nil=>exact absurd ((h x).1 (by simp)) (by simp)
  |cons y b=>
   rw[List.pairwise_cons]at ha hb
   have hxy:x=y:=by
    rcases List.mem_cons.1 ((h x).1 (by simp))with e|m
    ·exact e
    ·rcases List.mem_cons.1 ((h y).2 (by simp))with e|m2
     ·exact e.symm
     ·have:=hb.1 x m;have:=ha.1 y m2;omega
   subst hxy
   rw[ih ha.2 hb.2 fun z=>?_]
   constructor
   ·intro m
    rcases List.mem_cons.1 ((h z).1 (List.mem_cons_of_mem _ m))with rfl |m2
    ·exact absurd (ha.1 z m) (by omega)
    ·exact m2
   ·intro m
    rcases List.mem_cons.1 ((h z).2 (List.mem_cons_of_mem _ m))with rfl |m2
    ·exact absurd (hb.1 z m) (by omega)
    ·exact m2
theorem sortZ_up {l:List Int} (h:l.Nodup):(sortZ l).Pairwise (· <·):=by
 have hs:(sortZ l).Pairwise fun a b=>decide (a≤b)=true:=by
  unfold sortZ
  exact List.pairwise_mergeSort (fun a b c h1 h2=>by simp at*;omega) (fun a b=>by simp;omega) l
 have hn:=sortZ_nodup h
 refine(hs.and hn).imp fun {a b} h=>?_
 have:=h.1;have:=h.2
 simp at*
 omega
theorem Rel.keys {s:StS} {r:RfS} (H:Rel s r) (hn:(keysA s.bs).Nodup):sortZ (keysA s.bs)=r.bs.map (·.1):=by
 refine strict_ext (sortZ_up hn) (List.pairwise_map.2 H.up) fun k=>?_
 rw[sortZ_mem]
 have h1:=lookA_none (n:=k) (es:=s.bs)
 have h2:=lookA_none (n:=k) (es:=r.bs)
 rw[H.lk]at h2
 exact Decidable.not_iff_not.1 (h1.symm.trans h2)
theorem Rel.at_ {s:StS} {r:RfS} (H:Rel s r) {b:Int×List Vs} (m:b∈r.bs):ofK s b.1=b.2:=by
 have hl:=lookA_some (n:=b.1) (v:=b.2) (H.up.imp (fun h=>Int.ne_of_lt h)|>List.pairwise_map.2)
 rw[←H.of]
 unfold ofR
 rw[hl.2 m];rfl
end Go.M
namespace Go.M
open Go Go.Proofs
set_option maxRecDepth 100000
set_option maxHeartbeats 4000000
structure OpS where
 kind:Int
 next:Bool
 u:UpR
 key:Int
 ver:Int
 done:Int
@[reducible] def encO (o:OpS):List TV:=[.s (.int .i64 o.kind),.s (.bool o.next),.s (.int .u64 o.u.seq),.s (.int .i64 o.u.client),.s (.int .u64 o.u.num),.s (.int .i64 o.u.kind),.s (.int .u32 o.u.key),.s (.int .u64 o.u.ver),.sl 1 (encU8 o.u.data) false,.s (.int .u32 o.key),.s (.int .u64 o.ver),.s (.int .u64 o.done)]
def bigO (o:OpS):Bool:=decide (2100<o.u.data.length)
def farB (l:List OpS):Bool:=l.any bigO||decide (60<l.length)
theorem far_ok (l:List OpS) (hn:l.length≤9223372036854775807):VC EZ 37 0 [.sl 12 (l.map encO) false] [] (RR (.s (.bool (farB l))) 0 []):=by
 refine VC.enterR LZ (show EZ.func 37=some Tryz.f37 by kernel_rfl) (fun _ _=>rfl) rfl rfl [] ?_
 conv=>whnf
 refine⟨fun k f o c=>∃i:Nat,i≤l.length∧k=l.length - i∧(∀x∈l.take i,¬bigO x=true)∧c=0∧f=[(0,.sl 12 (l.map encO) false),(3,.s (.int .i64 i))]∧o=[],⟨l.length,?_⟩,?_⟩
 ·exact⟨[],[],_,_,_,t3,⟨0,Nat.zero_le _,rfl,by simp,rfl,rfl,rfl⟩⟩
 ·rintro k f1 o1 c1 ⟨i,hi,rfl,h0,rfl,rfl,rfl⟩
  conv=>whnf
  (first|refine⟨?_,?_⟩|refine nsplit ?_ ?_|refine bsplit ?_ ?_)<;>intro h<;>have hz_:=True.intro<;>clear hz_
  ·have h:i<l.length:=lenlt.1 h
   conv=>whnf
   refine idxI h ?_
   conv=>whnf
   (first|refine⟨?_,?_⟩|refine nsplit ?_ ?_|refine bsplit ?_ ?_)<;>intro hb<;>have hz_:=True.intro<;>clear hz_
   ·have hb:bigO l[i]=true:=decide_eq_true (by have hb:(2100:Int)<(((encU8 l[i].u.data).length:Nat):Int):=hb;rw[show(encU8 l[i].u.data).length=l[i].u.data.length from by unfold encU8;rw[List.length_map]]at hb;omega)
    conv=>whnf
    refine⟨[],[],?_⟩
    iterate 3 constructor
    refine⟨⟨?_,?_,?_⟩,rfl,rfl,rfl⟩
    all_goals(repeat' first|exact LF|constructor)
    exact Lz.of (bool_eq (by unfold farB;rw[List.any_eq_true.2 ⟨_,List.getElem_mem h,hb⟩];rfl))
   ·have hb:¬bigO l[i]=true:=fun q=>hb (by
     have q:=of_decide_eq_true q
     show(2100:Int)<(((encU8 l[i].u.data).length:Nat):Int)
     rw[show(encU8 l[i].u.data).length=l[i].u.data.length from by unfold encU8;rw[List.length_map]];omega)
    conv=>whnf
    refine⟨l.length - (i+1),?_,by omega⟩
    rw[show IntKind.i64.wrap ((i:Int)+1)=((i+1:Nat):Int)from by rw[IntWalk.i64_in _ (by omega)];omega]
    exact⟨[],[],_,_,_,t3,⟨i+1,h,rfl,take_all h h0 hb,rfl,rfl,rfl⟩⟩
  ·obtain rfl:i=l.length:=by have:=mt lenlt.2 h;omega
   rw[List.take_length]at h0
   conv=>whnf
   (first|refine⟨?_,?_⟩|refine nsplit ?_ ?_|refine bsplit ?_ ?_)<;>intro h6<;>have hz_:=True.intro<;>clear hz_
   all_goals
    conv=>whnf
    refine⟨[],[],?_⟩
    iterate 3 constructor
    refine⟨⟨?_,?_,?_⟩,rfl,rfl,rfl⟩
    all_goals(repeat' first|exact LF|constructor)
    exact Lz.of (bool_eq (by
     unfold farB
     rw[show l.any bigO=false from by rw[Bool.eq_false_iff];intro q;obtain⟨x,m,hx⟩:=List.any_eq_true.1 q;exact h0 x m hx]
     rw[List.length_map]at h6
     simp
     omega))
@[reducible] def uOf (s:StS) (o:OpS):UpR:=if o.next=true then {o.u with seq:=s.e+1}else o.u
@[reducible] def stepS (s:StS) (o:OpS):StS:=if o.kind=0 then(applyS s (uOf s o)).2 else trimS s o.done
@[reducible] def stepR (s:StS) (r:RfS) (o:OpS):RfS:=if o.kind=0 then(applyR r (uOf s o)).1.1 else {r with bs:=r.bs.map (keptOf o.done)}
end Go.M
namespace Go.M
open Go Go.Proofs
set_option maxRecDepth 100000
set_option maxHeartbeats 4000000
end Go.M
namespace Go.M
open Go Go.Proofs
set_option maxRecDepth 100000
set_option maxHeartbeats 4000000
structure PInv (s:StS):Prop where
 keys:∀k,lookA s.bs k≠none→0≤k∧k≤4294967295
 rows:∀r∈lstT s.t,RowOk r
theorem PInv.zero:PInv ⟨0,[],zeroTab⟩:=⟨fun k h=>absurd rfl h,fun r m=>by
 have:r=zeroR:=by simpa using m
 rw[this];exact⟨by decide,by decide,by decide,by decide,by decide⟩⟩
theorem setT_ok {t:TabS} {x:RowS} (h:∀r∈lstT t,RowOk r) (h1:x.num≤18446744073709551615) (h2:x.seq≤18446744073709551615) (h3:0≤x.ver∧x.ver≤18446744073709551615):∀r∈lstT (setT t x),RowOk r:=by
 unfold setT
 split
 ·rename_i hc
  have hf:fineB x=true:=by
   unfold setC at hc
   split at hc
   ·cases hc
   ·rename_i q;simpa using q
  have hf:=of_decide_eq_true hf
  rw[put_lst t hf.1]
  intro r m
  rcases List.mem_or_eq_of_mem_set m with m|rfl
  ·exact h r m
  ·exact⟨by omega,by omega,by omega,by omega,h3⟩
 ·exact h
theorem outC_rng (u:UpR) {ver:Int} (b:Bool) (h:0≤ver∧ver≤18446744073709551615):0≤(outC u ver b).2.1∧(outC u ver b).2.1≤18446744073709551615:=by
 unfold outC
 split
 ·split
  ·exact h
  ·split
   ·exact h
   ·simp;omega
 ·exact h
theorem PInv.apply {s:StS} {n:Nat} (P:PInv s) (I:SInv s n) (hn:n<90000) {u:UpR} (hu:UOk u):PInv (applyS s u).2:=by
 have hv:=outC_rng u (roomS s) (lastV_range (ofK_ok (I.ok hn) u.key).1)
 refine⟨?_,?_⟩
 ·rcases applyS_cases s u I.g I.e.1 with h|⟨_,⟨t,h⟩|⟨t,_,_,_,h⟩⟩
  ·rw[h];exact P.keys
  ·rw[h];exact P.keys
  ·rw[h]
   intro k hk
   by_cases e:k=u.key
   ·rw[e];exact hu.key
   ·exact P.keys k fun q=>hk (by show lookA (putA s.bs u.key _) k=none;rw[lookA_put,if_neg e];exact q)
 ·unfold applyS
  split
  ·exact P.rows
  split
  ·exact P.rows
  split
  ·exact P.rows
  ·exact setT_ok P.rows hu.num.2 hu.seq.2 hv
structure PlayI (s:StS) (r:RfS) (i:Nat):Prop where
 rel:Rel s r
 inv:SInv s i
 p:PInv s
 e:s.e≤i
theorem flatMap_eq {α β:Type} {f g:α→List β} {l:List α} (h:∀a∈l,f a=g a):l.flatMap f=l.flatMap g:=by
 induction l with
 |nil=>rfl
 |cons a l ih=>rw[List.flatMap_cons,List.flatMap_cons,h a (by simp),ih fun b m=>h b (by simp[m])]
theorem PlayI.same {s:StS} {r:RfS} {i:Nat} (H:PlayI s r i):picRf r=picB s:=by
 show headB r.e r.rows r.bs.length++r.bs.flatMap blB=headB s.e (rowsT s.t) s.bs.length++(sortZ (keysA s.bs)).flatMap (keyB s)
 rw[H.rel.e,H.rel.rows,H.rel.len,H.rel.keys H.inv.nd,List.flatMap_map]
 congr 1
 exact flatMap_eq fun b m=>by show verB b.1 (lastV b.2)=verB b.1 (lastV (ofK s b.1));rw[H.rel.at_ m]
theorem picB_len {s:StS} (H:PicOk s):(picB s).length<1000000:=by
 have h1:=flatK_len H (sortZ (keysA s.bs))
 have h2:(sortZ (keysA s.bs)).length=s.bs.length:=by unfold sortZ;rw[List.length_mergeSort,List.length_map]
 have h3:=H.n
 have h4:=rowsT_len s.t
 have h5:=flat_len26 (rowsT s.t)
 simp only[picB,headB,rowsB,List.length_append,bigL_len,h5]
 omega
end Go.M
namespace Go.M
open Go Go.Proofs
set_option maxRecDepth 100000
set_option maxHeartbeats 4000000
theorem get_big (w:Nat) (n:Int) (r:List Int) (hw:w≤8) (h0:0≤n) (hn:n.toNat<256 ^ w) (hm:n≤18446744073709551615):(InS.mk (bigL w n.toNat++r) 0).get w=(⟨r,0⟩,n):=by
 have:=InS.big_app w n.toNat r 18446744073709551615 hw hn (by omega)
 unfold InS.get
 rw[this,Int.toNat_of_nonneg h0]
theorem upto_big (w:Nat) (n:Nat) (r:List Int) (m:Int) (hw:w≤8) (hn:n<256 ^ w) (hm:(n:Int)≤m):(InS.mk (bigL w n++r) 0).upto w m=(⟨r,0⟩,(n:Int)):=InS.big_app w n r m hw hn hm
theorem rdRow_app (r:RowS) (rest:List Int) (H:RowOk r):rdRow ⟨rowB r++rest,0⟩=(⟨rest,0⟩,r):=by
 have h1:=H.client
 have h2:=H.num
 have h3:=H.seq
 have h4:=H.code
 have h5:=H.ver
 unfold rdRow rowB
 dsimp only
 simp only[List.append_assoc]
 rw[get_big 1 r.client _ (by decide) h1.1 (by omega) (by omega)]
 dsimp only
 rw[get_big 8 r.num _ (by decide) h2.1 (by omega) (by omega)]
 dsimp only
 rw[get_big 8 r.seq _ (by decide) h3.1 (by omega) (by omega)]
 dsimp only
 rw[get_big 1 r.code _ (by decide) h4.1 (by omega) (by omega)]
 dsimp only
 rw[get_big 8 r.ver _ (by decide) h5.1 (by omega) (by omega)]
 rw[IntWalk.i64_in _ (by omega),IntWalk.i64_in _ (by omega)]
theorem rdN_front (q:RdS):∀n,rdN q (n+1)=rdN (rdStep q) n
 |0=>rfl
 |n+1=>by rw[rdN,rdN_front q n];rfl
structure Slot (c:Int) (r:RowS):Prop where
 z:r.num=0→r=zeroR
 n:r.num≠0→r.client=c∧fineB r=true∧RowOk r
theorem slot_read {c:Int} {r:RowS} (S:Slot c r) (hc:1≤c∧c≤6) (U:TabS) (hU:(U.row c).num=0) (hp:U.put c zeroR=U) (last:Int) (hl:last<c) (L:List RowS) (rest:List Int):
 ∃last',last'≤c∧rdN ⟨⟨([r].filter nz++L).flatMap rowB++rest,0⟩,U,last,true⟩ ([r].filter nz++L).length=rdN ⟨⟨L.flatMap rowB++rest,0⟩,U.put c r,last',true⟩ L.length:=by
 by_cases hz:r.num=0
 ·have hr:=S.z hz
  subst hr
  rw[hp]
  exact⟨last,by omega,rfl⟩
 ·obtain⟨h1,h2,h3⟩:=S.n hz
  rw[List.filter_cons_of_pos (by simpa using hz),List.filter_nil]
  refine⟨c,Int.le_refl _,?_⟩
  show rdN ⟨⟨(r::L).flatMap rowB++rest,0⟩,U,last,true⟩ (L.length+1)=_
  rw[rdN_front,List.flatMap_cons,List.append_assoc]
  have hs:setC U r=0:=by
   unfold setC
   rw[if_neg (by rw[h2];decide),if_neg]
   have:=h3.num
   unfold judgeC
   rw[h1,if_neg (by omega),if_pos (by omega)]
   decide
  have hstep:rdStep ⟨⟨rowB r++(L.flatMap rowB++rest),0⟩,U,last,true⟩=⟨⟨L.flatMap rowB++rest,0⟩,U.put c r,c,true⟩:=by
   unfold rdStep
   dsimp only
   rw[rdRow_app r _ h3]
   dsimp only
   rw[if_pos ⟨rfl,by omega⟩,decide_eq_true hs,setT,if_pos hs,h1]
  rw[hstep]
structure TabOkS (t:TabS):Prop where
 s1:Slot 1 t.r1
 s2:Slot 2 t.r2
 s3:Slot 3 t.r3
 s4:Slot 4 t.r4
 s5:Slot 5 t.r5
 s6:Slot 6 t.r6
theorem rows_read {t:TabS} (H:TabOkS t) (rest:List Int):∃last,rdN ⟨⟨(rowsT t).flatMap rowB++rest,0⟩,zeroTab,0,true⟩ (rowsT t).length=⟨⟨rest,0⟩,t,last,true⟩:=by
 obtain⟨r1,r2,r3,r4,r5,r6⟩:=t
 have e:rowsT ⟨r1,r2,r3,r4,r5,r6⟩=[r1].filter nz++([r2].filter nz++([r3].filter nz++([r4].filter nz++([r5].filter nz++([r6].filter nz++[]))))):=by
  rw[List.append_nil,←List.filter_append,←List.filter_append,←List.filter_append,←List.filter_append,←List.filter_append];rfl
 rw[e]
 obtain⟨l1,k1,e1⟩:=slot_read H.s1 (by decide) ⟨zeroR,zeroR,zeroR,zeroR,zeroR,zeroR⟩ rfl rfl 0 (by decide) ([r2].filter nz++([r3].filter nz++([r4].filter nz++([r5].filter nz++([r6].filter nz++[]))))) rest
 obtain⟨l2,k2,e2⟩:=slot_read H.s2 (by decide) ⟨r1,zeroR,zeroR,zeroR,zeroR,zeroR⟩ rfl rfl l1 (by omega) ([r3].filter nz++([r4].filter nz++([r5].filter nz++([r6].filter nz++[])))) rest
 obtain⟨l3,k3,e3⟩:=slot_read H.s3 (by decide) ⟨r1,r2,zeroR,zeroR,zeroR,zeroR⟩ rfl rfl l2 (by omega) ([r4].filter nz++([r5].filter nz++([r6].filter nz++[]))) rest
 obtain⟨l4,k4,e4⟩:=slot_read H.s4 (by decide) ⟨r1,r2,r3,zeroR,zeroR,zeroR⟩ rfl rfl l3 (by omega) ([r5].filter nz++([r6].filter nz++[])) rest
 obtain⟨l5,k5,e5⟩:=slot_read H.s5 (by decide) ⟨r1,r2,r3,r4,zeroR,zeroR⟩ rfl rfl l4 (by omega) ([r6].filter nz++[]) rest
 obtain⟨l6,k6,e6⟩:=slot_read H.s6 (by decide) ⟨r1,r2,r3,r4,r5,zeroR⟩ rfl rfl l5 (by omega) [] rest
 exact⟨l6,e1.trans (e2.trans (e3.trans (e4.trans (e5.trans e6))))⟩
theorem rows_all {t:TabS} (H:TabOkS t) (rest:List Int):(rdAll ⟨rowsB (rowsT t)++rest,0⟩).x=⟨rest,0⟩∧(rdAll ⟨rowsB (rowsT t)++rest,0⟩).t=t∧rdC ⟨rowsB (rowsT t)++rest,0⟩=0:=by
 have hl:=rowsT_len t
 have hu:=upto_big 1 (rowsT t).length ((rowsT t).flatMap rowB++rest) 6 (by decide) (by omega) (by omega)
 rw[←List.append_assoc]at hu
 obtain⟨last,hr⟩:=rows_read H rest
 have hA:rdAll ⟨rowsB (rowsT t)++rest,0⟩=⟨⟨rest,0⟩,t,last,true⟩:=by
  show rdN (rd0 ⟨rowsB (rowsT t)++rest,0⟩) ((InS.mk (rowsB (rowsT t)++rest) 0).upto 1 6).2.toNat=_
  unfold rd0
  rw[hu]
  exact hr
 refine⟨by rw[hA],by rw[hA],?_⟩
 unfold rdC
 rw[hA]
 rfl
end Go.M
namespace Go.M
open Go Go.Proofs
set_option maxRecDepth 100000
set_option maxHeartbeats 4000000
theorem rdVer_app (k:Int) (v:Vs) (rest:List Int) (hk:0≤k∧k≤4294967295) (H:VOk v):rdVer ⟨verB k v++rest,0⟩=(⟨rest,0⟩,k,v):=by
 have h1:=H.ver
 have h2:=H.seq
 have h3:=H.len
 unfold rdVer verB
 dsimp only
 rw[List.append_assoc,List.append_assoc,List.append_assoc]
 rw[get_big 4 k _ (by decide) hk.1 (by omega) (by omega)]
 dsimp only
 rw[get_big 8 v.ver _ (by decide) h1.1 (by omega) (by omega)]
 dsimp only
 rw[get_big 8 v.seq _ (by decide) h2.1 (by omega) (by omega)]
 dsimp only
 rw[text_app v.data rest 2048 (by omega) (by omega)]
 rw[IntWalk.i64_in _ (by omega)]
theorem ldN_front (q:LdS):∀n,ldN q (n+1)=ldN (ldStep q) n
 |0=>rfl
 |n+1=>by rw[ldN,ldN_front q n];rfl
@[reducible] def putsV (s:StS) (S:StS) (ks:List Int):StS:=ks.foldl (fun S k=>putS S k (lastV (ofK s k))) S
structure VNew (e:Int) (v:Vs):Prop where
 ok:VOk v
 ver:v.ver≠0
 seq:v.seq≠0
 le:v.seq≤e
theorem putB_nil {e:Int} {v:Vs} (H:VNew e v):putE [] v=0∧putB [] v=[v]:=by
 have h:=H.ok.len
 have hp:putE [] v=0:=by
  unfold putE
  rw[if_neg (by omega),if_neg (by rintro(q|q);exact H.ver q;exact H.seq q),if_neg (by simp)]
 exact⟨hp,by unfold putB;rw[if_pos hp];rfl⟩
theorem vers_read (s:StS):∀(ks:List Int) (S:StS) (last:Int),(∀k∈ks,(0≤k∧k≤4294967295)∧last<k)→ks.Pairwise (· <·)→(∀k∈ks,lookA S.bs k=none)→(∀k∈ks,VNew S.e (lastV (ofK s k)))→
 ∃last',ldN ⟨⟨ks.flatMap (keyB s),0⟩,S,last,true⟩ ks.length=⟨⟨[],0⟩,putsV s S ks,last',true⟩
 |[],S,last,_,_,_,_=>⟨last,rfl⟩
 |k::ks,S,last,h1,h2,h3,h4=>by
  obtain⟨hk,hl⟩:=h1 k (by simp)
  have hv:=h4 k (by simp)
  have hn:=h3 k (by simp)
  obtain⟨hp,hq⟩:=putB_nil hv
  rw[List.pairwise_cons]at h2
  have hw:IntKind.u32.wrap k=k:=IntWalk.u32_in _ (by omega)
  have hstep:ldStep ⟨⟨verB k (lastV (ofK s k))++ks.flatMap (keyB s),0⟩,S,last,true⟩=⟨⟨ks.flatMap (keyB s),0⟩,putS S k (lastV (ofK s k)),k,true⟩:=by
   unfold ldStep
   dsimp only
   rw[rdVer_app k _ _ hk hv.ok]
   dsimp only
   rw[if_pos ⟨rfl,hl,hv.le⟩,hw,ofK_none hn,decide_eq_true hp]
  obtain⟨last',e⟩:=vers_read s ks (putS S k (lastV (ofK s k))) k (fun j m=>⟨(h1 j (by simp[m])).1,h2.1 j m⟩) h2.2 (fun j m=>by
   show lookA (putA S.bs k _) j=none
   rw[lookA_put,if_neg (by have:=h2.1 j m;omega)]
   exact h3 j (by simp[m])) (fun j m=>h4 j (by simp[m]))
  refine⟨last',?_⟩
  rw[List.flatMap_cons,List.length_cons,ldN_front]
  show ldN (ldStep ⟨⟨verB k (lastV (ofK s k))++ks.flatMap (keyB s),0⟩,S,last,true⟩) ks.length=_
  rw[hstep,e]
  rfl
theorem putsV_is (s:StS) (e:Int):∀(ks:List Int) (S:StS),ks.Pairwise (· <·)→(∀k∈ks,lookA S.bs k=none)→(∀k∈ks,VNew e (lastV (ofK s k)))→
 (∀j,lookA (putsV s S ks).bs j=if j∈ks then some [lastV (ofK s j)]else lookA S.bs j)∧(putsV s S ks).e=S.e∧(putsV s S ks).t=S.t∧(putsV s S ks).bs.length=S.bs.length+ks.length∧((keysA S.bs).Nodup→(keysA (putsV s S ks).bs).Nodup)
 |[],S,_,_,_=>⟨fun j=>by rw[if_neg (by simp)];rfl,rfl,rfl,rfl,fun h=>h⟩
 |k::ks,S,h2,h3,h4=>by
  have hn:=h3 k (by simp)
  obtain⟨_,hq⟩:=putB_nil (h4 k (by simp))
  rw[List.pairwise_cons]at h2
  have hS:putS S k (lastV (ofK s k))={S with bs:=putA S.bs k [lastV (ofK s k)]}:=by unfold putS;rw[ofK_none hn,hq]
  obtain⟨g1,g2,g3,g4,g5⟩:=putsV_is s e ks (putS S k (lastV (ofK s k))) h2.2 (fun j m=>by
   show lookA (putA S.bs k _) j=none
   rw[lookA_put,if_neg (by have:=h2.1 j m;omega)]
   exact h3 j (by simp[m])) (fun j m=>h4 j (by simp[m]))
  have hc:putsV s S (k::ks)=putsV s (putS S k (lastV (ofK s k))) ks:=rfl
  rw[hc]
  refine⟨fun j=>?_,g2,g3,?_,fun h=>g5 ?_⟩
  ·rw[g1,hS]
   by_cases hj:j=k
   ·subst hj
    rw[if_pos (List.mem_cons_self)]
    split
    ·rfl
    ·show lookA (putA S.bs j _) j=_;rw[lookA_put,if_pos rfl]
   ·by_cases hm:j∈ks
    ·rw[if_pos hm,if_pos (by simp[hm])]
    ·rw[if_neg hm,if_neg (by simp[hm,hj])]
     show lookA (putA S.bs k _) j=_
     rw[lookA_put,if_neg hj]
  ·rw[g4,hS,List.length_cons]
   show(putA S.bs k _).length+_=_
   rw[putA_length,if_pos hn];omega
  ·rw[hS];exact putA_nodup h
end Go.M
namespace Go.M
open Go Go.Proofs
set_option maxRecDepth 100000
set_option maxHeartbeats 4000000
structure GInv (s:StS):Prop where
 tab:TabOkS s.t
 late:∀r∈rowsT s.t,r.seq≤s.e
 ne:∀k,lookA s.bs k≠some []
 len:s.bs.length≤192
theorem Slot.zero (c:Int):Slot c zeroR:=⟨fun _=>rfl,fun h=>absurd rfl h⟩
theorem GInv.zero:GInv ⟨0,[],zeroTab⟩:=⟨⟨Slot.zero 1,Slot.zero 2,Slot.zero 3,Slot.zero 4,Slot.zero 5,Slot.zero 6⟩,fun r m=>by simp[rowsT,nz]at m,fun k h=>(by cases h),by decide⟩
theorem fineB_iff {r:RowS} (h:fineB r=true):(1≤r.client∧r.client≤6)∧1≤r.num∧1≤r.seq∧0≤r.code∧r.code≤255:=of_decide_eq_true h
theorem TabOkS.put {t:TabS} (H:TabOkS t) {x:RowS} (hf:fineB x=true) (hx:RowOk x):TabOkS (t.put x.client x):=by
 have hc:=fineB_iff hf
 have hs:Slot x.client x:=⟨fun h=>by omega,fun _=>⟨rfl,hf,hx⟩⟩
 generalize x.client=c at hs hc
 rcases cases6 hc.1 with rfl |rfl |rfl |rfl |rfl |rfl
 ·exact⟨hs,H.s2,H.s3,H.s4,H.s5,H.s6⟩
 ·exact⟨H.s1,hs,H.s3,H.s4,H.s5,H.s6⟩
 ·exact⟨H.s1,H.s2,hs,H.s4,H.s5,H.s6⟩
 ·exact⟨H.s1,H.s2,H.s3,hs,H.s5,H.s6⟩
 ·exact⟨H.s1,H.s2,H.s3,H.s4,hs,H.s6⟩
 ·exact⟨H.s1,H.s2,H.s3,H.s4,H.s5,hs⟩
theorem setT_or (t:TabS) (x:RowS):setT t x=t∨(fineB x=true∧setT t x=t.put x.client x):=by
 unfold setT
 split
 ·rename_i hc
  refine .inr ⟨?_,rfl⟩
  unfold setC at hc
  split at hc
  ·cases hc
  ·rename_i q;simpa using q
 ·exact .inl rfl
theorem applyS_t (s:StS) (u:UpR):((applyS s u).2.t=s.t∧s.e≤(applyS s u).2.e)∨((applyS s u).2.t=setT s.t (rowS s u)∧(applyS s u).2.e=u.seq∧u.seq=s.e+1):=by
 unfold applyS
 split
 ·exact .inl ⟨rfl,Int.le_refl _⟩
 split
 ·exact .inl ⟨rfl,Int.le_refl _⟩
 rename_i h
 split
 ·exact .inl ⟨rfl,by show s.e≤u.seq;omega⟩
 ·refine .inr ⟨rfl,?_,by omega⟩
  show(wrote s u).e=u.seq
  unfold wrote
  split<;>rfl
theorem GInv.apply {s:StS} {n:Nat} (G:GInv s) (I:SInv s n) (hn:n<90000) {u:UpR} (hu:UOk u):GInv (applyS s u).2:=by
 have hv:=outC_rng u (roomS s) (lastV_range (ofK_ok (I.ok hn) u.key).1)
 have ht:=applyS_t s u
 refine⟨?_,?_,?_,?_⟩
 ·rcases ht with⟨h,_⟩|⟨h,_,_⟩
  ·rw[h];exact G.tab
  ·rw[h]
   rcases setT_or s.t (rowS s u)with q|⟨hf,q⟩
   ·rw[q];exact G.tab
   ·rw[q]
    have hf2:=fineB_iff hf
    exact G.tab.put hf ⟨by omega,by have:=hu.num.2;exact⟨by omega,this⟩,by have:=hu.seq.2;exact⟨by omega,this⟩,⟨hf2.2.2.2.1,hf2.2.2.2.2⟩,hv⟩
 ·rcases ht with⟨h,h2⟩|⟨h,h2,h3⟩
  ·rw[h];intro r m;have:=G.late r m;omega
  ·rw[h,h2]
   rcases setT_or s.t (rowS s u)with q|⟨hf,q⟩
   ·rw[q];intro r m;have:=G.late r m;omega
   ·rw[q]
    intro r m
    obtain⟨m,hz⟩:=List.mem_filter.1 m
    rw[put_lst s.t (fineB_iff hf).1]at m
    rcases List.mem_or_eq_of_mem_set m with m|rfl
    ·have:=G.late r (List.mem_filter.2 ⟨m,hz⟩);omega
    ·exact Int.le_refl _
 ·rcases applyS_cases s u I.g I.e.1 with h|⟨_,⟨t,h⟩|⟨t,_,_,_,h⟩⟩
  ·rw[h];exact G.ne
  ·rw[h];exact G.ne
  ·rw[h]
   intro k
   show lookA (putA s.bs u.key _) k≠_
   rw[lookA_put]
   split
   ·simp
   ·exact G.ne k
 ·rcases applyS_cases s u I.g I.e.1 with h|⟨_,⟨t,h⟩|⟨t,_,_,hr,h⟩⟩
  ·rw[h];exact G.len
  ·rw[h];exact G.len
  ·rw[h]
   show(putA s.bs u.key _).length≤_
   rw[putA_length]
   have:=G.len
   split
   ·rename_i hk
    rcases hr with hr|hr
    ·omega
    ·exact absurd (by rw[ofK_none hk];rfl) hr
   ·exact this
structure Sib (s r:StS):Prop where
 e:s.e=r.e
 t:s.t=r.t
 len:s.bs.length=r.bs.length
 lk:∀k,lookA s.bs k=none↔lookA r.bs k=none
 last:∀k,lastV (ofK s k)=lastV (ofK r k)
theorem sib_apply {s r:StS} {n m:Nat} (H:Sib s r) (I:SInv s n) (J:SInv r m) (u:UpR):(applyS s u).1=(applyS r u).1∧Sib (applyS s u).2 (applyS r u).2:=by
 have ho:outS s u=outS r u:=by
  unfold outS roomS
  rw[H.last,H.len]
 have hrow:rowS s u=rowS r u:=by unfold rowS;rw[ho]
 unfold applyS
 by_cases h0:chkU u=0
 ·rw[if_neg (not_not_intro h0),if_neg (not_not_intro h0),H.e,H.t,hrow]
  by_cases h1:u.seq - 1=r.e
  ·rw[if_neg (not_not_intro h1),if_neg (not_not_intro h1)]
   by_cases h2:judgeC r.t u.client u.num=0
   ·rw[if_neg (not_not_intro h2),if_neg (not_not_intro h2)]
    refine⟨rfl,?_⟩
    unfold wrote
    rw[ho]
    by_cases hm:(outS r u).2.2=true
    ·rw[if_pos hm,if_pos hm]
     obtain⟨hv,hx,hr⟩:=outC_made hm
     have hv:(outS r u).2.1=(lastV (ofK r u.key)).ver+1:=hv
     have hseq:u.seq=r.e+1:=by omega
     have p2:=putB_new (J.g u.key) J.e.1 (okU_seq h0).2
     have p1:=putB_new (I.g u.key) I.e.1 (okU_seq h0).2
     rw[H.e,H.last,←hseq]at p1
     rw[←hseq]at p2
     have q1:putS {s with e:=u.seq} u.key ⟨(outS r u).2.1,u.seq,u.data⟩={s with e:=u.seq,bs:=putA s.bs u.key (ofK s u.key++[⟨(outS r u).2.1,u.seq,u.data⟩])}:=by
      show(⟨u.seq,putA s.bs u.key (putB (ofK s u.key) ⟨(outS r u).2.1,u.seq,u.data⟩),s.t⟩:StS)=_
      rw[hv,p1]
     have q2:putS {r with e:=u.seq} u.key ⟨(outS r u).2.1,u.seq,u.data⟩={r with e:=u.seq,bs:=putA r.bs u.key (ofK r u.key++[⟨(outS r u).2.1,u.seq,u.data⟩])}:=by
      show(⟨u.seq,putA r.bs u.key (putB (ofK r u.key) ⟨(outS r u).2.1,u.seq,u.data⟩),r.t⟩:StS)=_
      rw[hv,p2]
     rw[q1,q2]
     generalize (⟨(outS r u).2.1,u.seq,u.data⟩:Vs)=v
     refine⟨rfl,rfl,?_,fun k=>?_,fun k=>?_⟩
     ·show(putA s.bs u.key _).length=(putA r.bs u.key _).length
      rw[putA_length,putA_length,H.len]
      by_cases hk:lookA s.bs u.key=none
      ·rw[if_pos hk,if_pos ((H.lk _).1 hk)]
      ·rw[if_neg hk,if_neg fun q=>hk ((H.lk _).2 q)]
     ·show lookA (putA s.bs u.key _) k=none↔lookA (putA r.bs u.key _) k=none
      rw[lookA_put,lookA_put]
      split
      ·exact⟨fun q=>(by cases q),fun q=>(by cases q)⟩
      ·exact H.lk k
     ·show lastV ((lookA (putA s.bs u.key _) k).getD [])=lastV ((lookA (putA r.bs u.key _) k).getD [])
      rw[lookA_put,lookA_put]
      split
      ·show lastV (ofK s u.key++[v])=lastV (ofK r u.key++[v])
       rw[lastV_end,lastV_end]
      ·exact H.last k
    ·rw[if_neg hm,if_neg hm]
     exact⟨rfl,rfl,H.len,H.lk,H.last⟩
   ·rw[if_pos h2,if_pos h2]
    exact⟨rfl,rfl,rfl,H.len,H.lk,H.last⟩
  ·rw[if_pos h1,if_pos h1]
   exact⟨rfl,H⟩
 ·rw[if_pos h0,if_pos h0]
  exact⟨rfl,H⟩
theorem Sib.pic {s r:StS} (H:Sib s r) (h1:(keysA s.bs).Nodup) (h2:(keysA r.bs).Nodup):picB s=picB r:=by
 have hk:sortZ (keysA s.bs)=sortZ (keysA r.bs):=strict_ext (sortZ_up h1) (sortZ_up h2) fun k=>by
  rw[sortZ_mem,sortZ_mem]
  have a:=lookA_none (n:=k) (es:=s.bs)
  have b:=lookA_none (n:=k) (es:=r.bs)
  rw[←H.lk]at b
  exact Decidable.not_iff_not.1 (a.symm.trans b)
 show headB s.e (rowsT s.t) s.bs.length++(sortZ (keysA s.bs)).flatMap (keyB s)=headB r.e (rowsT r.t) r.bs.length++(sortZ (keysA r.bs)).flatMap (keyB r)
 rw[H.e,H.t,H.len,hk]
 congr 1
 exact flatMap_eq fun k _=>by show verB k (lastV (ofK s k))=verB k (lastV (ofK r k));rw[H.last]
end Go.M
namespace Go.M
open Go Go.Proofs
set_option maxRecDepth 100000
set_option maxHeartbeats 4000000
structure AllS (s:StS) (n:Nat):Prop where
 i:SInv s n
 p:PInv s
 g:GInv s
theorem AllS.zero:AllS ⟨0,[],zeroTab⟩ 0:=⟨SInv.zero,PInv.zero,GInv.zero⟩
theorem AllS.apply {s:StS} {n:Nat} (H:AllS s n) (hn:n<90000) {u:UpR} (hu:UOk u):AllS (applyS s u).2 (n+1):=⟨H.i.apply u hu,H.p.apply H.i hn hu,H.g.apply H.i hn hu⟩
theorem AllS.last {s:StS} {n:Nat} (H:AllS s n) {k:Int} (h:k∈keysA s.bs):lastV (ofK s k)∈ofK s k:=by
 cases hk:lookA s.bs k with
 |none=>exact absurd h (lookA_none.1 hk)
 |some vs=>
  have hne:=H.g.ne k
  rw[hk]at hne
  rw[ofK_some hk]
  rcases two_ends vs with rfl |⟨ws,w,rfl⟩
  ·exact absurd rfl hne
  ·rw[lastV_end];simp
theorem AllS.vnew {s:StS} {n:Nat} (H:AllS s n) {k:Int} (h:k∈keysA s.bs):VNew s.e (lastV (ofK s k)):=by
 have hv:=(H.i.g k).v _ (H.last h)
 exact⟨(H.i.g k).vok H.i.e.2 _ (H.last h),by omega,by omega,hv.2.1.2⟩
theorem load_pic {s:StS} {n:Nat} (H:AllS s n):loadC (picB s)=0∧Sib s (ldA (picB s)).s∧AllS (ldA (picB s)).s n:=by
 have hl:=H.g.len
 have he:=H.i.e
 have hsl:(sortZ (keysA s.bs)).length=s.bs.length:=by unfold sortZ;rw[List.length_mergeSort,List.length_map]
 have hup:=sortZ_up H.i.nd
 have hmem:∀k,k∈sortZ (keysA s.bs)→k∈keysA s.bs:=fun k m=>sortZ_mem.1 m
 have hF:picB s=bigL 8 s.e.toNat++(rowsB (rowsT s.t)++(bigL 2 s.bs.length++(sortZ (keysA s.bs)).flatMap (keyB s))):=by
  simp only[picB,headB,List.append_assoc]
 have h1:=get_big 8 s.e (rowsB (rowsT s.t)++(bigL 2 s.bs.length++(sortZ (keysA s.bs)).flatMap (keyB s))) (by decide) he.1 (by omega) he.2
 rw[←hF]at h1
 obtain⟨r1,r2,r3⟩:=rows_all H.g.tab (bigL 2 s.bs.length++(sortZ (keysA s.bs)).flatMap (keyB s))
 have hx1:ldX1 (picB s)=⟨rowsB (rowsT s.t)++(bigL 2 s.bs.length++(sortZ (keysA s.bs)).flatMap (keyB s)),0⟩:=by unfold ldX1;rw[h1]
 have hs0:ldS0 (picB s)=⟨s.e,[],s.t⟩:=by unfold ldS0;rw[hx1,r2,h1]
 have hx3:ldX3 (picB s)=(⟨(sortZ (keysA s.bs)).flatMap (keyB s),0⟩,(s.bs.length:Int)):=by
  unfold ldX3
  rw[hx1,r1]
  exact upto_big 2 s.bs.length _ 192 (by decide) (by omega) (by omega)
 have hfine:fineS (ldS0 (picB s))=true:=by
  rw[hs0]
  unfold fineS
  rw[Bool.not_eq_true',Bool.eq_false_iff]
  intro q
  obtain⟨r,m,hr⟩:=List.any_eq_true.1 q
  have hr:s.e<r.seq:=of_decide_eq_true hr
  have:=H.g.late r m
  omega
 have h0:ld0 (picB s)=⟨⟨(sortZ (keysA s.bs)).flatMap (keyB s),0⟩,⟨s.e,[],s.t⟩,-1,true⟩:=by
  unfold ld0
  rw[hfine,hs0,hx3]
 have hno:∀k∈sortZ (keysA s.bs),lookA (⟨s.e,[],s.t⟩:StS).bs k=none:=fun k _=>rfl
 have hnew:∀k∈sortZ (keysA s.bs),VNew (⟨s.e,[],s.t⟩:StS).e (lastV (ofK s k)):=fun k m=>H.vnew (hmem k m)
 obtain⟨last,hr⟩:=vers_read s (sortZ (keysA s.bs)) ⟨s.e,[],s.t⟩ (-1) (fun k m=>by
  have:=H.p.keys k fun q=>lookA_none.1 q (hmem k m)
  exact⟨this,by omega⟩) hup hno hnew
 have hA:ldA (picB s)=⟨⟨[],0⟩,putsV s ⟨s.e,[],s.t⟩ (sortZ (keysA s.bs)),last,true⟩:=by
  unfold ldA
  rw[h0,hx3,Int.toNat_natCast,←hsl]
  exact hr
 obtain⟨g1,g2,g3,g4,g5⟩:=putsV_is s s.e (sortZ (keysA s.bs)) ⟨s.e,[],s.t⟩ hup hno hnew
 have hC:loadC (picB s)=0:=by
  unfold loadC
  rw[hx1,r3,hA]
  rfl
 refine⟨hC,?_,?_⟩
 all_goals
  rw[hA]
  dsimp only
  generalize putsV s ⟨s.e,[],s.t⟩ (sortZ (keysA s.bs))=S at g1 g2 g3 g4 g5
  have hlk:∀k,lookA S.bs k=if k∈sortZ (keysA s.bs)then some [lastV (ofK s k)]else none:=g1
 ·refine⟨g2.symm,g3.symm,?_,fun k=>?_,fun k=>?_⟩
  ·rw[g4,hsl];exact(Nat.zero_add _).symm
  ·rw[hlk]
   by_cases hm:k∈sortZ (keysA s.bs)
   ·rw[if_pos hm]
    exact⟨fun q=>absurd (hmem k hm) (lookA_none.1 q),fun q=>(by cases q)⟩
   ·rw[if_neg hm]
    exact⟨fun _=>rfl,fun _=>lookA_none.2 fun q=>hm (sortZ_mem.2 q)⟩
  ·by_cases hm:k∈sortZ (keysA s.bs)
   ·rw[ofK_some (show lookA S.bs k=some [lastV (ofK s k)] by rw[hlk,if_pos hm])]
    exact(lastV_end [] _).symm
   ·rw[ofK_none (show lookA S.bs k=none by rw[hlk,if_neg hm]),ofK_none (lookA_none.2 fun q=>hm (sortZ_mem.2 q))]
 ·have hof:∀k,ofK S k=if k∈sortZ (keysA s.bs)then [lastV (ofK s k)]else []:=fun k=>by
   by_cases hm:k∈sortZ (keysA s.bs)
   ·rw[ofK_some (show lookA S.bs k=some [lastV (ofK s k)] by rw[hlk,if_pos hm]),if_pos hm]
   ·rw[ofK_none (show lookA S.bs k=none by rw[hlk,if_neg hm]),if_neg hm]
  have hSl:S.bs.length=s.bs.length:=by rw[g4,hsl];exact Nat.zero_add _
  refine⟨⟨by rw[g2];exact he,g5 .nil,by rw[hSl];exact H.i.len,fun k=>?_,fun k=>?_⟩,⟨fun k hk=>?_,by rw[g3];exact H.p.rows⟩,⟨by rw[g3];exact H.g.tab,by rw[g2,g3];exact H.g.late,fun k=>?_,by rw[hSl];exact hl⟩⟩
  ·rw[hof,g2]
   split
   ·rename_i hm
    exact⟨List.pairwise_singleton _ _,fun v m=>by
     rw[List.mem_singleton]at m
     rw[m]
     exact(H.i.g k).v _ (H.last (hmem k hm))⟩
   ·exact Good.nil _
  ·rw[hof]
   split
   ·simp
   ·simp
  ·refine H.p.keys k fun q=>hk ?_
   rw[hlk,if_neg fun m=>lookA_none.1 q (hmem k m)]
  ·rw[hlk]
   split
   ·simp
   ·simp
end Go.M
namespace Go.M
open Go Go.Proofs
set_option maxRecDepth 100000
set_option maxHeartbeats 4000000
@[reducible] def byteB (l:List Int):Prop:=∀b∈l,0≤b∧b<256
def DInv (s:StS):Prop:=∀k,∀v∈ofK s k,byteB v.data
theorem DInv.zero:DInv ⟨0,[],zeroTab⟩:=fun k v m=>by cases m
theorem DInv.apply {s:StS} {n:Nat} (D:DInv s) (I:SInv s n) {u:UpR} (hu:byteB u.data):DInv (applyS s u).2:=by
 rcases applyS_cases s u I.g I.e.1 with h|⟨_,⟨t,h⟩|⟨t,_,_,_,h⟩⟩
 ·rw[h];exact D
 ·rw[h];exact D
 ·rw[h]
  intro k v m
  have hof:ofK (⟨u.seq,putA s.bs u.key (ofK s u.key++[⟨(lastV (ofK s u.key)).ver+1,u.seq,u.data⟩]),t⟩:StS) k=if k=u.key then ofK s u.key++[⟨(lastV (ofK s u.key)).ver+1,u.seq,u.data⟩]else ofK s k:=ofK_put (s:=s)
  rw[hof]at m
  split at m
  ·rcases List.mem_append.1 m with m|m
   ·exact D _ v m
   ·rw[List.mem_singleton]at m;rw[m];exact hu
  ·exact D k v m
theorem byteB_app {a b:List Int} (ha:byteB a) (hb:byteB b):byteB (a++b):=fun x m=>by
 rcases List.mem_append.1 m with m|m
 ·exact ha x m
 ·exact hb x m
theorem byteB_flat {α:Type} {f:α→List Int} {l:List α} (h:∀a∈l,byteB (f a)):byteB (l.flatMap f):=fun x m=>by
 obtain⟨a,ma,mx⟩:=List.mem_flatMap.1 m
 exact h a ma x mx
theorem picB_bytes {s:StS} (D:DInv s):byteB (picB s):=by
 have hb:=fun w n=>bigL_byte w n
 refine byteB_app (byteB_app (byteB_app (hb _ _) (byteB_app (hb _ _) (byteB_flat fun r _=>?_))) (hb _ _)) (byteB_flat fun k _=>?_)
 ·exact byteB_app (byteB_app (byteB_app (byteB_app (hb _ _) (hb _ _)) (hb _ _)) (hb _ _)) (hb _ _)
 ·refine byteB_app (byteB_app (byteB_app (hb _ _) (hb _ _)) (hb _ _)) (byteB_app (hb _ _) ?_)
  rcases lastV_or (ofK s k)with h|h
  ·rw[h];intro x m;cases m
  ·exact D k _ h
@[reducible] def nextU (s:StS) (u:UpR):UpR:={u with seq:=s.e+1}
theorem AllS.pic {s:StS} {n:Nat} (H:AllS s n) (hn:n<90000):PicOk s:=⟨H.i.ok hn,H.i.e,fun x m=>H.p.rows x (List.mem_filter.1 m).1,by have:=H.g.len;omega,fun k m=>H.p.keys k fun q=>lookA_none.1 q m⟩
theorem apply_e {s:StS} {n:Nat} (I:SInv s n) (u:UpR):(applyS s (nextU s u)).2.e≤s.e+1:=by
 rcases applyS_cases s (nextU s u) I.g I.e.1 with h|⟨_,⟨t,h⟩|⟨t,_,_,_,h⟩⟩<;>rw[h]
 ·omega
 ·exact Int.le_refl _
 ·exact Int.le_refl _
theorem nextU_ok {s:StS} {u:UpR} (hu:UOk u) (h0:0≤s.e) (h1:s.e<1000000):UOk (nextU s u):=⟨by show 0≤s.e+1∧s.e+1≤_;omega,hu.num,hu.ver,hu.key⟩
theorem mod20 (m:Int) (hm:0≤m∧m≤255):∃a:Nat,a<20∧(IntKind.i64.wrap m).tmod 20=(a:Int):=⟨(m % 20).toNat,by omega,by
 rw[IntWalk.i64_in m (by omega),Int.tmod_eq_emod_of_nonneg hm.1];omega⟩
theorem goes_ok (l:List OpS) (hl:∀o∈l,UOk o.u∧byteB o.u.data) (hn:l.length≤9223372036854775807) (m:Int) (hm:0≤m∧m≤255):VC EZ 7 0 [.sl 12 (l.map encO) false,.s (.int .u8 m)] [] (RR (.s (.bool true)) 0 []):=by
 have hf:=far_ok l hn
 obtain⟨a,ha,hma⟩:=mod20 m hm
 refine VC.enterR LZ (show EZ.func 7=some Tryz.f7 by kernel_rfl) (fun _ _=>rfl) rfl rfl [] ?_
 conv=>whnf
 refine⟨[],[],_,_,_,_,hf,t3,cR ?_⟩
 conv=>whnf
 (first|refine⟨?_,?_⟩|refine nsplit ?_ ?_|refine bsplit ?_ ?_)<;>intro h0<;>have hz_:=True.intro<;>clear hz_
 ·conv=>whnf
  refine⟨[],[],_,_,_,_,awake18_ok,t3,cR ?_⟩
  conv=>whnf
  exact⟨[],[],_,_,_,t3,rfl,rfl,rfl⟩
 ·have h60:l.length≤60:=by
   have h0:farB l=false:=h0
   unfold farB at h0
   simp at h0
   exact h0.2
  conv=>whnf
  refine⟨[],[],_,_,_,_,knew_ok,t3,cR ?_⟩
  conv=>whnf
  refine⟨fun q f o c=>∃(i:Nat) (s:StS),AllS s i∧DInv s∧s.e≤i∧i≤l.length∧q=l.length - i∧
   ((c=2∧i≤a∧f=[(0,.sl 12 (l.map encO) false),(1,.s (.int .u8 m)),(5,.ptr 0 0),(6,.ptr 0 0),(7,.s (.bool false)),(8,.s (.int .i64 i))]∧o=stO s)∨
    (∃r:StS,c=4∧a<i∧Sib s r∧AllS r i∧f=[(0,.sl 12 (l.map encO) false),(1,.s (.int .u8 m)),(5,.ptr 0 0),(6,.ptr 2 0),(7,.s (.bool true)),(8,.s (.int .i64 i))]∧o=st2 s r)),⟨l.length,?_⟩,?_⟩
  ·exact⟨[],[some 0,some 1],_,_,_,t3,⟨0,⟨0,[],zeroTab⟩,AllS.zero,DInv.zero,Int.le_refl _,Nat.zero_le _,rfl,.inl ⟨rfl,Nat.zero_le _,rfl,rfl⟩⟩⟩
  ·rintro q f1 o1 c1 ⟨i,s,H,D,hei,hi,rfl,⟨rfl,hia,rfl,rfl⟩|⟨r,rfl,hia,S,R,rfl,rfl⟩⟩
   ·conv=>whnf
    (first|refine⟨?_,?_⟩|refine nsplit ?_ ?_|refine bsplit ?_ ?_)<;>intro h<;>have hz_:=True.intro<;>clear hz_
    ·have h:i<l.length:=lenlt.1 h
     obtain⟨hu,hub⟩:=hl _ (List.getElem_mem h)
     have hue:=nextU_ok hu H.i.e.1 (show s.e<1000000 by omega)
     have hp:=picture_ok s (H.pic (by omega))
     have hw:IntKind.u64.wrap (s.e+1)=s.e+1:=IntWalk.u64_in _ (by have:=H.i.e;omega)
     conv=>whnf
     rw[hma]
     (first|refine⟨?_,?_⟩|refine nsplit ?_ ?_|refine bsplit ?_ ?_)<;>intro ht<;>have hz_:=True.intro<;>clear hz_
     ·have ht:i=a:=by have ht:(i:Int)=a:=ht
                      omega
      obtain⟨hC,S,R⟩:=load_pic H
      have hld:=load_ok (picB s) (picB_len (H.pic (by omega))) (picB_bytes D)
      rw[if_pos hC]at hld
      generalize (ldA (picB s)).s=r at hld S R
      have hap:=apply_ok s (nextU s l[i].u) (H.i.ok (by omega)) hue
      have har:=apply_ok r (nextU s l[i].u) (R.i.ok (by omega)) hue
      obtain⟨heq,S2⟩:=sib_apply S H.i R.i (nextU s l[i].u)
      have H2:=H.apply (by omega) hue
      have R2:=R.apply (by omega) hue
      have D2:=D.apply H.i (u:=nextU s l[i].u) hub
      have e2:=apply_e H.i l[i].u
      generalize applyS s (nextU s l[i].u)=w at hap heq S2 H2 D2 e2
      generalize applyS r (nextU s l[i].u)=w2 at har heq S2 R2
      obtain⟨⟨y,e⟩,s2⟩:=w
      obtain⟨y2,r2⟩:=w2
      dsimp only at heq S2 H2 R2 D2 e2
      subst heq
      conv=>whnf
      refine⟨[],[some 0,some 1],_,_,_,_,hp,t3,cR ?_⟩
      conv=>whnf
      refine⟨[],[],_,_,_,_,hld,t3,cR ?_⟩
      conv=>whnf
      (first|refine⟨?_,?_⟩|refine nsplit ?_ ?_|refine bsplit ?_ ?_)<;>intro f0<;>have hz_:=True.intro<;>clear hz_
      ·exact absurd rfl f0
      ·conv=>whnf
       refine idxI h ?_
       refine⟨[],[some 0,some 1],_,_,_,_,end_ok s,t3,cR ?_⟩
       conv=>whnf
       rw[hw]
       refine⟨[],[some 0,some 1],_,_,_,_,hap,t3,cR ?_⟩
       conv=>whnf
       refine⟨[],[some 4,some 5],_,_,_,_,har,t3,cR ?_⟩
       conv=>whnf
       (first|refine⟨?_,?_⟩|refine nsplit ?_ ?_|refine bsplit ?_ ?_)<;>intro c0<;>have hz_:=True.intro<;>clear hz_
       ·exact absurd c0 (by simp[veq1])
       ·conv=>whnf
        (first|refine⟨?_,?_⟩|refine nsplit ?_ ?_|refine bsplit ?_ ?_)<;>intro c1<;>have hz_:=True.intro<;>clear hz_
        ·exact absurd rfl c1
        ·conv=>whnf
         refine⟨l.length - (i+1),?_,by omega⟩
         exact⟨[],[some 0,some 1,some 4,some 5],_,_,_,t3,⟨i+1,s2,H2,D2,by omega,h,rfl,.inr ⟨r2,rfl,by omega,S2,R2,rfl,rfl⟩⟩⟩
     ·have ht:i≠a:=by have ht:¬(i:Int)=a:=ht
                      omega
      have hap:=apply_ok s (nextU s l[i].u) (H.i.ok (by omega)) hue
      have H2:=H.apply (by omega) hue
      have D2:=D.apply H.i (u:=nextU s l[i].u) hub
      have e2:=apply_e H.i l[i].u
      generalize applyS s (nextU s l[i].u)=w at hap H2 D2 e2
      obtain⟨⟨y,e⟩,s2⟩:=w
      dsimp only at H2 D2 e2
      conv=>whnf
      refine idxI h ?_
      refine⟨[],[some 0,some 1],_,_,_,_,end_ok s,t3,cR ?_⟩
      conv=>whnf
      rw[hw]
      refine⟨[],[some 0,some 1],_,_,_,_,hap,t3,cR ?_⟩
      conv=>whnf
      refine⟨l.length - (i+1),?_,by omega⟩
      exact⟨[],[some 0,some 1],_,_,_,t3,⟨i+1,s2,H2,D2,by omega,h,rfl,.inl ⟨rfl,by omega,rfl,rfl⟩⟩⟩
    ·obtain rfl:i=l.length:=by have:=mt lenlt.2 h;omega
     have hp:=picture_ok s (H.pic (by omega))
     have hsm:=same_ok (picB s) (picB_len (H.pic (by omega)))
     generalize picB s=x at hp hsm
     conv=>whnf
     refine⟨[],[some 0,some 1],_,_,_,_,hp,t3,cR ?_⟩
     conv=>whnf
     refine⟨[],[some 0,some 1],_,_,_,_,hp,t3,cR ?_⟩
     conv=>whnf
     refine⟨[],[],_,_,_,_,hsm,t3,cR ?_⟩
     conv=>whnf
     refine⟨[],[],_,_,_,_,awake18_ok,t3,cR ?_⟩
     conv=>whnf
     exact⟨[],[],_,_,_,t3,rfl,rfl,rfl⟩
   ·conv=>whnf
    (first|refine⟨?_,?_⟩|refine nsplit ?_ ?_|refine bsplit ?_ ?_)<;>intro h<;>have hz_:=True.intro<;>clear hz_
    ·have h:i<l.length:=lenlt.1 h
     obtain⟨hu,hub⟩:=hl _ (List.getElem_mem h)
     have hue:=nextU_ok hu H.i.e.1 (show s.e<1000000 by omega)
     have hw:IntKind.u64.wrap (s.e+1)=s.e+1:=IntWalk.u64_in _ (by have:=H.i.e;omega)
     have hap:=apply_ok s (nextU s l[i].u) (H.i.ok (by omega)) hue
     have har:=apply_ok r (nextU s l[i].u) (R.i.ok (by omega)) hue
     obtain⟨heq,S2⟩:=sib_apply S H.i R.i (nextU s l[i].u)
     have H2:=H.apply (by omega) hue
     have R2:=R.apply (by omega) hue
     have D2:=D.apply H.i (u:=nextU s l[i].u) hub
     have e2:=apply_e H.i l[i].u
     generalize applyS s (nextU s l[i].u)=w at hap heq S2 H2 D2 e2
     generalize applyS r (nextU s l[i].u)=w2 at har heq S2 R2
     obtain⟨⟨y,e⟩,s2⟩:=w
     obtain⟨y2,r2⟩:=w2
     dsimp only at heq S2 H2 R2 D2 e2
     subst heq
     conv=>whnf
     rw[hma]
     (first|refine⟨?_,?_⟩|refine nsplit ?_ ?_|refine bsplit ?_ ?_)<;>intro ht<;>have hz_:=True.intro<;>clear hz_
     ·exact absurd (show(i:Int)=a from ht) (by omega)
     ·conv=>whnf
      refine idxI h ?_
      refine⟨[],[some 0,some 1],_,_,_,_,end_ok s,t3,cR ?_⟩
      conv=>whnf
      rw[hw]
      refine⟨[],[some 0,some 1],_,_,_,_,hap,t3,cR ?_⟩
      conv=>whnf
      refine⟨[],[some 2,some 3],_,_,_,_,har,t3,cR ?_⟩
      conv=>whnf
      (first|refine⟨?_,?_⟩|refine nsplit ?_ ?_|refine bsplit ?_ ?_)<;>intro c0<;>have hz_:=True.intro<;>clear hz_
      ·exact absurd c0 (by simp[veq1])
      ·conv=>whnf
       (first|refine⟨?_,?_⟩|refine nsplit ?_ ?_|refine bsplit ?_ ?_)<;>intro c1<;>have hz_:=True.intro<;>clear hz_
       ·exact absurd rfl c1
       ·conv=>whnf
        refine⟨l.length - (i+1),?_,by omega⟩
        exact⟨[],[some 0,some 1,some 2,some 3],_,_,_,t3,⟨i+1,s2,H2,D2,by omega,h,rfl,.inr ⟨r2,rfl,by omega,S2,R2,rfl,rfl⟩⟩⟩
    ·obtain rfl:i=l.length:=by have:=mt lenlt.2 h;omega
     have hp:=picture_ok s (H.pic (by omega))
     have hpr:=picture_ok r (R.pic (by omega))
     rw[←S.pic H.i.nd R.i.nd]at hpr
     have hsm:=same_ok (picB s) (picB_len (H.pic (by omega)))
     generalize picB s=x at hp hpr hsm
     conv=>whnf
     refine⟨[],[some 0,some 1],_,_,_,_,hp,t3,cR ?_⟩
     conv=>whnf
     refine⟨[],[some 2,some 3],_,_,_,_,hpr,t3,cR ?_⟩
     conv=>whnf
     refine⟨[],[],_,_,_,_,hsm,t3,cR ?_⟩
     conv=>whnf
     refine⟨[],[],_,_,_,_,awake18_ok,t3,cR ?_⟩
     conv=>whnf
     exact⟨[],[],_,_,_,t3,rfl,rfl,rfl⟩
end Go.M
