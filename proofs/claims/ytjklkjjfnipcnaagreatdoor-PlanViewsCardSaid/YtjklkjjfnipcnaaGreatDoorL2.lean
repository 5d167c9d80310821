/-
  Part 2 of the library that the proof leans on.
-/
import Derived.Test.YtjklkjjfnipcnaaGreatDoorL1
noncomputable section
namespace Go.M
open Go
theorem ym:∀(l:List Value) (k off:Nat) (c:Array Value),off+k+l.length≤c.size→
 ((l.zipIdx k).foldl (fun cs p=>cs.setIfInBounds (off+p.2) p.1) c).size=c.size∧
 ∀i,((l.zipIdx k).foldl (fun cs p=>cs.setIfInBounds (off+p.2) p.1) c)[i]? =if off+k≤i∧i<off+k+l.length then l[i - (off+k)]? else c[i]?
 |[],k,off,c,h=>⟨rfl,fun i=>by rw[if_neg (by simp)];rfl⟩
 |v::l,k,off,c,h=>by
  simp only[List.length_cons]at h;have ih:=ym l (k+1) off (c.setIfInBounds (off+k) v) (by simp;omega);simp only[List.zipIdx_cons,List.foldl_cons];refine⟨by rw[ih.1];simp,fun i=>?_⟩;rw[ih.2 i];by_cases h1:off+(k+1)≤i∧i<off+(k+1)+l.length
  ·rw[if_pos h1,if_pos (by simp;omega)];have:i - (off+k)=(i - (off+(k+1)))+1:=by omega
   rw[this,List.getElem?_cons_succ]
  ·rw[if_neg h1];by_cases h2:i=off+k
   ·subst h2;rw[if_pos (by simp),Array.getElem?_setIfInBounds_self_of_lt om];simp
   ·rw[if_neg (by simp;omega),Array.getElem?_setIfInBounds_ne om]
theorem pB {μ:aS} {place place':Nat→Option (Nat×Nat)} (hp:∀i p,place i=some p→place' i=some p):∀{ps ps':List (Nat×Value)} {cells cs:List Value} {cells':Array Value},
 iW place cells ps=some cs→ao μ cells cells'.toList→(ps.length=ps'.length)→(∀(k:Nat) q,ps[k]? =some q→∃v',ps'[k]? =some (q.1,v')∧ak μ q.2 v')→
 ∃cs',Instr.fill place' cells' ps'=some cs'∧ao μ cs cs'.toList
 |[],ps',cells,cs,cells',h,hr,hl,hq=>by
  cases ps' with
  |nil=>simp only[iW,Option.some.injEq]at h;subst h;exact⟨cells',rfl,hr⟩
  |cons _ _=>simp at hl
 |(i,v)::ps,[],_,_,_,_,_,hl,_=>by simp at hl
 |(i,v)::ps,q'::ps',cells,cs,cells',h,hr,hl,hq=>by
  obtain⟨v',e1,hv⟩:=hq 0 (i,v) rfl;simp only[List.getElem?_cons_zero,Option.some.injEq]at e1;subst e1;simp only at hv;simp only[iW,Option.bind_eq_some_iff,ae,beq_iff]at h;obtain⟨⟨off,size⟩,h1,h2,c1,h3,h4⟩:=h;simp only at h2;obtain⟨s1,s2,s3⟩:=cH h3;have hlen:=hr.length;have Ll:=hv.tQ;have wU:off+v'.cells.toList.length≤cells'.size:=by
   simp at s1 hlen ⊢;omega
  have zf:=ym v'.cells.toList 0 off cells' om;have Ca:ao μ c1 (v'.cells.zipIdx.foldl (fun cs p=>cs.setIfInBounds (off+p.2) p.1) cells').toList:=by
   have e:v'.cells.zipIdx.foldl (fun cs (p:Value×Nat)=>cs.setIfInBounds (off+p.2) p.1) cells'=(v'.cells.toList.zipIdx 0).foldl (fun cs p=>cs.setIfInBounds (off+p.2) p.1) cells':=by
    rw[←Array.foldl_toList];simp
   rw[e];refine .B6 ?_ fun j a a' ha tW=>?_
   ·simp only[Array.length_toList];rw[zf.1,s2];simpa using hlen
   ·rw[s3 j]at ha;rw[Array.getElem?_toList,zf.2 j]at tW;simp only[Nat.add_zero]at tW;have Pf:v.cells.toList.length=v'.cells.toList.length:=by simpa using Ll
    by_cases hj:off≤j∧j<off+v.cells.toList.length
    ·simp only at ha;rw[if_pos hj]at ha;rw[if_pos (by rw[←Pf];exact hj)]at tW;obtain⟨u,k1,k2⟩:=hv.cells.get ha;rw[tW]at k1;cases k1;exact k2
    ·simp only at ha;rw[if_neg hj]at ha;rw[if_neg (by rw[←Pf];exact hj)]at tW;obtain⟨u,k1,k2⟩:=hr.get ha;simp[tW]at k1;subst k1;exact k2
  have ih:=pB hp (ps':=ps') h4 Ca (by simpa using hl) (fun k q hk=>hq (k+1) q (by simpa using hk));obtain⟨cs',r1,r2⟩:=ih;refine⟨cs',?_,r2⟩;simp only[Instr.fill,hp _ _ h1];have hs:v'.cells.size=size:=by rw[←Ll];exact h2
  rw[if_neg]
  ·exact r1
  ·simp at wU;simp[hs];omega
def Pg (μ:aS) (ps ps':List (Nat×Value)):Prop:=ps.length=ps'.length∧∀(k:Nat) q,ps[k]? =some q→∃v',ps'[k]? =some (q.1,v')∧ak μ q.2 v'
section
variable {P:Program} {E:Env} {μ:aS}
theorem zV (hE:aU P E) (g:Field→Nat×Nat):∀(fs:List Field) (w:World),(∀f∈fs,∃n,E.size f.type=some n∧g f=(f.offset,n))→
 (fs.mapM (m:=Sem) fun f=>do pure (f.offset,←sizeOf f.type)).run P w= .ok (fs.map g) w
 |[],w,_=>by simp
 |f::fs,w,h=>by
  obtain⟨n,h1,h2⟩:=h f (by simp);have ih:=zV hE g fs w (fun x hx=>h x (by simp[hx]));simp only[List.mapM_cons,Sem.run_bind,eL hE h1 w,Result.andThen_ok,Sem.run_pure,ih,List.map_cons,h2]
theorem JT (hE:aU P E) {t:TypeId} {ps ps':List (Nat×Value)} {v:Value} (h:qF E t ps=some v) (hp:Pg μ ps ps'):∃v',ak μ v v'∧eg P (Instr.build t ps'.toArray) v':=by
 unfold qF at h;simp only[Option.bind_eq_some_iff]at h;obtain⟨d,h1,z,h2,h3⟩:=h;have hz:=ak.bJ μ (hE.zero t z h2).2;have OH:ao μ z.cells.toList z.cells.toList:=hz.cells;split at h3
 ·rename_i fields;simp only[ae,Option.bind_eq_some_iff,Option.some.injEq]at h3;obtain⟨iP,cs,h4,rfl⟩:=h3;have Mi:∀f∈fields.toList,∃n,E.size f.type=some n∧(fun f:Field=>(f.offset,(E.size f.type).getD 0)) f=(f.offset,n):=by
   intro f hf;rw[Array.all_eq_true]at iP;obtain⟨i,hi,rfl⟩:=List.mem_iff_getElem.1 hf;have:=iP i (by simpa using hi);obtain⟨n,hn⟩:=Option.isSome_iff_exists.1 this;have JU:E.size (fields.toList[i]).type=some n:=by simpa using hn
   exact⟨n,JU,by simp only[JU,Option.getD_some]⟩
  have Mj:∀i p,oE E fields i=some p→((fields.toList.map (fun f:Field=>(f.offset,(E.size f.type).getD 0))).toArray)[i]? =some p:=by
   intro i p hi;unfold oE at hi;simp only[Option.bind_eq_some_iff,Option.some.injEq]at hi;obtain⟨fd,k1,n,k2,rfl⟩:=hi;simp[k1,k2]
  obtain⟨cs',q1,q2⟩:=pB (μ:=μ) Mj (ps':=ps') h4 OH hp.1 hp.2;refine⟨.agg cs',.fg (by simpa using q2),fun w=>?_⟩;have hm:=zV hE (fun f:Field=>(f.offset,(E.size f.type).getD 0)) fields.toList w Mi;unfold Instr.build;simp only[Sem.run_bind,gM hE h2 w,Result.andThen_ok,aA hE h1 w];have RA:(fields.mapM (m:=Sem) fun f=>do pure (f.offset,←sizeOf f.type)).run P w= .ok (fields.toList.map (fun f:Field=>(f.offset,(E.size f.type).getD 0))).toArray w:=by
   rw[Array.mapM_eq_mapM_toList];simp only[Sem.run_map,hm,Result.andThen_ok]
  simp only[RA,Result.andThen_ok,q1,Sem.run_pure]
 ·rename_i len elem;simp only[Option.bind_eq_some_iff,Option.some.injEq]at h3;obtain⟨n,h3,cs,h4,rfl⟩:=h3;obtain⟨cs',q1,q2⟩:=pB (μ:=μ) (place':=fun i=>some (i*n,n)) (fun _ _ h=>h) (ps':=ps') h4 OH hp.1 hp.2;refine⟨.agg cs',.fg (by simpa using q2),fun w=>?_⟩;unfold Instr.build;simp only[Sem.run_bind,gM hE h2 w,Result.andThen_ok,aA hE h1 w,eL hE h3 w,q1,Sem.run_pure]
 ·cases h3
theorem rX {s:Sem Value} {v:Value} (h:dw s=some v):eg P s v:=by
 intro w;cases s<;>simp[dw]at h;subst h;rfl
theorem oN (hE:aU P E) {op:BinOp} {t:TypeId} {x y:Operand} {a b a' b':Value} (ha:ak μ a a') (hb:ak μ b b')
 (hg:la E t x y a b=true):eg P (eqGuard op t x y a' b') ():=by
 intro w;unfold eqGuard;cases op<;>(try rfl)
 all_goals
  simp only[Bool.not_true,Bool.false_eq_true,if_false];split
  ·cases ha with
   |lit _=>cases hb with
    |lit _=>
     simp only[la]at hg;cases x<;>cases y<;>simp[my]at hg<;>simp
    |ye _=>simp[la]at hg
   |ye _=>simp[la]at hg
  ·rename_i u1 u2;cases ha with
   |lit hh=>simp[ar]at hh
   |agg h1 h2=>cases hb with
    |lit hh=>simp[ar]at hh
    |agg k1 k2=>
     simp only[la]at hg;simp[run_program,(hE.pq t hg).1]
    |ye hh=>rcases hh with hh|⟨_,_,hh⟩<;>cases hh
   |ye hh=>rcases hh with hh|⟨_,_,hh⟩<;>cases hh
  ·rfl
theorem Ph (hE:aU P E) {op:BinOp} {t:TypeId} {x y:Operand} {a b a' b' v:Value} (h:tO E op t x y a b=some v) (ha:ak μ a a') (hb:ak μ b b'):
 ∃v',ak μ v v'∧eg P (do eqGuard op t x y a' b';binOp op t a' b') v':=by
 unfold tO at h;split at h
 ·cases ha.an rfl;cases hb.an rfl;rename_i k n k' n';have hs:scalar v=true:=by
   simp only[binOp]at h;have:∀s:Sem Value,dw s=some v→(∃u,s= .pure u∧scalar u=true)→scalar v=true:=by
    rintro s hs ⟨u,rfl,hu⟩;simp[dw]at hs;subst hs;exact hu
   cases op<;>simp only at h<;>(try split at h)<;>
    first
    |(simp[dw,stuck]at h;done)
    |(simp only[dw,Op.intArith,Op.intBits,Op.intCmp,Pure.pure,Option.some.injEq]at h;subst h;rfl)
    |(unfold Op.intDiv at h;split at h
      ·simp[runtimePanic,dw,program,bind,Sem.bind]at h
      ·simp only[dw,Pure.pure,Option.some.injEq]at h;subst h;rfl)
    |(unfold Op.shift at h;split at h
      ·simp[runtimePanic,dw,program,bind,Sem.bind]at h
      ·simp only[dw,Pure.pure,Option.some.injEq]at h;subst h;rfl)
  refine⟨v,.nz μ hs,fun w=>?_⟩;have hg:=oN hE (μ:=μ) (op:=op) (t:=t) (x:=x) (y:=y) (.int μ k n) (.int μ k' n') rfl w;simp only[Sem.run_bind,hg,Result.andThen_ok];exact rX h w
 ·cases ha.an rfl;cases hb.an rfl;rename_i s r;have hg:∀w,(eqGuard op t x y (.string s) (.string r)).run P w= .ok () w:=oN hE (μ:=μ) (.string μ s) (.string μ r) rfl;have et:∀q:ByteArray,q.toList=q.data.toList:=fun q=>ByteArray.toList_eq q;split at h<;>(first|(simp only[Option.some.injEq]at h;subst h;refine⟨_,.lit rfl,fun w=>?_⟩;simp only[Sem.run_bind,hg w,Result.andThen_ok];simp[binOp,Op.stringOp,et])|skip)
  ·simp only[ae,decide_eq_true_eq,Option.some.injEq]at h;obtain⟨h1,rfl⟩:=h;refine⟨_,.lit rfl,fun w=>?_⟩;simp only[Sem.run_bind,hg w,Result.andThen_ok];have e:IntKind.i64.max=9223372036854775807:=by decide
   simp only[binOp,Op.stringOp,e];rw[if_neg om];rfl
  ·cases h
 ·rename_i Cb tX;simp only[ae]at h;obtain⟨h1,h2⟩:=h;have hg:=oN hE (op:=op) (t:=t) (x:=x) (y:=y) ha hb h1;have key:∀r,sO E 100 t a b=some r→eg P (Op.equal t a' b') r:=fun r hr=>by
   unfold Op.equal Op.maxDepth;exact Pe hE 100 10000 t a b a' b' r om hr ha hb
  have Lm:∀(w:World) r,eg P (Op.equal t a' b') r→(binOp .eql t a' b').run P w= .ok (.bool r) w∧(binOp .neq t a' b').run P w= .ok (.bool !r) w:=by
   intro w r hr;have hh:(∀k n k' n',¬(a'= .int k n∧b'= .int k' n'))∧(∀s r,¬(a'= .string s∧b'= .string r)):=by
    refine⟨?_,?_⟩
    ·rintro k n k' n' ⟨rfl,rfl⟩;cases ha with
     |ye hh=>rcases hh with hh|⟨_,_,hh⟩<;>cases hh
     |lit _=>cases hb with
      |ye hh=>rcases hh with hh|⟨_,_,hh⟩<;>cases hh
      |lit _=>exact Cb _ _ _ _ rfl rfl
    ·rintro s r ⟨rfl,rfl⟩;cases ha with
     |ye hh=>rcases hh with hh|⟨_,_,hh⟩<;>cases hh
     |lit _=>cases hb with
      |ye hh=>rcases hh with hh|⟨_,_,hh⟩<;>cases hh
      |lit _=>exact tX _ _ rfl rfl
   have zD:(∀k n k' n',¬(a'= .float k n∧b'= .float k' n'))∧(∀k x y k' x' y',¬(a'= .complex k x y∧b'= .complex k' x' y')):=by
    refine⟨?_,?_⟩
    ·rintro k n k' n' ⟨rfl,rfl⟩;cases ha with|lit hx=>simp[ar]at hx|ye hh=>rcases hh with hh|⟨_,_,hh⟩<;>cases hh
    ·rintro k x y k' x' y' ⟨rfl,rfl⟩;cases ha with|lit hx=>simp[ar]at hx|ye hh=>rcases hh with hh|⟨_,_,hh⟩<;>cases hh
   have jA:=hr w
   cases a'<;>cases b'<;>
    first
    |exact absurd ⟨rfl,rfl⟩ (hh.1 _ _ _ _)
    |exact absurd ⟨rfl,rfl⟩ (hh.2 _ _)
    |exact absurd ⟨rfl,rfl⟩ (zD.1 _ _ _ _)
    |exact absurd ⟨rfl,rfl⟩ (zD.2 _ _ _ _ _ _)
    |(simp only[binOp];simp only[Sem.run_bind,jA,Result.andThen_ok,Sem.run_pure];exact⟨trivial,trivial⟩)
  split at h2
  ·simp only[Option.bind_eq_some_iff,Option.some.injEq]at h2;obtain⟨r,h3,rfl⟩:=h2;exact⟨_,.bool μ r,fun w=>by simp only[Sem.run_bind,hg w,Result.andThen_ok];exact(Lm w r (key r h3)).1⟩
  ·simp only[Option.bind_eq_some_iff,Option.some.injEq]at h2;obtain⟨r,h3,rfl⟩:=h2;exact⟨_,.bool μ _,fun w=>by simp only[Sem.run_bind,hg w,Result.andThen_ok];exact(Lm w r (key r h3)).2⟩
  ·cases h2
end
theorem eM (r o n:Nat):(⟨r,o,none⟩:Addr).add n=⟨r,o+n,none⟩:=by
 unfold Addr.add;by_cases h:n=0
 ·simp[h]
 ·simp[h]
def pC (μ:aS) (x x':Option Value):Prop:=match x,x' with
 |none,none=>True
 |some v,some v'=>ak μ v v'
 |_,_=>False
theorem eN {En y:Nat} {x:Option Value} {n:Nat} (h:bS En y x=some n):(x=none∧n=En)∨(∃k i,x=some (.int k i)∧0≤i∧i≤y∧n=i.toNat):=by
 unfold bS at h;split at h
 ·simp at h;exact .inl ⟨rfl,h.symm⟩
 ·simp only[ae,Bool.and_eq_true,decide_eq_true_eq,Option.some.injEq]at h;exact .inr ⟨_,_,rfl,h.1.1,h.1.2,h.2.symm⟩
 ·cases h
theorem cZ {P:Program} {k:IntKind} {i:Int} {y:Nat} (h0:0≤i) (h1:i≤y) (code:BoundsCode):eg P (Instr.sliceBound (.int k i) y code) i.toNat:=by
 intro w;simp[Instr.sliceBound,asIntOf,h0,h1]
theorem kq {P:Program} {μ:aS} (isSlice:Bool) {len cap cap':Nat} (Ev:len≤cap') {lo hi mx OI yp GF:Option Value} {m h l:Nat}
 (hm:bS cap len mx=some m) (hh:bS len (bif mx.isSome then m else len) hi=some h) (hg:(hi.isSome||mx.isNone)=true) (hl:bS 0 h lo=some l)
 (rl:pC μ lo OI) (rh:pC μ hi yp) (rm:pC μ mx GF):
 eg P (Instr.sliceBounds isSlice len cap' OI yp GF) (l,h,if mx.isSome then m else cap')∧l≤h∧h≤len∧(mx.isSome=true→m≤len∧h≤m)∧(mx=none→m=cap):=by
 have key:∀{x x':Option Value} {k:IntKind} {i:Int},x=some (.int k i)→pC μ x x'→x'=some (.int k i):=by
  intro x x' k i hx hr;subst hx;cases x' with
  |none=>exact hr.elim
  |some v'=>rw[ak.an hr rfl]
 have zW:∀{x x':Option Value},x=none→pC μ x x'→x'=none:=by
  intro x x' hx hr;subst hx;cases x' with
  |none=>rfl
  |some v'=>exact hr.elim
 have v7:l≤h:=by
  rcases eN hl with⟨_,rfl⟩|⟨k,i,_,h0,h1,rfl⟩<;>omega
 rcases eN hm with⟨em,rfl⟩|⟨k,i,em,m0,m1,rfl⟩
 ·have Pj:=zW em rm;subst em;subst Pj;simp only[Option.isSome_none,cond_false]at hh;rcases eN hh with⟨eh,rfl⟩|⟨k2,i2,eh,p0,p1,rfl⟩
  ·have Mk:=zW eh rh;subst eh;subst Mk;refine⟨fun w=>?_,v7,Nat.le_refl _,fun h=>by simp at h,fun _=>rfl⟩;rcases eN hl with⟨el,rfl⟩|⟨k3,i3,el,q0,q1,rfl⟩
   ·have GJ:=zW el rl;subst el;subst GJ;simp[Instr.sliceBounds]
   ·have GJ:=key el rl;subst el;subst GJ;simp[Instr.sliceBounds,cZ q0 q1 _ w]
  ·have Mk:=key eh rh;subst eh;subst Mk;refine⟨fun w=>?_,v7,om,fun h=>by simp at h,fun _=>rfl⟩;rcases eN hl with⟨el,rfl⟩|⟨k3,i3,el,q0,q1,rfl⟩
   ·have GJ:=zW el rl;subst el;subst GJ;simp[Instr.sliceBounds,cZ p0 (show i2≤(cap':Int) by omega) _ w]
   ·have GJ:=key el rl;subst el;subst GJ;simp[Instr.sliceBounds,cZ p0 (show i2≤(cap':Int) by omega) _ w,cZ q0 q1 _ w]
 ·have Pj:=key em rm;subst em;subst Pj;simp only[Option.isSome_some,cond_true]at hh;rcases eN hh with⟨eh,rfl⟩|⟨k2,i2,eh,p0,p1,rfl⟩
  ·subst eh;simp at hg
  ·have Mk:=key eh rh;subst eh;subst Mk;refine⟨fun w=>?_,v7,om,fun _=>⟨om,om⟩,fun h=>by simp at h⟩;rcases eN hl with⟨el,rfl⟩|⟨k3,i3,el,q0,q1,rfl⟩
   ·have GJ:=zW el rl;subst el;subst GJ;simp[Instr.sliceBounds,cZ m0 (show i≤(cap':Int) by omega) _ w,cZ p0 p1 _ w]
   ·have GJ:=key el rl;subst el;subst GJ;simp[Instr.sliceBounds,cZ m0 (show i≤(cap':Int) by omega) _ w,cZ p0 p1 _ w,cZ q0 q1 _ w]
section
variable {P:Program} {E:Env} {μ:aS}
theorem Ew (hE:aU P E) {t:TypeId} {x x' v:Value} {lo hi mx OI yp GF:Option Value} (h:fW E t x lo hi mx=some v) (hx:ak μ x x') (rl:pC μ lo OI) (rh:pC μ hi yp) (rm:pC μ mx GF):
 ∃v',ak μ v v'∧eg P (Instr.sliceAt t x' OI yp GF) v':=by
 unfold fW at h;simp only[Option.bind_eq_some_iff]at h;obtain⟨d,hd,h⟩:=h;split at h
 ·rename_i s;cases hx.an rfl;simp only[ae,Option.bind_eq_some_iff,Option.some.injEq]at h;obtain⟨hm,hh,h1,ll,h2,rfl⟩:=h;have em:mx=none:=by simpa using hm
  subst em
  have Pj:GF=none:=by cases GF with
   |none=>rfl
   |some v'=>exact rm.elim
  subst Pj;have gb:=(kq (P:=P) (μ:=μ) false (cap':=s.size) (Nat.le_refl _) (cap:=s.size) (mx:=none) (GF:=none) rfl (by simpa using h1) (by simp) h2 rl rh trivial).1;refine⟨_,.string μ _,fun w=>?_⟩;simp[Instr.sliceAt,aA hE hd w,Instr.slice,gb w]
 ·cases hx with
  |lit _=>
  simp only[Option.bind_eq_some_iff,ae,Option.some.injEq]at h;obtain⟨size,hs,m,hm,hh,h1,hg,ll,h2,rfl⟩:=h;obtain⟨gb,q1,q2,q3,q4⟩:=kq (P:=P) (μ:=μ) true (cap':=0) (Nat.le_refl _) hm h1 hg h2 rl rh rm;refine⟨_,.lit rfl,fun w=>?_⟩;have e0:hh=0:=by omega
  have e1:ll=0:=by omega
  subst e0;subst e1;have e2:(if mx.isSome=true then m else 0)=0:=by
   cases fI:mx.isSome with
   |true=>have:=(q3 fI).1;simp;omega
   |false=>simp
  simp only[Instr.sliceAt,Sem.run_bind,aA hE hd w,Result.andThen_ok,Instr.slice,gb w,eL hE hs w,Sem.run_pure,e2];simp
 ·rename_i elem b o z len cap;simp only[Option.bind_eq_some_iff,ae,beq_iff,Option.some.injEq]at h;obtain⟨size,hs,e,m,hm,hh,h1,hg,ll,h2,rfl⟩:=h;subst e
  have main:∀(a':Addr) (cap':Nat),x'= .slice (some a') len cap'→len≤cap'→∃m',eg P (Instr.sliceAt t x' OI yp GF) (.slice (some (if m'=ll then a' else a'.add (ll*size))) (hh - ll) (m' - ll))∧
   (m'=if mx.isSome then m else cap')∧ll≤hh∧hh≤len∧(mx.isSome=true→m≤len∧hh≤m)∧(mx=none→m=cap):=by
   intro a' cap' ex Ev;obtain⟨gb,q1,q2,q3,q4⟩:=kq (P:=P) (μ:=μ) true Ev hm h1 hg h2 rl rh rm;refine⟨if mx.isSome then m else cap',fun w=>?_,rfl,q1,q2,q3,q4⟩;subst ex;simp only[Instr.sliceAt,Sem.run_bind,aA hE hd w,Result.andThen_ok,Instr.slice,gb w,eL hE hs w,Sem.run_pure]
   congr 2
   by_cases hz:(if mx.isSome=true then m else cap')=ll
   ·rw[if_pos hz,if_pos hz]
   ·rw[if_neg hz,if_neg hz];rfl
  cases hx with
  |lit hh=>simp[ar]at hh
  |slice hb k1 k2 k3 k4=>
   rename_i cap' mt;obtain⟨m',g1,e1,q1,q2,q3,q4⟩:=main _ _ rfl k2;refine⟨_,?_,g1⟩;by_cases hz:m'=ll
   ·rw[if_pos hz];have e2:hh - ll=0:=by
     cases fI:mx.isSome with
     |true=>have:=q3 fI;rw[fI]at e1;simp at e1;omega
     |false=>rw[fI]at e1;simp at e1;omega
    rw[e2,show m' - ll=0 by omega];simp only[bB];split<;>exact .bU fun _=>⟨_,hb⟩
   ·rw[if_neg hz,eM];have UF:m≠ll:=by
     intro e2;cases fI:mx.isSome with
     |true=>rw[fI]at e1;simp at e1;omega
     |false=>
      have:=q4 (by simpa using fI);rw[fI]at e1;simp at e1;have:=k3 om;omega
    simp only[bB,beq_iff,if_neg UF];have Sg:m'≤cap':=by
     cases fI:mx.isSome with
     |true=>have:=q3 fI;rw[fI]at e1;simp at e1;omega
     |false=>rw[fI]at e1;simp at e1;omega
    have UG:ll≤m':=by
     cases fI:mx.isSome with
     |true=>have:=q3 fI;rw[fI]at e1;simp at e1;omega
     |false=>rw[fI]at e1;simp at e1;omega
    have e3:mt.s+o+ll*size=mt.s+(o+ll*size):=by omega
    rw[e3];refine .slice hb ?_ ?_ ?_ ?_
    ·cases fI:mx.isSome with
     |true=>have:=q3 fI;omega
     |false=>have:=q4 (by simpa using fI);omega
    ·cases fI:mx.isSome with
     |true=>have:=q3 fI;rw[fI]at e1;simp at e1;omega
     |false=>rw[fI]at e1;simp at e1;omega
    ·intro e4;cases fI:mx.isSome with
     |true=>have:=q3 fI;rw[fI]at e1;simp at e1;omega
     |false=>
      have:=q4 (by simpa using fI);rw[fI]at e1;simp at e1;have:=k3 om;omega
    ·have:ll*size+(m' - ll)*size=m'*size:=by rw[←Nat.add_mul];congr 1;omega
     have:m'*size≤cap'*size:=Nat.mul_le_mul_right _ Sg;omega
  |bU hb=>
   rename_i a';obtain⟨m',g1,e1,q1,q2,q3,q4⟩:=main a' 0 rfl (Nat.le_refl _);refine⟨_,?_,g1⟩;have B7:m'=0:=by
    cases fI:mx.isSome with
    |true=>have:=q3 fI;rw[fI]at e1;simp at e1;omega
    |false=>rw[fI]at e1;simp at e1;omega
   have qB:ll=0:=by omega
   have Ln:hh=0:=by omega
   subst B7;subst qB;subst Ln;simp only[if_true,Nat.sub_zero];simp only[bB];have hk:m≠0→_:=fun hc=>hb (by
    cases fI:mx.isSome with
    |true=>have:=q3 fI;omega
    |false=>have:=q4 (by simpa using fI);omega)
   split
   ·exact .bU fun hc=>hk om
   ·exact .bU fun hc=>hk om
 ·cases h
theorem zX (hE:aU P E) {t:TypeId} {x x' i i' v:Value} (h:dK E t x i=some v) (hx:ak μ x x') (hi:ak μ i i'):∃v',ak μ v v'∧eg P (Instr.indexAt t x' i') v':=by
 unfold dK at h;simp only[Option.bind_eq_some_iff]at h;obtain⟨d,hd,n,hn,h⟩:=h;have ei:∃k,i= .int k n:=by
  unfold JS at hn;split at hn<;>simp at hn;subst hn;exact⟨_,rfl⟩
 obtain⟨k,rfl⟩:=ei;cases hi.an rfl;split at h
 ·rename_i len elem b o;simp only[Option.bind_eq_some_iff,ae,Bool.and_eq_true,decide_eq_true_eq,Option.some.injEq]at h;obtain⟨size,hs,⟨h0,h1⟩,rfl⟩:=h;obtain⟨m,hb,rfl⟩:=hx.jd;refine⟨.pointer (some ⟨m.r,m.s+(o+n.toNat*size),none⟩),.ptr hb,fun w=>?_⟩;simp[Instr.indexAt,asIntOf,aA hE hd w,Instr.sureAddr,h0,h1,eL hE hs w,eM,Nat.add_assoc]
 ·rename_i elem b o z len cap;simp only[Option.bind_eq_some_iff,ae,Bool.and_eq_true,decide_eq_true_eq,Option.some.injEq]at h;obtain⟨size,hs,⟨h0,h1⟩,rfl⟩:=h;cases hx with
  |lit hh=>simp[ar]at hh
  |slice hb k1 k2 k3 k4=>
   rename_i cap' m;refine⟨.pointer (some ⟨m.r,m.s+(o+n.toNat*size),none⟩),.ptr hb,fun w=>?_⟩;simp[Instr.indexAt,asIntOf,aA hE hd w,h0,h1,eL hE hs w,eM,Nat.add_assoc]
  |bU=>exact absurd h1 om
 ·cases h
theorem JV (hE:aU P E) {t:TypeId} {x x' i i' v:Value} (h:qG E t x i=some v) (hx:ak μ x x') (hi:ak μ i i'):∃v',ak μ v v'∧eg P (Instr.index t x' i') v':=by
 unfold qG at h;simp only[Option.bind_eq_some_iff]at h;obtain⟨d,hd,n,hn,h⟩:=h;have ei:∃k,i= .int k n:=by
  unfold JS at hn;split at hn<;>simp at hn;subst hn;exact⟨_,rfl⟩
 obtain⟨k,rfl⟩:=ei;cases hi.an rfl;split at h
 ·rename_i len elem cs;simp only[Option.bind_eq_some_iff,ae,Bool.and_eq_true,decide_eq_true_eq]at h;obtain⟨size,hs,⟨h0,h1⟩,h2⟩:=h;obtain⟨cs',rfl,hr⟩:=hx.dN;obtain⟨v',q1,q2⟩:=yl hE (μ:=μ) h2 hr;refine⟨v',q1,fun w=>?_⟩;have e:cs'.toList.toArray=cs':=by simp
  rw[e]at q2;simp only[Instr.index,asIntOf,Sem.run_bind,Sem.run_pure,Result.andThen_ok,aA hE hd w];rw[if_pos ⟨h0,h1⟩];simp only[Sem.run_bind,eL hE hs w,Result.andThen_ok,q2 w]
 ·rename_i s;simp only[ae,decide_eq_true_eq,Option.bind_eq_some_iff,Option.some.injEq]at h;obtain⟨h0,b,hb,rfl⟩:=h;cases hx.an rfl;refine⟨_,.int μ _ _,fun w=>?_⟩;have e:s[n.toNat]? =some b:=by
   have:=(List.getElem?_eq_some_iff.1 hb);obtain⟨bO,hv⟩:=this;have Ml:n.toNat<s.size:=by simpa using bO
   rw[getElem?_pos s n.toNat Ml];simp only[Option.some.injEq];rw[←hv];rfl
  simp only[Instr.index,asIntOf,Sem.run_bind,Sem.run_pure,Result.andThen_ok,aA hE hd w];rw[if_pos h0,e];rfl
 ·cases h
theorem Mm (hE:aU P E) {s d:TypeId} {x x' v:Value} (h:oh E s d x=some v) (hx:ak μ x x'):∃v',ak μ v v'∧eg P (convert s d x') v':=by
 unfold oh at h;simp only[Option.bind_eq_some_iff]at h;obtain⟨ds,h1,dd,h2,h⟩:=h;split at h
 ·rename_i k k' n;cases hx.an rfl;simp only[Option.some.injEq]at h;subst h;refine⟨_,.int μ _ _,fun w=>?_⟩;unfold convert;simp only[Sem.run_bind,aA hE h1 w,aA hE h2 w,Result.andThen_ok];rfl
 ·rename_i str;cases hx.an rfl;simp only[Option.some.injEq]at h;subst h;refine⟨_,.string μ _,fun w=>?_⟩;unfold convert;simp only[Sem.run_bind,aA hE h1 w,aA hE h2 w,Result.andThen_ok];cases ds<;>rfl
 ·cases h
theorem GK (hE:aU P E) {b:Builtin} {ts:Array TypeId} {args:List Value} {args':Array Value} {v:Value} (ty:TypeId) (cs:Array Bool) (h:ld E b ts.toList args=some v) (ha:ao μ args args'.toList):
 ∃v',ak μ v v'∧eg P (builtin b ts ty cs args') (.value v'):=by
 obtain⟨ts⟩:=ts;obtain⟨args'⟩:=args';simp only at h ha;unfold ld at h;split at h
 ·rename_i t ts x xs;cases ha with
  |cons hx _=>
  simp only[Option.bind_eq_some_iff]at h;obtain⟨d,hd,h⟩:=h;split at h
  ·cases hx.an rfl;simp only[Option.some.injEq]at h;subst h;exact⟨_,.int μ _ _,fun w=>by simp[builtin,Builtin.len_,aA hE hd w,goInt]⟩
  ·simp only[Option.some.injEq]at h;subst h;exact⟨_,.int μ _ _,fun w=>by simp[builtin,Builtin.len_,aA hE hd w,goInt]⟩
  ·simp only[Option.some.injEq]at h;subst h;cases hx with
   |lit hh=>
    rename_i a n c;have:∃q,a=none∧n=0∧c=0∧q=0:=by
     unfold ar at hh;split at hh<;>simp_all
    obtain⟨_,rfl,rfl,rfl,_⟩:=this;exact⟨_,.int μ _ _,fun w=>by simp[builtin,Builtin.len_,aA hE hd w,goInt]⟩
   |slice=>exact⟨_,.int μ _ _,fun w=>by simp[builtin,Builtin.len_,aA hE hd w,goInt]⟩
   |bU=>exact⟨_,.int μ _ _,fun w=>by simp[builtin,Builtin.len_,aA hE hd w,goInt]⟩
  ·simp only[Option.some.injEq]at h;subst h;cases hx;exact⟨_,.int μ _ _,fun w=>by simp[builtin,Builtin.len_,aA hE hd w,goInt]⟩
  ·cases h
 ·simp only[Option.some.injEq]at h;subst h;cases ha with
  |cons hx ha=>cases ha with
   |cons hy ha=>cases ha with
    |nil=>
     cases hx.an rfl;cases hy.an rfl;exact⟨_,.int μ _ _,fun w=>by simp[builtin,Builtin.max_,Builtin.max2]⟩
 ·simp only[Option.some.injEq]at h;subst h;cases ha with
  |cons hx ha=>cases ha with
   |cons hy ha=>cases ha with
    |nil=>
     cases hx.an rfl;cases hy.an rfl;exact⟨_,.int μ _ _,fun w=>by simp[builtin,Builtin.min_,Builtin.min2]⟩
 ·rename_i t ts;simp only[Option.bind_eq_some_iff]at h;obtain⟨d,hd,h⟩:=h;split at h
  ·simp only[Option.some.injEq]at h;subst h;cases ha with
   |cons hx ha=>cases ha with
    |nil=>
     cases hx with
     |lit hh=>exact⟨_,.int μ _ _,fun w=>by simp[builtin,Builtin.cap_,aA hE hd w,goInt]⟩
  ·cases h
 ·cases h
end
def eE (E:Env) (μ:aS):Prop:=∀g,E.cd g=true→∃m,μ g=some m∧m.r=g∧m.s=0
section
variable {P:Program} {E:Env} {μ:aS} {f:AF} {a:Act}
theorem aL (hg:eE E μ) (hf:bw μ f a.tmps) {x:Operand} {v:Value} (h:ev E f x=some v):ak μ v (a.eval x):=by
 cases x with
 |tmp t=>simp only[ev,Option.some.injEq]at h;subst h;exact hf.get t
 |const c=>simp only[ev,ae,Option.some.injEq]at h;obtain⟨h1,rfl⟩:=h;exact .bJ μ h1
 |global g=>
  simp only[ev,ae,Option.some.injEq]at h;obtain⟨h1,rfl⟩:=h;obtain⟨m,h2,h3,h4⟩:=hg g h1;have:=ak.ptr (o:=0) h2;rw[h3,h4]at this;exact this
 |func g=>simp only[ev,Option.some.injEq]at h;subst h;exact .func rfl (fun i v v' h=>by simp at h) rfl (fun i v v' h=>by simp at h)
theorem jf (hg:eE E μ) (hf:bw μ f a.tmps):∀{xs:List Operand} {vs:List Value},zR E f xs=some vs→ao μ vs (xs.map a.eval)
 |[],vs,h=>by simp only[zR,Option.some.injEq]at h;subst h;exact .nil
 |x::xs,vs,h=>by
  simp only[zR,Option.bind_eq_some_iff,Option.some.injEq]at h;obtain⟨v,h1,l,h2,rfl⟩:=h;exact .cons (aL hg hf h1) (jf hg hf h2)
theorem mE (hg:eE E μ) (hf:bw μ f a.tmps):∀{xs:List (Nat×Operand)} {vs:List (Nat×Value)},fU E f xs=some vs→Pg μ vs (xs.map fun p=>(p.1,a.eval p.2))
 |[],vs,h=>by simp only[fU,Option.some.injEq]at h;subst h;exact⟨rfl,fun k q h=>by simp at h⟩
 |(i,x)::xs,vs,h=>by
  simp only[fU,Option.bind_eq_some_iff,Option.some.injEq]at h;obtain⟨v,h1,l,h2,rfl⟩:=h;obtain⟨e1,e2⟩:=mE hg hf h2;refine⟨by simpa using e1,fun k q hk=>?_⟩;cases k with
  |zero=>simp at hk;subst hk;exact⟨_,rfl,aL hg hf h1⟩
  |succ k=>simp at hk;obtain⟨v',q1,q2⟩:=e2 k q hk;exact⟨v',by simpa using q1,q2⟩
theorem qL (hg:eE E μ) (hf:bw μ f a.tmps) {x:Option Operand} {v:Option Value} (h:mu E f x=some v):pC μ v (x.map a.eval):=by
 cases x with
 |none=>simp only[mu,Option.some.injEq]at h;subst h;trivial
 |some x=>
  simp only[mu,Option.bind_eq_some_iff,Option.some.injEq]at h;obtain⟨u,h1,rfl⟩:=h;exact aL hg hf h1
theorem jB {v:Value} {p:Nat×Nat} (h:gF v=some p):v= .pointer (some ⟨p.1,p.2,none⟩):=by
 unfold gF at h;split at h<;>simp at h;subst h;rfl
theorem zY {v:Value} {n:Int} (h:JS v=some n):∃k,v= .int k n:=by
 unfold JS at h;split at h<;>simp at h;subst h;exact⟨_,rfl⟩
theorem pF {v:Value} {n:Bool} (h:sN v=some n):v= .bool n:=by
 unfold sN at h;split at h<;>simp at h;subst h;rfl
theorem GL {v:Value} {n:List Value} (h:O6 v=some n):∃cs:Array Value,v= .agg cs∧n=cs.toList:=by
 unfold O6 at h;split at h<;>simp at h;subst h;exact⟨_,rfl,rfl⟩
theorem yq {op:UnOp} {a v:Value} (h:dw (Op.unary op a)=some v) (ha:scalar a=true):scalar v=true:=by
 cases op<;>cases a<;>simp[scalar]at ha<;>simp only[Op.unary,Op.intArith,Op.intBits,dw,stuck,Pure.pure,Option.some.injEq]at h<;>first|(subst h;rfl)|cases h
theorem jC (hE:aU P E) {kt:TypeId} {kd:TypeDesc} (h:E.desc kt=some kd) (hs:fV kd=true) (e:Bool) (n:Nat) (k:Value):eg P (Instr.checkKey e (n+1) kt k) ():=by
 intro w;cases kd<;>simp[fV]at hs<;>simp[Instr.checkKey,aA hE h w]
set_option maxHeartbeats 1000000 in
theorem nA (hE:aU P E) (hg:eE E μ) (hf:bw μ f a.tmps) {o:Oper} {v:Value} (h:aB E f o=some v):∃v',ak μ v v'∧eg P (execOp a.eval o) (.value v'):=by
 obtain⟨dst,op,type,pos,after,guard⟩:=o;cases op
 case move x=>simp only[aB]at h;exact⟨_,aL hg hf h,fun w=>rfl⟩
 case assign x=>simp only[aB]at h;exact⟨_,aL hg hf h,fun w=>rfl⟩
 case pick c x y=>
  simp only[aB,Option.bind_eq_some_iff]at h;obtain⟨cv,h1,b,h2,h3⟩:=h;have e:=pF h2;subst e;have hc:=(aL hg hf h1).an rfl;cases b with
  |true=>exact⟨_,aL hg hf h3,fun w=>by simp[execOp,hc,asBool]⟩
  |false=>exact⟨_,aL hg hf h3,fun w=>by simp[execOp,hc,asBool]⟩
 case build t parts=>
  simp only[aB,Option.bind_eq_some_iff]at h;obtain⟨ps,h1,h2⟩:=h;obtain⟨v',q1,q2⟩:=JT hE h2 (mE hg hf h1);refine⟨v',q1,fun w=>?_⟩;have e:(parts.map fun(i,x)=>(i,a.eval x))=(parts.toList.map fun p=>(p.1,a.eval p.2)).toArray:=by
   apply Array.ext';simp
  simp only[execOp,Sem.run_bind];rw[e,q2 w];rfl
 case nilCheck x=>
  simp only[aB,Option.bind_eq_some_iff]at h;obtain⟨u,h1,h2⟩:=h;have hr:=aL hg hf h1;generalize hq:a.eval x=q at hr;unfold kK at h2;split at h2
  ·simp only[Option.some.injEq]at h2;subst h2;cases hr with
   |lit hh=>simp[ar]at hh
   |ptr hb=>exact⟨_,.ptr hb,fun w=>by simp[execOp,hq]⟩
  ·simp only[Option.some.injEq]at h2;subst h2;cases hr with
   |lit hh=>simp[ar]at hh
   |func h1 h2 h3 h4=>exact⟨_,.func h1 h2 h3 h4,fun w=>by simp[execOp,hq]⟩
  ·simp only[Option.some.injEq]at h2;subst h2;cases hr with
   |lit hh=>simp[ar]at hh
   |yield hb=>exact⟨_,.yield hb,fun w=>by simp[execOp,hq]⟩
  ·cases h2
 case binOp op t x y yt=>
  simp only[aB,Option.bind_eq_some_iff]at h;obtain⟨u,h1,u2,h2,h3⟩:=h;obtain⟨v',q1,q2⟩:=Ph hE h3 (aL hg hf h1) (aL hg hf h2);refine⟨v',q1,fun w=>?_⟩;simp only[execOp];rw[Sem.run_bind,q2 w];rfl
 case unOp op t x=>
  simp only[aB,Option.bind_eq_some_iff,ae]at h;obtain⟨u,h1,hs,h2⟩:=h;have e:=(aL hg hf h1).an hs;refine⟨v,.nz μ (yq h2 hs),fun w=>?_⟩;simp only[execOp,Sem.run_bind,e,rX (P:=P) h2 w,Result.andThen_ok,Sem.run_pure]
 case convert s d x=>
  simp only[aB,Option.bind_eq_some_iff]at h;obtain⟨u,h1,h2⟩:=h;obtain⟨v',q1,q2⟩:=Mm hE h2 (aL hg hf h1);refine⟨v',q1,fun w=>?_⟩;simp only[execOp,Sem.run_bind,q2 w,Result.andThen_ok,Sem.run_pure]
 case makeInterface t x=>
  simp only[aB,Option.bind_eq_some_iff]at h;obtain⟨d,hd,u,h1,h2⟩:=h;refine⟨.iface t (a.eval x),?_,fun w=>?_⟩
  ·split at h2
   ·cases h2
   ·simp only[Option.some.injEq]at h2;subst h2;exact .iface (aL hg hf h1)
  ·simp only[execOp,Sem.run_bind,Instr.makeInterface,aA hE hd w,Result.andThen_ok];split at h2
   ·cases h2
   ·cases d<;>first|rfl |(exfalso;simp at*)
 case makeFunc fn first captured=>
  simp only[aB]at h;split at h
  ·simp only[Option.bind_eq_some_iff,Option.some.injEq]at h;obtain⟨x,h1,y,h2,rfl⟩:=h;have r1:=jf hg hf h1;have r2:=jf hg hf h2;refine⟨.func (.func _) (first.map a.eval) (captured.map a.eval),.func ?_ ?_ ?_ ?_,fun w=>?_⟩
   ·have:=r1.length;simpa using this
   ·intro i u u' hu Gk;obtain⟨u2,k1,k2⟩:=r1.get (i:=i) (v:=u) (by simpa using hu);have:u'=u2:=by
     simp only[Array.getElem?_map]at Gk;simp only[List.getElem?_map,Array.getElem?_toList]at k1;rw[Gk]at k1;exact Option.some.inj k1
    subst this;exact k2
   ·have:=r2.length;simpa using this
   ·intro i u u' hu Gk;obtain⟨u2,k1,k2⟩:=r2.get (i:=i) (v:=u) (by simpa using hu);have:u'=u2:=by
     simp only[Array.getElem?_map]at Gk;simp only[List.getElem?_map,Array.getElem?_toList]at k1;rw[Gk]at k1;exact Option.some.inj k1
    subst this;exact k2
   ·simp[execOp,Instr.makeFunc]
  ·cases h
 case slice t x lo hi mx=>
  simp only[aB,Option.bind_eq_some_iff]at h;obtain⟨u,h1,l,h2,hh,h3,m,h4,h5⟩:=h;obtain⟨v',q1,q2⟩:=Ew hE h5 (aL hg hf h1) (qL hg hf h2) (qL hg hf h3) (qL hg hf h4);refine⟨v',q1,fun w=>?_⟩;simp only[execOp,Sem.run_bind,q2 w,Result.andThen_ok,Sem.run_pure]
 case fieldAddr s x fd=>
  simp only[aB,Option.bind_eq_some_iff]at h;obtain⟨d,hd,u,h1,p,h2,h3⟩:=h;have e:=jB h2;subst e;obtain⟨m,hb,ex⟩:=(aL hg hf h1).jd;split at h3
  ·simp only[Option.bind_eq_some_iff,ae,aF,Option.some.injEq]at h3;obtain⟨fl,h4,n,h5,h6,rfl⟩:=h3;refine⟨.pointer (some ⟨m.r,m.s+(p.2+fl.offset),none⟩),.ptr hb,fun w=>?_⟩;have hn:n≠0:=by omega
   simp[execOp,Instr.fieldAt,aA hE hd w,h4,ex,Instr.sureAddr,fieldPlace,eL hE h5 w,hn,eM,Nat.add_assoc]
  ·cases h3
 case field t x fd=>
  simp only[aB,Option.bind_eq_some_iff]at h;obtain⟨d,hd,u,h1,cs,h2,h3⟩:=h;obtain⟨ca,e,rfl⟩:=GL h2;subst e;obtain⟨cs',ex,hr⟩:=(aL hg hf h1).dN;split at h3
  ·simp only[Option.bind_eq_some_iff]at h3;obtain⟨fl,h4,h5⟩:=h3;obtain⟨v',q1,q2⟩:=yl hE (μ:=μ) h5 hr;have e:cs'.toList.toArray=cs':=by simp
   rw[e]at q2;refine⟨v',q1,fun w=>?_⟩;simp only[execOp,Instr.field,Sem.run_bind,aA hE hd w,Result.andThen_ok,h4,ex,asAgg,Sem.run_pure,q2 w]
  ·cases h3
 case indexAddr t x ix=>
  simp only[aB,Option.bind_eq_some_iff]at h;obtain⟨u,h1,u2,h2,h3⟩:=h;obtain⟨v',q1,q2⟩:=zX hE h3 (aL hg hf h1) (aL hg hf h2);refine⟨v',q1,fun w=>?_⟩;simp only[execOp,Sem.run_bind,q2 w,Result.andThen_ok,Sem.run_pure]
 case index t x ix=>
  simp only[aB,Option.bind_eq_some_iff]at h;obtain⟨u,h1,u2,h2,h3⟩:=h;obtain⟨v',q1,q2⟩:=JV hE h3 (aL hg hf h1) (aL hg hf h2);refine⟨v',q1,fun w=>?_⟩;simp only[execOp,Sem.run_bind,q2 w,Result.andThen_ok,Sem.run_pure]
 case extract t ix=>
  simp only[aB,Option.bind_eq_some_iff]at h;obtain⟨u,h1,h2⟩:=h;split at h2
  ·obtain⟨mF,ex,hr⟩:=(aL hg hf h1).Eo;obtain⟨v',k1,k2⟩:=hr.get h2;refine⟨v',k2,fun w=>?_⟩;have VI:mF[ix]? =some v':=by simpa using k1
   simp[execOp,Instr.extract,ex,VI]
  ·cases h2
 case lookup t x ix ok=>
  simp only[aB,Option.bind_eq_some_iff]at h;obtain⟨d,hd,m,h1,k,h2,h3⟩:=h;split at h3
  ·rename_i kt elem;simp only[Option.bind_eq_some_iff,ae,Bool.and_eq_true,Option.some.injEq]at h3;obtain⟨kd,hH,z,hz,⟨⟨s1,s2⟩,s3⟩,rfl⟩:=h3;have e1:a.eval x= .map none:=by
    have:=aL hg hf h1;generalize a.eval x=q at this;cases this;rfl
   have e2:=(aL hg hf h2).an s2;have Si:∀w,(Instr.checkKey true 10000 kt k).run P w= .ok () w:=fun w=>jC hE hH s1 true 9999 k w;have Ey:∀w,(Instr.findKey kt k []).run P w= .ok none w:=by
    intro w;simp[Instr.findKey,aA hE hH w,Instr.findNow]
   refine⟨(if ok then .tuple #[z,.bool false]else z),?_,fun w=>?_⟩
   ·have oO:=ak.bJ μ s3;cases ok with
    |true=>simp only[cond_true,if_true];exact .cq (by simpa using ao.cons oO (.cons (.bool μ false) .nil))
    |false=>simpa using oO
   ·simp[execOp,Instr.lookup,aA hE hd w,e1,e2,Si w,Ey w,gM hE hz w]
  ·cases h3
 case call c=>
  simp only[aB]at h;split at h
  ·rename_i b hb;simp only[Option.bind_eq_some_iff]at h;obtain⟨args,h1,h2⟩:=h;have hr:=jf hg hf h1;obtain⟨v',q1,q2⟩:=GK hE (ts:=c.argTypes) (args':=c.args.map a.eval) type (c.args.map fun | .const _=>true|_=>false) h2 (by simpa using hr);refine⟨v',q1,fun w=>?_⟩;simp only[execOp,resolve,hb,Sem.run_bind,Sem.run_pure,Result.andThen_ok,invoke];exact q2 w
  ·cases h
 all_goals(simp only[aB]at h;cases h)
end
theorem cE (z:List Value):∀n,(aI z n).length=n*z.length
 |0=>by simp[aI]
 |n+1=>by simp[aI,cE z n,Nat.add_mul];omega
theorem rY (z:List Value):∀(n i:Nat),i<n*z.length→(aI z n)[i]? =z[i % z.length]?
 |0,i,h=>by simp at h
 |n+1,i,h=>by
  simp only[aI];by_cases hi:i<z.length
  ·rw[List.getElem?_append_left hi,Nat.mod_eq_of_lt hi]
  ·rw[List.getElem?_append_right om,rY z n (i - z.length) (by rw[Nat.add_mul]at h;omega)]
   congr 1
   rw[←Nat.mod_eq_sub_mod om]
theorem ao.aI {μ:aS} {z:List Value} (h:ao μ z z):∀n,ao μ (aI z n) (aI z n)
 |0=>.nil
 |n+1=>h.append (h.aI n)
theorem pG (z:Array Value) (n:Nat) (hz:0<z.size):((Array.range (n*z.size)).map (z[· % z.size]!)).toList=aI z.toList n:=by
 apply List.ext_getElem?;intro i;by_cases hi:i<n*z.size
 ·rw[rY z.toList n i (by simpa using hi)];have hm:i % z.size<z.size:=Nat.mod_lt _ hz;simp[hi,hm]
 ·have h1:(aI z.toList n)[i]? =none:=by
   rw[List.getElem?_eq_none_iff,cE];simpa using hi
  rw[h1];simp;omega
section
variable {P:Program} {E:Env} {μ:aS} {f:AF} {a:Act}
structure GM (P:Program) (μ:aS) (s:Sem Next) (md:Made) (hd:oG) (o':Obj) (n:Nat) (hv:Nat→Value):Prop where
 run:∀w:World,s.run P w= .ok (.value (hv w.heap.size)) {w with heap:=w.heap.push o'}
 val:∀(az:aS) b r,az b=some ⟨r,0,n⟩→ak az (hd.val b) (hv r)
 obj:∀(az:aS) h base b r,μ.le az→fR az h base b ⟨r,0,n⟩ (md.obj b) o'
theorem kM {cs cs':List Value} (hr:ao μ cs cs') (e:TypeId) (az:aS) (h:ab) (base b r:Nat) (hle:μ.le az) (f cp aE:Nat) (rest:Array Value) (c:Array Value) (hc:c.toList=cs'++rest.toList):
 fR az h base b ⟨r,0,c.size⟩ (.cells cs f cp aE) (.cells c e (0,0)):=by
 have hl:=hr.length;have hs:c.size=cs'.length+rest.size:=by
  have:=congrArg List.length hc;simpa using this
 refine .cells rfl (by simp only;omega) (fun _=>Ds _) fun _ i v hv=>?_;obtain⟨v',h1,h2⟩:=hr.get hv;refine⟨v',?_,h2.mono hle⟩;have hi:=(List.getElem?_eq_some_iff.1 h1).1;rw[←Array.getElem?_toList,hc,Nat.zero_add,List.getElem?_append_left hi];exact h1
theorem lr (hE:aU P E) (hg:eE E μ) (hf:bw μ f a.tmps) {o:Oper} {md:Made} {hd:oG} (h:aP E f o=some (md,hd)):
 ∃o' n hv,GM P μ (execOp a.eval o) md hd o' n hv:=by
 obtain⟨dst,op,type,pos,after,guard⟩:=o;cases op
 case alloc t=>
  simp only[aP,Option.bind_eq_some_iff,Option.some.injEq,Prod.mk.injEq]at h;obtain⟨z,hz,rfl,rfl⟩:=h;have oO:=(ak.bJ μ (hE.zero t z hz).2).cells;refine⟨.cells z.cells t (0,0),z.cells.size,fun r=>.pointer (some ⟨r,0,none⟩),fun w=>?_,fun az b r hb=>?_,fun az h base b r hle=>?_⟩
  ·simp[execOp,Instr.alloc,gM hE hz w,newVar,newRow]
  ·have:=ak.ptr (o:=0) hb;simpa[oG.val]using this
  ·exact kM oO t az h base b r hle _ _ _ #[] z.cells (by simp)
 case box t x=>
  simp only[aP,Option.bind_eq_some_iff,Option.some.injEq,Prod.mk.injEq]at h;obtain⟨v,hv,rfl,rfl⟩:=h;have hr:=(aL hg hf hv).cells;refine⟨.cells (a.eval x).cells t (0,0),(a.eval x).cells.size,fun r=>.pointer (some ⟨r,0,none⟩),fun w=>?_,fun az b r hb=>?_,fun az h base b r hle=>?_⟩
  ·simp[execOp,Instr.box,newVar,newRow]
  ·have:=ak.ptr (o:=0) hb;simpa[oG.val]using this
  ·exact kM hr t az h base b r hle _ _ _ #[] _ (by simp)
 case buildSlice t len parts=>
  simp only[aP,Option.bind_eq_some_iff]at h;obtain⟨d,wV,ps,h1,h2⟩:=h;split at h2
  ·rename_i elem;simp only[Option.bind_eq_some_iff,ae,Bool.and_eq_true,ax,beq_iff,Option.some.injEq,Prod.mk.injEq]at h2;obtain⟨n,hn,z,hz,⟨hk,hY⟩,cs,h3,rfl,rfl⟩:=h2;have hp:=mE hg hf h1;have oO:=(ak.bJ μ (hE.zero elem z hz).2).cells
   let eO:Array Value:=(aI z.cells.toList len).toArray
   obtain⟨cs',q1,q2⟩:=pB (μ:=μ) (place':=fun i=>some (i*n,n)) (fun _ _ h=>h) (cells':=eO) (ps':=parts.toList.map fun p=>(p.1,a.eval p.2)) h3 (by simpa[eO]using oO.aI len) hp.1 hp.2;have cI:cs.length=len*n:=by
    have:∀{ps:List (Nat×Value)} {c r:List Value},iW (fun i=>some (i*n,n)) c ps=some r→r.length=c.length:=by
     intro ps
     induction ps with
     |nil=>intro c r h;simp only[iW,Option.some.injEq]at h;subst h;rfl
     |cons p ps ih=>
      intro c r h;simp only[iW,Option.bind_eq_some_iff,ae]at h;obtain⟨q,_,_,c1,h4,h5⟩:=h;rw[ih h5,(cH h4).2.1]
    rw[this h3,cE];simp[hY]
   refine⟨.cells cs' elem (0,0),cs'.size,fun r=>.slice (some ⟨r,0,none⟩) len len,fun w=>?_,fun az b r hb=>?_,fun az h base b r hle=>?_⟩
   ·have e:(parts.map fun(i,x)=>(i,a.eval x))=(parts.toList.map fun p=>(p.1,a.eval p.2)).toArray:=by
     apply Array.ext';simp
    have Mn:len*n=0→∀g:Nat→Value,(Array.range (len*n)).map g=eO:=by
     intro h0 g;apply Array.ext';have:(aI z.cells.toList len)=[]:=by
      apply List.eq_nil_of_length_eq_zero;rw[cE];simpa[hY]using h0
     simp[h0,eO,this]
    have Mo:len*n≠0→(Array.range (len*n)).map (z.cells[· % z.cells.size]!)=eO:=by
     intro h0;apply Array.ext';have pH:0<z.cells.size:=by
      rw[hY];exact Nat.pos_of_ne_zero fun e=>h0 (by rw[e];simp)
     have:=pG z.cells len pH;rw[hY]at this;simp only[eO];rw[←this,hY]
    unfold execOp;simp only[Sem.run_bind,Instr.buildSlice,aA hE wV w,Result.andThen_ok,eL hE hn w];rw[if_neg om];by_cases h0:len*n=0
    ·rw[if_pos h0];simp only[Sem.run_bind,Sem.run_pure,Result.andThen_ok];rw[Mn h0,e,q1];rfl
    ·rw[if_neg h0];simp only[Sem.run_bind,Sem.run_pure,Result.andThen_ok,gM hE hz w];rw[Mo h0,e,q1];rfl
   ·have:=ak.slice (o:=0) (z:=n) hb (Nat.le_refl len) (Nat.le_refl len) (fun h=>h) (by simp only;have:=q2.length;simp at this;omega);simpa[oG.val]using this
   ·exact kM q2 elem az h base b r hle _ _ _ #[] cs' (by simp)
  ·cases h2
 case makeMap t r=>
  cases r with
  |none=>
   simp only[aP,Option.some.injEq,Prod.mk.injEq]at h;obtain⟨rfl,rfl⟩:=h;refine⟨.map #[] 0,0,fun r=>.map (some r),fun w=>?_,fun az b r hb=>?_,fun az h base b r hle=>?_⟩
   ·simp[execOp,Instr.makeMap]
   ·exact .map hb
   ·exact .map (by simpa using bX.nil)
  |some r=>simp only[aP]at h;cases h
 case makeSlice t l c=>
  simp only[aP,Option.bind_eq_some_iff]at h;obtain⟨d,wV,lv,h1,cv,h2,l1,h3,c1,h4,h5⟩:=h;obtain⟨k1,e1⟩:=zY h3;subst e1;obtain⟨k2,e2⟩:=zY h4;subst e2;have el:=(aL hg hf h1).an rfl;have ec:=(aL hg hf h2).an rfl;split at h5
  ·rename_i elem;simp only[Option.bind_eq_some_iff,ae,Bool.and_eq_true,beq_iff,decide_eq_true_eq,Option.some.injEq,Prod.mk.injEq]at h5;obtain⟨n,hn,bytes,hb,z,hz,⟨⟨⟨hY,qB⟩,Ev⟩,j5⟩,rfl,rfl⟩:=h5;obtain⟨ti,OJ,JA⟩:=yk hE hb;have oO:=(ak.bJ μ (hE.zero elem z hz).2).cells;obtain⟨ln,rfl⟩:=Int.eq_ofNat_of_zero_le qB;obtain⟨cn,rfl⟩:=Int.eq_ofNat_of_zero_le (show 0≤c1 by omega);have Sj:ln≤cn:=by omega
   have Sl:(cn+1)*(bytes+1)≤1099511627776:=by
    have:(((cn+1)*(bytes+1):Nat):Int)≤1099511627776:=by push_cast;exact j5
    omega
   have So:cn+1≤1099511627776:=Nat.le_trans (Nat.le_mul_of_pos_right _ om) Sl;have Pd:bytes*cn≤1099511627776:=by
    have:bytes*cn≤(cn+1)*(bytes+1):=by rw[Nat.mul_comm];exact Nat.mul_le_mul om om
    omega
   let eO:Array Value:=(aI z.cells.toList cn).toArray
   refine⟨.cells eO elem (0,0),eO.size,fun r=>.slice (some ⟨r,0,none⟩) ln cn,fun w=>?_,fun az b r hb=>?_,fun az h base b r hle=>?_⟩
   ·have wl:IntKind.i64.wrap (ln:Int)=ln:=IntWalk.i64_in _ om;have wc:IntKind.i64.wrap (cn:Int)=cn:=IntWalk.i64_in _ om;have nt:(decide ((cn:Int)<0)||decide ((ti.bytes:Int)*(cn:Int)>2 ^ 48))=false:=by
     rw[OJ];have:((bytes*cn:Nat):Int)≤1099511627776:=by omega
     simp only[Bool.or_eq_false_iff,decide_eq_false_iff_not];refine⟨om,?_⟩;have e:(2:Int) ^ 48=281474976710656:=by decide
     rw[e]
     push_cast at this
     omega
    have Mn:cn*n=0→∀g:Nat→Value,(Array.range (cn*n)).map g=eO:=by
     intro h0 g;apply Array.ext';have:(aI z.cells.toList cn)=[]:=by
      apply List.eq_nil_of_length_eq_zero;rw[cE];simpa[hY]using h0
     simp[h0,eO,this]
    have Mo:cn*n≠0→(Array.range (cn*n)).map (z.cells[· % z.cells.size]!)=eO:=by
     intro h0;apply Array.ext';have pH:0<z.cells.size:=by
      rw[hY];exact Nat.pos_of_ne_zero fun e=>h0 (by rw[e];simp)
     have:=pG z.cells cn pH;rw[hY]at this;simp only[eO];rw[←this,hY]
    unfold execOp;simp only[Sem.run_bind,Instr.makeSlice,aA hE wV w,Result.andThen_ok,el,ec,asInt,asIntOf,Sem.run_pure,JA w,wl,wc,nt];rw[if_neg (by simp;omega)];simp only[Sem.run_bind,run_askRoom,Result.andThen_ok,eL hE hn w,Int.toNat_natCast];by_cases h0:cn*n=0
    ·rw[if_pos h0];simp only[Sem.run_bind,Sem.run_pure,Result.andThen_ok];rw[Mn h0];rfl
    ·rw[if_neg h0];simp only[Sem.run_bind,Sem.run_pure,Result.andThen_ok,gM hE hz w];rw[Mo h0];rfl
   ·have oi:eO.size=cn*n:=by simp[eO,cE,hY]
    by_cases e:ln=cn
    ·subst e;have:=ak.slice (o:=0) (z:=n) hb (Nat.le_refl ln) (Nat.le_refl ln) (fun h=>h) (by simp only;omega);simpa[oG.val]using this
    ·have:=ak.slice (o:=0) (z:=n) (len:=ln) (cap:=ln+1) (cap':=cn) hb om Sj (fun h=>by omega) (by simp only;omega);simpa[oG.val,e,bB]using this
   ·have Mp:aI z.cells.toList cn=aI z.cells.toList ln++aI z.cells.toList (cn - ln):=by
     have:∀a b,aI z.cells.toList (a+b)=aI z.cells.toList a++aI z.cells.toList b:=by
      intro a b
      induction a with
      |zero=>simp[M.aI]
      |succ a ih=>rw[Nat.succ_add];simp[M.aI,ih]
     rw[←this];congr 1;omega
    exact kM (oO.aI ln) elem az h base b r hle _ _ _ (aI z.cells.toList (cn - ln)).toArray eO (by simp[eO,Mp])
  ·cases h5
 case range t x=>
  simp only[aP,Option.bind_eq_some_iff]at h;obtain⟨d,wV,v,h1,h2⟩:=h;split at h2
  ·rename_i s;simp only[Option.some.injEq,Prod.mk.injEq]at h2;obtain⟨rfl,rfl⟩:=h2;have ex:=(aL hg hf h1).an rfl;refine⟨.stringIter s 0,0,fun r=>.pointer (some ⟨r,0,none⟩),fun w=>?_,fun az b r hb=>?_,fun az h base b r hle=>.gD rfl⟩
   ·simp[execOp,Instr.range,aA hE wV w,ex]
   ·have:=ak.ptr (o:=0) hb;simpa[oG.val]using this
  ·simp only[Option.some.injEq,Prod.mk.injEq]at h2;obtain⟨rfl,rfl⟩:=h2;have ex:a.eval x= .map none:=by
    have:=aL hg hf h1;generalize a.eval x=q at this;cases this;rfl
   refine⟨.mapIter none 0 #[] 0,0,fun r=>.pointer (some ⟨r,0,none⟩),fun w=>?_,fun az b r hb=>?_,fun az h base b r hle=>.kp rfl⟩
   ·simp[execOp,Instr.range,aA hE wV w,ex]
   ·have:=ak.ptr (o:=0) hb;simpa[oG.val]using this
  ·cases h2
 all_goals(simp only[aP]at h;cases h)
end
theorem run_getObj_map {P:Program} {w:World} {r:Nat} {o:Obj} (h:w.heap[r]? =some o) (ho:∀c e f,o≠ .cells c e f):(getObj r).run P w= .ok o w:=by
 unfold getObj;simp only[Sem.run,h]
theorem iu {μ:aS} {kd:TypeDesc} {k:Value}:∀{es bC:List MapEntry} {i:Nat} {r:Option (Nat×Value)},bX μ es bC→Instr.findNow kd k es i=some r→
 ∃r',Instr.findNow kd k bC i=some r'∧(r=none→r'=none)∧(∀j v,r=some (j,v)→∃v',r'=some (j,v')∧ak μ v v')
 |[],bC,i,r,h,hr=>by
  cases h with
  |nil=>simp only[Instr.findNow,Option.some.injEq]at hr;subst hr;exact⟨none,rfl,fun _=>rfl,fun j v h=>by cases h⟩
 |e::es,bC,i,r,h,hr=>by
  cases h with
  |cons hk hv hb t=>
   rename_i e' bC;have hs:∀b,Instr.sameNow kd k e.key=some b→e'.key=e.key:=by
    intro b hs;have:scalar e.key=true:=by
     unfold Instr.sameNow at hs;split at hs
     ·rename_i h2;rw[h2];rfl
     ·rename_i h2;rw[h2];rfl
     ·rename_i h2;rw[h2];rfl
     ·cases hs
    exact hk.an this
   simp only[Instr.findNow]at hr ⊢;split at hr
   ·rename_i hq;rw[hs _ hq,hq];simp only[Option.some.injEq]at hr;subst hr;exact⟨_,rfl,(fun h=>by cases h),fun j v h=>(by cases h;exact⟨_,rfl,hv⟩)⟩
   ·rename_i hq;rw[hs _ hq,hq];exact iu t hr
   ·cases hr
theorem run_loadCells {P:Program} {w:World} {a:Addr}:∀(n i:Nat) (acc:Array Value) (l:List Value),l.length=n→(∀(k:Nat) v,l[k]? =some v→w.cell? (a.add (i+k))=some v)→(loadCellsFrom a i n acc).run P w= .ok (acc++l.toArray) w
 |0,i,acc,l,h,_=>by
  have:l=[]:=List.eq_nil_of_length_eq_zero h;subst this;simp[loadCellsFrom]
 |n+1,i,acc,[],h,_=>by simp at h
 |n+1,i,acc,v::l,h,hc=>by
  have h0:=hc 0 v rfl;have ih:=run_loadCells (P:=P) n (i+1) (acc.push v) l (by simpa using h) (fun k u hu=>by have:=hc (k+1) u (by simpa using hu);rw[←this];congr 2;omega);simp only[Nat.add_zero]at h0;simp only[loadCellsFrom,Sem.run_bind,run_load,h0,Result.andThen_ok,ih];simp
section
variable {P:Program} {E:Env} {μ:aS} {f:AF} {a:Act} {base B:Nat} {h:ab} {w:World}
theorem aM.tY (H:aM E base B μ h w) {b o n:Nat} {m:MT} (hb:μ b=some m) {l:List Value} (hr:M.ah h b o n=some l):
 ∃l',ao μ l l'∧∀(i:Nat) v,l'[i]? =some v→w.cell? ⟨m.r,m.s+o+i,none⟩=some v:=by
 obtain⟨h1,h2⟩:=H.ah hb hr;have key:∀(l:List Value) (k:Nat),(∀(i:Nat) v,l[i]? =some v→∃v',w.cell? ⟨m.r,m.s+o+k+i,none⟩=some v'∧ak μ v v')→∃l',ao μ l l'∧∀(i:Nat) v,l'[i]? =some v→w.cell? ⟨m.r,m.s+o+k+i,none⟩=some v:=by
  intro l
  induction l with
  |nil=>intro k _;exact⟨[],.nil,fun i v h=>by simp at h⟩
  |cons v l ih=>
   intro k hl;obtain⟨v',q1,q2⟩:=hl 0 v rfl;obtain⟨l',r1,r2⟩:=ih (k+1) fun i u hu=>by
    obtain⟨u',k1,k2⟩:=hl (i+1) u (by simpa using hu);exact⟨u',by rw[←k1];congr 2;omega,k2⟩
   refine⟨v'::l',.cons q2 r1,fun i u hu=>?_⟩;cases i with
   |zero=>simp at hu;subst hu;simpa using q1
   |succ i=>
    simp at hu;rw[←r2 i u hu];congr 2;omega
 obtain⟨l',r1,r2⟩:=key l 0 (by simpa using h2);exact⟨l',r1,by simpa using r2⟩
theorem mG (hE:aU P E) {t:TypeId} {agg:Bool} {n:Nat} (hs:dA E t=some (agg,n)) {r o:Nat} {l':List Value} (hl:l'.length=n) (hc:∀(i:Nat) v,l'[i]? =some v→w.cell? ⟨r,o+i,none⟩=some v) {v':Value}
 (hv:b5 agg l'=some v'):(loadVar t ⟨r,o,none⟩).run P w= .ok v' w:=by
 obtain⟨d,k1,k2,k3,k4⟩:=rW hs;unfold loadVar;simp only[Sem.run_bind,Dv hE k1 w,Result.andThen_ok,k2];cases agg with
 |true=>
  simp only[b5,Option.some.injEq]at hv;subst hv;simp only[if_true,Sem.run_bind,eL hE (k3 rfl) w,Result.andThen_ok,loadCells];rw[run_loadCells n 0 #[] l' hl (fun k v hv=>by rw[eM];simpa using hc k v hv)];simp
 |false=>
  have:=k4 rfl;subst this
  match l',hl with
  |[u],_=>
   simp only[b5,Option.some.injEq]at hv;subst hv;have:=hc 0 u rfl;simp only[Nat.add_zero]at this;simp[this]
theorem qM (hE:aU P E) (hf:bw μ f a.tmps) (H:aM E base B μ h w) {o:Oper} {q:RQ} {v:Value} (hq:ba E f o=some q) (hv:q.run h=some v):
 ∃v',ak μ v v'∧(execOp a.eval o).run P w= .ok (.value v') w:=by
 have hg:eE E μ:=H.cd;obtain⟨dst,op,type,pos,after,guard⟩:=o;cases op
 case load t x=>
  simp only[ba,Option.bind_eq_some_iff,Option.some.injEq]at hq;obtain⟨u,h1,p,h2,⟨agg,n⟩,h3,rfl⟩:=hq;have e:=jB h2;subst e;obtain⟨m,hb,ex⟩:=(aL hg hf h1).jd;simp only[RQ.run,Option.bind_eq_some_iff]at hv;obtain⟨l,h4,h5⟩:=hv;obtain⟨l',r1,r2⟩:=H.tY hb h4;obtain⟨v',q1,q2⟩:=gZ h5 r1;refine⟨v',q2,?_⟩;have hl:l'.length=n:=by rw[←r1.length];exact(H.ah hb h4).1
  simp only[execOp,Instr.loadAt,Sem.run_bind,ex,Instr.sureAddr,Sem.run_pure,Result.andThen_ok];rw[mG hE h3 hl r2 q1];rfl
 case lookup t x ix ok=>
  simp only[ba,Option.bind_eq_some_iff]at hq;obtain⟨d,hd,mv,h1,k,h2,h3⟩:=hq;split at h3
  ·rename_i kt elem r;simp only[Option.bind_eq_some_iff,ae,Bool.and_eq_true,Option.some.injEq]at h3;obtain⟨kd,hH,z,hz,⟨⟨s1,s2⟩,s3⟩,rfl⟩:=h3;obtain⟨m,hb,ex⟩:=(aL hg hf h1).jZ;have ek:=(aL hg hf h2).an s2;simp only[RQ.run,Option.bind_eq_some_iff]at hv;obtain⟨⟨es,clock⟩,h4,h5⟩:=hv;obtain⟨o1,o2,k1,k2,k3⟩:=H.obj r m hb;have hm:h.get r=some (.map es clock):=by
    unfold dB at h4;split at h4<;>simp at h4;obtain⟨rfl,rfl⟩:=h4;assumption
   rw[hm]at k1;cases k1;cases k3 with
   |map hs=>
    rename_i bC;have nB:=run_getObj_map (P:=P) k2 (fun _ _ _=>by simp);simp only[iK,Option.bind_eq_some_iff,Option.some.injEq]at h5;obtain⟨fr,h6,h7⟩:=h5;obtain⟨Gm,q1,q2,q3⟩:=iu hs h6;have oO:=ak.bJ μ s3;have Ey:(Instr.findKey kt k bC.toList).run P w= .ok Gm w:=by
     simp only[Instr.findKey,Sem.run_bind,aA hE hH w,Result.andThen_ok,q1,Sem.run_pure]
    have zE:=jC (P:=P) hE hH s1 bC.isEmpty 9999 k w;have fin:∀(u u':Value) (b:Bool),ak μ u u'→ak μ (bif ok then .tuple #[u,.bool b]else u) (if ok=true then .tuple #[u',.bool b]else u'):=by
     intro u u' b hu;cases ok with
     |true=>simp only[cond_true,if_true];exact .cq (by simpa using ao.cons hu (.cons (.bool μ b) .nil))
     |false=>simpa using hu
    cases fr with
    |none=>
     have e:=q2 rfl;subst e;simp only at h7;subst h7;refine⟨_,fin z z false oO,?_⟩;simp only[execOp,Instr.lookup,Sem.run_bind,aA hE hd w,Result.andThen_ok,ex,ek,nB,Sem.run_pure,zE,Ey,gM hE hz w]
    |some jv=>
     obtain⟨v',e,hr⟩:=q3 jv.1 jv.2 rfl;subst e;simp only at h7;subst h7;refine⟨_,fin jv.2 v' true hr,?_⟩;simp only[execOp,Instr.lookup,Sem.run_bind,aA hE hd w,Result.andThen_ok,ex,ek,nB,Sem.run_pure,zE,Ey]
  ·cases h3
 case call c=>
  simp only[ba]at hq;split at hq
  ·rename_i t ts yr Mq;simp only[Option.bind_eq_some_iff]at hq;obtain⟨d,hd,args,h1,h2⟩:=hq;split at h2
   ·rename_i kt et r rest;simp only[Option.some.injEq]at h2;subst h2;have hr:=jf hg hf h1;cases jA:c.args.toList.map a.eval with
    |nil=>rw[jA]at hr;cases hr
    |cons u us=>
     rw[jA]at hr;cases hr with
     |cons hx _=>
      obtain⟨m,hb,rfl⟩:=hx.jZ;simp only[RQ.run,Option.bind_eq_some_iff,Option.some.injEq]at hv;obtain⟨⟨es,clock⟩,h4,rfl⟩:=hv;obtain⟨o1,o2,k1,k2,k3⟩:=H.obj r m hb;have hm:h.get r=some (.map es clock):=by
       unfold dB at h4;split at h4<;>simp at h4;obtain⟨rfl,rfl⟩:=h4;assumption
      rw[hm]at k1;cases k1;cases k3 with
      |map hs=>
       rename_i bC;have nB:=run_getObj_map (P:=P) k2 (fun _ _ _=>by simp);have e0:(c.args.map a.eval)[0]? =some (.map (some m.r)):=by
        have:(c.args.map a.eval).toList= .map (some m.r)::us:=by simpa using jA
        rw[←Array.getElem?_toList,this];rfl
       have e1:c.argTypes[0]? =some t:=by rw[←Array.getElem?_toList,Mq];rfl
       refine⟨goInt bC.size,?_,?_⟩
       ·have:=hs.length;simp only[Array.length_toList]at this;rw[this];exact .int μ _ _
       ·simp only[execOp,resolve,yr,Sem.run_bind,Sem.run_pure,Result.andThen_ok,invoke,builtin,Builtin.len_,e0,e1,aA hE hd w,nB]
   ·cases h2
  ·cases hq
 all_goals(simp only[ba]at hq;cases hq)
end
theorem yu {v:Value} (h:dW v=true):v.oneCell'=true:=by cases v<;>simp[dW]at h<;>rfl
theorem jD {P:Program} {r off:Nat} {e:TypeId} {fr:Nat×Nat}:∀(vs:List Value) (i:Nat) (w:World) (c:Array Value),mC fr c.size→w.heap[r]? =some (.cells c e fr)→vs.all dW=true→off+i+vs.length≤c.size→
 ∃w' c',(storeCells ⟨r,off,none⟩ vs i).run P w= .ok () w'∧wT w r (.cells c' e fr) w'∧c'.size=c.size∧∀k,c'[k]? =if off+i≤k∧k<off+i+vs.length then vs[k - (off+i)]? else c[k]?
 |[],i,w,c,_,hw,_,_=>by
  refine⟨w,c,by simp[storeCells],⟨rfl,rfl,rfl,rfl,fun k=>?_⟩,rfl,fun k=>?_⟩
  ·by_cases e:k=r
   ·subst e;rw[if_pos rfl,hw]
   ·rw[if_neg e]
  ·rw[if_neg (by simp)]
 |v::vs,i,w,c,OL,hw,jE,hb=>by
  simp only[List.all_cons,Bool.and_eq_true]at jE;simp only[List.length_cons]at hb;have zZ:w.cell? ⟨r,off+i,none⟩=some (c[off+i]' om):=by
   simp only[World.cell?,hw];simp
  have Ez:w.frozen? ⟨r,off+i,none⟩=false:=by
   have:=OL.at (off+i) om;simp only[World.frozen?,hw];simpa using this
  let w1:=w.setCell ⟨r,off+i,none⟩ v
  have b7:∀k,w1.heap[k]? =if k=r then some (.cells (c.setIfInBounds (off+i) v) e fr)else w.heap[k]? :=by
   intro k;simp only[w1,World.setCell,Array.getElem?_modify];by_cases ek:k=r
   ·subst ek;rw[if_pos rfl,if_pos rfl,hw];simp
   ·rw[if_neg (fun h=>ek h.symm),if_neg ek]
  obtain⟨w',c',q1,q2,q3,q4⟩:=jD (P:=P) (off:=off) vs (i+1) w1 (c.setIfInBounds (off+i) v) (by simpa using OL) (by rw[b7,if_pos rfl]) jE.2 (by simp;omega);refine⟨w',c',?_,⟨q2.tape,q2.os,q2.output,by rw[q2.size];simp[w1,World.setCell],fun k=>?_⟩,by rw[q3];simp,fun k=>?_⟩
  ·simp only[storeCells,Sem.run_bind,eM,run_store P w _ v .plain (yu jE.1),zZ,Ez];simp only[Bool.false_eq_true,if_false,Result.andThen_ok];exact q1
  ·rw[q2.get];by_cases ek:k=r
   ·rw[if_pos ek,if_pos ek]
   ·rw[if_neg ek,if_neg ek,b7,if_neg ek]
  ·rw[q4 k];by_cases h1:off+(i+1)≤k∧k<off+(i+1)+vs.length
   ·rw[if_pos h1,if_pos (by simp;omega)];have:k - (off+i)=(k - (off+(i+1)))+1:=by omega
    rw[this,List.getElem?_cons_succ]
   ·rw[if_neg h1];by_cases h2:k=off+i
    ·subst h2;rw[if_pos (by simp),Array.getElem?_setIfInBounds_self_of_lt (show off+i<c.size by omega)];simp
    ·rw[if_neg (by simp;omega),Array.getElem?_setIfInBounds_ne om]
theorem wW (n:Nat):∀(rounds c:Nat),256≤c→Builtin.growBy n rounds c≤c*2 ^ rounds
 |0,c,_=>by simp[Builtin.growBy]
 |k+1,c,h=>by
  simp only[Builtin.growBy];split
  ·exact Nat.le_mul_of_pos_right _ (Nat.pow_pos om)
  ·have h1:c+(c+768) / 4≤c*2:=by omega
   have:=wW n k (c+(c+768) / 4) om
   calc _≤(c+(c+768) / 4)*2 ^ k:=this
    _≤(c*2)*2 ^ k:=Nat.mul_le_mul_right _ h1
    _=c*2 ^ (k+1):=by rw[Nat.pow_succ,Nat.mul_assoc,Nat.mul_comm 2]
theorem nextslicecap_le {n c:Nat} (h:c<n):Builtin.nextslicecap n c≤16*n:=by
 unfold Builtin.nextslicecap;split
 ·omega
 ·split
  ·omega
  ·have:=wW n 4 c om;omega
section
variable {P:Program} {E:Env} {μ:aS} {f:AF} {a:Act} {base B:Nat} {h:ab} {w:World}
theorem z6 {x x':Value} {n:Nat} (h:kJ x=some n) (hr:ak μ x x'):eg P (Builtin.lenOf x') n:=by
 unfold kJ at h;split at h
 ·simp only[Option.some.injEq]at h;subst h;intro w;cases hr<;>rfl
 ·simp only[Option.some.injEq]at h;subst h;cases hr;intro w;rfl
 ·cases h
theorem lu (H:aM E base B μ h w) {size n L:Nat} {x x':Value} {l:List Value} (h1:dC h size n x=some l) (hr:ak μ x x') (hL:kJ x=some L) (hn:n≤L):
 ∃l',ao μ l l'∧∀d,(Builtin.firstCells size n x').run P {w with drawn:=d}= .ok l'.toArray {w with drawn:=d}:=by
 unfold dC at h1;split at h1
 ·rename_i b o z len cap;cases hr with
  |lit hh=>simp[ar]at hh
  |slice hb k1 k2 k3 k4=>
   rename_i cap' m;obtain⟨l',r1,r2⟩:=H.tY hb h1;refine⟨l',r1,fun d=>?_⟩;simp only[Builtin.firstCells,loadCells];have hl:l'.length=n*size:=by rw[←r1.length];exact(H.ah hb h1).1
   rw[run_loadCells (n*size) 0 #[] l' hl (fun k v hv=>by rw[eM];have:=r2 k v hv;simpa[World.cell?]using this)];simp
  |bU=>
   simp only[kJ,Option.some.injEq]at hL;have nC:n=0:=by omega
   subst nC;unfold M.ah at h1;simp only[Option.bind_eq_some_iff,aO]at h1;obtain⟨cs,_,_,rfl⟩:=h1;refine⟨[],by simpa using ao.nil,fun d=>?_⟩;simp[Builtin.firstCells,loadCells,loadCellsFrom]
 ·rename_i len cap;simp only[Option.some.injEq]at h1;subst h1;cases hr with
  |lit hh=>exact⟨[],.nil,fun d=>by simp[Builtin.firstCells]⟩
 ·rename_i s;simp only[Option.some.injEq]at h1;subst h1;cases hr.an rfl;refine⟨_,ao.bJ μ (by
   rw[List.all_eq_true];intro v hv;obtain⟨u,_,rfl⟩:=List.mem_map.1 hv;rfl),fun d=>?_⟩
  simp only[Builtin.firstCells,Sem.run_pure]
  congr 1
  apply Array.ext';simp[List.extract_eq_take_drop]
 ·cases h1
theorem qN (H:aM E base B μ h w) {b o:Nat} {m:MT} (hb:μ b=some m) {cs cs' vs mF:List Value} {h':ab} (fj:h.rd b=some cs) (gN:cB cs o vs=some cs') (EA:h.wr base b cs'=some h')
 (hr:ao μ vs mF) (jE:vs.all dW=true):∃w',(storeCells ⟨m.r,m.s+o,none⟩ mF).run P w= .ok () w'∧Step E base B μ h w μ h' w':=by
 obtain⟨c,e,fr,k1,k2,k3,k4,k5⟩:=H.read hb fj;obtain⟨f,aE,aY,_,_,_⟩:=Dt EA;have OL:mC fr c.size:=by rw[k2];exact k4 aY
 obtain⟨s1,s2,s3⟩:=cH gN;have hl:=hr.length;have z7:mF.all dW=true:=by
  rw[List.all_eq_true]at jE ⊢;intro v' vZ;obtain⟨i,hi,rfl⟩:=List.mem_iff_getElem.1 vZ;have h0:vs[i]? =some (vs[i]' om):=by simp
  obtain⟨u,q1,q2⟩:=hr.get h0;have:mF[i]? =some mF[i]:=by simp[hi]
  rw[this]at q1;cases q1;exact q2.dW (jE _ (List.getElem_mem _))
 obtain⟨w',c',q1,q2,q3,q4⟩:=jD (P:=P) mF 0 w c OL k1 z7 (off:=m.s+o) om;obtain⟨r,_,_,oi⟩:=rd_some fj;refine⟨w',q1,Step.wr H hb oi s2 EA k1 q3 q2 fun i v hv=>?_⟩;rw[s3 i]at hv;rw[q4 (m.s+i)];by_cases hi:o≤i∧i<o+vs.length
 ·rw[if_pos hi]at hv;rw[if_pos om];obtain⟨v',z1,z2⟩:=hr.get hv;exact⟨v',by rw[←z1];congr 1;omega,z2⟩
 ·rw[if_neg hi]at hv;rw[if_neg om];exact k5 i v hv
end
section
variable {P:Program} {E:Env} {μ:aS} {f:AF} {a:Act} {base B:Nat} {h:ab} {w:World}
def wm (b:Option Addr) (k:Nat) (new:List Value):Sem Unit:=match b with|some a=>storeCells (a.add k) new|none=>pure ()
theorem mH (z:Array Value) (n:Nat):(Builtin.zeroCells z n).size=n*z.size:=by simp[Builtin.zeroCells]
theorem lx (hE:aU P E) {st xt ty elem:TypeId} {xd:TypeDesc} {size bytes n len cap:Nat} {z0:Value} {base':Option Addr} {x':Value} {old new:List Value}
 (bA:E.desc st=some (.slice elem)) (JW:E.desc xt=some xd) (Cb:ju xd=false) (hs:E.size elem=some size) (zF:E.bytes elem=some bytes) (hz:E.zero elem=some z0) (hY:z0.cells.size=size)
 (JX:eg P (Builtin.lenOf x') n)
 (jS:∀d,(Builtin.firstCells size n x').run P {w with drawn:=d}= .ok new.toArray {w with drawn:=d}):
 (len+n≤cap→∀w',(wm base' (len*size) new).run P w= .ok () w'→(Builtin.append_ #[st,xt] ty #[.slice base' len cap,x']).run P w= .ok (.slice base' (len+n) cap) w')∧
 (cap<len+n→(len+n+1)*(bytes+1)≤1099511627776→(∀d,(Builtin.firstCells size len (.slice base' len cap)).run P {w with drawn:=d}= .ok old.toArray {w with drawn:=d})→∃cQ rest,len+n≤cQ∧rest.size=(cQ - (len+n))*size∧
  (Builtin.append_ #[st,xt] ty #[.slice base' len cap,x']).run P w= .ok (.slice (some ⟨w.heap.size,0,none⟩) (len+n) cQ) {w with heap:=w.heap.push (.cells (old.toArray++new.toArray++rest) elem (0,0)),drawn:=w.drawn+1}):=by
 obtain⟨ti,OJ,JA⟩:=yk hE zF;have hw:({w with drawn:=w.drawn}:World)=w:=rfl;constructor
 ·intro wo w' GN;unfold Builtin.append_;simp only[List.getElem?_toArray,List.getElem?_cons_zero,List.getElem?_cons_succ,Sem.run_bind,aA hE bA w,aA hE JW w,Result.andThen_ok,eL hE hs w,Sem.run_pure];split
  ·simp[ju]at Cb
  simp only[Bool.false_eq_true,if_false,Sem.run_bind,JX w,Result.andThen_ok];rw[if_pos wo];have:=jS w.drawn;simp only[Bool.not_false,if_true,Sem.run_bind];rw[show(Builtin.firstCells size n x').run P w= .ok new.toArray w from this];cases base' with
  |none=>
   simp only[wm,Sem.run_pure]at GN;cases GN;simp
  |some a=>
   simp only[wm]at GN;simp[GN]
 ·intro Pk j5 hold;have Sp:len+n+1≤1099511627776:=Nat.le_trans (Nat.le_mul_of_pos_right _ om) j5;have Mr:¬(((len+n:Nat):Int)>IntKind.i64.max):=by
   have e:IntKind.i64.max=9223372036854775807:=by decide
   rw[e];omega
  have fk:¬(Builtin.nextslicecap (len+n) cap*ti.bytes>2 ^ 48):=by
   have h1:=nextslicecap_le Pk;have h2:Builtin.nextslicecap (len+n) cap*ti.bytes≤16*(len+n)*bytes:=by rw[OJ];exact Nat.mul_le_mul_right _ h1
   have h3:16*(len+n)*bytes≤16*((len+n+1)*(bytes+1)):=by
    rw[Nat.mul_assoc];exact Nat.mul_le_mul_left _ (Nat.mul_le_mul om om)
   have e:(2:Nat) ^ 48=281474976710656:=by decide
   rw[e];omega
  let nc:=(Question.appendCap (len+n) cap elem).cut (w.tape w.drawn (Question.appendCap (len+n) cap elem))
  refine⟨nc,Builtin.zeroCells z0.cells (nc - (len+n)),?_,by rw[mH,hY],?_⟩
  ·simp only[nc,Question.cut];omega
  ·unfold Builtin.append_;simp only[List.getElem?_toArray,List.getElem?_cons_zero,List.getElem?_cons_succ,Sem.run_bind,aA hE bA w,aA hE JW w,Result.andThen_ok,eL hE hs w,Sem.run_pure];split
   ·simp[ju]at Cb
   simp only[Bool.false_eq_true,if_false,Sem.run_bind,JX w,Result.andThen_ok];rw[if_neg om];simp only[Sem.run_bind,JA w,Result.andThen_ok];rw[if_neg (fun hh=>Mr hh.1)];simp only[Sem.run_bind,JA w,Result.andThen_ok];rw[if_neg fk];have ho:=hold (w.drawn+1);have hn:=jS (w.drawn+1);simp only[Sem.run_bind,run_choose,Question.forced,Bool.false_eq_true,if_false,Result.andThen_ok,JA _,run_askRoom,ho,hn,Bool.not_false,if_true,gM hE hz _];rfl
end
section
variable {P:Program} {E:Env} {μ:aS} {f:AF} {a:Act} {base B:Nat} {h:ab} {w:World}
def iQ (P:Program) (E:Env) (base B:Nat) (μ:aS) (h:ab) (w:World) (s:Sem Value) (v:Value) (h':ab):Prop:=
 ∃az v' w',s.run P w= .ok v' w'∧ak az v v'∧Step E base B μ h w az h' w'
theorem qO (H:aM E base B μ h w) {cs:List Value} {cs':List Value} (hr:ao μ cs cs') {rest:Array Value} {elem:TypeId} {size len cQ:Nat} (hl:len≤cQ) (hlen:cs.length=len*size) (l4:rest.size=(cQ - len)*size) (d:Nat):
 ∃az,ak az (fresh h cs size len).1 (.slice (some ⟨w.heap.size,0,none⟩) len cQ)∧
  Step E base B μ h w az (fresh h cs size len).2 {w with heap:=w.heap.push (.cells (cs'.toArray++rest) elem (0,0)),drawn:=d}:=by
 have hs:(cs'.toArray++rest).size=cQ*size:=by
  have:=hr.length;simp only[Array.size_append,List.size_toArray,l4,←this,hlen];rw[←Nat.add_mul];congr 1;omega
 have hd:=Step.drawn H d;have dx:=yi.mk' {w with drawn:=d} (.cells (cs'.toArray++rest) elem (0,0));have st:=Step.alloc hd.rel dx (cQ*size) (o:=.cells cs h.size h.size 0) (fun cs f cp aE hh=>by cases hh;exact⟨rfl,rfl⟩) (by
  have:=kM (base:=base) (b:=h.size) (r:=w.heap.size) hr elem (il μ h.size ⟨w.heap.size,0,cQ*size⟩) (h.push (.cells cs h.size h.size 0)) (dO H.fresh) h.size h.size 0 rest (cs'.toArray++rest) (by simp);rw[hs]at this;exact this)
 refine⟨_,?_,hd.trans st⟩;have:=ak.slice (o:=0) (z:=size) (len:=len) (cap:=len+1) (cap':=cQ) (bc μ h.size ⟨w.heap.size,0,cQ*size⟩) om hl (fun h=>by omega) (by simp only;omega);simpa[fresh]using this
theorem oj {b o:Nat} {l:List Value} (hr:M.ah h b o 0=some l):l=[]:=by
 unfold M.ah at hr;simp only[Option.bind_eq_some_iff,aO]at hr;obtain⟨cs,_,_,rfl⟩:=hr;simp
set_option maxHeartbeats 1000000 in
set_option maxHeartbeats 1000000 in
theorem Cc (hE:aU P E) (H:aM E base B μ h w) {st xt ty:TypeId} {s x s' x' v:Value} {h':ab} (ha:bq E base h st xt s x=some (v,h')) (hs:ak μ s s') (hx:ak μ x x'):
 iQ P E base B μ h w (Builtin.append_ #[st,xt] ty #[s',x']) v h':=by
 unfold bq at ha;simp only[Option.bind_eq_some_iff]at ha;obtain⟨sd,bA,xd,JW,ha⟩:=ha;split at ha
 ·rename_i elem;simp only[Option.bind_eq_some_iff,ae,Bool.and_eq_true,Bool.not_eq_true',beq_iff]at ha;obtain⟨size,cI,bytes,zF,z0,hz,n,hn,⟨Cb,hY⟩,ha⟩:=ha;have JX:=z6 (P:=P) hn hx;have UH:∀d,(Builtin.firstCells size 0 x').run P {w with drawn:=d}= .ok ([]:List Value).toArray {w with drawn:=d}:=by
   intro d;unfold kJ at hn;split at hn
   ·cases hx with
    |lit hh=>
     unfold ar at hh;split at hh<;>simp_all[Builtin.firstCells]
    |slice=>simp[Builtin.firstCells,loadCells,loadCellsFrom]
    |bU=>simp[Builtin.firstCells,loadCells,loadCellsFrom]
   ·cases hx with
    |lit hh=>simp[Builtin.firstCells]
   ·cases hn
  split at ha
  ·-- a nil slice
   have es:s'= .slice none 0 0:=by cases hs;rfl
   subst es;have UI:=fun new jS=>lx (w:=w) (ty:=ty) (base':=none) (cap:=0) (len:=0) (old:=[]) (new:=new) hE bA JW Cb cI zF hz hY JX jS;rw[bB]at ha;split at ha
   ·rename_i h0;rw[beq_iff]at h0;subst h0;simp only[Option.some.injEq,Prod.mk.injEq]at ha;obtain⟨rfl,rfl⟩:=ha;exact⟨μ,_,w,(UI [] UH).1 (Nat.le_refl _) w rfl,.lit rfl,.refl H⟩
   ·rename_i h0;rw[beq_iff]at h0;simp only[ae,ax,beq_iff,Option.bind_eq_some_iff,Option.some.injEq]at ha;obtain⟨j5,new,jS,hl,ha⟩:=ha;obtain⟨sQ,r1,r2⟩:=lu (P:=P) H jS hx hn (Nat.le_refl _);obtain⟨cQ,rest,k1,k2,k3⟩:=(UI sQ r2).2 om (by simpa using j5) (fun d=>by simp[Builtin.firstCells]);obtain⟨az,q1,q2⟩:=qO (elem:=elem) H r1 (rest:=rest) (by simpa using k1) hl (by simpa using k2) (w.drawn+1);simp only[Nat.zero_add]at k3 ha;rw[ha]at q1 q2;refine⟨az,_,_,k3,q1,?_⟩;simpa using q2
  ·rename_i b o z len cap;rw[bB]at ha;split at ha
   ·-- nothing is appended
    rename_i h0;rw[beq_iff]at h0;subst h0;simp only[Option.some.injEq,Prod.mk.injEq]at ha;obtain⟨rfl,rfl⟩:=ha;have fin:∀(a':Addr) (cap':Nat),s'= .slice (some a') len cap'→len≤cap'→iQ P E base B μ h w (Builtin.append_ #[st,xt] ty #[s',x']) (.slice (some ⟨b,o,some z⟩) len cap) h:=by
     intro a' cap' e Ev;subst e;have ra:=(lx (w:=w) (ty:=ty) (base':=some a') (cap:=cap') (len:=len) (old:=[]) hE bA JW Cb cI zF hz hY JX UH).1 om w (by simp[wm,storeCells]);exact⟨μ,_,w,ra,hs,.refl H⟩
    generalize hv:Value.slice (some ⟨b,o,some z⟩) len cap=v at hs;cases hs with
    |slice hb k1 k2 k3 k4=>cases hv;exact fin _ _ rfl k2
    |bU=>cases hv;exact fin _ _ rfl (Nat.le_refl _)
    |_=>cases hv<;>simp[ar]at*
   ·rename_i h0;rw[beq_iff]at h0;simp only[ae,Bool.and_eq_true,ax,beq_iff,Option.bind_eq_some_iff]at ha;obtain⟨⟨VJ,j5⟩,old,hold,new,jS,hl,ha⟩:=ha;subst VJ;obtain⟨sQ,r1,r2⟩:=lu (P:=P) H jS hx hn (Nat.le_refl _)
    -- the elder cells
    have Pl:∃wq,ao μ old wq∧(∀d,(Builtin.firstCells z len s').run P {w with drawn:=d}= .ok wq.toArray {w with drawn:=d}):=
     lu (P:=P) H (x:=.slice (some ⟨b,o,some z⟩) len cap) (x':=s') hold hs rfl (Nat.le_refl _)
    obtain⟨wq,o1,o2⟩:=Pl;have Pm:old.length=len*z:=by
     unfold M.ah at hold;simp only[Option.bind_eq_some_iff,aO]at hold;obtain⟨cs,_,h3,rfl⟩:=hold;simp at h3 ⊢;omega
    have GO:ao μ (old++new) (wq++sQ):=o1.append r1;have Dx:(old++new).length=(len+n)*z:=by rw[List.length_append,Pm,hl,Nat.add_mul]
    have Lo:∀(a':Addr) (cap':Nat),s'= .slice (some a') len cap'→cap'<len+n→∃cQ rest,len+n≤cQ∧rest.size=(cQ - (len+n))*z∧
     (Builtin.append_ #[st,xt] ty #[s',x']).run P w= .ok (.slice (some ⟨w.heap.size,0,none⟩) (len+n) cQ) {w with heap:=w.heap.push (.cells ((wq++sQ).toArray++rest) elem (0,0)),drawn:=w.drawn+1}:=by
     intro a' cap' e hc;subst e;obtain⟨cQ,rest,q1,q2,q3⟩:=(lx (w:=w) (ty:=ty) (base':=some a') (cap:=cap') (len:=len) (old:=wq) hE bA JW Cb cI zF hz hY JX r2).2 hc j5 o2;refine⟨cQ,rest,q1,q2,?_⟩;rw[q3];simp
    rw[bB]at ha;split at ha
    ·-- no room
     rename_i bL;rw[beq_iff]at bL;subst bL;simp only[Option.some.injEq]at ha;have fin:∀(a':Addr) (cap':Nat),s'= .slice (some a') cap cap'→cap'<cap+n→iQ P E base B μ h w (Builtin.append_ #[st,xt] ty #[s',x']) v h':=by
      intro a' cap' e hc;obtain⟨cQ,rest,q1,q2,q3⟩:=Lo a' cap' e hc;obtain⟨az,p1,p2⟩:=qO (elem:=elem) H GO (rest:=rest) q1 Dx q2 (w.drawn+1);rw[ha]at p1 p2;exact⟨az,_,_,q3,p1,p2⟩
     generalize hv:Value.slice (some ⟨b,o,some z⟩) cap cap=sv at hs;cases hs with
     |slice hb k1 k2 k3 k4=>cases hv;exact fin _ _ rfl (by have:=k3 rfl;omega)
     |bU=>cases hv;exact fin _ _ rfl om
     |_=>cases hv<;>simp[ar]at*
    ·-- the last block of a family goes on
     rename_i bL;rw[beq_iff]at bL;simp only[Option.bind_eq_some_iff,ae,Bool.and_eq_true,ax,beq_iff,Option.some.injEq,Prod.mk.injEq]at ha;obtain⟨cs,oi,⟨f,cp,aE⟩,oJ,⟨⟨dc,Pn⟩,jE⟩,rfl,rfl⟩:=ha;simp only at dc Pn;subst Pn;obtain⟨cC,z8⟩:∃t,t=(bif Nat.beq (o+len*z) cs.length then aE else h.size):=⟨_,rfl⟩;simp only
     rw[←z8];have tT:∀x,x<h.size→cC≤x→aE≤x:=by
      intro x hx h7;cases Gl:Nat.beq (o+len*z) cs.length<;>rw[Gl]at z8<;>simp only[cond_true,cond_false]at z8<;>omega
     have Lp:cC<h.size→o+len*z=cs.length:=by
      intro h7;cases Gl:Nat.beq (o+len*z) cs.length<;>rw[Gl]at z8<;>simp only[cond_true,cond_false]at z8
      ·omega
      ·exact beq_iff.1 Gl
     have Dy:∀mt:MT,mt.s+0+(len+n)*z≤mt.n→∀JY,len+n≤JY→mt.s+0+JY*z≤mt.n→
      ak (il μ h.size mt) (.slice (some ⟨h.size,0,some z⟩) (len+n) (len+n+1)) (.slice (some ⟨mt.r,mt.s+0,none⟩) (len+n) JY):=by
      intro mt _ JY hc wo;exact .slice (bc μ h.size mt) om hc (fun h=>by omega) wo
     have Dz:∀(a':Addr) (cap':Nat) (m:MT),μ cp=some m→s'= .slice (some a') len cap'→cap'<len+n→iQ P E base B μ h w (Builtin.append_ #[st,xt] ty #[s',x']) (.slice (some ⟨h.size,0,some z⟩) (len+n) (len+n+1)) ((h.bk f h.size cC).push (.cells (old++new) f 0 0)):=by
      intro a' cap' m hb e hc;obtain⟨cQ,rest,q1,q2,q3⟩:=Lo a' cap' e hc;have Sr:((wq++sQ).toArray++rest).size=cQ*z:=by
       have:=GO.length;simp only[Array.size_append,List.size_toArray,q2,←this,Dx];rw[←Nat.add_mul];congr 1;omega
      let mt:MT:=⟨w.heap.size,0,cQ*z⟩
      have hle:cQ*z≥(len+n)*z:=Nat.mul_le_mul_right _ q1
      have st:=Step.ext (w':={w with heap:=w.heap.push (.cells ((wq++sQ).toArray++rest) elem (0,0)),drawn:=w.drawn+1}) H cC tT hb oJ dc (cs:=cs) (new:=old++new) mt (by simp) rfl rfl rfl
       ⟨(wq++sQ).toArray++rest,elem,(0,0),by simp[mt],Ds _,Sr,by simp only[mt];omega,fun i v hv=>by
        obtain⟨v',z1,z2⟩:=GO.get hv;refine⟨v',?_,z2⟩;have hi:=(List.getElem?_eq_some_iff.1 z1).1;simp only[mt,Nat.zero_add];rw[←Array.getElem?_toList,Array.toList_append,List.getElem?_append_left (by simpa using hi)];exact z1⟩ oi
       (fun r hr aX=>by simp only[mt]at aX;simp only[Array.getElem?_push];rw[if_neg om]) H.low (.inl (Nat.le_refl _))
      refine⟨_,_,_,q3,?_,st⟩;have:=Dy mt (by simp only[mt];omega) cQ q1 (by simp only[mt];omega);simpa[mt]using this
     generalize hv:Value.slice (some ⟨cp,o,some z⟩) len cap=sv at hs;cases hs with
     |slice hb k1 k2 k3 k4=>
      rename_i b1 X0 z1 EB JZ cap' m;cases hv;by_cases wo:len+n≤cap'
      ·-- in place
       obtain⟨c,e,fr,w1,w2,w3,w4,w5⟩:∃c e fr,w.heap[m.r]? =some (.cells c e fr)∧c.size=m.n∧m.s+cs.length≤m.n∧(base≤cp→mC fr m.n)∧∀(i:Nat) v,cs[i]? =some v→∃v',c[m.s+i]? =some v'∧ak μ v v':=by
        unfold M.ah at hold;simp only[Option.bind_eq_some_iff]at hold;obtain⟨UJ,fj,_⟩:=hold;obtain⟨_,_,_,h9⟩:=rd_some fj;rw[oi]at h9;cases h9;exact H.read hb fj
       have Su:=H.cW cp m _ hb oJ;simp only at Su;have Sv:base≤cp:=by omega
       have OL:mC fr c.size:=by rw[w2];exact w4 Sv
       have z7:sQ.all dW=true:=by
        rw[List.all_eq_true]at jE ⊢;intro v' vZ;obtain⟨i,hi,rfl⟩:=List.mem_iff_getElem.1 vZ;have VK:=r1.length;have h0:new[i]? =some (new[i]' om):=by simp
        obtain⟨u,q1,q2⟩:=r1.get h0;have:sQ[i]? =some sQ[i]:=by simp[hi]
        rw[this]at q1;cases q1;exact q2.dW (jE _ (List.getElem_mem _))
       have v8:sQ.length=n*z:=by rw[←r1.length];exact hl
       have hmul:(len+n)*z=len*z+n*z:=Nat.add_mul _ _ _;have fy:(len+n)*z≤cap'*z:=Nat.mul_le_mul_right _ wo;obtain⟨w',c',q1,q2,q3,q4⟩:=jD (P:=P) (off:=m.s+o+len*z) sQ 0 w c OL w1 z7 om;have ra:=(lx (w:=w) (ty:=ty) (base':=some ⟨m.r,m.s+o,none⟩) (cap:=cap') (len:=len) (old:=wq) hE bA JW Cb cI zF hz hY JX r2).1 wo w' (by simp only[wm,eM];exact q1)
       let mt:MT:=⟨m.r,m.s+o,m.n⟩
       have Po:∀(i:Nat) v,old[i]? =some v→∃v',c[m.s+o+i]? =some v'∧ak μ v v':=by
        intro i v hv;unfold M.ah at hold;simp only[Option.bind_eq_some_iff,aO]at hold;obtain⟨UJ,fj,h3,rfl⟩:=hold;obtain⟨_,_,_,h9⟩:=rd_some fj;rw[oi]at h9;cases h9;have hi:=(List.getElem?_eq_some_iff.1 hv).1;simp at hi;rw[List.getElem?_take,if_pos om,List.getElem?_drop]at hv;obtain⟨v',z1,z2⟩:=w5 _ v hv;exact⟨v',by rw[Nat.add_assoc];exact z1,z2⟩
       have st:=Step.ext (w':=w') H cC tT hb oJ dc (cs:=cs) (new:=old++new) mt (by rw[q2.size];exact Nat.le_refl _) q2.tape q2.os q2.output
        ⟨c',e,fr,by rw[q2.get,if_pos rfl],w4 Sv,by rw[q3,w2],by simp only[mt];omega,fun i v hv=>by
         simp only[mt];rw[q4];by_cases hi:i<old.length
         ·rw[List.getElem?_append_left hi]at hv;obtain⟨v',z1,z2⟩:=Po i v hv;refine⟨v',?_,z2⟩;rw[if_neg om];exact z1
         ·rw[List.getElem?_append_right om]at hv;have Ms:=(List.getElem?_eq_some_iff.1 hv).1;obtain⟨v',z1,z2⟩:=r1.get hv;refine⟨v',?_,z2⟩;rw[if_pos om,←z1];congr 1;omega⟩ oi
        (fun r hr aX=>by rw[q2.get,if_neg aX]) (H.own cp m hb Sv)
        (.inr ⟨rfl,rfl,fun h7=>by have:=Lp h7;simp only[mt];omega,fun c2 e2 X3 hh=>by
         rw[w1]at hh;cases hh;exact⟨c',by rw[q2.get,if_pos rfl],q3,fun h7 i hi=>by have:=Lp h7;rw[q4,if_neg om]⟩⟩)
       refine⟨_,_,w',ra,?_,st⟩;have:=Dy mt (by simp only[mt];omega) cap' wo (by simp only[mt];omega);simpa[mt]using this
      ·exact Dz _ _ m hb rfl om
     |bU hb=>cases hv;obtain⟨m0,hb⟩:=hb om;exact Dz _ _ _ hb rfl om
     |_=>cases hv<;>simp[ar]at*
  ·cases ha
 ·cases ha
end
theorem wT.set (w:World) (r:Nat) (o:Obj) (hr:r<w.heap.size):wT w r o {w with heap:=w.heap.setIfInBounds r o}:=
 ⟨rfl,rfl,rfl,by simp,fun k=>by
  by_cases e:k=r
  ·subst e;rw[if_pos rfl,Array.getElem?_setIfInBounds_self_of_lt hr]
  ·rw[if_neg e,Array.getElem?_setIfInBounds_ne (fun h=>e h.symm)]⟩
theorem bj {P:Program} {w:World} {r:Nat} {o1 o:Obj} (h:w.heap[r]? =some o1) (ho:∀c e f,o1≠ .cells c e f):(setObj r o).run P w= .ok () {w with heap:=w.heap.setIfInBounds r o}:=by
 unfold setObj;simp only[Sem.run,h]
section
variable {P:Program} {E:Env} {μ:aS} {f:AF} {a:Act} {base B:Nat} {h:ab} {w:World}
theorem GP (hE:aU P E) (H:aM E base B μ h w) {dt ty:TypeId} {d s d' s' v:Value} {h':ab} (ha:GA E base h dt d s=some (v,h')) (hd:ak μ d d') (hs:ak μ s s') (ts:Array TypeId) (ht:ts[0]? =some dt):
 iQ P E base B μ h w (Builtin.copy_ ts ty #[d',s']) v h':=by
 unfold GA at ha;simp only[Option.bind_eq_some_iff]at ha;obtain⟨dd,Lq,ha⟩:=ha;split at ha
 ·rename_i elem ad ya VM;simp only[Option.bind_eq_some_iff]at ha;obtain⟨size,cI,sl,Lr,ha⟩:=ha;have JX:=z6 (P:=P) Lr hs;have Sw:∃OM cap',d'= .slice OM ya cap':=by cases hd<;>exact⟨_,_,rfl⟩
  obtain⟨OM,cap',rfl⟩:=Sw;have run:∀(cells:List Value) (w':World),(Builtin.firstCells size (Nat.min sl ya) s').run P w= .ok cells.toArray w→(wm OM 0 cells).run P w= .ok () w'→(Builtin.copy_ ts ty #[.slice OM ya cap',s']).run P w= .ok (goInt (Nat.min sl ya)) w':=by
   intro cells w' h1 h2;unfold Builtin.copy_;simp only[ht,List.getElem?_toArray,List.getElem?_cons_zero,List.getElem?_cons_succ,Sem.run_bind,aA hE Lq w,Result.andThen_ok,JX w,eL hE cI w,h1];cases OM with
   |none=>simp only[wm,Sem.run_pure]at h2;cases h2;simp
   |some aa=>
    simp only[wm]at h2;have:aa.add 0=aa:=by simp[Addr.add]
    rw[this]at h2;simp[h2]
  rw[bB]at ha;split at ha
  ·rename_i h0;rw[beq_iff]at h0;simp only[Option.some.injEq,Prod.mk.injEq]at ha;obtain⟨rfl,rfl⟩:=ha;have pI:(Builtin.firstCells size (Nat.min sl ya) s').run P w= .ok ([]:List Value).toArray w:=by
    rw[h0];unfold kJ at Lr;split at Lr
    ·cases hs with
     |lit hh=>unfold ar at hh;split at hh<;>simp_all[Builtin.firstCells]
     |slice=>simp[Builtin.firstCells,loadCells,loadCellsFrom]
     |bU=>simp[Builtin.firstCells,loadCells,loadCellsFrom]
    ·cases hs with
     |lit hh=>simp[Builtin.firstCells]
    ·cases Lr
   have:=run [] w pI (by cases OM<;>simp[wm,storeCells]);rw[h0]at this;exact⟨μ,_,w,this,.int μ _ _,.refl H⟩
  ·rename_i h0;rw[beq_iff]at h0;split at ha
   ·rename_i b o z;simp only[Option.bind_eq_some_iff,ae,Option.some.injEq,Prod.mk.injEq]at ha;obtain⟨cells,hc,jE,cs,fj,cs',gN,h1,EA,rfl,rfl⟩:=ha;obtain⟨cells',r1,r2⟩:=lu (P:=P) H hc hs Lr (Nat.min_le_left _ _);cases hd with
    |slice hb k1 k2 k3 k4=>
     obtain⟨w',q1,q2⟩:=qN (P:=P) H hb fj gN EA r1 jE;exact⟨μ,_,w',run cells' w' (r2 w.drawn) (by simp only[wm,eM];exact q1),.int μ _ _,q2⟩
    |bU=>exact absurd (Nat.min_zero _) h0
    |lit hh=>simp[ar]at hh
   ·cases ha
 ·cases ha
theorem ED (hE:aU P E) (H:aM E base B μ h w) {t ty:TypeId} {x x' v:Value} {h':ab} (ha:mz E base h t x=some (v,h')) (hx:ak μ x x') (ts:Array TypeId) (ht:ts[0]? =some t) (args:Array Value) (gH:args[0]? =some x')
 (hu:∃d,E.desc t=some d):iQ P E base B μ h w (Builtin.clear_ ts ty args) v h':=by
 obtain⟨d,Lq⟩:=hu;unfold mz at ha;split at ha
 ·simp only[Option.some.injEq,Prod.mk.injEq]at ha;obtain⟨rfl,rfl⟩:=ha;have ex:x'= .map none:=by cases hx;rfl
  subst ex;refine⟨μ,.tuple #[],w,?_,ak.undef μ,.refl H⟩;unfold Builtin.clear_;simp only[ht,gH,Sem.run_bind,aA hE Lq w,Result.andThen_ok];rfl
 ·simp only[Option.some.injEq,Prod.mk.injEq]at ha;obtain⟨rfl,rfl⟩:=ha;have ex:∃n c,x'= .slice none n c:=by cases hx;exact⟨_,_,rfl⟩
  obtain⟨n,c,rfl⟩:=ex;refine⟨μ,.tuple #[],w,?_,ak.undef μ,.refl H⟩;unfold Builtin.clear_;simp only[ht,gH,Sem.run_bind,aA hE Lq w,Result.andThen_ok];rfl
 ·rename_i b o z n cap;have shape:∃a' cap',x'= .slice (some a') n cap':=by
   cases hx with
   |lit hh=>simp[ar]at hh
   |slice=>exact⟨_,_,rfl⟩
   |bU=>exact⟨_,_,rfl⟩
  rw[bB]at ha;split at ha
  ·rename_i h0;rw[beq_iff]at h0;subst h0;simp only[Option.some.injEq,Prod.mk.injEq]at ha;obtain⟨rfl,rfl⟩:=ha;obtain⟨a',cap',rfl⟩:=shape;refine⟨μ,.tuple #[],w,?_,ak.undef μ,.refl H⟩;unfold Builtin.clear_;simp only[ht,gH,Sem.run_bind,aA hE Lq w,Result.andThen_ok];rfl
  ·rename_i h0;rw[beq_iff]at h0;simp only[Option.bind_eq_some_iff]at ha;obtain⟨d2,Pp,ha⟩:=ha;rw[Lq]at Pp;cases Pp;split at ha
   ·rename_i elem;simp only[Option.bind_eq_some_iff,ae,Option.some.injEq,Prod.mk.injEq]at ha;obtain⟨zv,hz,jE,cs,fj,cs',gN,h1,EA,rfl,rfl⟩:=ha;have oO:=(ak.bJ μ (hE.zero elem zv hz).2).cells;have z7:(aI zv.cells.toList n).all dW=true:=by
     have:∀k,(aI zv.cells.toList k).all dW=true:=by
      intro k
      induction k with
      |zero=>rfl
      |succ k ih=>simp only[M.aI,List.all_append,jE,ih,Bool.and_self]
     exact this n
    cases hx with
    |lit hh=>simp[ar]at hh
    |slice hb k1 k2 k3 k4=>
     rename_i cap' m;obtain⟨w',q1,q2⟩:=qN (P:=P) H hb fj gN EA (oO.aI n) z7;refine⟨μ,.tuple #[],w',?_,ak.undef μ,q2⟩;have OH:(Builtin.zeroCells zv.cells n).toList=aI zv.cells.toList n:=by
      unfold Builtin.zeroCells;by_cases pH:0<zv.cells.size
      ·exact pG zv.cells n pH
      ·have e0:zv.cells.size=0:=by omega
       have e1:(aI zv.cells.toList n)=[]:=by
        apply List.eq_nil_of_length_eq_zero;rw[cE];simp[e0]
       rw[e1];simp[e0]
     obtain⟨n',rfl⟩:∃n',n=n'+1:=⟨n - 1,om⟩;unfold Builtin.clear_;simp only[ht,gH,Sem.run_bind,aA hE Lq w,Result.andThen_ok,gM hE hz w,OH,q1,Sem.run_pure]
    |bU=>exact absurd rfl h0
   ·cases ha
 ·rename_i r;simp only[ae,ax]at ha;obtain⟨aY,ha⟩:=ha;split at ha
  ·rename_i es clock hg;simp only[Option.some.injEq,Prod.mk.injEq]at ha;obtain⟨rfl,rfl⟩:=ha;obtain⟨m,hb,rfl⟩:=hx.jZ;obtain⟨o1,o2,k1,k2,k3⟩:=H.obj r m hb;rw[hg]at k1;cases k1;cases k3 with
   |map hs=>
    have st:=Step.put H hb aY hg rfl rfl (wT.set w m.r (.map #[] clock) (H.lt hb)) (.map (by simpa using bX.nil));refine⟨μ,.tuple #[],_,?_,ak.undef μ,st⟩;unfold Builtin.clear_;simp only[ht,gH,Sem.run_bind,aA hE Lq w,Result.andThen_ok,run_getObj_map (P:=P) k2 (fun _ _ _=>by simp),bj (P:=P) k2 (fun _ _ _=>by simp),Sem.run_pure]
  ·cases ha
 ·cases ha
theorem tZ {kd:TypeDesc} {k:Value}:∀{es:List MapEntry} {i j:Nat} {v:Value},Instr.findNow kd k es i=some (some (j,v))→i≤j∧j<i+es.length
 |[],i,j,v,h=>by simp[Instr.findNow]at h
 |e::es,i,j,v,h=>by
  simp only[Instr.findNow]at h;split at h
  ·simp only[Option.some.injEq,Prod.mk.injEq]at h;obtain⟨rfl,_⟩:=h;simp
  ·have:=tZ h;simp;omega
  ·cases h
theorem bX.eraseIdx {l l':List MapEntry} (hs:bX μ l l'):∀i,bX μ (l.eraseIdx i) (l'.eraseIdx i):=by
 induction hs with
 |nil=>intro i;simpa using bX.nil
 |cons hk hv hb t ih=>intro i;cases i with
  |zero=>simpa using t
  |succ i=>simpa using bX.cons hk hv hb (ih i)
theorem bX.append {l l' k k':List MapEntry} (hs:bX μ l l') (hk:bX μ k k'):bX μ (l++k) (l'++k'):=by
 induction hs with
 |nil=>exact hk
 |cons a b c _ ih=>exact .cons a b c ih
theorem bX.modify {l l':List MapEntry} (hs:bX μ l l') {g g':MapEntry→MapEntry} (hg:∀e e',ak μ e.key e'.key→ak μ e.val e'.val→e.born=e'.born→ak μ (g e).key (g' e').key∧ak μ (g e).val (g' e').val∧(g e).born=(g' e').born):∀i,bX μ (l.modify i g) (l'.modify i g'):=by
 induction hs with
 |nil=>intro i;simpa using bX.nil
 |cons hk hv hb t ih=>intro i;cases i with
  |zero=>obtain⟨a,b,c⟩:=hg _ _ hk hv hb;simpa using bX.cons a b c t
  |succ i=>simpa using bX.cons hk hv hb (ih i)
theorem Cd (hE:aU P E) (H:aM E base B μ h w) {t ty:TypeId} {mv k UK k' v:Value} {h':ab} (ha:pr E base h t mv k=some (v,h')) (hm:ak μ mv UK) (hk:ak μ k k') (ts:Array TypeId) (ht:ts[0]? =some t):
 iQ P E base B μ h w (Builtin.delete_ ts ty #[UK,k']) v h':=by
 unfold pr at ha;simp only[Option.bind_eq_some_iff]at ha;obtain⟨d,hd,ha⟩:=ha;split at ha
 ·rename_i kt et r;simp only[ae,Bool.and_eq_true,ax,Option.bind_eq_some_iff]at ha;obtain⟨⟨aY,pJ⟩,kd,hH,bA,ha⟩:=ha;split at ha
  ·rename_i es clock hg;obtain⟨m,hb,rfl⟩:=hm.jZ;have ek:=hk.an pJ;subst ek;obtain⟨o1,o2,k1,k2,k3⟩:=H.obj r m hb;rw[hg]at k1;cases k1;cases k3 with
   |map hs=>
    rename_i bC;simp only[Option.bind_eq_some_iff]at ha;obtain⟨fr,Ez,ha⟩:=ha;obtain⟨Gm,q1,q2,q3⟩:=iu hs Ez;have Ey:(Instr.findKey kt k' bC.toList).run P w= .ok Gm w:=by
     simp only[Instr.findKey,Sem.run_bind,aA hE hH w,Result.andThen_ok,q1,Sem.run_pure]
    have zE:=jC (P:=P) hE hH bA bC.isEmpty 9999 k' w;have nB:=run_getObj_map (P:=P) k2 (fun _ _ _=>by simp);have GQ:=fun o=>bj (P:=P) (o:=o) k2 (fun _ _ _=>by simp);cases fr with
    |none=>
     have e:=q2 rfl;subst e;simp only[Option.some.injEq,Prod.mk.injEq]at ha;obtain⟨rfl,rfl⟩:=ha;have st:=Step.put H hb aY hg rfl rfl (wT.set w m.r (.map bC clock) (H.lt hb)) (.map hs);refine⟨μ,.tuple #[],_,?_,ak.undef μ,st⟩;unfold Builtin.delete_;simp only[ht,List.getElem?_toArray,List.getElem?_cons_zero,List.getElem?_cons_succ,Sem.run_bind,aA hE hd w,Result.andThen_ok,nB,zE,Ey,GQ,Sem.run_pure]
    |some jv=>
     obtain⟨v',e,hr⟩:=q3 jv.1 jv.2 rfl;subst e;simp only[Option.some.injEq,Prod.mk.injEq]at ha;obtain⟨rfl,rfl⟩:=ha;have bO:=(tZ Ez).2;have hl:=hs.length;have st:=Step.put H hb aY hg rfl rfl (wT.set w m.r (.map (bC.eraseIdxIfInBounds jv.1) clock) (H.lt hb)) (.map (by
      have Ml:jv.1<bC.size:=by simp at hl bO;omega
      have:(bC.eraseIdxIfInBounds jv.1).toList=bC.toList.eraseIdx jv.1:=by
       simp[Array.eraseIdxIfInBounds,Ml]
      rw[this];exact hs.eraseIdx jv.1))
     refine⟨μ,.tuple #[],_,?_,ak.undef μ,st⟩;unfold Builtin.delete_;simp only[ht,List.getElem?_toArray,List.getElem?_cons_zero,List.getElem?_cons_succ,Sem.run_bind,aA hE hd w,Result.andThen_ok,nB,zE,Ey,GQ,Sem.run_pure]
  ·cases ha
 ·cases ha
end
section
variable {P:Program} {E:Env} {μ:aS} {f:AF} {a:Act} {base B:Nat} {h:ab} {w:World}
theorem Aa (hE:aU P E) (H:aM E base B μ h w) {st xt ty:TypeId} {s x s' x' v:Value} {h':ab} (ha:fX E h st xt s x=some (v,h')) (hs:ak μ s s') (hx:ak μ x x'):
 iQ P E base B μ h w (Builtin.append_ #[st,xt] ty #[s',x']) v h':=by
 unfold fX at ha;simp only[Option.bind_eq_some_iff]at ha;obtain⟨sd,bA,xd,JW,ha⟩:=ha;split at ha
 ·rename_i elem l;simp only[Option.bind_eq_some_iff,ae,Bool.and_eq_true,beq_iff,aF,ax,Option.some.injEq]at ha;obtain⟨size,cI,bytes,zF,z0,hz,⟨⟨⟨⟨Cb,hY⟩,RB⟩,qB⟩,j5⟩,ha⟩:=ha;have es:s'= .slice none 0 0:=by cases hs;rfl
  subst es;have ex:x'= .int .i64 l:=hx.an rfl;subst ex;obtain⟨ti,OJ,JA⟩:=yk hE zF;obtain⟨n,hn⟩:∃n:Nat,l=n:=⟨l.toNat,om⟩;subst hn;simp only[Int.toNat_natCast]at qB j5 ha;have Sp:n+1≤1099511627776:=Nat.le_trans (Nat.le_mul_of_pos_right _ om) j5;have VO:IntKind.i64.wrap (n:Int)=n:=IntWalk.i64_in _ om;have hmul:((n:Int)*(ti.bytes:Int))≤1099511627776:=by
   rw[OJ];have h1:n*bytes≤(n+1)*(bytes+1):=Nat.mul_le_mul om om;have h2:=Int.ofNat_le.2 (Nat.le_trans h1 j5)
   rwa [Int.natCast_mul]at h2
  have Mr:¬(((0+n:Nat):Int)>IntKind.i64.max):=by
   have e:IntKind.i64.max=9223372036854775807:=by decide
   rw[e];omega
  have fk:¬(Builtin.nextslicecap (0+n) 0*ti.bytes>2 ^ 48):=by
   have h1:=nextslicecap_le (n:=0+n) (c:=0) om;have h2:Builtin.nextslicecap (0+n) 0*ti.bytes≤16*(0+n)*bytes:=by rw[OJ];exact Nat.mul_le_mul_right _ h1
   have h3:16*(0+n)*bytes≤16*((n+1)*(bytes+1)):=by
    rw[Nat.mul_assoc];exact Nat.mul_le_mul_left _ (Nat.mul_le_mul om om)
   have e:(2:Nat) ^ 48=281474976710656:=by decide
   rw[e];omega
  have oO:=(ak.bJ μ (hE.zero elem z0 hz).2).cells;have OH:Builtin.zeroCells z0.cells n=(aI z0.cells.toList n).toArray:=by
   apply Array.ext';unfold Builtin.zeroCells;rw[pG z0.cells n om]
  have tX:¬n*size=0:=by
   intro e;rcases Nat.mul_eq_zero.1 e with e|e<;>omega
  let nc:=(Question.appendCap (0+n) 0 elem).cut (w.tape w.drawn (Question.appendCap (0+n) 0 elem))
  have BX:n≤nc:=by simp only[nc,Question.cut];omega
  have run:(Builtin.append_ #[st,xt] ty #[.slice none 0 0,.int .i64 (n:Int)]).run P w= .ok (.slice (some ⟨w.heap.size,0,none⟩) n nc) {w with heap:=w.heap.push (.cells ((aI z0.cells.toList n).toArray++Builtin.zeroCells z0.cells (nc - n)) elem (0,0)),drawn:=w.drawn+1}:=by
   unfold Builtin.append_;simp only[List.getElem?_toArray,List.getElem?_cons_zero,List.getElem?_cons_succ,Sem.run_bind,aA hE bA w,aA hE JW w,Result.andThen_ok,eL hE cI w,Sem.run_pure];split
   ·simp only[if_true,Sem.run_bind,asInt,asIntOf,Sem.run_pure,Result.andThen_ok,VO];rw[if_neg (show¬((n:Nat):Int)<0 by omega)];simp only[Sem.run_bind,JA w,Result.andThen_ok]
    rw[if_neg (show¬((n:Int)*(ti.bytes:Int)>2 ^ 48) by have e:(2:Int) ^ 48=281474976710656:=by decide
                                                       rw[e];omega)]
    simp only[Sem.run_bind,Sem.run_pure,Result.andThen_ok,Int.toNat_natCast];rw[if_neg (show¬(0+n≤0) by omega)];simp only[Sem.run_bind,JA w,Result.andThen_ok];rw[if_neg (fun hh=>Mr hh.1)];simp only[Sem.run_bind,JA w,Result.andThen_ok];rw[if_neg fk];simp only[Sem.run_bind,run_choose,Question.forced,Bool.false_eq_true,if_false,Result.andThen_ok,JA _,run_askRoom,Builtin.firstCells,Sem.run_pure,Bool.not_true,tX,gM hE hz _,OH];simp only[nc,Nat.zero_add,Array.empty_append];rfl
   ·rename_i aX;cases xd<;>simp[ju]at Cb;exact absurd rfl (aX _)
  have hlen:(aI z0.cells.toList n).length=n*size:=by rw[cE];simp[hY]
  obtain⟨az,q1,q2⟩:=qO (elem:=elem) H (oO.aI n) (rest:=Builtin.zeroCells z0.cells (nc - n)) BX hlen (by rw[mH,hY]) (w.drawn+1);rw[ha]at q1 q2;exact⟨az,_,_,run,q1,q2⟩
 ·cases ha
theorem Ce (hE:aU P E) (H:aM E base B μ h w) {b:Builtin} {ts:Array TypeId} {args:List Value} {args':Array Value} {v:Value} {h':ab} (ty:TypeId) (ha:pt E base h b ts.toList args=some (v,h')) (hr:ao μ args args'.toList):
 ∃s,iQ P E base B μ h w s v h'∧∀cs,builtin b ts ty cs args'=(do pure (.value (←s))):=by
 obtain⟨ts⟩:=ts;obtain⟨args'⟩:=args';simp only at ha hr;unfold pt at ha;split at ha
 ·cases hr with
  |cons hs hr=>cases hr with
   |cons hx hr=>cases hr with
    |nil=>
     split at ha
     ·rename_i r hr;simp only[Option.some.injEq]at ha;exact⟨_,Cc (ty:=ty) hE H (hr.trans (congrArg some ha)) hs hx,fun _=>rfl⟩
     ·exact⟨_,Aa (ty:=ty) hE H ha hs hx,fun _=>rfl⟩
 ·cases hr with
  |cons hs hr=>cases hr with
   |cons hx hr=>cases hr with
    |nil=>exact⟨_,GP (ty:=ty) hE H ha hs hx _ rfl,fun _=>rfl⟩
 ·cases hr with
  |cons hs hr=>
   simp only[Option.bind_eq_some_iff]at ha;obtain⟨d,hd,ha⟩:=ha;exact⟨_,ED (ty:=ty) hE H ha hs _ rfl _ rfl ⟨d,hd⟩,fun _=>rfl⟩
 ·cases hr with
  |cons hs hr=>cases hr with
   |cons hx hr=>cases hr with
    |nil=>exact⟨_,Cd (ty:=ty) hE H ha hs hx _ rfl,fun _=>rfl⟩
 ·cases ha
theorem mI {v:Value} {r:Nat} (h:iO v=some r):v= .pointer (some ⟨r,0,none⟩):=by
 unfold iO at h;split at h<;>simp at h;subst h;rfl
theorem bX.filter {l l':List MapEntry} (hs:bX μ l l') (p:Nat→Bool):bX μ (l.filter fun e=>p e.born) (l'.filter fun e=>p e.born):=by
 induction hs with
 |nil=>exact .nil
 |cons hk hv hb t ih=>
  simp only[List.filter_cons,hb];split
  ·exact .cons hk hv hb ih
  ·exact ih
theorem bX.Ab {l l':List MapEntry} (hs:bX μ l l') (p:Nat→Bool):(l.all fun e=>p e.born)=(l'.all fun e=>p e.born):=by
 induction hs with
 |nil=>rfl
 |cons hk hv hb t ih=>simp only[List.all_cons,hb,ih]
theorem bX.find {l l':List MapEntry} (hs:bX μ l l') (p:Nat→Bool) {e:MapEntry} (he:l.find? (fun e=>p e.born)=some e):∃e',l'.find? (fun e=>p e.born)=some e'∧ak μ e.key e'.key∧ak μ e.val e'.val:=by
 induction hs with
 |nil=>simp at he
 |cons hk hv hb t ih=>
  simp only[List.find?_cons]at he ⊢;rw[←hb];split at he
  ·cases he;exact⟨_,rfl,hk,hv⟩
  ·exact ih he
theorem GR (H:aM E base B μ h w) {isStr:Bool} {r:Nat} {m:MT} {v:Value} {h':ab} (ty:TypeId) (ha:Dq h isStr r base=some (v,h')) (hb:μ r=some m):
 iQ P E base B μ h w (Instr.next (.pointer (some ⟨m.r,0,none⟩)) isStr ty) v h':=by
 unfold Dq at ha;simp only[ae,ax]at ha;obtain⟨aY,ha⟩:=ha;obtain⟨o1,o2,k1,k2,k3⟩:=H.obj r m hb;split at ha
 ·rename_i s pos hg;rw[hg]at k1;cases k1;cases k3 with
  |gD fI=>
   have nB:=run_getObj_map (P:=P) k2 (fun _ _ _=>by simp);have GQ:=fun o=>bj (P:=P) (o:=o) k2 (fun _ _ _=>by simp);rw[bB]at ha;split at ha
   ·rename_i bO;rw[aF]at bO;simp only[Option.some.injEq,Prod.mk.injEq]at ha;obtain⟨rfl,rfl⟩:=ha;have st:=Step.put H hb aY hg rfl rfl (wT.set w m.r (.stringIter s (pos+(Utf8.decode s pos).2)) (H.lt hb)) (.gD fI);refine⟨μ,_,_,?_,.cq (by simpa[goInt]using ao.cons (.bool μ true) (.cons (.int μ .i64 pos) (.cons (.int μ .i32 (Utf8.decode s pos).1) .nil))),st⟩;unfold Instr.next;simp only[Sem.run_bind,nB,Result.andThen_ok];rw[if_pos bO];simp only[Sem.run_bind,GQ,Result.andThen_ok,Sem.run_pure];rfl
   ·rename_i bO;rw[aF]at bO;simp only[Option.some.injEq,Prod.mk.injEq]at ha;obtain⟨rfl,rfl⟩:=ha;refine⟨μ,_,w,?_,.cq (by simpa using ao.cons (.bool μ false) .nil),.refl H⟩;unfold Instr.next;simp only[Sem.run_bind,nB,Result.andThen_ok];rw[if_neg bO];rfl
 ·rename_i hg;rw[hg]at k1;cases k1;cases k3 with
  |kp fI=>
   have nB:=run_getObj_map (P:=P) k2 (fun _ _ _=>by simp);simp only[Option.some.injEq,Prod.mk.injEq]at ha;obtain⟨rfl,rfl⟩:=ha;refine⟨μ,_,w,?_,.cq (by simpa using ao.cons (.bool μ false) .nil),.refl H⟩;unfold Instr.next;simp only[Sem.run_bind,nB,Result.andThen_ok];rfl
 ·rename_i mm since seen last hg;rw[hg]at k1;cases k1;cases k3 with
  |bM hk fI=>
   rename_i mk;have nB:=run_getObj_map (P:=P) k2 (fun _ _ _=>by simp);have GQ:=fun o=>bj (P:=P) (o:=o) k2 (fun _ _ _=>by simp);split at ha
   ·rename_i es clock GS;obtain⟨p1,p2,j1,j2,j3⟩:=H.obj mm mk hk;rw[GS]at j1;cases j1;cases j3 with
    |map hs=>
     rename_i bC;have Cf:=run_getObj_map (P:=P) j2 (fun _ _ _=>by simp);simp only[ae]at ha;obtain⟨l5,ha⟩:=ha;have hlen:=hs.length;have Mt:bC.isEmpty=es.isEmpty:=by
      cases es<;>cases h9:bC.toList<;>rw[h9]at hlen<;>simp at hlen
      ·have:bC= #[]:=by apply Array.ext';simp[h9]
       simp[this]
      ·have:bC.size≠0:=by have:=congrArg List.length h9;simp at this;omega
       simp[Array.isEmpty,this]
     have iP:(bC.all fun e=>decide (e.born≥last))=es.all (fun e=>Nat.ble last e.born):=by
      rw[←Array.all_toList,←hs.Ab (fun n=>decide (n≥last))]
      congr 1
      funext e
      rw[Bool.eq_iff_iff,ax];simp
     have Ac:(!seen.toArray.isEmpty&& !bC.isEmpty&&bC.all fun e=>decide (e.born≥last))=false:=by
      rw[Mt,iP];have:seen.toArray.isEmpty=seen.isEmpty:=by cases seen<;>simp
      rw[this];simpa only[Bool.not_eq_true']using l5
     have oe:=hs.filter (fun n=> !seen.contains n);have wX:(bC.filter fun e=> !seen.toArray.contains e.born).toList=bC.toList.filter (fun e=> !seen.contains e.born):=by
      simp
     split at ha
     ·rename_i hf;simp only[Option.some.injEq,Prod.mk.injEq]at ha;obtain⟨rfl,rfl⟩:=ha;rw[hf]at oe;have qB:(bC.filter fun e=> !seen.toArray.contains e.born)= #[]:=by
       apply Array.ext';rw[wX];cases ua:bC.toList.filter (fun e=> !seen.contains e.born)with
       |nil=>rfl
       |cons x y=>rw[ua]at oe;cases oe
      refine⟨μ,_,w,?_,.cq (by simpa using ao.cons (.bool μ false) .nil),.refl H⟩;unfold Instr.next;simp only[Sem.run_bind,nB,Cf,Result.andThen_ok,Ac,Bool.false_eq_true,if_false,qB];simp[Question.forced]
     ·rename_i e hf;simp only[ae,aF,Option.some.injEq,Prod.mk.injEq]at ha;obtain⟨UL,rfl,rfl⟩:=ha;rw[hf]at oe;cases ua:bC.toList.filter (fun e=> !seen.contains e.born)with
      |nil=>rw[ua]at oe;cases oe
      |cons e' rest=>
       rw[ua]at oe;cases oe with
       |cons q1 q2 q3 q4=>cases q4 with
        |nil=>
        have wu:(bC.filter fun e=> !seen.toArray.contains e.born)= #[e']:=by
         apply Array.ext';rw[wX,ua]
        have Pq:e'.born<since:=by omega
        have st:=Step.put (o:=.bM (some mm) since (seen++[e.born]) clock) H hb aY hg rfl rfl (wT.set w m.r (.mapIter (some mk.r) since (seen.toArray.push e'.born) clock) (H.lt hb)) (by
         have:=fR.bM (μ:=μ) (h:=h.put r (.bM (some mm) since (seen++[e.born]) clock)) (base:=base) (b:=r) (m:=m) (since:=since) (last:=clock) (seen:=seen++[e.born]) hk fI;rw[q3]at this ⊢;simpa using this)
        refine⟨μ,_,_,?_,.cq (by simpa using ao.cons (.bool μ true) (.cons q1 (.cons q2 .nil))),st⟩;unfold Instr.next;simp only[Sem.run_bind,nB,Cf,Result.andThen_ok,Ac,Bool.false_eq_true,if_false,wu];have f1:(#[e'].filter fun x=>decide (x.born<since))= #[e']:=by simp[Pq]
        have f2:(#[e'].filter fun x=>decide (x.born≥since))= #[]:=by simp;omega
        simp only[f1,f2];simp[Question.forced,GQ]
     ·cases ha
   ·cases ha
 ·cases ha
theorem EE (H:aM E base B μ h w) {r:Nat} {m:MT} {v:Value} (ha:iM h r=some v) (hb:μ r=some m):
 ∃v',ak μ v v'∧(Instr.entry (.pointer (some ⟨m.r,0,none⟩))).run P w= .ok v' w:=by
 unfold iM at ha;obtain⟨o1,o2,k1,k2,k3⟩:=H.obj r m hb;split at ha
 ·rename_i mm since seen Dr hg;rw[hg]at k1;cases k1;cases k3 with
  |bM hk fI=>
   rename_i mk;have nB:=run_getObj_map (P:=P) k2 (fun _ _ _=>by simp);split at ha
   ·rename_i es clock GS;obtain⟨p1,p2,j1,j2,j3⟩:=H.obj mm mk hk;rw[GS]at j1;cases j1;cases j3 with
    |map hs=>
     rename_i bC;have Cf:=run_getObj_map (P:=P) j2 (fun _ _ _=>by simp);simp only[Option.bind_eq_some_iff,ae,beq_iff,Option.some.injEq]at ha;obtain⟨zS,h1,h2,e,h3,rfl⟩:=ha;obtain⟨e',q1,q2,q3⟩:=hs.find (fun n=>n==zS) h3;refine⟨_,.cq (by simpa using ao.cons q2 (.cons q3 .nil)),?_⟩;have Pr:seen.toArray.back? =some zS:=by simpa using h1
     have Ps:bC.find? (fun e=>e.born==zS)=some e':=by rw[←Array.find?_toList];exact q1
     subst h2;unfold Instr.entry;simp only[Sem.run_bind,nB,Cf,Result.andThen_ok,Pr,Ps];simp
   ·cases ha
 ·cases ha
end
end Go.M
end
