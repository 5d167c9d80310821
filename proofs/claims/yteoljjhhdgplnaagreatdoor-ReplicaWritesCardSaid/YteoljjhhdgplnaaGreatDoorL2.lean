/-
  Part 2 of the library that the proof leans on.
-/
import Derived.Test.YteoljjhhdgplnaaGreatDoorL1
namespace Go.M
open Go
theorem y8:∀(l:List Value) (k off:Nat) (c:Array Value),off+k+l.length≤c.size→
 ((l.zipIdx k).foldl (fun cs p=>cs.setIfInBounds (off+p.2) p.1) c).size=c.size∧
 ∀i,((l.zipIdx k).foldl (fun cs p=>cs.setIfInBounds (off+p.2) p.1) c)[i]? =if off+k≤i∧i<off+k+l.length then l[i - (off+k)]? else c[i]?
 |[],k,off,c,h=>⟨rfl,fun i=>by rw[if_neg (by simp)];rfl⟩
 |v::l,k,off,c,h=>by
  simp only[List.length_cons]at h;have ih:=y8 l (k+1) off (c.setIfInBounds (off+k) v) (by simp;omega);simp only[List.zipIdx_cons,List.foldl_cons];refine⟨by rw[ih.1];simp,fun i=>?_⟩;rw[ih.2 i];by_cases h1:off+(k+1)≤i∧i<off+(k+1)+l.length
  ·rw[if_pos h1,if_pos (by simp;omega)];have:i - (off+k)=(i - (off+(k+1)))+1:=by omega
   rw[this,List.getElem?_cons_succ]
  ·rw[if_neg h1];by_cases h2:i=off+k
   ·subst h2;rw[if_pos (by simp),Array.getElem?_setIfInBounds_self_of_lt om];simp
   ·rw[if_neg (by simp;omega),Array.getElem?_setIfInBounds_ne om]
theorem pP {μ:ba} {place place':Nat→Option (Nat×Nat)} (hp:∀i p,place i=some p→place' i=some p):∀{ps ps':List (Nat×Value)} {cells cs:List Value} {cells':Array Value},
 iQ place cells ps=some cs→aq μ cells cells'.toList→(ps.length=ps'.length)→(∀(k:Nat) q,ps[k]? =some q→∃v',ps'[k]? =some (q.1,v')∧an μ q.2 v')→
 ∃cs',Instr.fill place' cells' ps'=some cs'∧aq μ cs cs'.toList
 |[],ps',cells,cs,cells',h,hr,hl,hq=>by
  cases ps' with
  |nil=>simp only[iQ,Option.some.injEq]at h;subst h;exact⟨cells',rfl,hr⟩
  |cons _ _=>simp at hl
 |(i,v)::ps,[],_,_,_,_,_,hl,_=>by simp at hl
 |(i,v)::ps,q'::ps',cells,cs,cells',h,hr,hl,hq=>by
  obtain⟨v',e1,hv⟩:=hq 0 (i,v) rfl;simp only[List.getElem?_cons_zero,Option.some.injEq]at e1;subst e1;simp only at hv;simp only[iQ,Option.bind_eq_some_iff,aj,beq_iff]at h;obtain⟨⟨off,size⟩,h1,h2,c1,h3,h4⟩:=h;simp only at h2;obtain⟨s1,s2,s3⟩:=cV h3;have hlen:=hr.length;have P4:=hv.uc;have M8:off+v'.cells.toList.length≤cells'.size:=by
   simp at s1 hlen ⊢;omega
  have zf:=y8 v'.cells.toList 0 off cells' om;have qX:aq μ c1 (v'.cells.zipIdx.foldl (fun cs p=>cs.setIfInBounds (off+p.2) p.1) cells').toList:=by
   have e:v'.cells.zipIdx.foldl (fun cs (p:Value×Nat)=>cs.setIfInBounds (off+p.2) p.1) cells'=(v'.cells.toList.zipIdx 0).foldl (fun cs p=>cs.setIfInBounds (off+p.2) p.1) cells':=by
    rw[←Array.foldl_toList];simp
   rw[e];refine .C5 ?_ fun j a a' ha uh=>?_
   ·simp only[Array.length_toList];rw[zf.1,s2];simpa using hlen
   ·rw[s3 j]at ha;rw[Array.getElem?_toList,zf.2 j]at uh;simp only[Nat.add_zero]at uh;have UK:v.cells.toList.length=v'.cells.toList.length:=by simpa using P4
    by_cases hj:off≤j∧j<off+v.cells.toList.length
    ·simp only at ha;rw[if_pos hj]at ha;rw[if_pos (by rw[←UK];exact hj)]at uh;obtain⟨u,k1,k2⟩:=hv.cells.get ha;rw[uh]at k1;cases k1;exact k2
    ·simp only at ha;rw[if_neg hj]at ha;rw[if_neg (by rw[←UK];exact hj)]at uh;obtain⟨u,k1,k2⟩:=hr.get ha;simp[uh]at k1;subst k1;exact k2
  have ih:=pP hp (ps':=ps') h4 qX (by simpa using hl) (fun k q hk=>hq (k+1) q (by simpa using hk));obtain⟨cs',r1,r2⟩:=ih;refine⟨cs',?_,r2⟩;simp only[Instr.fill,hp _ _ h1];have hs:v'.cells.size=size:=by rw[←P4];exact h2
  rw[if_neg]
  ·exact r1
  ·simp at M8;simp[hs];omega
def UL (μ:ba) (ps ps':List (Nat×Value)):Prop:=ps.length=ps'.length∧∀(k:Nat) q,ps[k]? =some q→∃v',ps'[k]? =some (q.1,v')∧an μ q.2 v'
section
variable {P:Program} {E:Env} {μ:ba}
theorem AQ (hE:bl P E) (g:Field→Nat×Nat):∀(fs:List Field) (w:World),(∀f∈fs,∃n,E.size f.type=some n∧g f=(f.offset,n))→
 (fs.mapM (m:=Sem) fun f=>do pure (f.offset,←sizeOf f.type)).run P w= .ok (fs.map g) w
 |[],w,_=>by simp
 |f::fs,w,h=>by
  obtain⟨n,h1,h2⟩:=h f (by simp);have ih:=AQ hE g fs w (fun x hx=>h x (by simp[hx]));simp only[List.mapM_cons,Sem.run_bind,ff hE h1 w,Result.andThen_ok,Sem.run_pure,ih,List.map_cons,h2]
theorem Nu (hE:bl P E) {t:TypeId} {ps ps':List (Nat×Value)} {v:Value} (h:qS E t ps=some v) (hp:UL μ ps ps'):∃v',an μ v v'∧eH P (Instr.build t ps'.toArray) v':=by
 unfold qS at h;simp only[Option.bind_eq_some_iff]at h;obtain⟨d,h1,z,h2,h3⟩:=h;have hz:=an.bM μ (hE.zero t z h2).2;have T8:aq μ z.cells.toList z.cells.toList:=hz.cells;split at h3
 ·rename_i fields;simp only[aj,Option.bind_eq_some_iff,Option.some.injEq]at h3;obtain⟨kf,cs,h4,rfl⟩:=h3;have Q5:∀f∈fields.toList,∃n,E.size f.type=some n∧(fun f:Field=>(f.offset,(E.size f.type).getD 0)) f=(f.offset,n):=by
   intro f hf;rw[Array.all_eq_true]at kf;obtain⟨i,hi,rfl⟩:=List.mem_iff_getElem.1 hf;have:=kf i (by simpa using hi);obtain⟨n,hn⟩:=Option.isSome_iff_exists.1 this;have Nv:E.size (fields.toList[i]).type=some n:=by simpa using hn
   exact⟨n,Nv,by simp only[Nv,Option.getD_some]⟩
  have Q6:∀i p,oQ E fields i=some p→((fields.toList.map (fun f:Field=>(f.offset,(E.size f.type).getD 0))).toArray)[i]? =some p:=by
   intro i p hi;unfold oQ at hi;simp only[Option.bind_eq_some_iff,Option.some.injEq]at hi;obtain⟨fd,k1,n,k2,rfl⟩:=hi;simp[k1,k2]
  obtain⟨cs',q1,q2⟩:=pP (μ:=μ) Q6 (ps':=ps') h4 T8 hp.1 hp.2;refine⟨.agg cs',.fx (by simpa using q2),fun w=>?_⟩;have hm:=AQ hE (fun f:Field=>(f.offset,(E.size f.type).getD 0)) fields.toList w Q5;unfold Instr.build;simp only[Sem.run_bind,jo hE h2 w,Result.andThen_ok,ay hE h1 w];have UM:(fields.mapM (m:=Sem) fun f=>do pure (f.offset,←sizeOf f.type)).run P w= .ok (fields.toList.map (fun f:Field=>(f.offset,(E.size f.type).getD 0))).toArray w:=by
   rw[Array.mapM_eq_mapM_toList];simp only[Sem.run_map,hm,Result.andThen_ok]
  simp only[UM,Result.andThen_ok,q1,Sem.run_pure]
 ·rename_i len elem;simp only[Option.bind_eq_some_iff,Option.some.injEq]at h3;obtain⟨n,h3,cs,h4,rfl⟩:=h3;obtain⟨cs',q1,q2⟩:=pP (μ:=μ) (place':=fun i=>some (i*n,n)) (fun _ _ h=>h) (ps':=ps') h4 T8 hp.1 hp.2;refine⟨.agg cs',.fx (by simpa using q2),fun w=>?_⟩;unfold Instr.build;simp only[Sem.run_bind,jo hE h2 w,Result.andThen_ok,ay hE h1 w,ff hE h3 w,q1,Sem.run_pure]
 ·cases h3
theorem sx {s:Sem Value} {v:Value} (h:dQ s=some v):eH P s v:=by
 intro w;cases s<;>simp[dQ]at h;subst h;rfl
theorem oZ (hE:bl P E) {op:BinOp} {t:TypeId} {x y:Operand} {a b a' b':Value} (ha:an μ a a') (hb:an μ b b')
 (hg:lu E t x y a b=true):eH P (eqGuard op t x y a' b') ():=by
 intro w;unfold eqGuard;cases op<;>(try rfl)
 all_goals
  simp only[Bool.not_true,Bool.false_eq_true,if_false];split
  ·cases ha with
   |lit _=>cases hb with
    |lit _=>
     simp only[lu]at hg;cases x<;>cases y<;>simp[mI]at hg<;>simp
    |yV _=>simp[lu]at hg
   |yV _=>simp[lu]at hg
  ·rename_i u1 u2;cases ha with
   |lit hh=>simp[ar]at hh
   |agg h1 h2=>cases hb with
    |lit hh=>simp[ar]at hh
    |agg k1 k2=>
     simp only[lu]at hg;simp[run_program,(hE.pI t hg).1]
    |yV hh=>rcases hh with hh|⟨_,_,hh⟩<;>cases hh
   |yV hh=>rcases hh with hh|⟨_,_,hh⟩<;>cases hh
  ·rfl
theorem UN (hE:bl P E) {op:BinOp} {t:TypeId} {x y:Operand} {a b a' b' v:Value} (h:ua E op t x y a b=some v) (ha:an μ a a') (hb:an μ b b'):
 ∃v',an μ v v'∧eH P (do eqGuard op t x y a' b';binOp op t a' b') v':=by
 unfold ua at h;split at h
 ·cases ha.ao rfl;cases hb.ao rfl;rename_i k n k' n';have hs:scalar v=true:=by
   simp only[binOp]at h;have:∀s:Sem Value,dQ s=some v→(∃u,s= .pure u∧scalar u=true)→scalar v=true:=by
    rintro s hs ⟨u,rfl,hu⟩;simp[dQ]at hs;subst hs;exact hu
   cases op<;>simp only at h<;>(try split at h)<;>
    first
    |(simp[dQ,stuck]at h;done)
    |(simp only[dQ,Op.intArith,Op.intBits,Op.intCmp,Pure.pure,Option.some.injEq]at h;subst h;rfl)
    |(unfold Op.intDiv at h;split at h
      ·simp[runtimePanic,dQ,program,bind,Sem.bind]at h
      ·simp only[dQ,Pure.pure,Option.some.injEq]at h;subst h;rfl)
    |(unfold Op.shift at h;split at h
      ·simp[runtimePanic,dQ,program,bind,Sem.bind]at h
      ·simp only[dQ,Pure.pure,Option.some.injEq]at h;subst h;rfl)
  refine⟨v,.nJ μ hs,fun w=>?_⟩;have hg:=oZ hE (μ:=μ) (op:=op) (t:=t) (x:=x) (y:=y) (.int μ k n) (.int μ k' n') rfl w;simp only[Sem.run_bind,hg,Result.andThen_ok];exact sx h w
 ·cases ha.ao rfl;cases hb.ao rfl;rename_i s r;have hg:∀w,(eqGuard op t x y (.string s) (.string r)).run P w= .ok () w:=oZ hE (μ:=μ) (.string μ s) (.string μ r) rfl;have et:∀q:ByteArray,q.toList=q.data.toList:=fun q=>ByteArray.toList_eq q;split at h<;>(first|(simp only[Option.some.injEq]at h;subst h;refine⟨_,.lit rfl,fun w=>?_⟩;simp only[Sem.run_bind,hg w,Result.andThen_ok];simp[binOp,Op.stringOp,et])|skip)
  ·simp only[aj,decide_eq_true_eq,Option.some.injEq]at h;obtain⟨h1,rfl⟩:=h;refine⟨_,.lit rfl,fun w=>?_⟩;simp only[Sem.run_bind,hg w,Result.andThen_ok];have e:IntKind.i64.max=9223372036854775807:=by decide
   simp only[binOp,Op.stringOp,e];rw[if_neg om];rfl
  ·cases h
 ·rename_i Jq y9;simp only[aj]at h;obtain⟨h1,h2⟩:=h;have hg:=oZ hE (op:=op) (t:=t) (x:=x) (y:=y) ha hb h1;have key:∀r,td E 100 t a b=some r→eH P (Op.equal t a' b') r:=fun r hr=>by
   unfold Op.equal Op.maxDepth;exact UJ hE 100 10000 t a b a' b' r om hr ha hb
  have P5:∀(w:World) r,eH P (Op.equal t a' b') r→(binOp .eql t a' b').run P w= .ok (.bool r) w∧(binOp .neq t a' b').run P w= .ok (.bool !r) w:=by
   intro w r hr;have hh:(∀k n k' n',¬(a'= .int k n∧b'= .int k' n'))∧(∀s r,¬(a'= .string s∧b'= .string r)):=by
    refine⟨?_,?_⟩
    ·rintro k n k' n' ⟨rfl,rfl⟩;cases ha with
     |yV hh=>rcases hh with hh|⟨_,_,hh⟩<;>cases hh
     |lit _=>cases hb with
      |yV hh=>rcases hh with hh|⟨_,_,hh⟩<;>cases hh
      |lit _=>exact Jq _ _ _ _ rfl rfl
    ·rintro s r ⟨rfl,rfl⟩;cases ha with
     |yV hh=>rcases hh with hh|⟨_,_,hh⟩<;>cases hh
     |lit _=>cases hb with
      |yV hh=>rcases hh with hh|⟨_,_,hh⟩<;>cases hh
      |lit _=>exact y9 _ _ rfl rfl
   have pQ:(∀k n k' n',¬(a'= .float k n∧b'= .float k' n'))∧(∀k x y k' x' y',¬(a'= .complex k x y∧b'= .complex k' x' y')):=by
    refine⟨?_,?_⟩
    ·rintro k n k' n' ⟨rfl,rfl⟩;cases ha with|lit hx=>simp[ar]at hx|yV hh=>rcases hh with hh|⟨_,_,hh⟩<;>cases hh
    ·rintro k x y k' x' y' ⟨rfl,rfl⟩;cases ha with|lit hx=>simp[ar]at hx|yV hh=>rcases hh with hh|⟨_,_,hh⟩<;>cases hh
   have jM:=hr w
   cases a'<;>cases b'<;>
    first
    |exact absurd ⟨rfl,rfl⟩ (hh.1 _ _ _ _)
    |exact absurd ⟨rfl,rfl⟩ (hh.2 _ _)
    |exact absurd ⟨rfl,rfl⟩ (pQ.1 _ _ _ _)
    |exact absurd ⟨rfl,rfl⟩ (pQ.2 _ _ _ _ _ _)
    |(simp only[binOp];simp only[Sem.run_bind,jM,Result.andThen_ok,Sem.run_pure];exact⟨trivial,trivial⟩)
  split at h2
  ·simp only[Option.bind_eq_some_iff,Option.some.injEq]at h2;obtain⟨r,h3,rfl⟩:=h2;exact⟨_,.bool μ r,fun w=>by simp only[Sem.run_bind,hg w,Result.andThen_ok];exact(P5 w r (key r h3)).1⟩
  ·simp only[Option.bind_eq_some_iff,Option.some.injEq]at h2;obtain⟨r,h3,rfl⟩:=h2;exact⟨_,.bool μ _,fun w=>by simp only[Sem.run_bind,hg w,Result.andThen_ok];exact(P5 w r (key r h3)).2⟩
  ·cases h2
end
theorem fF (r o n:Nat):(⟨r,o,none⟩:Addr).add n=⟨r,o+n,none⟩:=by
 unfold Addr.add;by_cases h:n=0
 ·simp[h]
 ·simp[h]
def pR (μ:ba) (x x':Option Value):Prop:=match x,x' with
 |none,none=>True
 |some v,some v'=>an μ v v'
 |_,_=>False
theorem fg {Gz y:Nat} {x:Option Value} {n:Nat} (h:bW Gz y x=some n):(x=none∧n=Gz)∨(∃k i,x=some (.int k i)∧0≤i∧i≤y∧n=i.toNat):=by
 unfold bW at h;split at h
 ·simp at h;exact .inl ⟨rfl,h.symm⟩
 ·simp only[aj,Bool.and_eq_true,decide_eq_true_eq,Option.some.injEq]at h;exact .inr ⟨_,_,rfl,h.1.1,h.1.2,h.2.symm⟩
 ·cases h
theorem dj {P:Program} {k:IntKind} {i:Int} {y:Nat} (h0:0≤i) (h1:i≤y) (code:BoundsCode):eH P (Instr.sliceBound (.int k i) y code) i.toNat:=by
 intro w;simp[Instr.sliceBound,asIntOf,h0,h1]
theorem kg {P:Program} {μ:ba} (isSlice:Bool) {len cap cap':Nat} (GD:len≤cap') {lo hi mx T9 wF Jn:Option Value} {m h l:Nat}
 (hm:bW cap len mx=some m) (hh:bW len (bif mx.isSome then m else len) hi=some h) (hg:(hi.isSome||mx.isNone)=true) (hl:bW 0 h lo=some l)
 (rl:pR μ lo T9) (rh:pR μ hi wF) (rm:pR μ mx Jn):
 eH P (Instr.sliceBounds isSlice len cap' T9 wF Jn) (l,h,if mx.isSome then m else cap')∧l≤h∧h≤len∧(mx.isSome=true→m≤len∧h≤m)∧(mx=none→m=cap):=by
 have key:∀{x x':Option Value} {k:IntKind} {i:Int},x=some (.int k i)→pR μ x x'→x'=some (.int k i):=by
  intro x x' k i hx hr;subst hx;cases x' with
  |none=>exact hr.elim
  |some v'=>rw[an.ao hr rfl]
 have AS:∀{x x':Option Value},x=none→pR μ x x'→x'=none:=by
  intro x x' hx hr;subst hx;cases x' with
  |none=>rfl
  |some v'=>exact hr.elim
 have ui:l≤h:=by
  rcases fg hl with⟨_,rfl⟩|⟨k,i,_,h0,h1,rfl⟩<;>omega
 rcases fg hm with⟨em,rfl⟩|⟨k,i,em,m0,m1,rfl⟩
 ·have UO:=AS em rm;subst em;subst UO;simp only[Option.isSome_none,cond_false]at hh;rcases fg hh with⟨eh,rfl⟩|⟨k2,i2,eh,p0,p1,rfl⟩
  ·have UP:=AS eh rh;subst eh;subst UP;refine⟨fun w=>?_,ui,Nat.le_refl _,fun h=>by simp at h,fun _=>rfl⟩;rcases fg hl with⟨el,rfl⟩|⟨k3,i3,el,q0,q1,rfl⟩
   ·have Jr:=AS el rl;subst el;subst Jr;simp[Instr.sliceBounds]
   ·have Jr:=key el rl;subst el;subst Jr;simp[Instr.sliceBounds,dj q0 q1 _ w]
  ·have UP:=key eh rh;subst eh;subst UP;refine⟨fun w=>?_,ui,om,fun h=>by simp at h,fun _=>rfl⟩;rcases fg hl with⟨el,rfl⟩|⟨k3,i3,el,q0,q1,rfl⟩
   ·have Jr:=AS el rl;subst el;subst Jr;simp[Instr.sliceBounds,dj p0 (show i2≤(cap':Int) by omega) _ w]
   ·have Jr:=key el rl;subst el;subst Jr;simp[Instr.sliceBounds,dj p0 (show i2≤(cap':Int) by omega) _ w,dj q0 q1 _ w]
 ·have UO:=key em rm;subst em;subst UO;simp only[Option.isSome_some,cond_true]at hh;rcases fg hh with⟨eh,rfl⟩|⟨k2,i2,eh,p0,p1,rfl⟩
  ·subst eh;simp at hg
  ·have UP:=key eh rh;subst eh;subst UP;refine⟨fun w=>?_,ui,om,fun _=>⟨om,om⟩,fun h=>by simp at h⟩;rcases fg hl with⟨el,rfl⟩|⟨k3,i3,el,q0,q1,rfl⟩
   ·have Jr:=AS el rl;subst el;subst Jr;simp[Instr.sliceBounds,dj m0 (show i≤(cap':Int) by omega) _ w,dj p0 p1 _ w]
   ·have Jr:=key el rl;subst el;subst Jr;simp[Instr.sliceBounds,dj m0 (show i≤(cap':Int) by omega) _ w,dj p0 p1 _ w,dj q0 q1 _ w]
section
variable {P:Program} {E:Env} {μ:ba}
theorem GF (hE:bl P E) {t:TypeId} {x x' v:Value} {lo hi mx T9 wF Jn:Option Value} (h:gy E t x lo hi mx=some v) (hx:an μ x x') (rl:pR μ lo T9) (rh:pR μ hi wF) (rm:pR μ mx Jn):
 ∃v',an μ v v'∧eH P (Instr.sliceAt t x' T9 wF Jn) v':=by
 unfold gy at h;simp only[Option.bind_eq_some_iff]at h;obtain⟨d,hd,h⟩:=h;split at h
 ·rename_i s;cases hx.ao rfl;simp only[aj,Option.bind_eq_some_iff,Option.some.injEq]at h;obtain⟨hm,hh,h1,ll,h2,rfl⟩:=h;have em:mx=none:=by simpa using hm
  subst em
  have UO:Jn=none:=by cases Jn with
   |none=>rfl
   |some v'=>exact rm.elim
  subst UO;have gb:=(kg (P:=P) (μ:=μ) false (cap':=s.size) (Nat.le_refl _) (cap:=s.size) (mx:=none) (Jn:=none) rfl (by simpa using h1) (by simp) h2 rl rh trivial).1;refine⟨_,.string μ _,fun w=>?_⟩;simp[Instr.sliceAt,ay hE hd w,Instr.slice,gb w]
 ·cases hx with
  |lit _=>
  simp only[Option.bind_eq_some_iff,aj,Option.some.injEq]at h;obtain⟨size,hs,m,hm,hh,h1,hg,ll,h2,rfl⟩:=h;obtain⟨gb,q1,q2,q3,q4⟩:=kg (P:=P) (μ:=μ) true (cap':=0) (Nat.le_refl _) hm h1 hg h2 rl rh rm;refine⟨_,.lit rfl,fun w=>?_⟩;have e0:hh=0:=by omega
  have e1:ll=0:=by omega
  subst e0;subst e1;have e2:(if mx.isSome=true then m else 0)=0:=by
   cases iu:mx.isSome with
   |true=>have:=(q3 iu).1;simp;omega
   |false=>simp
  simp only[Instr.sliceAt,Sem.run_bind,ay hE hd w,Result.andThen_ok,Instr.slice,gb w,ff hE hs w,Sem.run_pure,e2];simp
 ·rename_i elem b o z len cap;simp only[Option.bind_eq_some_iff,aj,beq_iff,Option.some.injEq]at h;obtain⟨size,hs,e,m,hm,hh,h1,hg,ll,h2,rfl⟩:=h;subst e
  have main:∀(a':Addr) (cap':Nat),x'= .slice (some a') len cap'→len≤cap'→∃m',eH P (Instr.sliceAt t x' T9 wF Jn) (.slice (some (if m'=ll then a' else a'.add (ll*size))) (hh - ll) (m' - ll))∧
   (m'=if mx.isSome then m else cap')∧ll≤hh∧hh≤len∧(mx.isSome=true→m≤len∧hh≤m)∧(mx=none→m=cap):=by
   intro a' cap' ex GD;obtain⟨gb,q1,q2,q3,q4⟩:=kg (P:=P) (μ:=μ) true GD hm h1 hg h2 rl rh rm;refine⟨if mx.isSome then m else cap',fun w=>?_,rfl,q1,q2,q3,q4⟩;subst ex;simp only[Instr.sliceAt,Sem.run_bind,ay hE hd w,Result.andThen_ok,Instr.slice,gb w,ff hE hs w,Sem.run_pure]
   congr 2
   by_cases hz:(if mx.isSome=true then m else cap')=ll
   ·rw[if_pos hz,if_pos hz]
   ·rw[if_neg hz,if_neg hz];rfl
  cases hx with
  |lit hh=>simp[ar]at hh
  |slice hb k1 k2 k3 k4=>
   rename_i cap' mt;obtain⟨m',g1,e1,q1,q2,q3,q4⟩:=main _ _ rfl k2;refine⟨_,?_,g1⟩;by_cases hz:m'=ll
   ·rw[if_pos hz];have e2:hh - ll=0:=by
     cases iu:mx.isSome with
     |true=>have:=q3 iu;rw[iu]at e1;simp at e1;omega
     |false=>rw[iu]at e1;simp at e1;omega
    rw[e2,show m' - ll=0 by omega];simp only[bG];split<;>exact .cA fun _=>⟨_,hb⟩
   ·rw[if_neg hz,fF];have hmc:m≠ll:=by
     intro e2;cases iu:mx.isSome with
     |true=>rw[iu]at e1;simp at e1;omega
     |false=>
      have:=q4 (by simpa using iu);rw[iu]at e1;simp at e1;have:=k3 om;omega
    simp only[bG,beq_iff,if_neg hmc];have Ys:m'≤cap':=by
     cases iu:mx.isSome with
     |true=>have:=q3 iu;rw[iu]at e1;simp at e1;omega
     |false=>rw[iu]at e1;simp at e1;omega
    have Q7:ll≤m':=by
     cases iu:mx.isSome with
     |true=>have:=q3 iu;rw[iu]at e1;simp at e1;omega
     |false=>rw[iu]at e1;simp at e1;omega
    have e3:mt.s+o+ll*size=mt.s+(o+ll*size):=by omega
    rw[e3];refine .slice hb ?_ ?_ ?_ ?_
    ·cases iu:mx.isSome with
     |true=>have:=q3 iu;omega
     |false=>have:=q4 (by simpa using iu);omega
    ·cases iu:mx.isSome with
     |true=>have:=q3 iu;rw[iu]at e1;simp at e1;omega
     |false=>rw[iu]at e1;simp at e1;omega
    ·intro e4;cases iu:mx.isSome with
     |true=>have:=q3 iu;rw[iu]at e1;simp at e1;omega
     |false=>
      have:=q4 (by simpa using iu);rw[iu]at e1;simp at e1;have:=k3 om;omega
    ·have:ll*size+(m' - ll)*size=m'*size:=by rw[←Nat.add_mul];congr 1;omega
     have:m'*size≤cap'*size:=Nat.mul_le_mul_right _ Ys;omega
  |cA hb=>
   rename_i a';obtain⟨m',g1,e1,q1,q2,q3,q4⟩:=main a' 0 rfl (Nat.le_refl _);refine⟨_,?_,g1⟩;have C6:m'=0:=by
    cases iu:mx.isSome with
    |true=>have:=q3 iu;rw[iu]at e1;simp at e1;omega
    |false=>rw[iu]at e1;simp at e1;omega
   have tI:ll=0:=by omega
   have UQ:hh=0:=by omega
   subst C6;subst tI;subst UQ;simp only[if_true,Nat.sub_zero];simp only[bG];have hk:m≠0→_:=fun hc=>hb (by
    cases iu:mx.isSome with
    |true=>have:=q3 iu;omega
    |false=>have:=q4 (by simpa using iu);omega)
   split
   ·exact .cA fun hc=>hk om
   ·exact .cA fun hc=>hk om
 ·cases h
theorem AT (hE:bl P E) {t:TypeId} {x x' i i' v:Value} (h:eA E t x i=some v) (hx:an μ x x') (hi:an μ i i'):∃v',an μ v v'∧eH P (Instr.indexAt t x' i') v':=by
 unfold eA at h;simp only[Option.bind_eq_some_iff]at h;obtain⟨d,hd,n,hn,h⟩:=h;have ei:∃k,i= .int k n:=by
  unfold Nt at hn;split at hn<;>simp at hn;subst hn;exact⟨_,rfl⟩
 obtain⟨k,rfl⟩:=ei;cases hi.ao rfl;split at h
 ·rename_i len elem b o;simp only[Option.bind_eq_some_iff,aj,Bool.and_eq_true,decide_eq_true_eq,Option.some.injEq]at h;obtain⟨size,hs,⟨h0,h1⟩,rfl⟩:=h;obtain⟨m,hb,rfl⟩:=hx.iX;refine⟨.pointer (some ⟨m.r,m.s+(o+n.toNat*size),none⟩),.ptr hb,fun w=>?_⟩;simp[Instr.indexAt,asIntOf,ay hE hd w,Instr.sureAddr,h0,h1,ff hE hs w,fF,Nat.add_assoc]
 ·rename_i elem b o z len cap;simp only[Option.bind_eq_some_iff,aj,Bool.and_eq_true,decide_eq_true_eq,Option.some.injEq]at h;obtain⟨size,hs,⟨h0,h1⟩,rfl⟩:=h;cases hx with
  |lit hh=>simp[ar]at hh
  |slice hb k1 k2 k3 k4=>
   rename_i cap' m;refine⟨.pointer (some ⟨m.r,m.s+(o+n.toNat*size),none⟩),.ptr hb,fun w=>?_⟩;simp[Instr.indexAt,asIntOf,ay hE hd w,h0,h1,ff hE hs w,fF,Nat.add_assoc]
  |cA=>exact absurd h1 om
 ·cases h
theorem Nw (hE:bl P E) {t:TypeId} {x x' i i' v:Value} (h:qT E t x i=some v) (hx:an μ x x') (hi:an μ i i'):∃v',an μ v v'∧eH P (Instr.index t x' i') v':=by
 unfold qT at h;simp only[Option.bind_eq_some_iff]at h;obtain⟨d,hd,n,hn,h⟩:=h;have ei:∃k,i= .int k n:=by
  unfold Nt at hn;split at hn<;>simp at hn;subst hn;exact⟨_,rfl⟩
 obtain⟨k,rfl⟩:=ei;cases hi.ao rfl;split at h
 ·rename_i len elem cs;simp only[Option.bind_eq_some_iff,aj,Bool.and_eq_true,decide_eq_true_eq]at h;obtain⟨size,hs,⟨h0,h1⟩,h2⟩:=h;obtain⟨cs',rfl,hr⟩:=hx.eC;obtain⟨v',q1,q2⟩:=y7 hE (μ:=μ) h2 hr;refine⟨v',q1,fun w=>?_⟩;have e:cs'.toList.toArray=cs':=by simp
  rw[e]at q2;simp only[Instr.index,asIntOf,Sem.run_bind,Sem.run_pure,Result.andThen_ok,ay hE hd w];rw[if_pos ⟨h0,h1⟩];simp only[Sem.run_bind,ff hE hs w,Result.andThen_ok,q2 w]
 ·rename_i s;simp only[aj,decide_eq_true_eq,Option.bind_eq_some_iff,Option.some.injEq]at h;obtain⟨h0,b,hb,rfl⟩:=h;cases hx.ao rfl;refine⟨_,.int μ _ _,fun w=>?_⟩;have e:s[n.toNat]? =some b:=by
   have:=(List.getElem?_eq_some_iff.1 hb);obtain⟨bj,hv⟩:=this;have Q8:n.toNat<s.size:=by simpa using bj
   rw[getElem?_pos s n.toNat Q8];simp only[Option.some.injEq];rw[←hv];rfl
  simp only[Instr.index,asIntOf,Sem.run_bind,Sem.run_pure,Result.andThen_ok,ay hE hd w];rw[if_pos h0,e];rfl
 ·cases h
theorem Q9 (hE:bl P E) {s d:TypeId} {x x' v:Value} (h:oy E s d x=some v) (hx:an μ x x'):∃v',an μ v v'∧eH P (convert s d x') v':=by
 unfold oy at h;simp only[Option.bind_eq_some_iff]at h;obtain⟨ds,h1,dd,h2,h⟩:=h;split at h
 ·rename_i k k' n;cases hx.ao rfl;simp only[Option.some.injEq]at h;subst h;refine⟨_,.int μ _ _,fun w=>?_⟩;unfold convert;simp only[Sem.run_bind,ay hE h1 w,ay hE h2 w,Result.andThen_ok];rfl
 ·rename_i str;cases hx.ao rfl;simp only[Option.some.injEq]at h;subst h;refine⟨_,.string μ _,fun w=>?_⟩;unfold convert;simp only[Sem.run_bind,ay hE h1 w,ay hE h2 w,Result.andThen_ok];cases ds<;>rfl
 ·cases h
theorem Js (hE:bl P E) {b:Builtin} {ts:Array TypeId} {args:List Value} {args':Array Value} {v:Value} (ty:TypeId) (cs:Array Bool) (h:nH E b ts.toList args=some v) (ha:aq μ args args'.toList):
 ∃v',an μ v v'∧eH P (builtin b ts ty cs args') (.value v'):=by
 obtain⟨ts⟩:=ts;obtain⟨args'⟩:=args';simp only at h ha;unfold nH at h;split at h
 ·rename_i t ts x xs;cases ha with
  |cons hx _=>
  simp only[Option.bind_eq_some_iff]at h;obtain⟨d,hd,h⟩:=h;split at h
  ·cases hx.ao rfl;simp only[Option.some.injEq]at h;subst h;exact⟨_,.int μ _ _,fun w=>by simp[builtin,Builtin.len_,ay hE hd w,goInt]⟩
  ·simp only[Option.some.injEq]at h;subst h;exact⟨_,.int μ _ _,fun w=>by simp[builtin,Builtin.len_,ay hE hd w,goInt]⟩
  ·simp only[Option.some.injEq]at h;subst h;cases hx with
   |lit hh=>
    rename_i a n c;have:∃q,a=none∧n=0∧c=0∧q=0:=by
     unfold ar at hh;split at hh<;>simp_all
    obtain⟨_,rfl,rfl,rfl,_⟩:=this;exact⟨_,.int μ _ _,fun w=>by simp[builtin,Builtin.len_,ay hE hd w,goInt]⟩
   |slice=>exact⟨_,.int μ _ _,fun w=>by simp[builtin,Builtin.len_,ay hE hd w,goInt]⟩
   |cA=>exact⟨_,.int μ _ _,fun w=>by simp[builtin,Builtin.len_,ay hE hd w,goInt]⟩
  ·simp only[Option.some.injEq]at h;subst h;cases hx;exact⟨_,.int μ _ _,fun w=>by simp[builtin,Builtin.len_,ay hE hd w,goInt]⟩
  ·cases h
 ·simp only[Option.some.injEq]at h;subst h;cases ha with
  |cons hx ha=>cases ha with
   |cons hy ha=>cases ha with
    |nil=>
     cases hx.ao rfl;cases hy.ao rfl;exact⟨_,.int μ _ _,fun w=>by simp[builtin,Builtin.max_,Builtin.max2]⟩
 ·simp only[Option.some.injEq]at h;subst h;cases ha with
  |cons hx ha=>cases ha with
   |cons hy ha=>cases ha with
    |nil=>
     cases hx.ao rfl;cases hy.ao rfl;exact⟨_,.int μ _ _,fun w=>by simp[builtin,Builtin.min_,Builtin.min2]⟩
 ·rename_i t ts;simp only[Option.bind_eq_some_iff]at h;obtain⟨d,hd,h⟩:=h;split at h
  ·simp only[Option.some.injEq]at h;subst h;cases ha with
   |cons hx ha=>cases ha with
    |nil=>
     cases hx with
     |lit hh=>exact⟨_,.int μ _ _,fun w=>by simp[builtin,Builtin.cap_,ay hE hd w,goInt]⟩
  ·cases h
 ·cases h
end
def fB (E:Env) (μ:ba):Prop:=∀g,E.cW g=true→∃m,μ g=some m∧m.r=g∧m.s=0
section
variable {P:Program} {E:Env} {μ:ba} {f:AF} {a:Act}
theorem aT (hg:fB E μ) (hf:cB μ f a.tmps) {x:Operand} {v:Value} (h:ev E f x=some v):an μ v (a.eval x):=by
 cases x with
 |tmp t=>simp only[ev,Option.some.injEq]at h;subst h;exact hf.get t
 |const c=>simp only[ev,aj,Option.some.injEq]at h;obtain⟨h1,rfl⟩:=h;exact .bM μ h1
 |global g=>
  simp only[ev,aj,Option.some.injEq]at h;obtain⟨h1,rfl⟩:=h;obtain⟨m,h2,h3,h4⟩:=hg g h1;have:=an.ptr (o:=0) h2;rw[h3,h4]at this;exact this
 |func g=>simp only[ev,Option.some.injEq]at h;subst h;exact .func rfl (fun i v v' h=>by simp at h) rfl (fun i v v' h=>by simp at h)
theorem iZ (hg:fB E μ) (hf:cB μ f a.tmps):∀{xs:List Operand} {vs:List Value},C2 E f xs=some vs→aq μ vs (xs.map a.eval)
 |[],vs,h=>by simp only[C2,Option.some.injEq]at h;subst h;exact .nil
 |x::xs,vs,h=>by
  simp only[C2,Option.bind_eq_some_iff,Option.some.injEq]at h;obtain⟨v,h1,l,h2,rfl⟩:=h;exact .cons (aT hg hf h1) (iZ hg hf h2)
theorem mP (hg:fB E μ) (hf:cB μ f a.tmps):∀{xs:List (Nat×Operand)} {vs:List (Nat×Value)},gq E f xs=some vs→UL μ vs (xs.map fun p=>(p.1,a.eval p.2))
 |[],vs,h=>by simp only[gq,Option.some.injEq]at h;subst h;exact⟨rfl,fun k q h=>by simp at h⟩
 |(i,x)::xs,vs,h=>by
  simp only[gq,Option.bind_eq_some_iff,Option.some.injEq]at h;obtain⟨v,h1,l,h2,rfl⟩:=h;obtain⟨e1,e2⟩:=mP hg hf h2;refine⟨by simpa using e1,fun k q hk=>?_⟩;cases k with
  |zero=>simp at hk;subst hk;exact⟨_,rfl,aT hg hf h1⟩
  |succ k=>simp at hk;obtain⟨v',q1,q2⟩:=e2 k q hk;exact⟨v',by simpa using q1,q2⟩
theorem qY (hg:fB E μ) (hf:cB μ f a.tmps) {x:Option Operand} {v:Option Value} (h:mG E f x=some v):pR μ v (x.map a.eval):=by
 cases x with
 |none=>simp only[mG,Option.some.injEq]at h;subst h;trivial
 |some x=>
  simp only[mG,Option.bind_eq_some_iff,Option.some.injEq]at h;obtain⟨u,h1,rfl⟩:=h;exact aT hg hf h1
theorem jq {v:Value} {p:Nat×Nat} (h:gV v=some p):v= .pointer (some ⟨p.1,p.2,none⟩):=by
 unfold gV at h;split at h<;>simp at h;subst h;rfl
theorem AU {v:Value} {n:Int} (h:Nt v=some n):∃k,v= .int k n:=by
 unfold Nt at h;split at h<;>simp at h;subst h;exact⟨_,rfl⟩
theorem uj {v:Value} {n:Bool} (h:Av v=some n):v= .bool n:=by
 unfold Av at h;split at h<;>simp at h;subst h;rfl
theorem Jt {v:Value} {n:List Value} (h:UB v=some n):∃cs:Array Value,v= .agg cs∧n=cs.toList:=by
 unfold UB at h;split at h<;>simp at h;subst h;exact⟨_,rfl,rfl⟩
theorem za {op:UnOp} {a v:Value} (h:dQ (Op.unary op a)=some v) (ha:scalar a=true):scalar v=true:=by
 cases op<;>cases a<;>simp[scalar]at ha<;>simp only[Op.unary,Op.intArith,Op.intBits,dQ,stuck,Pure.pure,Option.some.injEq]at h<;>first|(subst h;rfl)|cases h
theorem jr (hE:bl P E) {kt:TypeId} {kd:TypeDesc} (h:E.desc kt=some kd) (hs:gu kd=true) (e:Bool) (n:Nat) (k:Value):eH P (Instr.checkKey e (n+1) kt k) ():=by
 intro w;cases kd<;>simp[gu]at hs<;>simp[Instr.checkKey,ay hE h w]
set_option maxHeartbeats 1000000 in
theorem nL (hE:bl P E) (hg:fB E μ) (hf:cB μ f a.tmps) {o:Oper} {v:Value} (h:aB E f o=some v):∃v',an μ v v'∧eH P (execOp a.eval o) (.value v'):=by
 obtain⟨dst,op,type,pos,after,guard⟩:=o;cases op
 case move x=>simp only[aB]at h;exact⟨_,aT hg hf h,fun w=>rfl⟩
 case assign x=>simp only[aB]at h;exact⟨_,aT hg hf h,fun w=>rfl⟩
 case pick c x y=>
  simp only[aB,Option.bind_eq_some_iff]at h;obtain⟨cv,h1,b,h2,h3⟩:=h;have e:=uj h2;subst e;have hc:=(aT hg hf h1).ao rfl;cases b with
  |true=>exact⟨_,aT hg hf h3,fun w=>by simp[execOp,hc,asBool]⟩
  |false=>exact⟨_,aT hg hf h3,fun w=>by simp[execOp,hc,asBool]⟩
 case build t parts=>
  simp only[aB,Option.bind_eq_some_iff]at h;obtain⟨ps,h1,h2⟩:=h;obtain⟨v',q1,q2⟩:=Nu hE h2 (mP hg hf h1);refine⟨v',q1,fun w=>?_⟩;have e:(parts.map fun(i,x)=>(i,a.eval x))=(parts.toList.map fun p=>(p.1,a.eval p.2)).toArray:=by
   apply Array.ext';simp
  simp only[execOp,Sem.run_bind];rw[e,q2 w];rfl
 case nilCheck x=>
  simp only[aB,Option.bind_eq_some_iff]at h;obtain⟨u,h1,h2⟩:=h;have hr:=aT hg hf h1;generalize hq:a.eval x=q at hr;unfold kD at h2;split at h2
  ·simp only[Option.some.injEq]at h2;subst h2;cases hr with
   |lit hh=>simp[ar]at hh
   |ptr hb=>exact⟨_,.ptr hb,fun w=>by simp[execOp,hq]⟩
  ·simp only[Option.some.injEq]at h2;subst h2;cases hr with
   |lit hh=>simp[ar]at hh
   |func h1 h2 h3 h4=>exact⟨_,.func h1 h2 h3 h4,fun w=>by simp[execOp,hq]⟩
  ·simp only[Option.some.injEq]at h2;subst h2;cases hr with
   |lit hh=>simp[ar]at hh
   |yield hb=>exact⟨_,.yield hb,fun w=>by simp[execOp,hq]⟩
  ·cases h2
 case binOp op t x y yt=>
  simp only[aB,Option.bind_eq_some_iff]at h;obtain⟨u,h1,u2,h2,h3⟩:=h;obtain⟨v',q1,q2⟩:=UN hE h3 (aT hg hf h1) (aT hg hf h2);refine⟨v',q1,fun w=>?_⟩;simp only[execOp];rw[Sem.run_bind,q2 w];rfl
 case unOp op t x=>
  simp only[aB,Option.bind_eq_some_iff,aj]at h;obtain⟨u,h1,hs,h2⟩:=h;have e:=(aT hg hf h1).ao hs;refine⟨v,.nJ μ (za h2 hs),fun w=>?_⟩;simp only[execOp,Sem.run_bind,e,sx (P:=P) h2 w,Result.andThen_ok,Sem.run_pure]
 case convert s d x=>
  simp only[aB,Option.bind_eq_some_iff]at h;obtain⟨u,h1,h2⟩:=h;obtain⟨v',q1,q2⟩:=Q9 hE h2 (aT hg hf h1);refine⟨v',q1,fun w=>?_⟩;simp only[execOp,Sem.run_bind,q2 w,Result.andThen_ok,Sem.run_pure]
 case makeInterface t x=>
  simp only[aB,Option.bind_eq_some_iff]at h;obtain⟨d,hd,u,h1,h2⟩:=h;refine⟨.iface t (a.eval x),?_,fun w=>?_⟩
  ·split at h2
   ·cases h2
   ·simp only[Option.some.injEq]at h2;subst h2;exact .iface (aT hg hf h1)
  ·simp only[execOp,Sem.run_bind,Instr.makeInterface,ay hE hd w,Result.andThen_ok];split at h2
   ·cases h2
   ·cases d<;>first|rfl |(exfalso;simp at*)
 case makeFunc fn first captured=>
  simp only[aB]at h;split at h
  ·simp only[Option.bind_eq_some_iff,Option.some.injEq]at h;obtain⟨x,h1,y,h2,rfl⟩:=h;have r1:=iZ hg hf h1;have r2:=iZ hg hf h2;refine⟨.func (.func _) (first.map a.eval) (captured.map a.eval),.func ?_ ?_ ?_ ?_,fun w=>?_⟩
   ·have:=r1.length;simpa using this
   ·intro i u u' hu Q0;obtain⟨u2,k1,k2⟩:=r1.get (i:=i) (v:=u) (by simpa using hu);have:u'=u2:=by
     simp only[Array.getElem?_map]at Q0;simp only[List.getElem?_map,Array.getElem?_toList]at k1;rw[Q0]at k1;exact Option.some.inj k1
    subst this;exact k2
   ·have:=r2.length;simpa using this
   ·intro i u u' hu Q0;obtain⟨u2,k1,k2⟩:=r2.get (i:=i) (v:=u) (by simpa using hu);have:u'=u2:=by
     simp only[Array.getElem?_map]at Q0;simp only[List.getElem?_map,Array.getElem?_toList]at k1;rw[Q0]at k1;exact Option.some.inj k1
    subst this;exact k2
   ·simp[execOp,Instr.makeFunc]
  ·cases h
 case slice t x lo hi mx=>
  simp only[aB,Option.bind_eq_some_iff]at h;obtain⟨u,h1,l,h2,hh,h3,m,h4,h5⟩:=h;obtain⟨v',q1,q2⟩:=GF hE h5 (aT hg hf h1) (qY hg hf h2) (qY hg hf h3) (qY hg hf h4);refine⟨v',q1,fun w=>?_⟩;simp only[execOp,Sem.run_bind,q2 w,Result.andThen_ok,Sem.run_pure]
 case fieldAddr s x fd=>
  simp only[aB,Option.bind_eq_some_iff]at h;obtain⟨d,hd,u,h1,p,h2,h3⟩:=h;have e:=jq h2;subst e;obtain⟨m,hb,ex⟩:=(aT hg hf h1).iX;split at h3
  ·simp only[Option.bind_eq_some_iff,aj,aI,Option.some.injEq]at h3;obtain⟨fl,h4,n,h5,h6,rfl⟩:=h3;refine⟨.pointer (some ⟨m.r,m.s+(p.2+fl.offset),none⟩),.ptr hb,fun w=>?_⟩;have hn:n≠0:=by omega
   simp[execOp,Instr.fieldAt,ay hE hd w,h4,ex,Instr.sureAddr,fieldPlace,ff hE h5 w,hn,fF,Nat.add_assoc]
  ·cases h3
 case field t x fd=>
  simp only[aB,Option.bind_eq_some_iff]at h;obtain⟨d,hd,u,h1,cs,h2,h3⟩:=h;obtain⟨ca,e,rfl⟩:=Jt h2;subst e;obtain⟨cs',ex,hr⟩:=(aT hg hf h1).eC;split at h3
  ·simp only[Option.bind_eq_some_iff]at h3;obtain⟨fl,h4,h5⟩:=h3;obtain⟨v',q1,q2⟩:=y7 hE (μ:=μ) h5 hr;have e:cs'.toList.toArray=cs':=by simp
   rw[e]at q2;refine⟨v',q1,fun w=>?_⟩;simp only[execOp,Instr.field,Sem.run_bind,ay hE hd w,Result.andThen_ok,h4,ex,asAgg,Sem.run_pure,q2 w]
  ·cases h3
 case indexAddr t x ix=>
  simp only[aB,Option.bind_eq_some_iff]at h;obtain⟨u,h1,u2,h2,h3⟩:=h;obtain⟨v',q1,q2⟩:=AT hE h3 (aT hg hf h1) (aT hg hf h2);refine⟨v',q1,fun w=>?_⟩;simp only[execOp,Sem.run_bind,q2 w,Result.andThen_ok,Sem.run_pure]
 case index t x ix=>
  simp only[aB,Option.bind_eq_some_iff]at h;obtain⟨u,h1,u2,h2,h3⟩:=h;obtain⟨v',q1,q2⟩:=Nw hE h3 (aT hg hf h1) (aT hg hf h2);refine⟨v',q1,fun w=>?_⟩;simp only[execOp,Sem.run_bind,q2 w,Result.andThen_ok,Sem.run_pure]
 case extract t ix=>
  simp only[aB,Option.bind_eq_some_iff]at h;obtain⟨u,h1,h2⟩:=h;split at h2
  ·obtain⟨lB,ex,hr⟩:=(aT hg hf h1).GA;obtain⟨v',k1,k2⟩:=hr.get h2;refine⟨v',k2,fun w=>?_⟩;have k1':lB[ix]? =some v':=by simpa using k1
   simp[execOp,Instr.extract,ex,k1']
  ·cases h2
 case lookup t x ix ok=>
  simp only[aB,Option.bind_eq_some_iff]at h;obtain⟨d,hd,m,h1,k,h2,h3⟩:=h;split at h3
  ·rename_i kt elem;simp only[Option.bind_eq_some_iff,aj,Bool.and_eq_true,Option.some.injEq]at h3;obtain⟨kd,gB,z,hz,⟨⟨s1,s2⟩,s3⟩,rfl⟩:=h3;have e1:a.eval x= .map none:=by
    have:=aT hg hf h1;generalize a.eval x=q at this;cases this;rfl
   have e2:=(aT hg hf h2).ao s2;have Yt:∀w,(Instr.checkKey true 10000 kt k).run P w= .ok () w:=fun w=>jr hE gB s1 true 9999 k w;have AV:∀w,(Instr.findKey kt k []).run P w= .ok none w:=by
    intro w;simp[Instr.findKey,ay hE gB w,Instr.findNow]
   refine⟨(if ok then .tuple #[z,.bool false]else z),?_,fun w=>?_⟩
   ·have o4:=an.bM μ s3;cases ok with
    |true=>simp only[cond_true,if_true];exact .da (by simpa using aq.cons o4 (.cons (.bool μ false) .nil))
    |false=>simpa using o4
   ·simp[execOp,Instr.lookup,ay hE hd w,e1,e2,Yt w,AV w,jo hE hz w]
  ·cases h3
 case call c=>
  simp only[aB]at h;split at h
  ·rename_i b hb;simp only[Option.bind_eq_some_iff]at h;obtain⟨args,h1,h2⟩:=h;have hr:=iZ hg hf h1;obtain⟨v',q1,q2⟩:=Js hE (ts:=c.argTypes) (args':=c.args.map a.eval) type (c.args.map fun | .const _=>true|_=>false) h2 (by simpa using hr);refine⟨v',q1,fun w=>?_⟩;simp only[execOp,resolve,hb,Sem.run_bind,Sem.run_pure,Result.andThen_ok,invoke];exact q2 w
  ·cases h
 all_goals(simp only[aB]at h;cases h)
end
theorem cO (z:List Value):∀n,(aG z n).length=n*z.length
 |0=>by simp[aG]
 |n+1=>by simp[aG,cO z n,Nat.add_mul];omega
theorem sy (z:List Value):∀(n i:Nat),i<n*z.length→(aG z n)[i]? =z[i % z.length]?
 |0,i,h=>by simp at h
 |n+1,i,h=>by
  simp only[aG];by_cases hi:i<z.length
  ·rw[List.getElem?_append_left hi,Nat.mod_eq_of_lt hi]
  ·rw[List.getElem?_append_right om,sy z n (i - z.length) (by rw[Nat.add_mul]at h;omega)]
   congr 1
   rw[←Nat.mod_eq_sub_mod om]
theorem aq.aG {μ:ba} {z:List Value} (h:aq μ z z):∀n,aq μ (aG z n) (aG z n)
 |0=>.nil
 |n+1=>h.append (h.aG n)
theorem pS (z:Array Value) (n:Nat) (hz:0<z.size):((Array.range (n*z.size)).map (z[· % z.size]!)).toList=aG z.toList n:=by
 apply List.ext_getElem?;intro i;by_cases hi:i<n*z.size
 ·rw[sy z.toList n i (by simpa using hi)];have hm:i % z.size<z.size:=Nat.mod_lt _ hz;simp[hi,hm]
 ·have h1:(aG z.toList n)[i]? =none:=by
   rw[List.getElem?_eq_none_iff,cO];simpa using hi
  rw[h1];simp;omega
section
variable {P:Program} {E:Env} {μ:ba} {f:AF} {a:Act}
structure Ju (P:Program) (μ:ba) (s:Sem Next) (md:Made) (hd:oR) (o':Obj) (n:Nat) (hv:Nat→Value):Prop where
 run:∀w:World,s.run P w= .ok (.value (hv w.heap.size)) {w with heap:=w.heap.push o'}
 val:∀(aK:ba) b r,aK b=some ⟨r,0,n⟩→an aK (hd.val b) (hv r)
 obj:∀(aK:ba) h base b r,μ.le aK→gP aK h base b ⟨r,0,n⟩ (md.obj b) o'
theorem kH {cs cs':List Value} (hr:aq μ cs cs') (e:TypeId) (aK:ba) (h:ah) (base b r:Nat) (hle:μ.le aK) (f cu aF:Nat) (rest:Array Value) (c:Array Value) (hc:c.toList=cs'++rest.toList):
 gP aK h base b ⟨r,0,c.size⟩ (.cells cs f cu aF) (.cells c e (0,0)):=by
 have hl:=hr.length;have hs:c.size=cs'.length+rest.size:=by
  have:=congrArg List.length hc;simpa using this
 refine .cells rfl (by simp only;omega) (fun _=>P0 _) fun _ i v hv=>?_;obtain⟨v',h1,h2⟩:=hr.get hv;refine⟨v',?_,h2.mono hle⟩;have hi:=(List.getElem?_eq_some_iff.1 h1).1;rw[←Array.getElem?_toList,hc,Nat.zero_add,List.getElem?_append_left hi];exact h1
theorem lC (hE:bl P E) (hg:fB E μ) (hf:cB μ f a.tmps) {o:Oper} {md:Made} {hd:oR} (h:aV E f o=some (md,hd)):
 ∃o' n hv,Ju P μ (execOp a.eval o) md hd o' n hv:=by
 obtain⟨dst,op,type,pos,after,guard⟩:=o;cases op
 case alloc t=>
  simp only[aV,Option.bind_eq_some_iff,Option.some.injEq,Prod.mk.injEq]at h;obtain⟨z,hz,rfl,rfl⟩:=h;have o4:=(an.bM μ (hE.zero t z hz).2).cells;refine⟨.cells z.cells t (0,0),z.cells.size,fun r=>.pointer (some ⟨r,0,none⟩),fun w=>?_,fun aK b r hb=>?_,fun aK h base b r hle=>?_⟩
  ·simp[execOp,Instr.alloc,jo hE hz w,newVar,newRow]
  ·have:=an.ptr (o:=0) hb;simpa[oR.val]using this
  ·exact kH o4 t aK h base b r hle _ _ _ #[] z.cells (by simp)
 case box t x=>
  simp only[aV,Option.bind_eq_some_iff,Option.some.injEq,Prod.mk.injEq]at h;obtain⟨v,hv,rfl,rfl⟩:=h;have hr:=(aT hg hf hv).cells;refine⟨.cells (a.eval x).cells t (0,0),(a.eval x).cells.size,fun r=>.pointer (some ⟨r,0,none⟩),fun w=>?_,fun aK b r hb=>?_,fun aK h base b r hle=>?_⟩
  ·simp[execOp,Instr.box,newVar,newRow]
  ·have:=an.ptr (o:=0) hb;simpa[oR.val]using this
  ·exact kH hr t aK h base b r hle _ _ _ #[] _ (by simp)
 case buildSlice t len parts=>
  simp only[aV,Option.bind_eq_some_iff]at h;obtain⟨d,CP,ps,h1,h2⟩:=h;split at h2
  ·rename_i elem;simp only[Option.bind_eq_some_iff,aj,Bool.and_eq_true,az,beq_iff,Option.some.injEq,Prod.mk.injEq]at h2;obtain⟨n,hn,z,hz,⟨hk,ib⟩,cs,h3,rfl,rfl⟩:=h2;have hp:=mP hg hf h1;have o4:=(an.bM μ (hE.zero elem z hz).2).cells
   let fh:Array Value:=(aG z.cells.toList len).toArray
   obtain⟨cs',q1,q2⟩:=pP (μ:=μ) (place':=fun i=>some (i*n,n)) (fun _ _ h=>h) (cells':=fh) (ps':=parts.toList.map fun p=>(p.1,a.eval p.2)) h3 (by simpa[fh]using o4.aG len) hp.1 hp.2;have eY:cs.length=len*n:=by
    have:∀{ps:List (Nat×Value)} {c r:List Value},iQ (fun i=>some (i*n,n)) c ps=some r→r.length=c.length:=by
     intro ps
     induction ps with
     |nil=>intro c r h;simp only[iQ,Option.some.injEq]at h;subst h;rfl
     |cons p ps ih=>
      intro c r h;simp only[iQ,Option.bind_eq_some_iff,aj]at h;obtain⟨q,_,_,c1,h4,h5⟩:=h;rw[ih h5,(cV h4).2.1]
    rw[this h3,cO];simp[ib]
   refine⟨.cells cs' elem (0,0),cs'.size,fun r=>.slice (some ⟨r,0,none⟩) len len,fun w=>?_,fun aK b r hb=>?_,fun aK h base b r hle=>?_⟩
   ·have e:(parts.map fun(i,x)=>(i,a.eval x))=(parts.toList.map fun p=>(p.1,a.eval p.2)).toArray:=by
     apply Array.ext';simp
    have Ra:len*n=0→∀g:Nat→Value,(Array.range (len*n)).map g=fh:=by
     intro h0 g;apply Array.ext';have:(aG z.cells.toList len)=[]:=by
      apply List.eq_nil_of_length_eq_zero;rw[cO];simpa[ib]using h0
     simp[h0,fh,this]
    have Rb:len*n≠0→(Array.range (len*n)).map (z.cells[· % z.cells.size]!)=fh:=by
     intro h0;apply Array.ext';have wG:0<z.cells.size:=by
      rw[ib];exact Nat.pos_of_ne_zero fun e=>h0 (by rw[e];simp)
     have:=pS z.cells len wG;rw[ib]at this;simp only[fh];rw[←this,ib]
    unfold execOp;simp only[Sem.run_bind,Instr.buildSlice,ay hE CP w,Result.andThen_ok,ff hE hn w];rw[if_neg om];by_cases h0:len*n=0
    ·rw[if_pos h0];simp only[Sem.run_bind,Sem.run_pure,Result.andThen_ok];rw[Ra h0,e,q1];rfl
    ·rw[if_neg h0];simp only[Sem.run_bind,Sem.run_pure,Result.andThen_ok,jo hE hz w];rw[Rb h0,e,q1];rfl
   ·have:=an.slice (o:=0) (z:=n) hb (Nat.le_refl len) (Nat.le_refl len) (fun h=>h) (by simp only;have:=q2.length;simp at this;omega);simpa[oR.val]using this
   ·exact kH q2 elem aK h base b r hle _ _ _ #[] cs' (by simp)
  ·cases h2
 case makeMap t r=>
  cases r with
  |none=>
   simp only[aV,Option.some.injEq,Prod.mk.injEq]at h;obtain⟨rfl,rfl⟩:=h;refine⟨.map #[] 0,0,fun r=>.map (some r),fun w=>?_,fun aK b r hb=>?_,fun aK h base b r hle=>?_⟩
   ·simp[execOp,Instr.makeMap]
   ·exact .map hb
   ·exact .map (by simpa using b9.nil)
  |some r=>simp only[aV]at h;cases h
 case makeSlice t l c=>
  simp only[aV,Option.bind_eq_some_iff]at h;obtain⟨d,CP,lv,h1,cv,h2,l1,h3,c1,h4,h5⟩:=h;obtain⟨k1,e1⟩:=AU h3;subst e1;obtain⟨k2,e2⟩:=AU h4;subst e2;have el:=(aT hg hf h1).ao rfl;have ec:=(aT hg hf h2).ao rfl;split at h5
  ·rename_i elem;simp only[Option.bind_eq_some_iff,aj,Bool.and_eq_true,beq_iff,decide_eq_true_eq,Option.some.injEq,Prod.mk.injEq]at h5;obtain⟨n,hn,bytes,hb,z,hz,⟨⟨⟨ib,tI⟩,GD⟩,jW⟩,rfl,rfl⟩:=h5;obtain⟨ti,M9,Na⟩:=y6 hE hb;have o4:=(an.bM μ (hE.zero elem z hz).2).cells;obtain⟨ln,rfl⟩:=Int.eq_ofNat_of_zero_le tI;obtain⟨cn,rfl⟩:=Int.eq_ofNat_of_zero_le (show 0≤c1 by omega);have Yu:ln≤cn:=by omega
   have Yv:(cn+1)*(bytes+1)≤1099511627776:=by
    have:(((cn+1)*(bytes+1):Nat):Int)≤1099511627776:=by push_cast;exact jW
    omega
   have Ua:cn+1≤1099511627776:=Nat.le_trans (Nat.le_mul_of_pos_right _ om) Yv;have UI:bytes*cn≤1099511627776:=by
    have:bytes*cn≤(cn+1)*(bytes+1):=by rw[Nat.mul_comm];exact Nat.mul_le_mul om om
    omega
   let fh:Array Value:=(aG z.cells.toList cn).toArray
   refine⟨.cells fh elem (0,0),fh.size,fun r=>.slice (some ⟨r,0,none⟩) ln cn,fun w=>?_,fun aK b r hb=>?_,fun aK h base b r hle=>?_⟩
   ·have wl:IntKind.i64.wrap (ln:Int)=ln:=IntWalk.i64_in _ om;have wc:IntKind.i64.wrap (cn:Int)=cn:=IntWalk.i64_in _ om;have nt:(decide ((cn:Int)<0)||decide ((ti.bytes:Int)*(cn:Int)>2 ^ 48))=false:=by
     rw[M9];have:((bytes*cn:Nat):Int)≤1099511627776:=by omega
     simp only[Bool.or_eq_false_iff,decide_eq_false_iff_not];refine⟨om,?_⟩;have e:(2:Int) ^ 48=281474976710656:=by decide
     rw[e]
     push_cast at this
     omega
    have Ra:cn*n=0→∀g:Nat→Value,(Array.range (cn*n)).map g=fh:=by
     intro h0 g;apply Array.ext';have:(aG z.cells.toList cn)=[]:=by
      apply List.eq_nil_of_length_eq_zero;rw[cO];simpa[ib]using h0
     simp[h0,fh,this]
    have Rb:cn*n≠0→(Array.range (cn*n)).map (z.cells[· % z.cells.size]!)=fh:=by
     intro h0;apply Array.ext';have wG:0<z.cells.size:=by
      rw[ib];exact Nat.pos_of_ne_zero fun e=>h0 (by rw[e];simp)
     have:=pS z.cells cn wG;rw[ib]at this;simp only[fh];rw[←this,ib]
    unfold execOp;simp only[Sem.run_bind,Instr.makeSlice,ay hE CP w,Result.andThen_ok,el,ec,asInt,asIntOf,Sem.run_pure,Na w,wl,wc,nt];rw[if_neg (by simp;omega)];simp only[Sem.run_bind,run_askRoom,Result.andThen_ok,ff hE hn w,Int.toNat_natCast];by_cases h0:cn*n=0
    ·rw[if_pos h0];simp only[Sem.run_bind,Sem.run_pure,Result.andThen_ok];rw[Ra h0];rfl
    ·rw[if_neg h0];simp only[Sem.run_bind,Sem.run_pure,Result.andThen_ok,jo hE hz w];rw[Rb h0];rfl
   ·have oz:fh.size=cn*n:=by simp[fh,cO,ib]
    by_cases e:ln=cn
    ·subst e;have:=an.slice (o:=0) (z:=n) hb (Nat.le_refl ln) (Nat.le_refl ln) (fun h=>h) (by simp only;omega);simpa[oR.val]using this
    ·have:=an.slice (o:=0) (z:=n) (len:=ln) (cap:=ln+1) (cap':=cn) hb om Yu (fun h=>by omega) (by simp only;omega);simpa[oR.val,e,bG]using this
   ·have Rc:aG z.cells.toList cn=aG z.cells.toList ln++aG z.cells.toList (cn - ln):=by
     have:∀a b,aG z.cells.toList (a+b)=aG z.cells.toList a++aG z.cells.toList b:=by
      intro a b
      induction a with
      |zero=>simp[M.aG]
      |succ a ih=>rw[Nat.succ_add];simp[M.aG,ih]
     rw[←this];congr 1;omega
    exact kH (o4.aG ln) elem aK h base b r hle _ _ _ (aG z.cells.toList (cn - ln)).toArray fh (by simp[fh,Rc])
  ·cases h5
 case range t x=>
  simp only[aV,Option.bind_eq_some_iff]at h;obtain⟨d,CP,v,h1,h2⟩:=h;split at h2
  ·rename_i s;simp only[Option.some.injEq,Prod.mk.injEq]at h2;obtain⟨rfl,rfl⟩:=h2;have ex:=(aT hg hf h1).ao rfl;refine⟨.stringIter s 0,0,fun r=>.pointer (some ⟨r,0,none⟩),fun w=>?_,fun aK b r hb=>?_,fun aK h base b r hle=>.gU rfl⟩
   ·simp[execOp,Instr.range,ay hE CP w,ex]
   ·have:=an.ptr (o:=0) hb;simpa[oR.val]using this
  ·simp only[Option.some.injEq,Prod.mk.injEq]at h2;obtain⟨rfl,rfl⟩:=h2;have ex:a.eval x= .map none:=by
    have:=aT hg hf h1;generalize a.eval x=q at this;cases this;rfl
   refine⟨.mapIter none 0 #[] 0,0,fun r=>.pointer (some ⟨r,0,none⟩),fun w=>?_,fun aK b r hb=>?_,fun aK h base b r hle=>.ke rfl⟩
   ·simp[execOp,Instr.range,ay hE CP w,ex]
   ·have:=an.ptr (o:=0) hb;simpa[oR.val]using this
  ·cases h2
 all_goals(simp only[aV]at h;cases h)
end
theorem run_getObj_map {P:Program} {w:World} {r:Nat} {o:Obj} (h:w.heap[r]? =some o) (ho:∀c e f,o≠ .cells c e f):(getObj r).run P w= .ok o w:=by
 unfold getObj;simp only[Sem.run,h]
theorem iw {μ:ba} {kd:TypeDesc} {k:Value}:∀{es bD:List MapEntry} {i:Nat} {r:Option (Nat×Value)},b9 μ es bD→Instr.findNow kd k es i=some r→
 ∃r',Instr.findNow kd k bD i=some r'∧(r=none→r'=none)∧(∀j v,r=some (j,v)→∃v',r'=some (j,v')∧an μ v v')
 |[],bD,i,r,h,hr=>by
  cases h with
  |nil=>simp only[Instr.findNow,Option.some.injEq]at hr;subst hr;exact⟨none,rfl,fun _=>rfl,fun j v h=>by cases h⟩
 |e::es,bD,i,r,h,hr=>by
  cases h with
  |cons hk hv hb t=>
   rename_i e' bD;have hs:∀b,Instr.sameNow kd k e.key=some b→e'.key=e.key:=by
    intro b hs;have:scalar e.key=true:=by
     unfold Instr.sameNow at hs;split at hs
     ·rename_i h2;rw[h2];rfl
     ·rename_i h2;rw[h2];rfl
     ·rename_i h2;rw[h2];rfl
     ·cases hs
    exact hk.ao this
   simp only[Instr.findNow]at hr ⊢;split at hr
   ·rename_i hq;rw[hs _ hq,hq];simp only[Option.some.injEq]at hr;subst hr;exact⟨_,rfl,(fun h=>by cases h),fun j v h=>(by cases h;exact⟨_,rfl,hv⟩)⟩
   ·rename_i hq;rw[hs _ hq,hq];exact iw t hr
   ·cases hr
theorem run_loadCells {P:Program} {w:World} {a:Addr}:∀(n i:Nat) (acc:Array Value) (l:List Value),l.length=n→(∀(k:Nat) v,l[k]? =some v→w.cell? (a.add (i+k))=some v)→(loadCellsFrom a i n acc).run P w= .ok (acc++l.toArray) w
 |0,i,acc,l,h,_=>by
  have:l=[]:=List.eq_nil_of_length_eq_zero h;subst this;simp[loadCellsFrom]
 |n+1,i,acc,[],h,_=>by simp at h
 |n+1,i,acc,v::l,h,hc=>by
  have h0:=hc 0 v rfl;have ih:=run_loadCells (P:=P) n (i+1) (acc.push v) l (by simpa using h) (fun k u hu=>by have:=hc (k+1) u (by simpa using hu);rw[←this];congr 2;omega);simp only[Nat.add_zero]at h0;simp only[loadCellsFrom,Sem.run_bind,run_load,h0,Result.andThen_ok,ih];simp
section
variable {P:Program} {E:Env} {μ:ba} {f:AF} {a:Act} {base B:Nat} {h:ah} {w:World}
theorem aX.xg (H:aX E base B μ h w) {b o n:Nat} {m:MT} (hb:μ b=some m) {l:List Value} (hr:M.ai h b o n=some l):
 ∃l',aq μ l l'∧∀(i:Nat) v,l'[i]? =some v→w.cell? ⟨m.r,m.s+o+i,none⟩=some v:=by
 obtain⟨h1,h2⟩:=H.ai hb hr;have key:∀(l:List Value) (k:Nat),(∀(i:Nat) v,l[i]? =some v→∃v',w.cell? ⟨m.r,m.s+o+k+i,none⟩=some v'∧an μ v v')→∃l',aq μ l l'∧∀(i:Nat) v,l'[i]? =some v→w.cell? ⟨m.r,m.s+o+k+i,none⟩=some v:=by
  intro l
  induction l with
  |nil=>intro k _;exact⟨[],.nil,fun i v h=>by simp at h⟩
  |cons v l ih=>
   intro k hl;obtain⟨v',q1,q2⟩:=hl 0 v rfl;obtain⟨l',r1,r2⟩:=ih (k+1) fun i u hu=>by
    obtain⟨u',k1,k2⟩:=hl (i+1) u (by simpa using hu);exact⟨u',by rw[←k1];congr 2;omega,k2⟩
   refine⟨v'::l',.cons q2 r1,fun i u hu=>?_⟩;cases i with
   |zero=>simp at hu;subst hu;simpa using q1
   |succ i=>
    simp at hu;rw[←r2 i u hu];congr 2;omega
 obtain⟨l',r1,r2⟩:=key l 0 (by simpa using h2);exact⟨l',r1,by simpa using r2⟩
theorem mQ (hE:bl P E) {t:TypeId} {agg:Bool} {n:Nat} (hs:dU E t=some (agg,n)) {r o:Nat} {l':List Value} (hl:l'.length=n) (hc:∀(i:Nat) v,l'[i]? =some v→w.cell? ⟨r,o+i,none⟩=some v) {v':Value}
 (hv:ck agg l'=some v'):(loadVar t ⟨r,o,none⟩).run P w= .ok v' w:=by
 obtain⟨d,k1,k2,k3,k4⟩:=sw hs;unfold loadVar;simp only[Sem.run_bind,EY hE k1 w,Result.andThen_ok,k2];cases agg with
 |true=>
  simp only[ck,Option.some.injEq]at hv;subst hv;simp only[if_true,Sem.run_bind,ff hE (k3 rfl) w,Result.andThen_ok,loadCells];rw[run_loadCells n 0 #[] l' hl (fun k v hv=>by rw[fF];simpa using hc k v hv)];simp
 |false=>
  have:=k4 rfl;subst this
  match l',hl with
  |[u],_=>
   simp only[ck,Option.some.injEq]at hv;subst hv;have:=hc 0 u rfl;simp only[Nat.add_zero]at this;simp[this]
theorem qZ (hE:bl P E) (hf:cB μ f a.tmps) (H:aX E base B μ h w) {o:Oper} {q:RQ} {v:Value} (hq:bt E f o=some q) (hv:q.run h=some v):
 ∃v',an μ v v'∧(execOp a.eval o).run P w= .ok (.value v') w:=by
 have hg:fB E μ:=H.cW;obtain⟨dst,op,type,pos,after,guard⟩:=o;cases op
 case load t x=>
  simp only[bt,Option.bind_eq_some_iff,Option.some.injEq]at hq;obtain⟨u,h1,p,h2,⟨agg,n⟩,h3,rfl⟩:=hq;have e:=jq h2;subst e;obtain⟨m,hb,ex⟩:=(aT hg hf h1).iX;simp only[RQ.run,Option.bind_eq_some_iff]at hv;obtain⟨l,h4,h5⟩:=hv;obtain⟨l',r1,r2⟩:=H.xg hb h4;obtain⟨v',q1,q2⟩:=ia h5 r1;refine⟨v',q2,?_⟩;have hl:l'.length=n:=by rw[←r1.length];exact(H.ai hb h4).1
  simp only[execOp,Instr.loadAt,Sem.run_bind,ex,Instr.sureAddr,Sem.run_pure,Result.andThen_ok];rw[mQ hE h3 hl r2 q1];rfl
 case lookup t x ix ok=>
  simp only[bt,Option.bind_eq_some_iff]at hq;obtain⟨d,hd,mv,h1,k,h2,h3⟩:=hq;split at h3
  ·rename_i kt elem r;simp only[Option.bind_eq_some_iff,aj,Bool.and_eq_true,Option.some.injEq]at h3;obtain⟨kd,gB,z,hz,⟨⟨s1,s2⟩,s3⟩,rfl⟩:=h3;obtain⟨m,hb,ex⟩:=(aT hg hf h1).jU;have ek:=(aT hg hf h2).ao s2;simp only[RQ.run,Option.bind_eq_some_iff]at hv;obtain⟨⟨es,clock⟩,h4,h5⟩:=hv;obtain⟨o1,o2,k1,k2,k3⟩:=H.obj r m hb;have hm:h.get r=some (.map es clock):=by
    unfold dV at h4;split at h4<;>simp at h4;obtain⟨rfl,rfl⟩:=h4;assumption
   rw[hm]at k1;cases k1;cases k3 with
   |map hs=>
    rename_i bD;have nM:=run_getObj_map (P:=P) k2 (fun _ _ _=>by simp);simp only[iL,Option.bind_eq_some_iff,Option.some.injEq]at h5;obtain⟨fr,h6,h7⟩:=h5;obtain⟨I8,q1,q2,q3⟩:=iw hs h6;have o4:=an.bM μ s3;have AV:(Instr.findKey kt k bD.toList).run P w= .ok I8 w:=by
     simp only[Instr.findKey,Sem.run_bind,ay hE gB w,Result.andThen_ok,q1,Sem.run_pure]
    have uk:=jr (P:=P) hE gB s1 bD.isEmpty 9999 k w;have fin:∀(u u':Value) (b:Bool),an μ u u'→an μ (bif ok then .tuple #[u,.bool b]else u) (if ok=true then .tuple #[u',.bool b]else u'):=by
     intro u u' b hu;cases ok with
     |true=>simp only[cond_true,if_true];exact .da (by simpa using aq.cons hu (.cons (.bool μ b) .nil))
     |false=>simpa using hu
    cases fr with
    |none=>
     have e:=q2 rfl;subst e;simp only at h7;subst h7;refine⟨_,fin z z false o4,?_⟩;simp only[execOp,Instr.lookup,Sem.run_bind,ay hE hd w,Result.andThen_ok,ex,ek,nM,Sem.run_pure,uk,AV,jo hE hz w]
    |some jv=>
     obtain⟨v',e,hr⟩:=q3 jv.1 jv.2 rfl;subst e;simp only at h7;subst h7;refine⟨_,fin jv.2 v' true hr,?_⟩;simp only[execOp,Instr.lookup,Sem.run_bind,ay hE hd w,Result.andThen_ok,ex,ek,nM,Sem.run_pure,uk,AV]
  ·cases h3
 case call c=>
  simp only[bt]at hq;split at hq
  ·rename_i t ts zb Rd;simp only[Option.bind_eq_some_iff]at hq;obtain⟨d,hd,args,h1,h2⟩:=hq;split at h2
   ·rename_i kt et r rest;simp only[Option.some.injEq]at h2;subst h2;have hr:=iZ hg hf h1;cases jM:c.args.toList.map a.eval with
    |nil=>rw[jM]at hr;cases hr
    |cons u us=>
     rw[jM]at hr;cases hr with
     |cons hx _=>
      obtain⟨m,hb,rfl⟩:=hx.jU;simp only[RQ.run,Option.bind_eq_some_iff,Option.some.injEq]at hv;obtain⟨⟨es,clock⟩,h4,rfl⟩:=hv;obtain⟨o1,o2,k1,k2,k3⟩:=H.obj r m hb;have hm:h.get r=some (.map es clock):=by
       unfold dV at h4;split at h4<;>simp at h4;obtain⟨rfl,rfl⟩:=h4;assumption
      rw[hm]at k1;cases k1;cases k3 with
      |map hs=>
       rename_i bD;have nM:=run_getObj_map (P:=P) k2 (fun _ _ _=>by simp);have e0:(c.args.map a.eval)[0]? =some (.map (some m.r)):=by
        have:(c.args.map a.eval).toList= .map (some m.r)::us:=by simpa using jM
        rw[←Array.getElem?_toList,this];rfl
       have e1:c.argTypes[0]? =some t:=by rw[←Array.getElem?_toList,Rd];rfl
       refine⟨goInt bD.size,?_,?_⟩
       ·have:=hs.length;simp only[Array.length_toList]at this;rw[this];exact .int μ _ _
       ·simp only[execOp,resolve,zb,Sem.run_bind,Sem.run_pure,Result.andThen_ok,invoke,builtin,Builtin.len_,e0,e1,ay hE hd w,nM]
   ·cases h2
  ·cases hq
 all_goals(simp only[bt]at hq;cases hq)
end
theorem zc {v:Value} (h:eF v=true):v.oneCell'=true:=by cases v<;>simp[eF]at h<;>rfl
theorem js {P:Program} {r off:Nat} {e:TypeId} {fr:Nat×Nat}:∀(vs:List Value) (i:Nat) (w:World) (c:Array Value),mL fr c.size→w.heap[r]? =some (.cells c e fr)→vs.all eF=true→off+i+vs.length≤c.size→
 ∃w' c',(storeCells ⟨r,off,none⟩ vs i).run P w= .ok () w'∧yY w r (.cells c' e fr) w'∧c'.size=c.size∧∀k,c'[k]? =if off+i≤k∧k<off+i+vs.length then vs[k - (off+i)]? else c[k]?
 |[],i,w,c,_,hw,_,_=>by
  refine⟨w,c,by simp[storeCells],⟨rfl,rfl,rfl,rfl,fun k=>?_⟩,rfl,fun k=>?_⟩
  ·by_cases e:k=r
   ·subst e;rw[if_pos rfl,hw]
   ·rw[if_neg e]
  ·rw[if_neg (by simp)]
 |v::vs,i,w,c,Ub,hw,jt,hb=>by
  simp only[List.all_cons,Bool.and_eq_true]at jt;simp only[List.length_cons]at hb;have Jv:w.cell? ⟨r,off+i,none⟩=some (c[off+i]' om):=by
   simp only[World.cell?,hw];simp
  have zd:w.frozen? ⟨r,off+i,none⟩=false:=by
   have:=Ub.at (off+i) om;simp only[World.frozen?,hw];simpa using this
  let w1:=w.setCell ⟨r,off+i,none⟩ v
  have dL:∀k,w1.heap[k]? =if k=r then some (.cells (c.setIfInBounds (off+i) v) e fr)else w.heap[k]? :=by
   intro k;simp only[w1,World.setCell,Array.getElem?_modify];by_cases ek:k=r
   ·subst ek;rw[if_pos rfl,if_pos rfl,hw];simp
   ·rw[if_neg (fun h=>ek h.symm),if_neg ek]
  obtain⟨w',c',q1,q2,q3,q4⟩:=js (P:=P) (off:=off) vs (i+1) w1 (c.setIfInBounds (off+i) v) (by simpa using Ub) (by rw[dL,if_pos rfl]) jt.2 (by simp;omega);refine⟨w',c',?_,⟨q2.tape,q2.os,q2.output,by rw[q2.size];simp[w1,World.setCell],fun k=>?_⟩,by rw[q3];simp,fun k=>?_⟩
  ·simp only[storeCells,Sem.run_bind,fF,run_store P w _ v .plain (zc jt.1),Jv,zd];simp only[Bool.false_eq_true,if_false,Result.andThen_ok];exact q1
  ·rw[q2.get];by_cases ek:k=r
   ·rw[if_pos ek,if_pos ek]
   ·rw[if_neg ek,if_neg ek,dL,if_neg ek]
  ·rw[q4 k];by_cases h1:off+(i+1)≤k∧k<off+(i+1)+vs.length
   ·rw[if_pos h1,if_pos (by simp;omega)];have:k - (off+i)=(k - (off+(i+1)))+1:=by omega
    rw[this,List.getElem?_cons_succ]
   ·rw[if_neg h1];by_cases h2:k=off+i
    ·subst h2;rw[if_pos (by simp),Array.getElem?_setIfInBounds_self_of_lt (show off+i<c.size by omega)];simp
    ·rw[if_neg (by simp;omega),Array.getElem?_setIfInBounds_ne om]
theorem xh (n:Nat):∀(rounds c:Nat),256≤c→Builtin.growBy n rounds c≤c*2 ^ rounds
 |0,c,_=>by simp[Builtin.growBy]
 |k+1,c,h=>by
  simp only[Builtin.growBy];split
  ·exact Nat.le_mul_of_pos_right _ (Nat.pow_pos om)
  ·have h1:c+(c+768) / 4≤c*2:=by omega
   have:=xh n k (c+(c+768) / 4) om
   calc _≤(c+(c+768) / 4)*2 ^ k:=this
    _≤(c*2)*2 ^ k:=Nat.mul_le_mul_right _ h1
    _=c*2 ^ (k+1):=by rw[Nat.pow_succ,Nat.mul_assoc,Nat.mul_comm 2]
theorem nextslicecap_le {n c:Nat} (h:c<n):Builtin.nextslicecap n c≤16*n:=by
 unfold Builtin.nextslicecap;split
 ·omega
 ·split
  ·omega
  ·have:=xh n 4 c om;omega
section
variable {P:Program} {E:Env} {μ:ba} {f:AF} {a:Act} {base B:Nat} {h:ah} {w:World}
theorem AW {x x':Value} {n:Nat} (h:kC x=some n) (hr:an μ x x'):eH P (Builtin.lenOf x') n:=by
 unfold kC at h;split at h
 ·simp only[Option.some.injEq]at h;subst h;intro w;cases hr<;>rfl
 ·simp only[Option.some.injEq]at h;subst h;cases hr;intro w;rfl
 ·cases h
theorem lD (H:aX E base B μ h w) {size n L:Nat} {x x':Value} {l:List Value} (h1:eB h size n x=some l) (hr:an μ x x') (hL:kC x=some L) (hn:n≤L):
 ∃l',aq μ l l'∧∀d,(Builtin.firstCells size n x').run P {w with drawn:=d}= .ok l'.toArray {w with drawn:=d}:=by
 unfold eB at h1;split at h1
 ·rename_i b o z len cap;cases hr with
  |lit hh=>simp[ar]at hh
  |slice hb k1 k2 k3 k4=>
   rename_i cap' m;obtain⟨l',r1,r2⟩:=H.xg hb h1;refine⟨l',r1,fun d=>?_⟩;simp only[Builtin.firstCells,loadCells];have hl:l'.length=n*size:=by rw[←r1.length];exact(H.ai hb h1).1
   rw[run_loadCells (n*size) 0 #[] l' hl (fun k v hv=>by rw[fF];have:=r2 k v hv;simpa[World.cell?]using this)];simp
  |cA=>
   simp only[kC,Option.some.injEq]at hL;have oA:n=0:=by omega
   subst oA;unfold M.ai at h1;simp only[Option.bind_eq_some_iff,aM]at h1;obtain⟨cs,_,_,rfl⟩:=h1;refine⟨[],by simpa using aq.nil,fun d=>?_⟩;simp[Builtin.firstCells,loadCells,loadCellsFrom]
 ·rename_i len cap;simp only[Option.some.injEq]at h1;subst h1;cases hr with
  |lit hh=>exact⟨[],.nil,fun d=>by simp[Builtin.firstCells]⟩
 ·rename_i s;simp only[Option.some.injEq]at h1;subst h1;cases hr.ao rfl;refine⟨_,aq.bM μ (by
   rw[List.all_eq_true];intro v hv;obtain⟨u,_,rfl⟩:=List.mem_map.1 hv;rfl),fun d=>?_⟩
  simp only[Builtin.firstCells,Sem.run_pure]
  congr 1
  apply Array.ext';simp[List.extract_eq_take_drop]
 ·cases h1
theorem re (H:aX E base B μ h w) {b o:Nat} {m:MT} (hb:μ b=some m) {cs cs' vs lB:List Value} {h':ah} (ft:h.rd b=some cs) (gC:cF cs o vs=some cs') (oB:h.wr base b cs'=some h')
 (hr:aq μ vs lB) (jt:vs.all eF=true):∃w',(storeCells ⟨m.r,m.s+o,none⟩ lB).run P w= .ok () w'∧Step E base B μ h w μ h' w':=by
 obtain⟨c,e,fr,k1,k2,k3,k4,k5⟩:=H.read hb ft;obtain⟨f,aF,bh,_,_,_⟩:=EV oB;have Ub:mL fr c.size:=by rw[k2];exact k4 bh
 obtain⟨s1,s2,s3⟩:=cV gC;have hl:=hr.length;have AX:lB.all eF=true:=by
  rw[List.all_eq_true]at jt ⊢;intro v' w9;obtain⟨i,hi,rfl⟩:=List.mem_iff_getElem.1 w9;have h0:vs[i]? =some (vs[i]' om):=by simp
  obtain⟨u,q1,q2⟩:=hr.get h0;have:lB[i]? =some lB[i]:=by simp[hi]
  rw[this]at q1;cases q1;exact q2.eF (jt _ (List.getElem_mem _))
 obtain⟨w',c',q1,q2,q3,q4⟩:=js (P:=P) lB 0 w c Ub k1 AX (off:=m.s+o) om;obtain⟨r,_,_,oz⟩:=rd_some ft;refine⟨w',q1,Step.wr H hb oz s2 oB k1 q3 q2 fun i v hv=>?_⟩;rw[s3 i]at hv;rw[q4 (m.s+i)];by_cases hi:o≤i∧i<o+vs.length
 ·rw[if_pos hi]at hv;rw[if_pos om];obtain⟨v',z1,z2⟩:=hr.get hv;exact⟨v',by rw[←z1];congr 1;omega,z2⟩
 ·rw[if_neg hi]at hv;rw[if_neg om];exact k5 i v hv
end
section
variable {P:Program} {E:Env} {μ:ba} {f:AF} {a:Act} {base B:Nat} {h:ah} {w:World}
def wH (b:Option Addr) (k:Nat) (new:List Value):Sem Unit:=match b with|some a=>storeCells (a.add k) new|none=>pure ()
theorem mR (z:Array Value) (n:Nat):(Builtin.zeroCells z n).size=n*z.size:=by simp[Builtin.zeroCells]
theorem lE (hE:bl P E) {st xt ty elem:TypeId} {xd:TypeDesc} {size bytes n len cap:Nat} {z0:Value} {base':Option Addr} {x':Value} {old new:List Value}
 (bU:E.desc st=some (.slice elem)) (Ny:E.desc xt=some xd) (Jq:jj xd=false) (hs:E.size elem=some size) (CQ:E.bytes elem=some bytes) (hz:E.zero elem=some z0) (ib:z0.cells.size=size)
 (Nz:eH P (Builtin.lenOf x') n)
 (jL:∀d,(Builtin.firstCells size n x').run P {w with drawn:=d}= .ok new.toArray {w with drawn:=d}):
 (len+n≤cap→∀w',(wH base' (len*size) new).run P w= .ok () w'→(Builtin.append_ #[st,xt] ty #[.slice base' len cap,x']).run P w= .ok (.slice base' (len+n) cap) w')∧
 (cap<len+n→(len+n+1)*(bytes+1)≤1099511627776→(∀d,(Builtin.firstCells size len (.slice base' len cap)).run P {w with drawn:=d}= .ok old.toArray {w with drawn:=d})→∃cY rest,len+n≤cY∧rest.size=(cY - (len+n))*size∧
  (Builtin.append_ #[st,xt] ty #[.slice base' len cap,x']).run P w= .ok (.slice (some ⟨w.heap.size,0,none⟩) (len+n) cY) {w with heap:=w.heap.push (.cells (old.toArray++new.toArray++rest) elem (0,0)),drawn:=w.drawn+1}):=by
 obtain⟨ti,M9,Na⟩:=y6 hE CQ;have hw:({w with drawn:=w.drawn}:World)=w:=rfl;constructor
 ·intro pU w' Jw;unfold Builtin.append_;simp only[List.getElem?_toArray,List.getElem?_cons_zero,List.getElem?_cons_succ,Sem.run_bind,ay hE bU w,ay hE Ny w,Result.andThen_ok,ff hE hs w,Sem.run_pure];split
  ·simp[jj]at Jq
  simp only[Bool.false_eq_true,if_false,Sem.run_bind,Nz w,Result.andThen_ok];rw[if_pos pU];have:=jL w.drawn;simp only[Bool.not_false,if_true,Sem.run_bind];rw[show(Builtin.firstCells size n x').run P w= .ok new.toArray w from this];cases base' with
  |none=>
   simp only[wH,Sem.run_pure]at Jw;cases Jw;simp
  |some a=>
   simp only[wH]at Jw;simp[Jw]
 ·intro UR jW hold;have Yw:len+n+1≤1099511627776:=Nat.le_trans (Nat.le_mul_of_pos_right _ om) jW;have Re:¬(((len+n:Nat):Int)>IntKind.i64.max):=by
   have e:IntKind.i64.max=9223372036854775807:=by decide
   rw[e];omega
  have fG:¬(Builtin.nextslicecap (len+n) cap*ti.bytes>2 ^ 48):=by
   have h1:=nextslicecap_le UR;have h2:Builtin.nextslicecap (len+n) cap*ti.bytes≤16*(len+n)*bytes:=by rw[M9];exact Nat.mul_le_mul_right _ h1
   have h3:16*(len+n)*bytes≤16*((len+n+1)*(bytes+1)):=by
    rw[Nat.mul_assoc];exact Nat.mul_le_mul_left _ (Nat.mul_le_mul om om)
   have e:(2:Nat) ^ 48=281474976710656:=by decide
   rw[e];omega
  let nc:=(Question.appendCap (len+n) cap elem).cut (w.tape w.drawn (Question.appendCap (len+n) cap elem))
  refine⟨nc,Builtin.zeroCells z0.cells (nc - (len+n)),?_,by rw[mR,ib],?_⟩
  ·simp only[nc,Question.cut];omega
  ·unfold Builtin.append_;simp only[List.getElem?_toArray,List.getElem?_cons_zero,List.getElem?_cons_succ,Sem.run_bind,ay hE bU w,ay hE Ny w,Result.andThen_ok,ff hE hs w,Sem.run_pure];split
   ·simp[jj]at Jq
   simp only[Bool.false_eq_true,if_false,Sem.run_bind,Nz w,Result.andThen_ok];rw[if_neg om];simp only[Sem.run_bind,Na w,Result.andThen_ok];rw[if_neg (fun hh=>Re hh.1)];simp only[Sem.run_bind,Na w,Result.andThen_ok];rw[if_neg fG];have ho:=hold (w.drawn+1);have hn:=jL (w.drawn+1);simp only[Sem.run_bind,run_choose,Question.forced,Bool.false_eq_true,if_false,Result.andThen_ok,Na _,run_askRoom,ho,hn,Bool.not_false,if_true,jo hE hz _];rfl
end
section
variable {P:Program} {E:Env} {μ:ba} {f:AF} {a:Act} {base B:Nat} {h:ah} {w:World}
def iN (P:Program) (E:Env) (base B:Nat) (μ:ba) (h:ah) (w:World) (s:Sem Value) (v:Value) (h':ah):Prop:=
 ∃aK v' w',s.run P w= .ok v' w'∧an aK v v'∧Step E base B μ h w aK h' w'
theorem rk (H:aX E base B μ h w) {cs:List Value} {cs':List Value} (hr:aq μ cs cs') {rest:Array Value} {elem:TypeId} {size len cY:Nat} (hl:len≤cY) (hlen:cs.length=len*size) (AP:rest.size=(cY - len)*size) (d:Nat):
 ∃aK,an aK (fresh h cs size len).1 (.slice (some ⟨w.heap.size,0,none⟩) len cY)∧
  Step E base B μ h w aK (fresh h cs size len).2 {w with heap:=w.heap.push (.cells (cs'.toArray++rest) elem (0,0)),drawn:=d}:=by
 have hs:(cs'.toArray++rest).size=cY*size:=by
  have:=hr.length;simp only[Array.size_append,List.size_toArray,AP,←this,hlen];rw[←Nat.add_mul];congr 1;omega
 have hd:=Step.drawn H d;have c9:=AO.mk' {w with drawn:=d} (.cells (cs'.toArray++rest) elem (0,0));have st:=Step.alloc hd.rel c9 (cY*size) (o:=.cells cs h.size h.size 0) (fun cs f cu aF hh=>by cases hh;exact⟨rfl,rfl⟩) (by
  have:=kH (base:=base) (b:=h.size) (r:=w.heap.size) hr elem (jk μ h.size ⟨w.heap.size,0,cY*size⟩) (h.push (.cells cs h.size h.size 0)) (fA H.fresh) h.size h.size 0 rest (cs'.toArray++rest) (by simp);rw[hs]at this;exact this)
 refine⟨_,?_,hd.trans st⟩;have:=an.slice (o:=0) (z:=size) (len:=len) (cap:=len+1) (cap':=cY) (bB μ h.size ⟨w.heap.size,0,cY*size⟩) om hl (fun h=>by omega) (by simp only;omega);simpa[fresh]using this
theorem wI {b o:Nat} {l:List Value} (hr:M.ai h b o 0=some l):l=[]:=by
 unfold M.ai at hr;simp only[Option.bind_eq_some_iff,aM]at hr;obtain⟨cs,_,_,rfl⟩:=hr;simp
set_option maxHeartbeats 1000000 in
set_option maxHeartbeats 1000000 in
theorem C9 (hE:bl P E) (H:aX E base B μ h w) {st xt ty:TypeId} {s x s' x' v:Value} {h':ah} (ha:bq E base h st xt s x=some (v,h')) (hs:an μ s s') (hx:an μ x x'):
 iN P E base B μ h w (Builtin.append_ #[st,xt] ty #[s',x']) v h':=by
 unfold bq at ha;simp only[Option.bind_eq_some_iff]at ha;obtain⟨sd,bU,xd,Ny,ha⟩:=ha;split at ha
 ·rename_i elem;simp only[Option.bind_eq_some_iff,aj,Bool.and_eq_true,Bool.not_eq_true',beq_iff]at ha;obtain⟨size,eY,bytes,CQ,z0,hz,n,hn,⟨Jq,ib⟩,ha⟩:=ha;have Nz:=AW (P:=P) hn hx;have hxz:∀d,(Builtin.firstCells size 0 x').run P {w with drawn:=d}= .ok ([]:List Value).toArray {w with drawn:=d}:=by
   intro d;unfold kC at hn;split at hn
   ·cases hx with
    |lit hh=>
     unfold ar at hh;split at hh<;>simp_all[Builtin.firstCells]
    |slice=>simp[Builtin.firstCells,loadCells,loadCellsFrom]
    |cA=>simp[Builtin.firstCells,loadCells,loadCellsFrom]
   ·cases hx with
    |lit hh=>simp[Builtin.firstCells]
   ·cases hn
  split at ha
  ·-- a nil slice
   have es:s'= .slice none 0 0:=by cases hs;rfl
   subst es;have rap:=fun new jL=>lE (w:=w) (ty:=ty) (base':=none) (cap:=0) (len:=0) (old:=[]) (new:=new) hE bU Ny Jq eY CQ hz ib Nz jL;rw[bG]at ha;split at ha
   ·rename_i h0;rw[beq_iff]at h0;subst h0;simp only[Option.some.injEq,Prod.mk.injEq]at ha;obtain⟨rfl,rfl⟩:=ha;exact⟨μ,_,w,(rap [] hxz).1 (Nat.le_refl _) w rfl,.lit rfl,.refl H⟩
   ·rename_i h0;rw[beq_iff]at h0;simp only[aj,az,beq_iff,Option.bind_eq_some_iff,Option.some.injEq]at ha;obtain⟨jW,new,jL,hl,ha⟩:=ha;obtain⟨tn,r1,r2⟩:=lD (P:=P) H jL hx hn (Nat.le_refl _);obtain⟨cY,rest,k1,k2,k3⟩:=(rap tn r2).2 om (by simpa using jW) (fun d=>by simp[Builtin.firstCells]);obtain⟨aK,q1,q2⟩:=rk (elem:=elem) H r1 (rest:=rest) (by simpa using k1) hl (by simpa using k2) (w.drawn+1);simp only[Nat.zero_add]at k3 ha;rw[ha]at q1 q2;refine⟨aK,_,_,k3,q1,?_⟩;simpa using q2
  ·rename_i b o z len cap;rw[bG]at ha;split at ha
   ·-- nothing is appended
    rename_i h0;rw[beq_iff]at h0;subst h0;simp only[Option.some.injEq,Prod.mk.injEq]at ha;obtain⟨rfl,rfl⟩:=ha;have fin:∀(a':Addr) (cap':Nat),s'= .slice (some a') len cap'→len≤cap'→iN P E base B μ h w (Builtin.append_ #[st,xt] ty #[s',x']) (.slice (some ⟨b,o,some z⟩) len cap) h:=by
     intro a' cap' e GD;subst e;have ra:=(lE (w:=w) (ty:=ty) (base':=some a') (cap:=cap') (len:=len) (old:=[]) hE bU Ny Jq eY CQ hz ib Nz hxz).1 om w (by simp[wH,storeCells]);exact⟨μ,_,w,ra,hs,.refl H⟩
    generalize hv:Value.slice (some ⟨b,o,some z⟩) len cap=v at hs;cases hs with
    |slice hb k1 k2 k3 k4=>cases hv;exact fin _ _ rfl k2
    |cA=>cases hv;exact fin _ _ rfl (Nat.le_refl _)
    |_=>cases hv<;>simp[ar]at*
   ·rename_i h0;rw[beq_iff]at h0;simp only[aj,Bool.and_eq_true,az,beq_iff,Option.bind_eq_some_iff]at ha;obtain⟨⟨hzz,jW⟩,old,hold,new,jL,hl,ha⟩:=ha;subst hzz;obtain⟨tn,r1,r2⟩:=lD (P:=P) H jL hx hn (Nat.le_refl _)
    -- the elder cells
    have US:∃wJ,aq μ old wJ∧(∀d,(Builtin.firstCells z len s').run P {w with drawn:=d}= .ok wJ.toArray {w with drawn:=d}):=
     lD (P:=P) H (x:=.slice (some ⟨b,o,some z⟩) len cap) (x':=s') hold hs rfl (Nat.le_refl _)
    obtain⟨wJ,o1,o2⟩:=US;have UT:old.length=len*z:=by
     unfold M.ai at hold;simp only[Option.bind_eq_some_iff,aM]at hold;obtain⟨cs,_,h3,rfl⟩:=hold;simp at h3 ⊢;omega
    have Jx:aq μ (old++new) (wJ++tn):=o1.append r1;have EZ:(old++new).length=(len+n)*z:=by rw[List.length_append,UT,hl,Nat.add_mul]
    have P6:∀(a':Addr) (cap':Nat),s'= .slice (some a') len cap'→cap'<len+n→∃cY rest,len+n≤cY∧rest.size=(cY - (len+n))*z∧
     (Builtin.append_ #[st,xt] ty #[s',x']).run P w= .ok (.slice (some ⟨w.heap.size,0,none⟩) (len+n) cY) {w with heap:=w.heap.push (.cells ((wJ++tn).toArray++rest) elem (0,0)),drawn:=w.drawn+1}:=by
     intro a' cap' e hc;subst e;obtain⟨cY,rest,q1,q2,q3⟩:=(lE (w:=w) (ty:=ty) (base':=some a') (cap:=cap') (len:=len) (old:=wJ) hE bU Ny Jq eY CQ hz ib Nz r2).2 hc jW o2;refine⟨cY,rest,q1,q2,?_⟩;rw[q3];simp
    rw[bG]at ha;split at ha
    ·-- no room
     rename_i bV;rw[beq_iff]at bV;subst bV;simp only[Option.some.injEq]at ha;have fin:∀(a':Addr) (cap':Nat),s'= .slice (some a') cap cap'→cap'<cap+n→iN P E base B μ h w (Builtin.append_ #[st,xt] ty #[s',x']) v h':=by
      intro a' cap' e hc;obtain⟨cY,rest,q1,q2,q3⟩:=P6 a' cap' e hc;obtain⟨aK,p1,p2⟩:=rk (elem:=elem) H Jx (rest:=rest) q1 EZ q2 (w.drawn+1);rw[ha]at p1 p2;exact⟨aK,_,_,q3,p1,p2⟩
     generalize hv:Value.slice (some ⟨b,o,some z⟩) cap cap=sv at hs;cases hs with
     |slice hb k1 k2 k3 k4=>cases hv;exact fin _ _ rfl (by have:=k3 rfl;omega)
     |cA=>cases hv;exact fin _ _ rfl om
     |_=>cases hv<;>simp[ar]at*
    ·-- the last block of a family goes on
     rename_i bV;rw[beq_iff]at bV;simp only[Option.bind_eq_some_iff,aj,Bool.and_eq_true,az,beq_iff,Option.some.injEq,Prod.mk.injEq]at ha;obtain⟨cs,oz,⟨f,cu,aF⟩,kF,⟨⟨dy,UU⟩,jt⟩,rfl,rfl⟩:=ha;simp only at dy UU;subst UU;obtain⟨cG,CS⟩:∃t,t=(bif Nat.beq (o+len*z) cs.length then aF else h.size):=⟨_,rfl⟩;simp only
     rw[←CS];have yZ:∀x,x<h.size→cG≤x→aF≤x:=by
      intro x hx h7;cases I5:Nat.beq (o+len*z) cs.length<;>rw[I5]at CS<;>simp only[cond_true,cond_false]at CS<;>omega
     have P7:cG<h.size→o+len*z=cs.length:=by
      intro h7;cases I5:Nat.beq (o+len*z) cs.length<;>rw[I5]at CS<;>simp only[cond_true,cond_false]at CS
      ·omega
      ·exact beq_iff.1 I5
     have Uc:∀mt:MT,mt.s+0+(len+n)*z≤mt.n→∀NA,len+n≤NA→mt.s+0+NA*z≤mt.n→
      an (jk μ h.size mt) (.slice (some ⟨h.size,0,some z⟩) (len+n) (len+n+1)) (.slice (some ⟨mt.r,mt.s+0,none⟩) (len+n) NA):=by
      intro mt _ NA hc pU;exact .slice (bB μ h.size mt) om hc (fun h=>by omega) pU
     have E2:∀(a':Addr) (cap':Nat) (m:MT),μ cu=some m→s'= .slice (some a') len cap'→cap'<len+n→iN P E base B μ h w (Builtin.append_ #[st,xt] ty #[s',x']) (.slice (some ⟨h.size,0,some z⟩) (len+n) (len+n+1)) ((h.bm f h.size cG).push (.cells (old++new) f 0 0)):=by
      intro a' cap' m hb e hc;obtain⟨cY,rest,q1,q2,q3⟩:=P6 a' cap' e hc;have Yx:((wJ++tn).toArray++rest).size=cY*z:=by
       have:=Jx.length;simp only[Array.size_append,List.size_toArray,q2,←this,EZ];rw[←Nat.add_mul];congr 1;omega
      let mt:MT:=⟨w.heap.size,0,cY*z⟩
      have hle:cY*z≥(len+n)*z:=Nat.mul_le_mul_right _ q1
      have st:=Step.ext (w':={w with heap:=w.heap.push (.cells ((wJ++tn).toArray++rest) elem (0,0)),drawn:=w.drawn+1}) H cG yZ hb kF dy (cs:=cs) (new:=old++new) mt (by simp) rfl rfl rfl
       ⟨(wJ++tn).toArray++rest,elem,(0,0),by simp[mt],P0 _,Yx,by simp only[mt];omega,fun i v hv=>by
        obtain⟨v',z1,z2⟩:=Jx.get hv;refine⟨v',?_,z2⟩;have hi:=(List.getElem?_eq_some_iff.1 z1).1;simp only[mt,Nat.zero_add];rw[←Array.getElem?_toList,Array.toList_append,List.getElem?_append_left (by simpa using hi)];exact z1⟩ oz
       (fun r hr bc=>by simp only[mt]at bc;simp only[Array.getElem?_push];rw[if_neg om]) H.low (.inl (Nat.le_refl _))
      refine⟨_,_,_,q3,?_,st⟩;have:=Uc mt (by simp only[mt];omega) cY q1 (by simp only[mt];omega);simpa[mt]using this
     generalize hv:Value.slice (some ⟨cu,o,some z⟩) len cap=sv at hs;cases hs with
     |slice hb k1 k2 k3 k4=>
      rename_i b1 o1' z1 NB UW cap' m;cases hv;by_cases pU:len+n≤cap'
      ·-- in place
       obtain⟨c,e,fr,w1,w2,w3,w4,w5⟩:∃c e fr,w.heap[m.r]? =some (.cells c e fr)∧c.size=m.n∧m.s+cs.length≤m.n∧(base≤cu→mL fr m.n)∧∀(i:Nat) v,cs[i]? =some v→∃v',c[m.s+i]? =some v'∧an μ v v':=by
        unfold M.ai at hold;simp only[Option.bind_eq_some_iff]at hold;obtain⟨cs2,ft,_⟩:=hold;obtain⟨_,_,_,h9⟩:=rd_some ft;rw[oz]at h9;cases h9;exact H.read hb ft
       have Yy:=H.c8 cu m _ hb kF;simp only at Yy;have Yz:base≤cu:=by omega
       have Ub:mL fr c.size:=by rw[w2];exact w4 Yz
       have AX:tn.all eF=true:=by
        rw[List.all_eq_true]at jt ⊢;intro v' w9;obtain⟨i,hi,rfl⟩:=List.mem_iff_getElem.1 w9;have abW:=r1.length;have h0:new[i]? =some (new[i]' om):=by simp
        obtain⟨u,q1,q2⟩:=r1.get h0;have:tn[i]? =some tn[i]:=by simp[hi]
        rw[this]at q1;cases q1;exact q2.eF (jt _ (List.getElem_mem _))
       have wq:tn.length=n*z:=by rw[←r1.length];exact hl
       have hmul:(len+n)*z=len*z+n*z:=Nat.add_mul _ _ _;have fS:(len+n)*z≤cap'*z:=Nat.mul_le_mul_right _ pU;obtain⟨w',c',q1,q2,q3,q4⟩:=js (P:=P) (off:=m.s+o+len*z) tn 0 w c Ub w1 AX om;have ra:=(lE (w:=w) (ty:=ty) (base':=some ⟨m.r,m.s+o,none⟩) (cap:=cap') (len:=len) (old:=wJ) hE bU Ny Jq eY CQ hz ib Nz r2).1 pU w' (by simp only[wH,fF];exact q1)
       let mt:MT:=⟨m.r,m.s+o,m.n⟩
       have UX:∀(i:Nat) v,old[i]? =some v→∃v',c[m.s+o+i]? =some v'∧an μ v v':=by
        intro i v hv;unfold M.ai at hold;simp only[Option.bind_eq_some_iff,aM]at hold;obtain⟨cs2,ft,h3,rfl⟩:=hold;obtain⟨_,_,_,h9⟩:=rd_some ft;rw[oz]at h9;cases h9;have hi:=(List.getElem?_eq_some_iff.1 hv).1;simp at hi;rw[List.getElem?_take,if_pos om,List.getElem?_drop]at hv;obtain⟨v',z1,z2⟩:=w5 _ v hv;exact⟨v',by rw[Nat.add_assoc];exact z1,z2⟩
       have st:=Step.ext (w':=w') H cG yZ hb kF dy (cs:=cs) (new:=old++new) mt (by rw[q2.size];exact Nat.le_refl _) q2.tape q2.os q2.output
        ⟨c',e,fr,by rw[q2.get,if_pos rfl],w4 Yz,by rw[q3,w2],by simp only[mt];omega,fun i v hv=>by
         simp only[mt];rw[q4];by_cases hi:i<old.length
         ·rw[List.getElem?_append_left hi]at hv;obtain⟨v',z1,z2⟩:=UX i v hv;refine⟨v',?_,z2⟩;rw[if_neg om];exact z1
         ·rw[List.getElem?_append_right om]at hv;have hi2:=(List.getElem?_eq_some_iff.1 hv).1;obtain⟨v',z1,z2⟩:=r1.get hv;refine⟨v',?_,z2⟩;rw[if_pos om,←z1];congr 1;omega⟩ oz
        (fun r hr bc=>by rw[q2.get,if_neg bc]) (H.own cu m hb Yz)
        (.inr ⟨rfl,rfl,fun h7=>by have:=P7 h7;simp only[mt];omega,fun c2 e2 fr2 hh=>by
         rw[w1]at hh;cases hh;exact⟨c',by rw[q2.get,if_pos rfl],q3,fun h7 i hi=>by have:=P7 h7;rw[q4,if_neg om]⟩⟩)
       refine⟨_,_,w',ra,?_,st⟩;have:=Uc mt (by simp only[mt];omega) cap' pU (by simp only[mt];omega);simpa[mt]using this
      ·exact E2 _ _ m hb rfl om
     |cA hb=>cases hv;obtain⟨m0,hb⟩:=hb om;exact E2 _ _ _ hb rfl om
     |_=>cases hv<;>simp[ar]at*
  ·cases ha
 ·cases ha
end
theorem yY.set (w:World) (r:Nat) (o:Obj) (hr:r<w.heap.size):yY w r o {w with heap:=w.heap.setIfInBounds r o}:=
 ⟨rfl,rfl,rfl,by simp,fun k=>by
  by_cases e:k=r
  ·subst e;rw[if_pos rfl,Array.getElem?_setIfInBounds_self_of_lt hr]
  ·rw[if_neg e,Array.getElem?_setIfInBounds_ne (fun h=>e h.symm)]⟩
theorem bP {P:Program} {w:World} {r:Nat} {o1 o:Obj} (h:w.heap[r]? =some o1) (ho:∀c e f,o1≠ .cells c e f):(setObj r o).run P w= .ok () {w with heap:=w.heap.setIfInBounds r o}:=by
 unfold setObj;simp only[Sem.run,h]
section
variable {P:Program} {E:Env} {μ:ba} {f:AF} {a:Act} {base B:Nat} {h:ah} {w:World}
theorem Jy (hE:bl P E) (H:aX E base B μ h w) {dt ty:TypeId} {d s d' s' v:Value} {h':ah} (ha:Jj E base h dt d s=some (v,h')) (hd:an μ d d') (hs:an μ s s') (ts:Array TypeId) (ht:ts[0]? =some dt):
 iN P E base B μ h w (Builtin.copy_ ts ty #[d',s']) v h':=by
 unfold Jj at ha;simp only[Option.bind_eq_some_iff]at ha;obtain⟨dd,P8,ha⟩:=ha;split at ha
 ·rename_i elem ad yR abY;simp only[Option.bind_eq_some_iff]at ha;obtain⟨size,eY,sl,E3,ha⟩:=ha;have Nz:=AW (P:=P) E3 hs;have hd':∃Ud cap',d'= .slice Ud yR cap':=by cases hd<;>exact⟨_,_,rfl⟩
  obtain⟨Ud,cap',rfl⟩:=hd';have run:∀(cells:List Value) (w':World),(Builtin.firstCells size (Nat.min sl yR) s').run P w= .ok cells.toArray w→(wH Ud 0 cells).run P w= .ok () w'→(Builtin.copy_ ts ty #[.slice Ud yR cap',s']).run P w= .ok (goInt (Nat.min sl yR)) w':=by
   intro cells w' h1 h2;unfold Builtin.copy_;simp only[ht,List.getElem?_toArray,List.getElem?_cons_zero,List.getElem?_cons_succ,Sem.run_bind,ay hE P8 w,Result.andThen_ok,Nz w,ff hE eY w,h1];cases Ud with
   |none=>simp only[wH,Sem.run_pure]at h2;cases h2;simp
   |some aa=>
    simp only[wH]at h2;have:aa.add 0=aa:=by simp[Addr.add]
    rw[this]at h2;simp[h2]
  rw[bG]at ha;split at ha
  ·rename_i h0;rw[beq_iff]at h0;simp only[Option.some.injEq,Prod.mk.injEq]at ha;obtain⟨rfl,rfl⟩:=ha;have pV:(Builtin.firstCells size (Nat.min sl yR) s').run P w= .ok ([]:List Value).toArray w:=by
    rw[h0];unfold kC at E3;split at E3
    ·cases hs with
     |lit hh=>unfold ar at hh;split at hh<;>simp_all[Builtin.firstCells]
     |slice=>simp[Builtin.firstCells,loadCells,loadCellsFrom]
     |cA=>simp[Builtin.firstCells,loadCells,loadCellsFrom]
    ·cases hs with
     |lit hh=>simp[Builtin.firstCells]
    ·cases E3
   have:=run [] w pV (by cases Ud<;>simp[wH,storeCells]);rw[h0]at this;exact⟨μ,_,w,this,.int μ _ _,.refl H⟩
  ·rename_i h0;rw[beq_iff]at h0;split at ha
   ·rename_i b o z;simp only[Option.bind_eq_some_iff,aj,Option.some.injEq,Prod.mk.injEq]at ha;obtain⟨cells,hc,jt,cs,ft,cs',gC,h1,oB,rfl,rfl⟩:=ha;obtain⟨cells',r1,r2⟩:=lD (P:=P) H hc hs E3 (Nat.min_le_left _ _);cases hd with
    |slice hb k1 k2 k3 k4=>
     obtain⟨w',q1,q2⟩:=re (P:=P) H hb ft gC oB r1 jt;exact⟨μ,_,w',run cells' w' (r2 w.drawn) (by simp only[wH,fF];exact q1),.int μ _ _,q2⟩
    |cA=>exact absurd (Nat.min_zero _) h0
    |lit hh=>simp[ar]at hh
   ·cases ha
 ·cases ha
theorem GG (hE:bl P E) (H:aX E base B μ h w) {t ty:TypeId} {x x' v:Value} {h':ah} (ha:oS E base h t x=some (v,h')) (hx:an μ x x') (ts:Array TypeId) (ht:ts[0]? =some t) (args:Array Value) (iT:args[0]? =some x')
 (hu:∃d,E.desc t=some d):iN P E base B μ h w (Builtin.clear_ ts ty args) v h':=by
 obtain⟨d,P8⟩:=hu;unfold oS at ha;split at ha
 ·simp only[Option.some.injEq,Prod.mk.injEq]at ha;obtain⟨rfl,rfl⟩:=ha;have ex:x'= .map none:=by cases hx;rfl
  subst ex;refine⟨μ,.tuple #[],w,?_,an.undef μ,.refl H⟩;unfold Builtin.clear_;simp only[ht,iT,Sem.run_bind,ay hE P8 w,Result.andThen_ok];rfl
 ·simp only[Option.some.injEq,Prod.mk.injEq]at ha;obtain⟨rfl,rfl⟩:=ha;have ex:∃n c,x'= .slice none n c:=by cases hx;exact⟨_,_,rfl⟩
  obtain⟨n,c,rfl⟩:=ex;refine⟨μ,.tuple #[],w,?_,an.undef μ,.refl H⟩;unfold Builtin.clear_;simp only[ht,iT,Sem.run_bind,ay hE P8 w,Result.andThen_ok];rfl
 ·rename_i b o z n cap;have shape:∃a' cap',x'= .slice (some a') n cap':=by
   cases hx with
   |lit hh=>simp[ar]at hh
   |slice=>exact⟨_,_,rfl⟩
   |cA=>exact⟨_,_,rfl⟩
  rw[bG]at ha;split at ha
  ·rename_i h0;rw[beq_iff]at h0;subst h0;simp only[Option.some.injEq,Prod.mk.injEq]at ha;obtain⟨rfl,rfl⟩:=ha;obtain⟨a',cap',rfl⟩:=shape;refine⟨μ,.tuple #[],w,?_,an.undef μ,.refl H⟩;unfold Builtin.clear_;simp only[ht,iT,Sem.run_bind,ay hE P8 w,Result.andThen_ok];rfl
  ·rename_i h0;rw[beq_iff]at h0;simp only[Option.bind_eq_some_iff]at ha;obtain⟨d2,UY,ha⟩:=ha;rw[P8]at UY;cases UY;split at ha
   ·rename_i elem;simp only[Option.bind_eq_some_iff,aj,Option.some.injEq,Prod.mk.injEq]at ha;obtain⟨zv,hz,jt,cs,ft,cs',gC,h1,oB,rfl,rfl⟩:=ha;have o4:=(an.bM μ (hE.zero elem zv hz).2).cells;have AX:(aG zv.cells.toList n).all eF=true:=by
     have:∀k,(aG zv.cells.toList k).all eF=true:=by
      intro k
      induction k with
      |zero=>rfl
      |succ k ih=>simp only[M.aG,List.all_append,jt,ih,Bool.and_self]
     exact this n
    cases hx with
    |lit hh=>simp[ar]at hh
    |slice hb k1 k2 k3 k4=>
     rename_i cap' m;obtain⟨w',q1,q2⟩:=re (P:=P) H hb ft gC oB (o4.aG n) AX;refine⟨μ,.tuple #[],w',?_,an.undef μ,q2⟩;have T8:(Builtin.zeroCells zv.cells n).toList=aG zv.cells.toList n:=by
      unfold Builtin.zeroCells;by_cases wG:0<zv.cells.size
      ·exact pS zv.cells n wG
      ·have e0:zv.cells.size=0:=by omega
       have e1:(aG zv.cells.toList n)=[]:=by
        apply List.eq_nil_of_length_eq_zero;rw[cO];simp[e0]
       rw[e1];simp[e0]
     obtain⟨n',rfl⟩:∃n',n=n'+1:=⟨n - 1,om⟩;unfold Builtin.clear_;simp only[ht,iT,Sem.run_bind,ay hE P8 w,Result.andThen_ok,jo hE hz w,T8,q1,Sem.run_pure]
    |cA=>exact absurd rfl h0
   ·cases ha
 ·rename_i r;simp only[aj,az]at ha;obtain⟨bh,ha⟩:=ha;split at ha
  ·rename_i es clock hg;simp only[Option.some.injEq,Prod.mk.injEq]at ha;obtain⟨rfl,rfl⟩:=ha;obtain⟨m,hb,rfl⟩:=hx.jU;obtain⟨o1,o2,k1,k2,k3⟩:=H.obj r m hb;rw[hg]at k1;cases k1;cases k3 with
   |map hs=>
    have st:=Step.put H hb bh hg rfl rfl (yY.set w m.r (.map #[] clock) (H.lt hb)) (.map (by simpa using b9.nil));refine⟨μ,.tuple #[],_,?_,an.undef μ,st⟩;unfold Builtin.clear_;simp only[ht,iT,Sem.run_bind,ay hE P8 w,Result.andThen_ok,run_getObj_map (P:=P) k2 (fun _ _ _=>by simp),bP (P:=P) k2 (fun _ _ _=>by simp),Sem.run_pure]
  ·cases ha
 ·cases ha
theorem um {kd:TypeDesc} {k:Value}:∀{es:List MapEntry} {i j:Nat} {v:Value},Instr.findNow kd k es i=some (some (j,v))→i≤j∧j<i+es.length
 |[],i,j,v,h=>by simp[Instr.findNow]at h
 |e::es,i,j,v,h=>by
  simp only[Instr.findNow]at h;split at h
  ·simp only[Option.some.injEq,Prod.mk.injEq]at h;obtain⟨rfl,_⟩:=h;simp
  ·have:=um h;simp;omega
  ·cases h
theorem b9.eraseIdx {l l':List MapEntry} (hs:b9 μ l l'):∀i,b9 μ (l.eraseIdx i) (l'.eraseIdx i):=by
 induction hs with
 |nil=>intro i;simpa using b9.nil
 |cons hk hv hb t ih=>intro i;cases i with
  |zero=>simpa using t
  |succ i=>simpa using b9.cons hk hv hb (ih i)
theorem b9.append {l l' k k':List MapEntry} (hs:b9 μ l l') (hk:b9 μ k k'):b9 μ (l++k) (l'++k'):=by
 induction hs with
 |nil=>exact hk
 |cons a b c _ ih=>exact .cons a b c ih
theorem b9.modify {l l':List MapEntry} (hs:b9 μ l l') {g g':MapEntry→MapEntry} (hg:∀e e',an μ e.key e'.key→an μ e.val e'.val→e.born=e'.born→an μ (g e).key (g' e').key∧an μ (g e).val (g' e').val∧(g e).born=(g' e').born):∀i,b9 μ (l.modify i g) (l'.modify i g'):=by
 induction hs with
 |nil=>intro i;simpa using b9.nil
 |cons hk hv hb t ih=>intro i;cases i with
  |zero=>obtain⟨a,b,c⟩:=hg _ _ hk hv hb;simpa using b9.cons a b c t
  |succ i=>simpa using b9.cons hk hv hb (ih i)
theorem Da (hE:bl P E) (H:aX E base B μ h w) {t ty:TypeId} {mv k mv' k' v:Value} {h':ah} (ha:pJ E base h t mv k=some (v,h')) (hm:an μ mv mv') (hk:an μ k k') (ts:Array TypeId) (ht:ts[0]? =some t):
 iN P E base B μ h w (Builtin.delete_ ts ty #[mv',k']) v h':=by
 unfold pJ at ha;simp only[Option.bind_eq_some_iff]at ha;obtain⟨d,hd,ha⟩:=ha;split at ha
 ·rename_i kt et r;simp only[aj,Bool.and_eq_true,az,Option.bind_eq_some_iff]at ha;obtain⟨⟨bh,xi⟩,kd,gB,bU,ha⟩:=ha;split at ha
  ·rename_i es clock hg;obtain⟨m,hb,rfl⟩:=hm.jU;have ek:=hk.ao xi;subst ek;obtain⟨o1,o2,k1,k2,k3⟩:=H.obj r m hb;rw[hg]at k1;cases k1;cases k3 with
   |map hs=>
    rename_i bD;simp only[Option.bind_eq_some_iff]at ha;obtain⟨fr,zd,ha⟩:=ha;obtain⟨I8,q1,q2,q3⟩:=iw hs zd;have AV:(Instr.findKey kt k' bD.toList).run P w= .ok I8 w:=by
     simp only[Instr.findKey,Sem.run_bind,ay hE gB w,Result.andThen_ok,q1,Sem.run_pure]
    have uk:=jr (P:=P) hE gB bU bD.isEmpty 9999 k' w;have nM:=run_getObj_map (P:=P) k2 (fun _ _ _=>by simp);have Jz:=fun o=>bP (P:=P) (o:=o) k2 (fun _ _ _=>by simp);cases fr with
    |none=>
     have e:=q2 rfl;subst e;simp only[Option.some.injEq,Prod.mk.injEq]at ha;obtain⟨rfl,rfl⟩:=ha;have st:=Step.put H hb bh hg rfl rfl (yY.set w m.r (.map bD clock) (H.lt hb)) (.map hs);refine⟨μ,.tuple #[],_,?_,an.undef μ,st⟩;unfold Builtin.delete_;simp only[ht,List.getElem?_toArray,List.getElem?_cons_zero,List.getElem?_cons_succ,Sem.run_bind,ay hE hd w,Result.andThen_ok,nM,uk,AV,Jz,Sem.run_pure]
    |some jv=>
     obtain⟨v',e,hr⟩:=q3 jv.1 jv.2 rfl;subst e;simp only[Option.some.injEq,Prod.mk.injEq]at ha;obtain⟨rfl,rfl⟩:=ha;have bj:=(um zd).2;have hl:=hs.length;have st:=Step.put H hb bh hg rfl rfl (yY.set w m.r (.map (bD.eraseIdxIfInBounds jv.1) clock) (H.lt hb)) (.map (by
      have Q8:jv.1<bD.size:=by simp at hl bj;omega
      have:(bD.eraseIdxIfInBounds jv.1).toList=bD.toList.eraseIdx jv.1:=by
       simp[Array.eraseIdxIfInBounds,Q8]
      rw[this];exact hs.eraseIdx jv.1))
     refine⟨μ,.tuple #[],_,?_,an.undef μ,st⟩;unfold Builtin.delete_;simp only[ht,List.getElem?_toArray,List.getElem?_cons_zero,List.getElem?_cons_succ,Sem.run_bind,ay hE hd w,Result.andThen_ok,nM,uk,AV,Jz,Sem.run_pure]
  ·cases ha
 ·cases ha
end
section
variable {P:Program} {E:Env} {μ:ba} {f:AF} {a:Act} {base B:Nat} {h:ah} {w:World}
theorem AY (hE:bl P E) (H:aX E base B μ h w) {st xt ty:TypeId} {s x s' x' v:Value} {h':ah} (ha:gz E h st xt s x=some (v,h')) (hs:an μ s s') (hx:an μ x x'):
 iN P E base B μ h w (Builtin.append_ #[st,xt] ty #[s',x']) v h':=by
 unfold gz at ha;simp only[Option.bind_eq_some_iff]at ha;obtain⟨sd,bU,xd,Ny,ha⟩:=ha;split at ha
 ·rename_i elem l;simp only[Option.bind_eq_some_iff,aj,Bool.and_eq_true,beq_iff,aI,az,Option.some.injEq]at ha;obtain⟨size,eY,bytes,CQ,z0,hz,⟨⟨⟨⟨Jq,ib⟩,XB⟩,tI⟩,jW⟩,ha⟩:=ha;have es:s'= .slice none 0 0:=by cases hs;rfl
  subst es;have ex:x'= .int .i64 l:=hx.ao rfl;subst ex;obtain⟨ti,M9,Na⟩:=y6 hE CQ;obtain⟨n,hn⟩:∃n:Nat,l=n:=⟨l.toNat,om⟩;subst hn;simp only[Int.toNat_natCast]at tI jW ha;have Yw:n+1≤1099511627776:=Nat.le_trans (Nat.le_mul_of_pos_right _ om) jW;have XC:IntKind.i64.wrap (n:Int)=n:=IntWalk.i64_in _ om;have hmul:((n:Int)*(ti.bytes:Int))≤1099511627776:=by
   rw[M9];have h1:n*bytes≤(n+1)*(bytes+1):=Nat.mul_le_mul om om;have h2:=Int.ofNat_le.2 (Nat.le_trans h1 jW)
   rwa [Int.natCast_mul]at h2
  have Re:¬(((0+n:Nat):Int)>IntKind.i64.max):=by
   have e:IntKind.i64.max=9223372036854775807:=by decide
   rw[e];omega
  have fG:¬(Builtin.nextslicecap (0+n) 0*ti.bytes>2 ^ 48):=by
   have h1:=nextslicecap_le (n:=0+n) (c:=0) om;have h2:Builtin.nextslicecap (0+n) 0*ti.bytes≤16*(0+n)*bytes:=by rw[M9];exact Nat.mul_le_mul_right _ h1
   have h3:16*(0+n)*bytes≤16*((n+1)*(bytes+1)):=by
    rw[Nat.mul_assoc];exact Nat.mul_le_mul_left _ (Nat.mul_le_mul om om)
   have e:(2:Nat) ^ 48=281474976710656:=by decide
   rw[e];omega
  have o4:=(an.bM μ (hE.zero elem z0 hz).2).cells;have T8:Builtin.zeroCells z0.cells n=(aG z0.cells.toList n).toArray:=by
   apply Array.ext';unfold Builtin.zeroCells;rw[pS z0.cells n om]
  have y9:¬n*size=0:=by
   intro e;rcases Nat.mul_eq_zero.1 e with e|e<;>omega
  let nc:=(Question.appendCap (0+n) 0 elem).cut (w.tape w.drawn (Question.appendCap (0+n) 0 elem))
  have CT:n≤nc:=by simp only[nc,Question.cut];omega
  have run:(Builtin.append_ #[st,xt] ty #[.slice none 0 0,.int .i64 (n:Int)]).run P w= .ok (.slice (some ⟨w.heap.size,0,none⟩) n nc) {w with heap:=w.heap.push (.cells ((aG z0.cells.toList n).toArray++Builtin.zeroCells z0.cells (nc - n)) elem (0,0)),drawn:=w.drawn+1}:=by
   unfold Builtin.append_;simp only[List.getElem?_toArray,List.getElem?_cons_zero,List.getElem?_cons_succ,Sem.run_bind,ay hE bU w,ay hE Ny w,Result.andThen_ok,ff hE eY w,Sem.run_pure];split
   ·simp only[if_true,Sem.run_bind,asInt,asIntOf,Sem.run_pure,Result.andThen_ok,XC];rw[if_neg (show¬((n:Nat):Int)<0 by omega)];simp only[Sem.run_bind,Na w,Result.andThen_ok]
    rw[if_neg (show¬((n:Int)*(ti.bytes:Int)>2 ^ 48) by have e:(2:Int) ^ 48=281474976710656:=by decide
                                                       rw[e];omega)]
    simp only[Sem.run_bind,Sem.run_pure,Result.andThen_ok,Int.toNat_natCast];rw[if_neg (show¬(0+n≤0) by omega)];simp only[Sem.run_bind,Na w,Result.andThen_ok];rw[if_neg (fun hh=>Re hh.1)];simp only[Sem.run_bind,Na w,Result.andThen_ok];rw[if_neg fG];simp only[Sem.run_bind,run_choose,Question.forced,Bool.false_eq_true,if_false,Result.andThen_ok,Na _,run_askRoom,Builtin.firstCells,Sem.run_pure,Bool.not_true,y9,jo hE hz _,T8];simp only[nc,Nat.zero_add,Array.empty_append];rfl
   ·rename_i bc;cases xd<;>simp[jj]at Jq;exact absurd rfl (bc _)
  have hlen:(aG z0.cells.toList n).length=n*size:=by rw[cO];simp[ib]
  obtain⟨aK,q1,q2⟩:=rk (elem:=elem) H (o4.aG n) (rest:=Builtin.zeroCells z0.cells (nc - n)) CT hlen (by rw[mR,ib]) (w.drawn+1);rw[ha]at q1 q2;exact⟨aK,_,_,run,q1,q2⟩
 ·cases ha
theorem Db (hE:bl P E) (H:aX E base B μ h w) {b:Builtin} {ts:Array TypeId} {args:List Value} {args':Array Value} {v:Value} {h':ah} (ty:TypeId) (ha:tG E base h b ts.toList args=some (v,h')) (hr:aq μ args args'.toList):
 ∃s,iN P E base B μ h w s v h'∧∀cs,builtin b ts ty cs args'=(do pure (.value (←s))):=by
 obtain⟨ts⟩:=ts;obtain⟨args'⟩:=args';simp only at ha hr;unfold tG at ha;split at ha
 ·cases hr with
  |cons hs hr=>cases hr with
   |cons hx hr=>cases hr with
    |nil=>
     split at ha
     ·rename_i r hr;simp only[Option.some.injEq]at ha;exact⟨_,C9 (ty:=ty) hE H (hr.trans (congrArg some ha)) hs hx,fun _=>rfl⟩
     ·exact⟨_,AY (ty:=ty) hE H ha hs hx,fun _=>rfl⟩
 ·cases hr with
  |cons hs hr=>cases hr with
   |cons hx hr=>cases hr with
    |nil=>exact⟨_,Jy (ty:=ty) hE H ha hs hx _ rfl,fun _=>rfl⟩
 ·cases hr with
  |cons hs hr=>
   simp only[Option.bind_eq_some_iff]at ha;obtain⟨d,hd,ha⟩:=ha;exact⟨_,GG (ty:=ty) hE H ha hs _ rfl _ rfl ⟨d,hd⟩,fun _=>rfl⟩
 ·cases hr with
  |cons hs hr=>cases hr with
   |cons hx hr=>cases hr with
    |nil=>exact⟨_,Da (ty:=ty) hE H ha hs hx _ rfl,fun _=>rfl⟩
 ·cases ha
theorem mS {v:Value} {r:Nat} (h:ly v=some r):v= .pointer (some ⟨r,0,none⟩):=by
 unfold ly at h;split at h<;>simp at h;subst h;rfl
theorem b9.filter {l l':List MapEntry} (hs:b9 μ l l') (p:Nat→Bool):b9 μ (l.filter fun e=>p e.born) (l'.filter fun e=>p e.born):=by
 induction hs with
 |nil=>exact .nil
 |cons hk hv hb t ih=>
  simp only[List.filter_cons,hb];split
  ·exact .cons hk hv hb ih
  ·exact ih
theorem b9.AZ {l l':List MapEntry} (hs:b9 μ l l') (p:Nat→Bool):(l.all fun e=>p e.born)=(l'.all fun e=>p e.born):=by
 induction hs with
 |nil=>rfl
 |cons hk hv hb t ih=>simp only[List.all_cons,hb,ih]
theorem b9.find {l l':List MapEntry} (hs:b9 μ l l') (p:Nat→Bool) {e:MapEntry} (he:l.find? (fun e=>p e.born)=some e):∃e',l'.find? (fun e=>p e.born)=some e'∧an μ e.key e'.key∧an μ e.val e'.val:=by
 induction hs with
 |nil=>simp at he
 |cons hk hv hb t ih=>
  simp only[List.find?_cons]at he ⊢;rw[←hb];split at he
  ·cases he;exact⟨_,rfl,hk,hv⟩
  ·exact ih he
theorem JA (H:aX E base B μ h w) {isStr:Bool} {r:Nat} {m:MT} {v:Value} {h':ah} (ty:TypeId) (ha:EO h isStr r base=some (v,h')) (hb:μ r=some m):
 iN P E base B μ h w (Instr.next (.pointer (some ⟨m.r,0,none⟩)) isStr ty) v h':=by
 unfold EO at ha;simp only[aj,az]at ha;obtain⟨bh,ha⟩:=ha;obtain⟨o1,o2,k1,k2,k3⟩:=H.obj r m hb;split at ha
 ·rename_i s pos hg;rw[hg]at k1;cases k1;cases k3 with
  |gU iu=>
   have nM:=run_getObj_map (P:=P) k2 (fun _ _ _=>by simp);have Jz:=fun o=>bP (P:=P) (o:=o) k2 (fun _ _ _=>by simp);rw[bG]at ha;split at ha
   ·rename_i bj;rw[aI]at bj;simp only[Option.some.injEq,Prod.mk.injEq]at ha;obtain⟨rfl,rfl⟩:=ha;have st:=Step.put H hb bh hg rfl rfl (yY.set w m.r (.stringIter s (pos+(Utf8.decode s pos).2)) (H.lt hb)) (.gU iu);refine⟨μ,_,_,?_,.da (by simpa[goInt]using aq.cons (.bool μ true) (.cons (.int μ .i64 pos) (.cons (.int μ .i32 (Utf8.decode s pos).1) .nil))),st⟩;unfold Instr.next;simp only[Sem.run_bind,nM,Result.andThen_ok];rw[if_pos bj];simp only[Sem.run_bind,Jz,Result.andThen_ok,Sem.run_pure];rfl
   ·rename_i bj;rw[aI]at bj;simp only[Option.some.injEq,Prod.mk.injEq]at ha;obtain⟨rfl,rfl⟩:=ha;refine⟨μ,_,w,?_,.da (by simpa using aq.cons (.bool μ false) .nil),.refl H⟩;unfold Instr.next;simp only[Sem.run_bind,nM,Result.andThen_ok];rw[if_neg bj];rfl
 ·rename_i hg;rw[hg]at k1;cases k1;cases k3 with
  |ke iu=>
   have nM:=run_getObj_map (P:=P) k2 (fun _ _ _=>by simp);simp only[Option.some.injEq,Prod.mk.injEq]at ha;obtain⟨rfl,rfl⟩:=ha;refine⟨μ,_,w,?_,.da (by simpa using aq.cons (.bool μ false) .nil),.refl H⟩;unfold Instr.next;simp only[Sem.run_bind,nM,Result.andThen_ok];rfl
 ·rename_i mm since seen last hg;rw[hg]at k1;cases k1;cases k3 with
  |bY hk iu=>
   rename_i mk;have nM:=run_getObj_map (P:=P) k2 (fun _ _ _=>by simp);have Jz:=fun o=>bP (P:=P) (o:=o) k2 (fun _ _ _=>by simp);split at ha
   ·rename_i es clock JB;obtain⟨p1,p2,j1,j2,j3⟩:=H.obj mm mk hk;rw[JB]at j1;cases j1;cases j3 with
    |map hs=>
     rename_i bD;have Dc:=run_getObj_map (P:=P) j2 (fun _ _ _=>by simp);simp only[aj]at ha;obtain⟨nK,ha⟩:=ha;have hlen:=hs.length;have Rf:bD.isEmpty=es.isEmpty:=by
      cases es<;>cases h9:bD.toList<;>rw[h9]at hlen<;>simp at hlen
      ·have:bD= #[]:=by apply Array.ext';simp[h9]
       simp[this]
      ·have:bD.size≠0:=by have:=congrArg List.length h9;simp at this;omega
       simp[Array.isEmpty,this]
     have kf:(bD.all fun e=>decide (e.born≥last))=es.all (fun e=>Nat.ble last e.born):=by
      rw[←Array.all_toList,←hs.AZ (fun n=>decide (n≥last))]
      congr 1
      funext e
      rw[Bool.eq_iff_iff,az];simp
     have A0:(!seen.toArray.isEmpty&& !bD.isEmpty&&bD.all fun e=>decide (e.born≥last))=false:=by
      rw[Rf,kf];have:seen.toArray.isEmpty=seen.isEmpty:=by cases seen<;>simp
      rw[this];simpa only[Bool.not_eq_true']using nK
     have ot:=hs.filter (fun n=> !seen.contains n);have xj:(bD.filter fun e=> !seen.toArray.contains e.born).toList=bD.toList.filter (fun e=> !seen.contains e.born):=by
      simp
     split at ha
     ·rename_i hf;simp only[Option.some.injEq,Prod.mk.injEq]at ha;obtain⟨rfl,rfl⟩:=ha;rw[hf]at ot;have tI:(bD.filter fun e=> !seen.toArray.contains e.born)= #[]:=by
       apply Array.ext';rw[xj];cases uo:bD.toList.filter (fun e=> !seen.contains e.born)with
       |nil=>rfl
       |cons x y=>rw[uo]at ot;cases ot
      refine⟨μ,_,w,?_,.da (by simpa using aq.cons (.bool μ false) .nil),.refl H⟩;unfold Instr.next;simp only[Sem.run_bind,nM,Dc,Result.andThen_ok,A0,Bool.false_eq_true,if_false,tI];simp[Question.forced]
     ·rename_i e hf;simp only[aj,aI,Option.some.injEq,Prod.mk.injEq]at ha;obtain⟨aaJ,rfl,rfl⟩:=ha;rw[hf]at ot;cases uo:bD.toList.filter (fun e=> !seen.contains e.born)with
      |nil=>rw[uo]at ot;cases ot
      |cons e' rest=>
       rw[uo]at ot;cases ot with
       |cons q1 q2 q3 q4=>cases q4 with
        |nil=>
        have CU:(bD.filter fun e=> !seen.toArray.contains e.born)= #[e']:=by
         apply Array.ext';rw[xj,uo]
        have hbe:e'.born<since:=by omega
        have st:=Step.put (o:=.bY (some mm) since (seen++[e.born]) clock) H hb bh hg rfl rfl (yY.set w m.r (.mapIter (some mk.r) since (seen.toArray.push e'.born) clock) (H.lt hb)) (by
         have:=gP.bY (μ:=μ) (h:=h.put r (.bY (some mm) since (seen++[e.born]) clock)) (base:=base) (b:=r) (m:=m) (since:=since) (last:=clock) (seen:=seen++[e.born]) hk iu;rw[q3]at this ⊢;simpa using this)
        refine⟨μ,_,_,?_,.da (by simpa using aq.cons (.bool μ true) (.cons q1 (.cons q2 .nil))),st⟩;unfold Instr.next;simp only[Sem.run_bind,nM,Dc,Result.andThen_ok,A0,Bool.false_eq_true,if_false,CU];have f1:(#[e'].filter fun x=>decide (x.born<since))= #[e']:=by simp[hbe]
        have f2:(#[e'].filter fun x=>decide (x.born≥since))= #[]:=by simp;omega
        simp only[f1,f2];simp[Question.forced,Jz]
     ·cases ha
   ·cases ha
 ·cases ha
theorem GH (H:aX E base B μ h w) {r:Nat} {m:MT} {v:Value} (ha:mJ h r=some v) (hb:μ r=some m):
 ∃v',an μ v v'∧(Instr.entry (.pointer (some ⟨m.r,0,none⟩))).run P w= .ok v' w:=by
 unfold mJ at ha;obtain⟨o1,o2,k1,k2,k3⟩:=H.obj r m hb;split at ha
 ·rename_i mm since seen EP hg;rw[hg]at k1;cases k1;cases k3 with
  |bY hk iu=>
   rename_i mk;have nM:=run_getObj_map (P:=P) k2 (fun _ _ _=>by simp);split at ha
   ·rename_i es clock JB;obtain⟨p1,p2,j1,j2,j3⟩:=H.obj mm mk hk;rw[JB]at j1;cases j1;cases j3 with
    |map hs=>
     rename_i bD;have Dc:=run_getObj_map (P:=P) j2 (fun _ _ _=>by simp);simp only[Option.bind_eq_some_iff,aj,beq_iff,Option.some.injEq]at ha;obtain⟨AM,h1,h2,e,h3,rfl⟩:=ha;obtain⟨e',q1,q2,q3⟩:=hs.find (fun n=>n==AM) h3;refine⟨_,.da (by simpa using aq.cons q2 (.cons q3 .nil)),?_⟩;have UZ:seen.toArray.back? =some AM:=by simpa using h1
     have U0:bD.find? (fun e=>e.born==AM)=some e':=by rw[←Array.find?_toList];exact q1
     subst h2;unfold Instr.entry;simp only[Sem.run_bind,nM,Dc,Result.andThen_ok,UZ,U0];simp
   ·cases ha
 ·cases ha
end
end Go.M
