/-
  Part 2 of the library that the proof leans on.
-/
import Derived.Test.YteoljjhhdgplnaaGreatDoorL1
namespace Go.M
open Go
theorem Eo:∀(l:List Value) (k off:Nat) (c:Array Value),off+k+l.length≤c.size→
 ((l.zipIdx k).foldl (fun cs p=>cs.setIfInBounds (off+p.2) p.1) c).size=c.size∧
 ∀i,((l.zipIdx k).foldl (fun cs p=>cs.setIfInBounds (off+p.2) p.1) c)[i]? =if off+k≤i∧i<off+k+l.length then l[i - (off+k)]? else c[i]?
 |[],k,off,c,h=>⟨rfl,fun i=>by rw[if_neg (by simp)];rfl⟩
 |v::l,k,off,c,h=>by
  simp only[List.length_cons]at h;have ih:=Eo l (k+1) off (c.setIfInBounds (off+k) v) (by simp;omega);simp only[List.zipIdx_cons,List.foldl_cons];refine⟨by rw[ih.1];simp,fun i=>?_⟩;rw[ih.2 i];by_cases h1:off+(k+1)≤i∧i<off+(k+1)+l.length
  ·rw[if_pos h1,if_pos (by simp;omega)];have:i - (off+k)=(i - (off+(k+1)))+1:=by omega
   rw[this,List.getElem?_cons_succ]
  ·rw[if_neg h1];by_cases h2:i=off+k
   ·subst h2;rw[if_pos (by simp),Array.getElem?_setIfInBounds_self_of_lt om];simp
   ·rw[if_neg (by simp;omega),Array.getElem?_setIfInBounds_ne om]
theorem uX {μ:bD} {place place':Nat→Option (Nat×Nat)} (hp:∀i p,place i=some p→place' i=some p):∀{ps ps':List (Nat×Value)} {cells cs:List Value} {cells':Array Value},
 kD place cells ps=some cs→ax μ cells cells'.toList→(ps.length=ps'.length)→(∀(k:Nat) q,ps[k]? =some q→∃v',ps'[k]? =some (q.1,v')∧aq μ q.2 v')→
 ∃cs',Instr.fill place' cells' ps'=some cs'∧ax μ cs cs'.toList
 |[],ps',cells,cs,cells',h,hr,hl,hq=>by
  cases ps' with
  |nil=>simp only[kD,Option.some.injEq]at h;subst h;exact⟨cells',rfl,hr⟩
  |cons _ _=>simp at hl
 |(i,v)::ps,[],_,_,_,_,_,hl,_=>by simp at hl
 |(i,v)::ps,q'::ps',cells,cs,cells',h,hr,hl,hq=>by
  obtain⟨v',e1,hv⟩:=hq 0 (i,v) rfl;simp only[List.getElem?_cons_zero,Option.some.injEq]at e1;subst e1;simp only at hv;simp only[kD,Option.bind_eq_some_iff,aj,beq_iff]at h;obtain⟨⟨off,size⟩,h1,h2,c1,h3,h4⟩:=h;simp only at h2;obtain⟨s1,s2,s3⟩:=dL h3;have hlen:=hr.length;have Yu:=hv.zF;have Gv:off+v'.cells.toList.length≤cells'.size:=by
   simp at s1 hlen ⊢;omega
  have zf:=Eo v'.cells.toList 0 off cells' om;have wm:ax μ c1 (v'.cells.zipIdx.foldl (fun cs p=>cs.setIfInBounds (off+p.2) p.1) cells').toList:=by
   have e:v'.cells.zipIdx.foldl (fun cs (p:Value×Nat)=>cs.setIfInBounds (off+p.2) p.1) cells'=(v'.cells.toList.zipIdx 0).foldl (fun cs p=>cs.setIfInBounds (off+p.2) p.1) cells':=by
    rw[←Array.foldl_toList];simp
   rw[e];refine .JN ?_ fun j a a' ha zN=>?_
   ·simp only[Array.length_toList];rw[zf.1,s2];simpa using hlen
   ·rw[s3 j]at ha;rw[Array.getElem?_toList,zf.2 j]at zN;simp only[Nat.add_zero]at zN;have adB:v.cells.toList.length=v'.cells.toList.length:=by simpa using Yu
    by_cases hj:off≤j∧j<off+v.cells.toList.length
    ·simp only at ha;rw[if_pos hj]at ha;rw[if_pos (by rw[←adB];exact hj)]at zN;obtain⟨u,k1,k2⟩:=hv.cells.get ha;rw[zN]at k1;cases k1;exact k2
    ·simp only at ha;rw[if_neg hj]at ha;rw[if_neg (by rw[←adB];exact hj)]at zN;obtain⟨u,k1,k2⟩:=hr.get ha;simp[zN]at k1;subst k1;exact k2
  have ih:=uX hp (ps':=ps') h4 wm (by simpa using hl) (fun k q hk=>hq (k+1) q (by simpa using hk));obtain⟨cs',r1,r2⟩:=ih;refine⟨cs',?_,r2⟩;simp only[Instr.fill,hp _ _ h1];have hs:v'.cells.size=size:=by rw[←Yu];exact h2
  rw[if_neg]
  ·exact r1
  ·simp at Gv;simp[hs];omega
def adC (μ:bD) (ps ps':List (Nat×Value)):Prop:=ps.length=ps'.length∧∀(k:Nat) q,ps[k]? =some q→∃v',ps'[k]? =some (q.1,v')∧aq μ q.2 v'
section
variable {P:Program} {E:Env} {μ:bD}
theorem GK (hE:bK P E) (g:Field→Nat×Nat):∀(fs:List Field) (w:World),(∀f∈fs,∃n,E.size f.type=some n∧g f=(f.offset,n))→
 (fs.mapM (m:=Sem) fun f=>do pure (f.offset,←sizeOf f.type)).run P w= .ok (fs.map g) w
 |[],w,_=>by simp
 |f::fs,w,h=>by
  obtain⟨n,h1,h2⟩:=h f (by simp);have ih:=GK hE g fs w (fun x hx=>h x (by simp[hx]));simp only[List.mapM_cons,Sem.run_bind,gF hE h1 w,Result.andThen_ok,Sem.run_pure,ih,List.map_cons,h2]
theorem Vv (hE:bK P E) {t:TypeId} {ps ps':List (Nat×Value)} {v:Value} (h:wa E t ps=some v) (hp:adC μ ps ps'):∃v',aq μ v v'∧fX P (Instr.build t ps'.toArray) v':=by
 unfold wa at h;simp only[Option.bind_eq_some_iff]at h;obtain⟨d,h1,z,h2,h3⟩:=h;have hz:=aq.cG μ (hE.zero t z h2).2;have hzc:ax μ z.cells.toList z.cells.toList:=hz.cells;split at h3
 ·rename_i fields;simp only[aj,Option.bind_eq_some_iff,Option.some.injEq]at h3;obtain⟨ni,cs,h4,rfl⟩:=h3;have Zv:∀f∈fields.toList,∃n,E.size f.type=some n∧(fun f:Field=>(f.offset,(E.size f.type).getD 0)) f=(f.offset,n):=by
   intro f hf;rw[Array.all_eq_true]at ni;obtain⟨i,hi,rfl⟩:=List.mem_iff_getElem.1 hf;have:=ni i (by simpa using hi);obtain⟨n,hn⟩:=Option.isSome_iff_exists.1 this;have U8:E.size (fields.toList[i]).type=some n:=by simpa using hn
   exact⟨n,U8,by simp only[U8,Option.getD_some]⟩
  have Zw:∀i p,tL E fields i=some p→((fields.toList.map (fun f:Field=>(f.offset,(E.size f.type).getD 0))).toArray)[i]? =some p:=by
   intro i p hi;unfold tL at hi;simp only[Option.bind_eq_some_iff,Option.some.injEq]at hi;obtain⟨fd,k1,n,k2,rfl⟩:=hi;simp[k1,k2]
  obtain⟨cs',q1,q2⟩:=uX (μ:=μ) Zw (ps':=ps') h4 hzc hp.1 hp.2;refine⟨.agg cs',.g7 (by simpa using q2),fun w=>?_⟩;have hm:=GK hE (fun f:Field=>(f.offset,(E.size f.type).getD 0)) fields.toList w Zv;unfold Instr.build;simp only[Sem.run_bind,lz hE h2 w,Result.andThen_ok,aM hE h1 w];have Yv:(fields.mapM (m:=Sem) fun f=>do pure (f.offset,←sizeOf f.type)).run P w= .ok (fields.toList.map (fun f:Field=>(f.offset,(E.size f.type).getD 0))).toArray w:=by
   rw[Array.mapM_eq_mapM_toList];simp only[Sem.run_map,hm,Result.andThen_ok]
  simp only[Yv,Result.andThen_ok,q1,Sem.run_pure]
 ·rename_i len elem;simp only[Option.bind_eq_some_iff,Option.some.injEq]at h3;obtain⟨n,h3,cs,h4,rfl⟩:=h3;obtain⟨cs',q1,q2⟩:=uX (μ:=μ) (place':=fun i=>some (i*n,n)) (fun _ _ h=>h) (ps':=ps') h4 hzc hp.1 hp.2;refine⟨.agg cs',.g7 (by simpa using q2),fun w=>?_⟩;unfold Instr.build;simp only[Sem.run_bind,lz hE h2 w,Result.andThen_ok,aM hE h1 w,gF hE h3 w,q1,Sem.run_pure]
 ·cases h3
theorem xI {s:Sem Value} {v:Value} (h:e8 s=some v):fX P s v:=by
 intro w;cases s<;>simp[e8]at h;subst h;rfl
theorem tU (hE:bK P E) {op:BinOp} {t:TypeId} {x y:Operand} {a b a' b':Value} (ha:aq μ a a') (hb:aq μ b b')
 (hg:oR E t x y a b=true):fX P (eqGuard op t x y a' b') ():=by
 intro w;unfold eqGuard;cases op<;>(try rfl)
 all_goals
  simp only[Bool.not_true,Bool.false_eq_true,if_false];split
  ·cases ha with
   |lit _=>cases hb with
    |lit _=>
     simp only[oR]at hg;cases x<;>cases y<;>simp[qf]at hg<;>simp
    |Eg _=>simp[oR]at hg
   |Eg _=>simp[oR]at hg
  ·rename_i u1 u2;cases ha with
   |lit hh=>simp[ay]at hh
   |agg h1 h2=>cases hb with
    |lit hh=>simp[ay]at hh
    |agg k1 k2=>
     simp only[oR]at hg;simp[run_program,(hE.uQ t hg).1]
    |Eg hh=>rcases hh with hh|⟨_,_,hh⟩<;>cases hh
   |Eg hh=>rcases hh with hh|⟨_,_,hh⟩<;>cases hh
  ·rfl
theorem adD (hE:bK P E) {op:BinOp} {t:TypeId} {x y:Operand} {a b a' b' v:Value} (h:zC E op t x y a b=some v) (ha:aq μ a a') (hb:aq μ b b'):
 ∃v',aq μ v v'∧fX P (do eqGuard op t x y a' b';binOp op t a' b') v':=by
 unfold zC at h;split at h
 ·cases ha.ar rfl;cases hb.ar rfl;rename_i k n k' n';have hs:scalar v=true:=by
   simp only[binOp]at h;have:∀s:Sem Value,e8 s=some v→(∃u,s= .pure u∧scalar u=true)→scalar v=true:=by
    rintro s hs ⟨u,rfl,hu⟩;simp[e8]at hs;subst hs;exact hu
   cases op<;>simp only at h<;>(try split at h)<;>
    first
    |(simp[e8,stuck]at h;done)
    |(simp only[e8,Op.intArith,Op.intBits,Op.intCmp,Pure.pure,Option.some.injEq]at h;subst h;rfl)
    |(unfold Op.intDiv at h;split at h
      ·simp[runtimePanic,e8,program,bind,Sem.bind]at h
      ·simp only[e8,Pure.pure,Option.some.injEq]at h;subst h;rfl)
    |(unfold Op.shift at h;split at h
      ·simp[runtimePanic,e8,program,bind,Sem.bind]at h
      ·simp only[e8,Pure.pure,Option.some.injEq]at h;subst h;rfl)
  refine⟨v,.rV μ hs,fun w=>?_⟩;have hg:=tU hE (μ:=μ) (op:=op) (t:=t) (x:=x) (y:=y) (.int μ k n) (.int μ k' n') rfl w;simp only[Sem.run_bind,hg,Result.andThen_ok];exact xI h w
 ·cases ha.ar rfl;cases hb.ar rfl;rename_i s r;have hg:∀w,(eqGuard op t x y (.string s) (.string r)).run P w= .ok () w:=tU hE (μ:=μ) (.string μ s) (.string μ r) rfl;have et:∀q:ByteArray,q.toList=q.data.toList:=fun q=>ByteArray.toList_eq q;split at h<;>(first|(simp only[Option.some.injEq]at h;subst h;refine⟨_,.lit rfl,fun w=>?_⟩;simp only[Sem.run_bind,hg w,Result.andThen_ok];simp[binOp,Op.stringOp,et])|skip)
  ·simp only[aj,decide_eq_true_eq,Option.some.injEq]at h;obtain⟨h1,rfl⟩:=h;refine⟨_,.lit rfl,fun w=>?_⟩;simp only[Sem.run_bind,hg w,Result.andThen_ok];have e:IntKind.i64.max=9223372036854775807:=by decide
   simp only[binOp,Op.stringOp,e];rw[if_neg om];rfl
  ·cases h
 ·rename_i QH Ep;simp only[aj]at h;obtain⟨h1,h2⟩:=h;have hg:=tU hE (op:=op) (t:=t) (x:=x) (y:=y) ha hb h1;have key:∀r,yH E 100 t a b=some r→fX P (Op.equal t a' b') r:=fun r hr=>by
   unfold Op.equal Op.maxDepth;exact adA hE 100 10000 t a b a' b' r om hr ha hb
  have Yw:∀(w:World) r,fX P (Op.equal t a' b') r→(binOp .eql t a' b').run P w= .ok (.bool r) w∧(binOp .neq t a' b').run P w= .ok (.bool !r) w:=by
   intro w r hr;have hh:(∀k n k' n',¬(a'= .int k n∧b'= .int k' n'))∧(∀s r,¬(a'= .string s∧b'= .string r)):=by
    refine⟨?_,?_⟩
    ·rintro k n k' n' ⟨rfl,rfl⟩;cases ha with
     |Eg hh=>rcases hh with hh|⟨_,_,hh⟩<;>cases hh
     |lit _=>cases hb with
      |Eg hh=>rcases hh with hh|⟨_,_,hh⟩<;>cases hh
      |lit _=>exact QH _ _ _ _ rfl rfl
    ·rintro s r ⟨rfl,rfl⟩;cases ha with
     |Eg hh=>rcases hh with hh|⟨_,_,hh⟩<;>cases hh
     |lit _=>cases hb with
      |Eg hh=>rcases hh with hh|⟨_,_,hh⟩<;>cases hh
      |lit _=>exact Ep _ _ rfl rfl
   have uY:(∀k n k' n',¬(a'= .float k n∧b'= .float k' n'))∧(∀k x y k' x' y',¬(a'= .complex k x y∧b'= .complex k' x' y')):=by
    refine⟨?_,?_⟩
    ·rintro k n k' n' ⟨rfl,rfl⟩;cases ha with|lit hx=>simp[ay]at hx|Eg hh=>rcases hh with hh|⟨_,_,hh⟩<;>cases hh
    ·rintro k x y k' x' y' ⟨rfl,rfl⟩;cases ha with|lit hx=>simp[ay]at hx|Eg hh=>rcases hh with hh|⟨_,_,hh⟩<;>cases hh
   have mn:=hr w
   cases a'<;>cases b'<;>
    first
    |exact absurd ⟨rfl,rfl⟩ (hh.1 _ _ _ _)
    |exact absurd ⟨rfl,rfl⟩ (hh.2 _ _)
    |exact absurd ⟨rfl,rfl⟩ (uY.1 _ _ _ _)
    |exact absurd ⟨rfl,rfl⟩ (uY.2 _ _ _ _ _ _)
    |(simp only[binOp];simp only[Sem.run_bind,mn,Result.andThen_ok,Sem.run_pure];exact⟨trivial,trivial⟩)
  split at h2
  ·simp only[Option.bind_eq_some_iff,Option.some.injEq]at h2;obtain⟨r,h3,rfl⟩:=h2;exact⟨_,.bool μ r,fun w=>by simp only[Sem.run_bind,hg w,Result.andThen_ok];exact(Yw w r (key r h3)).1⟩
  ·simp only[Option.bind_eq_some_iff,Option.some.injEq]at h2;obtain⟨r,h3,rfl⟩:=h2;exact⟨_,.bool μ _,fun w=>by simp only[Sem.run_bind,hg w,Result.andThen_ok];exact(Yw w r (key r h3)).2⟩
  ·cases h2
end
theorem ij (r o n:Nat):(⟨r,o,none⟩:Addr).add n=⟨r,o+n,none⟩:=by
 unfold Addr.add;by_cases h:n=0
 ·simp[h]
 ·simp[h]
def uZ (μ:bD) (x x':Option Value):Prop:=match x,x' with
 |none,none=>True
 |some v,some v'=>aq μ v v'
 |_,_=>False
theorem gK {NO y:Nat} {x:Option Value} {n:Nat} (h:cO NO y x=some n):(x=none∧n=NO)∨(∃k i,x=some (.int k i)∧0≤i∧i≤y∧n=i.toNat):=by
 unfold cO at h;split at h
 ·simp at h;exact .inl ⟨rfl,h.symm⟩
 ·simp only[aj,Bool.and_eq_true,decide_eq_true_eq,Option.some.injEq]at h;exact .inr ⟨_,_,rfl,h.1.1,h.1.2,h.2.symm⟩
 ·cases h
theorem eg {P:Program} {k:IntKind} {i:Int} {y:Nat} (h0:0≤i) (h1:i≤y) (code:BoundsCode):fX P (Instr.sliceBound (.int k i) y code) i.toNat:=by
 intro w;simp[Instr.sliceBound,asIntOf,h0,h1]
theorem nj {P:Program} {μ:bD} (isSlice:Bool) {len cap cap':Nat} (NS:len≤cap') {lo hi mx lo' zO QE:Option Value} {m h l:Nat}
 (hm:cO cap len mx=some m) (hh:cO len (bif mx.isSome then m else len) hi=some h) (hg:(hi.isSome||mx.isNone)=true) (hl:cO 0 h lo=some l)
 (rl:uZ μ lo lo') (rh:uZ μ hi zO) (rm:uZ μ mx QE):
 fX P (Instr.sliceBounds isSlice len cap' lo' zO QE) (l,h,if mx.isSome then m else cap')∧l≤h∧h≤len∧(mx.isSome=true→m≤len∧h≤m)∧(mx=none→m=cap):=by
 have key:∀{x x':Option Value} {k:IntKind} {i:Int},x=some (.int k i)→uZ μ x x'→x'=some (.int k i):=by
  intro x x' k i hx hr;subst hx;cases x' with
  |none=>exact hr.elim
  |some v'=>rw[aq.ar hr rfl]
 have GL:∀{x x':Option Value},x=none→uZ μ x x'→x'=none:=by
  intro x x' hx hr;subst hx;cases x' with
  |none=>rfl
  |some v'=>exact hr.elim
 have yJ:l≤h:=by
  rcases gK hl with⟨_,rfl⟩|⟨k,i,_,h0,h1,rfl⟩<;>omega
 rcases gK hm with⟨em,rfl⟩|⟨k,i,em,m0,m1,rfl⟩
 ·have em':=GL em rm;subst em;subst em';simp only[Option.isSome_none,cond_false]at hh;rcases gK hh with⟨eh,rfl⟩|⟨k2,i2,eh,p0,p1,rfl⟩
  ·have eh':=GL eh rh;subst eh;subst eh';refine⟨fun w=>?_,yJ,Nat.le_refl _,fun h=>by simp at h,fun _=>rfl⟩;rcases gK hl with⟨el,rfl⟩|⟨k3,i3,el,q0,q1,rfl⟩
   ·have QI:=GL el rl;subst el;subst QI;simp[Instr.sliceBounds]
   ·have QI:=key el rl;subst el;subst QI;simp[Instr.sliceBounds,eg q0 q1 _ w]
  ·have eh':=key eh rh;subst eh;subst eh';refine⟨fun w=>?_,yJ,om,fun h=>by simp at h,fun _=>rfl⟩;rcases gK hl with⟨el,rfl⟩|⟨k3,i3,el,q0,q1,rfl⟩
   ·have QI:=GL el rl;subst el;subst QI;simp[Instr.sliceBounds,eg p0 (show i2≤(cap':Int) by omega) _ w]
   ·have QI:=key el rl;subst el;subst QI;simp[Instr.sliceBounds,eg p0 (show i2≤(cap':Int) by omega) _ w,eg q0 q1 _ w]
 ·have em':=key em rm;subst em;subst em';simp only[Option.isSome_some,cond_true]at hh;rcases gK hh with⟨eh,rfl⟩|⟨k2,i2,eh,p0,p1,rfl⟩
  ·subst eh;simp at hg
  ·have eh':=key eh rh;subst eh;subst eh';refine⟨fun w=>?_,yJ,om,fun _=>⟨om,om⟩,fun h=>by simp at h⟩;rcases gK hl with⟨el,rfl⟩|⟨k3,i3,el,q0,q1,rfl⟩
   ·have QI:=GL el rl;subst el;subst QI;simp[Instr.sliceBounds,eg m0 (show i≤(cap':Int) by omega) _ w,eg p0 p1 _ w]
   ·have QI:=key el rl;subst el;subst QI;simp[Instr.sliceBounds,eg m0 (show i≤(cap':Int) by omega) _ w,eg p0 p1 _ w,eg q0 q1 _ w]
section
variable {P:Program} {E:Env} {μ:bD}
theorem NT (hE:bK P E) {t:TypeId} {x x' v:Value} {lo hi mx lo' zO QE:Option Value} (h:jf E t x lo hi mx=some v) (hx:aq μ x x') (rl:uZ μ lo lo') (rh:uZ μ hi zO) (rm:uZ μ mx QE):
 ∃v',aq μ v v'∧fX P (Instr.sliceAt t x' lo' zO QE) v':=by
 unfold jf at h;simp only[Option.bind_eq_some_iff]at h;obtain⟨d,hd,h⟩:=h;split at h
 ·rename_i s;cases hx.ar rfl;simp only[aj,Option.bind_eq_some_iff,Option.some.injEq]at h;obtain⟨hm,hh,h1,ll,h2,rfl⟩:=h;have em:mx=none:=by simpa using hm
  subst em
  have em':QE=none:=by cases QE with
   |none=>rfl
   |some v'=>exact rm.elim
  subst em';have gb:=(nj (P:=P) (μ:=μ) false (cap':=s.size) (Nat.le_refl _) (cap:=s.size) (mx:=none) (QE:=none) rfl (by simpa using h1) (by simp) h2 rl rh trivial).1;refine⟨_,.string μ _,fun w=>?_⟩;simp[Instr.sliceAt,aM hE hd w,Instr.slice,gb w]
 ·cases hx with
  |lit _=>
  simp only[Option.bind_eq_some_iff,aj,Option.some.injEq]at h;obtain⟨size,hs,m,hm,hh,h1,hg,ll,h2,rfl⟩:=h;obtain⟨gb,q1,q2,q3,q4⟩:=nj (P:=P) (μ:=μ) true (cap':=0) (Nat.le_refl _) hm h1 hg h2 rl rh rm;refine⟨_,.lit rfl,fun w=>?_⟩;have e0:hh=0:=by omega
  have e1:ll=0:=by omega
  subst e0;subst e1;have e2:(if mx.isSome=true then m else 0)=0:=by
   cases kc:mx.isSome with
   |true=>have:=(q3 kc).1;simp;omega
   |false=>simp
  simp only[Instr.sliceAt,Sem.run_bind,aM hE hd w,Result.andThen_ok,Instr.slice,gb w,gF hE hs w,Sem.run_pure,e2];simp
 ·rename_i elem b o z len cap;simp only[Option.bind_eq_some_iff,aj,beq_iff,Option.some.injEq]at h;obtain⟨size,hs,e,m,hm,hh,h1,hg,ll,h2,rfl⟩:=h;subst e
  have main:∀(a':Addr) (cap':Nat),x'= .slice (some a') len cap'→len≤cap'→∃m',fX P (Instr.sliceAt t x' lo' zO QE) (.slice (some (if m'=ll then a' else a'.add (ll*size))) (hh - ll) (m' - ll))∧
   (m'=if mx.isSome then m else cap')∧ll≤hh∧hh≤len∧(mx.isSome=true→m≤len∧hh≤m)∧(mx=none→m=cap):=by
   intro a' cap' ex NS;obtain⟨gb,q1,q2,q3,q4⟩:=nj (P:=P) (μ:=μ) true NS hm h1 hg h2 rl rh rm;refine⟨if mx.isSome then m else cap',fun w=>?_,rfl,q1,q2,q3,q4⟩;subst ex;simp only[Instr.sliceAt,Sem.run_bind,aM hE hd w,Result.andThen_ok,Instr.slice,gb w,gF hE hs w,Sem.run_pure]
   congr 2
   by_cases hz:(if mx.isSome=true then m else cap')=ll
   ·rw[if_pos hz,if_pos hz]
   ·rw[if_neg hz,if_neg hz];rfl
  cases hx with
  |lit hh=>simp[ay]at hh
  |slice hb k1 k2 k3 k4=>
   rename_i cap' mt;obtain⟨m',g1,e1,q1,q2,q3,q4⟩:=main _ _ rfl k2;refine⟨_,?_,g1⟩;by_cases hz:m'=ll
   ·rw[if_pos hz];have e2:hh - ll=0:=by
     cases kc:mx.isSome with
     |true=>have:=q3 kc;rw[kc]at e1;simp at e1;omega
     |false=>rw[kc]at e1;simp at e1;omega
    rw[e2,show m' - ll=0 by omega];simp only[cu];split<;>exact .dr fun _=>⟨_,hb⟩
   ·rw[if_neg hz,ij];have hmc:m≠ll:=by
     intro e2;cases kc:mx.isSome with
     |true=>rw[kc]at e1;simp at e1;omega
     |false=>
      have:=q4 (by simpa using kc);rw[kc]at e1;simp at e1;have:=k3 om;omega
    simp only[cu,beq_iff,if_neg hmc];have ahR:m'≤cap':=by
     cases kc:mx.isSome with
     |true=>have:=q3 kc;rw[kc]at e1;simp at e1;omega
     |false=>rw[kc]at e1;simp at e1;omega
    have Zx:ll≤m':=by
     cases kc:mx.isSome with
     |true=>have:=q3 kc;rw[kc]at e1;simp at e1;omega
     |false=>rw[kc]at e1;simp at e1;omega
    have e3:mt.s+o+ll*size=mt.s+(o+ll*size):=by omega
    rw[e3];refine .slice hb ?_ ?_ ?_ ?_
    ·cases kc:mx.isSome with
     |true=>have:=q3 kc;omega
     |false=>have:=q4 (by simpa using kc);omega
    ·cases kc:mx.isSome with
     |true=>have:=q3 kc;rw[kc]at e1;simp at e1;omega
     |false=>rw[kc]at e1;simp at e1;omega
    ·intro e4;cases kc:mx.isSome with
     |true=>have:=q3 kc;rw[kc]at e1;simp at e1;omega
     |false=>
      have:=q4 (by simpa using kc);rw[kc]at e1;simp at e1;have:=k3 om;omega
    ·have:ll*size+(m' - ll)*size=m'*size:=by rw[←Nat.add_mul];congr 1;omega
     have:m'*size≤cap'*size:=Nat.mul_le_mul_right _ ahR;omega
  |dr hb=>
   rename_i a';obtain⟨m',g1,e1,q1,q2,q3,q4⟩:=main a' 0 rfl (Nat.le_refl _);refine⟨_,?_,g1⟩;have JO:m'=0:=by
    cases kc:mx.isSome with
    |true=>have:=q3 kc;rw[kc]at e1;simp at e1;omega
    |false=>rw[kc]at e1;simp at e1;omega
   have y8:ll=0:=by omega
   have hh0:hh=0:=by omega
   subst JO;subst y8;subst hh0;simp only[if_true,Nat.sub_zero];simp only[cu];have hk:m≠0→_:=fun hc=>hb (by
    cases kc:mx.isSome with
    |true=>have:=q3 kc;omega
    |false=>have:=q4 (by simpa using kc);omega)
   split
   ·exact .dr fun hc=>hk om
   ·exact .dr fun hc=>hk om
 ·cases h
theorem GM (hE:bK P E) {t:TypeId} {x x' i i' v:Value} (h:fK E t x i=some v) (hx:aq μ x x') (hi:aq μ i i'):∃v',aq μ v v'∧fX P (Instr.indexAt t x' i') v':=by
 unfold fK at h;simp only[Option.bind_eq_some_iff]at h;obtain⟨d,hd,n,hn,h⟩:=h;have ei:∃k,i= .int k n:=by
  unfold Vt at hn;split at hn<;>simp at hn;subst hn;exact⟨_,rfl⟩
 obtain⟨k,rfl⟩:=ei;cases hi.ar rfl;split at h
 ·rename_i len elem b o;simp only[Option.bind_eq_some_iff,aj,Bool.and_eq_true,decide_eq_true_eq,Option.some.injEq]at h;obtain⟨size,hs,⟨h0,h1⟩,rfl⟩:=h;obtain⟨m,hb,rfl⟩:=hx.kP;refine⟨.pointer (some ⟨m.r,m.s+(o+n.toNat*size),none⟩),.ptr hb,fun w=>?_⟩;simp[Instr.indexAt,asIntOf,aM hE hd w,Instr.sureAddr,h0,h1,gF hE hs w,ij,Nat.add_assoc]
 ·rename_i elem b o z len cap;simp only[Option.bind_eq_some_iff,aj,Bool.and_eq_true,decide_eq_true_eq,Option.some.injEq]at h;obtain⟨size,hs,⟨h0,h1⟩,rfl⟩:=h;cases hx with
  |lit hh=>simp[ay]at hh
  |slice hb k1 k2 k3 k4=>
   rename_i cap' m;refine⟨.pointer (some ⟨m.r,m.s+(o+n.toNat*size),none⟩),.ptr hb,fun w=>?_⟩;simp[Instr.indexAt,asIntOf,aM hE hd w,h0,h1,gF hE hs w,ij,Nat.add_assoc]
  |dr=>exact absurd h1 om
 ·cases h
theorem Vw (hE:bK P E) {t:TypeId} {x x' i i' v:Value} (h:we E t x i=some v) (hx:aq μ x x') (hi:aq μ i i'):∃v',aq μ v v'∧fX P (Instr.index t x' i') v':=by
 unfold we at h;simp only[Option.bind_eq_some_iff]at h;obtain⟨d,hd,n,hn,h⟩:=h;have ei:∃k,i= .int k n:=by
  unfold Vt at hn;split at hn<;>simp at hn;subst hn;exact⟨_,rfl⟩
 obtain⟨k,rfl⟩:=ei;cases hi.ar rfl;split at h
 ·rename_i len elem cs;simp only[Option.bind_eq_some_iff,aj,Bool.and_eq_true,decide_eq_true_eq]at h;obtain⟨size,hs,⟨h0,h1⟩,h2⟩:=h;obtain⟨cs',rfl,hr⟩:=hx.fM;obtain⟨v',q1,q2⟩:=En hE (μ:=μ) h2 hr;refine⟨v',q1,fun w=>?_⟩;have e:cs'.toList.toArray=cs':=by simp
  rw[e]at q2;simp only[Instr.index,asIntOf,Sem.run_bind,Sem.run_pure,Result.andThen_ok,aM hE hd w];rw[if_pos ⟨h0,h1⟩];simp only[Sem.run_bind,gF hE hs w,Result.andThen_ok,q2 w]
 ·rename_i s;simp only[aj,decide_eq_true_eq,Option.bind_eq_some_iff,Option.some.injEq]at h;obtain⟨h0,b,hb,rfl⟩:=h;cases hx.ar rfl;refine⟨_,.int μ _ _,fun w=>?_⟩;have e:s[n.toNat]? =some b:=by
   have:=(List.getElem?_eq_some_iff.1 hb);obtain⟨bw,hv⟩:=this;have Zy:n.toNat<s.size:=by simpa using bw
   rw[getElem?_pos s n.toNat Zy];simp only[Option.some.injEq];rw[←hv];rfl
  simp only[Instr.index,asIntOf,Sem.run_bind,Sem.run_pure,Result.andThen_ok,aM hE hd w];rw[if_pos h0,e];rfl
 ·cases h
theorem Zz (hE:bK P E) {s d:TypeId} {x x' v:Value} (h:s8 E s d x=some v) (hx:aq μ x x'):∃v',aq μ v v'∧fX P (convert s d x') v':=by
 unfold s8 at h;simp only[Option.bind_eq_some_iff]at h;obtain⟨ds,h1,dd,h2,h⟩:=h;split at h
 ·rename_i k k' n;cases hx.ar rfl;simp only[Option.some.injEq]at h;subst h;refine⟨_,.int μ _ _,fun w=>?_⟩;unfold convert;simp only[Sem.run_bind,aM hE h1 w,aM hE h2 w,Result.andThen_ok];rfl
 ·rename_i str;cases hx.ar rfl;simp only[Option.some.injEq]at h;subst h;refine⟨_,.string μ _,fun w=>?_⟩;unfold convert;simp only[Sem.run_bind,aM hE h1 w,aM hE h2 w,Result.andThen_ok];cases ds<;>rfl
 ·cases h
theorem QJ (hE:bK P E) {b:Builtin} {ts:Array TypeId} {args:List Value} {args':Array Value} {v:Value} (ty:TypeId) (cs:Array Bool) (h:rU E b ts.toList args=some v) (ha:ax μ args args'.toList):
 ∃v',aq μ v v'∧fX P (builtin b ts ty cs args') (.value v'):=by
 obtain⟨ts⟩:=ts;obtain⟨args'⟩:=args';simp only at h ha;unfold rU at h;split at h
 ·rename_i t ts x xs;cases ha with
  |cons hx _=>
  simp only[Option.bind_eq_some_iff]at h;obtain⟨d,hd,h⟩:=h;split at h
  ·cases hx.ar rfl;simp only[Option.some.injEq]at h;subst h;exact⟨_,.int μ _ _,fun w=>by simp[builtin,Builtin.len_,aM hE hd w,goInt]⟩
  ·simp only[Option.some.injEq]at h;subst h;exact⟨_,.int μ _ _,fun w=>by simp[builtin,Builtin.len_,aM hE hd w,goInt]⟩
  ·simp only[Option.some.injEq]at h;subst h;cases hx with
   |lit hh=>
    rename_i a n c;have:∃q,a=none∧n=0∧c=0∧q=0:=by
     unfold ay at hh;split at hh<;>simp_all
    obtain⟨_,rfl,rfl,rfl,_⟩:=this;exact⟨_,.int μ _ _,fun w=>by simp[builtin,Builtin.len_,aM hE hd w,goInt]⟩
   |slice=>exact⟨_,.int μ _ _,fun w=>by simp[builtin,Builtin.len_,aM hE hd w,goInt]⟩
   |dr=>exact⟨_,.int μ _ _,fun w=>by simp[builtin,Builtin.len_,aM hE hd w,goInt]⟩
  ·simp only[Option.some.injEq]at h;subst h;cases hx;exact⟨_,.int μ _ _,fun w=>by simp[builtin,Builtin.len_,aM hE hd w,goInt]⟩
  ·cases h
 ·simp only[Option.some.injEq]at h;subst h;cases ha with
  |cons hx ha=>cases ha with
   |cons hy ha=>cases ha with
    |nil=>
     cases hx.ar rfl;cases hy.ar rfl;exact⟨_,.int μ _ _,fun w=>by simp[builtin,Builtin.max_,Builtin.max2]⟩
 ·simp only[Option.some.injEq]at h;subst h;cases ha with
  |cons hx ha=>cases ha with
   |cons hy ha=>cases ha with
    |nil=>
     cases hx.ar rfl;cases hy.ar rfl;exact⟨_,.int μ _ _,fun w=>by simp[builtin,Builtin.min_,Builtin.min2]⟩
 ·rename_i t ts;simp only[Option.bind_eq_some_iff]at h;obtain⟨d,hd,h⟩:=h;split at h
  ·simp only[Option.some.injEq]at h;subst h;cases ha with
   |cons hx ha=>cases ha with
    |nil=>
     cases hx with
     |lit hh=>exact⟨_,.int μ _ _,fun w=>by simp[builtin,Builtin.cap_,aM hE hd w,goInt]⟩
  ·cases h
 ·cases h
end
def hZ (E:Env) (μ:bD):Prop:=∀g,E.dN g=true→∃m,μ g=some m∧m.r=g∧m.s=0
section
variable {P:Program} {E:Env} {μ:bD} {f:AF} {a:Act}
theorem bq (hg:hZ E μ) (hf:du μ f a.tmps) {x:Operand} {v:Value} (h:ev E f x=some v):aq μ v (a.eval x):=by
 cases x with
 |tmp t=>simp only[ev,Option.some.injEq]at h;subst h;exact hf.get t
 |const c=>simp only[ev,aj,Option.some.injEq]at h;obtain⟨h1,rfl⟩:=h;exact .cG μ h1
 |global g=>
  simp only[ev,aj,Option.some.injEq]at h;obtain⟨h1,rfl⟩:=h;obtain⟨m,h2,h3,h4⟩:=hg g h1;have:=aq.ptr (o:=0) h2;rw[h3,h4]at this;exact this
 |func g=>simp only[ev,Option.some.injEq]at h;subst h;exact .func rfl (fun i v v' h=>by simp at h) rfl (fun i v v' h=>by simp at h)
theorem kS (hg:hZ E μ) (hf:du μ f a.tmps):∀{xs:List Operand} {vs:List Value},JK E f xs=some vs→ax μ vs (xs.map a.eval)
 |[],vs,h=>by simp only[JK,Option.some.injEq]at h;subst h;exact .nil
 |x::xs,vs,h=>by
  simp only[JK,Option.bind_eq_some_iff,Option.some.injEq]at h;obtain⟨v,h1,l,h2,rfl⟩:=h;exact .cons (bq hg hf h1) (kS hg hf h2)
theorem qm (hg:hZ E μ) (hf:du μ f a.tmps):∀{xs:List (Nat×Operand)} {vs:List (Nat×Value)},jd E f xs=some vs→adC μ vs (xs.map fun p=>(p.1,a.eval p.2))
 |[],vs,h=>by simp only[jd,Option.some.injEq]at h;subst h;exact⟨rfl,fun k q h=>by simp at h⟩
 |(i,x)::xs,vs,h=>by
  simp only[jd,Option.bind_eq_some_iff,Option.some.injEq]at h;obtain⟨v,h1,l,h2,rfl⟩:=h;obtain⟨e1,e2⟩:=qm hg hf h2;refine⟨by simpa using e1,fun k q hk=>?_⟩;cases k with
  |zero=>simp at hk;subst hk;exact⟨_,rfl,bq hg hf h1⟩
  |succ k=>simp at hk;obtain⟨v',q1,q2⟩:=e2 k q hk;exact⟨v',by simpa using q1,q2⟩
theorem wo (hg:hZ E μ) (hf:du μ f a.tmps) {x:Option Operand} {v:Option Value} (h:qd E f x=some v):uZ μ v (x.map a.eval):=by
 cases x with
 |none=>simp only[qd,Option.some.injEq]at h;subst h;trivial
 |some x=>
  simp only[qd,Option.bind_eq_some_iff,Option.some.injEq]at h;obtain⟨u,h1,rfl⟩:=h;exact bq hg hf h1
theorem lE {v:Value} {p:Nat×Nat} (h:jF v=some p):v= .pointer (some ⟨p.1,p.2,none⟩):=by
 unfold jF at h;split at h<;>simp at h;subst h;rfl
theorem GN {v:Value} {n:Int} (h:Vt v=some n):∃k,v= .int k n:=by
 unfold Vt at h;split at h<;>simp at h;subst h;exact⟨_,rfl⟩
theorem zP {v:Value} {n:Bool} (h:Gs v=some n):v= .bool n:=by
 unfold Gs at h;split at h<;>simp at h;subst h;rfl
theorem QK {v:Value} {n:List Value} (h:asA v=some n):∃cs:Array Value,v= .agg cs∧n=cs.toList:=by
 unfold asA at h;split at h<;>simp at h;subst h;exact⟨_,rfl,rfl⟩
theorem Er {op:UnOp} {a v:Value} (h:e8 (Op.unary op a)=some v) (ha:scalar a=true):scalar v=true:=by
 cases op<;>cases a<;>simp[scalar]at ha<;>simp only[Op.unary,Op.intArith,Op.intBits,e8,stuck,Pure.pure,Option.some.injEq]at h<;>first|(subst h;rfl)|cases h
theorem lF (hE:bK P E) {kt:TypeId} {kd:TypeDesc} (h:E.desc kt=some kd) (hs:je kd=true) (e:Bool) (n:Nat) (k:Value):fX P (Instr.checkKey e (n+1) kt k) ():=by
 intro w;cases kd<;>simp[je]at hs<;>simp[Instr.checkKey,aM hE h w]
set_option maxHeartbeats 1000000 in
theorem rX (hE:bK P E) (hg:hZ E μ) (hf:du μ f a.tmps) {o:Oper} {v:Value} (h:aO E f o=some v):∃v',aq μ v v'∧fX P (execOp a.eval o) (.value v'):=by
 obtain⟨dst,op,type,pos,after,guard⟩:=o;cases op
 case move x=>simp only[aO]at h;exact⟨_,bq hg hf h,fun w=>rfl⟩
 case assign x=>simp only[aO]at h;exact⟨_,bq hg hf h,fun w=>rfl⟩
 case pick c x y=>
  simp only[aO,Option.bind_eq_some_iff]at h;obtain⟨cv,h1,b,h2,h3⟩:=h;have e:=zP h2;subst e;have hc:=(bq hg hf h1).ar rfl;cases b with
  |true=>exact⟨_,bq hg hf h3,fun w=>by simp[execOp,hc,asBool]⟩
  |false=>exact⟨_,bq hg hf h3,fun w=>by simp[execOp,hc,asBool]⟩
 case build t parts=>
  simp only[aO,Option.bind_eq_some_iff]at h;obtain⟨ps,h1,h2⟩:=h;obtain⟨v',q1,q2⟩:=Vv hE h2 (qm hg hf h1);refine⟨v',q1,fun w=>?_⟩;have e:(parts.map fun(i,x)=>(i,a.eval x))=(parts.toList.map fun p=>(p.1,a.eval p.2)).toArray:=by
   apply Array.ext';simp
  simp only[execOp,Sem.run_bind];rw[e,q2 w];rfl
 case nilCheck x=>
  simp only[aO,Option.bind_eq_some_iff]at h;obtain⟨u,h1,h2⟩:=h;have hr:=bq hg hf h1;generalize hq:a.eval x=q at hr;unfold nZ at h2;split at h2
  ·simp only[Option.some.injEq]at h2;subst h2;cases hr with
   |lit hh=>simp[ay]at hh
   |ptr hb=>exact⟨_,.ptr hb,fun w=>by simp[execOp,hq]⟩
  ·simp only[Option.some.injEq]at h2;subst h2;cases hr with
   |lit hh=>simp[ay]at hh
   |func h1 h2 h3 h4=>exact⟨_,.func h1 h2 h3 h4,fun w=>by simp[execOp,hq]⟩
  ·simp only[Option.some.injEq]at h2;subst h2;cases hr with
   |lit hh=>simp[ay]at hh
   |yield hb=>exact⟨_,.yield hb,fun w=>by simp[execOp,hq]⟩
  ·cases h2
 case binOp op t x y yt=>
  simp only[aO,Option.bind_eq_some_iff]at h;obtain⟨u,h1,u2,h2,h3⟩:=h;obtain⟨v',q1,q2⟩:=adD hE h3 (bq hg hf h1) (bq hg hf h2);refine⟨v',q1,fun w=>?_⟩;simp only[execOp];rw[Sem.run_bind,q2 w];rfl
 case unOp op t x=>
  simp only[aO,Option.bind_eq_some_iff,aj]at h;obtain⟨u,h1,hs,h2⟩:=h;have e:=(bq hg hf h1).ar hs;refine⟨v,.rV μ (Er h2 hs),fun w=>?_⟩;simp only[execOp,Sem.run_bind,e,xI (P:=P) h2 w,Result.andThen_ok,Sem.run_pure]
 case convert s d x=>
  simp only[aO,Option.bind_eq_some_iff]at h;obtain⟨u,h1,h2⟩:=h;obtain⟨v',q1,q2⟩:=Zz hE h2 (bq hg hf h1);refine⟨v',q1,fun w=>?_⟩;simp only[execOp,Sem.run_bind,q2 w,Result.andThen_ok,Sem.run_pure]
 case makeInterface t x=>
  simp only[aO,Option.bind_eq_some_iff]at h;obtain⟨d,hd,u,h1,h2⟩:=h;refine⟨.iface t (a.eval x),?_,fun w=>?_⟩
  ·split at h2
   ·cases h2
   ·simp only[Option.some.injEq]at h2;subst h2;exact .iface (bq hg hf h1)
  ·simp only[execOp,Sem.run_bind,Instr.makeInterface,aM hE hd w,Result.andThen_ok];split at h2
   ·cases h2
   ·cases d<;>first|rfl |(exfalso;simp at*)
 case makeFunc fn first captured=>
  simp only[aO]at h;split at h
  ·simp only[Option.bind_eq_some_iff,Option.some.injEq]at h;obtain⟨x,h1,y,h2,rfl⟩:=h;have r1:=kS hg hf h1;have r2:=kS hg hf h2;refine⟨.func (.func _) (first.map a.eval) (captured.map a.eval),.func ?_ ?_ ?_ ?_,fun w=>?_⟩
   ·have:=r1.length;simpa using this
   ·intro i u u' hu Zr;obtain⟨u2,k1,k2⟩:=r1.get (i:=i) (v:=u) (by simpa using hu);have:u'=u2:=by
     simp only[Array.getElem?_map]at Zr;simp only[List.getElem?_map,Array.getElem?_toList]at k1;rw[Zr]at k1;exact Option.some.inj k1
    subst this;exact k2
   ·have:=r2.length;simpa using this
   ·intro i u u' hu Zr;obtain⟨u2,k1,k2⟩:=r2.get (i:=i) (v:=u) (by simpa using hu);have:u'=u2:=by
     simp only[Array.getElem?_map]at Zr;simp only[List.getElem?_map,Array.getElem?_toList]at k1;rw[Zr]at k1;exact Option.some.inj k1
    subst this;exact k2
   ·simp[execOp,Instr.makeFunc]
  ·cases h
 case slice t x lo hi mx=>
  simp only[aO,Option.bind_eq_some_iff]at h;obtain⟨u,h1,l,h2,hh,h3,m,h4,h5⟩:=h;obtain⟨v',q1,q2⟩:=NT hE h5 (bq hg hf h1) (wo hg hf h2) (wo hg hf h3) (wo hg hf h4);refine⟨v',q1,fun w=>?_⟩;simp only[execOp,Sem.run_bind,q2 w,Result.andThen_ok,Sem.run_pure]
 case fieldAddr s x fd=>
  simp only[aO,Option.bind_eq_some_iff]at h;obtain⟨d,hd,u,h1,p,h2,h3⟩:=h;have e:=lE h2;subst e;obtain⟨m,hb,ex⟩:=(bq hg hf h1).kP;split at h3
  ·simp only[Option.bind_eq_some_iff,aj,bc,Option.some.injEq]at h3;obtain⟨fl,h4,n,h5,h6,rfl⟩:=h3;refine⟨.pointer (some ⟨m.r,m.s+(p.2+fl.offset),none⟩),.ptr hb,fun w=>?_⟩;have hn:n≠0:=by omega
   simp[execOp,Instr.fieldAt,aM hE hd w,h4,ex,Instr.sureAddr,fieldPlace,gF hE h5 w,hn,ij,Nat.add_assoc]
  ·cases h3
 case field t x fd=>
  simp only[aO,Option.bind_eq_some_iff]at h;obtain⟨d,hd,u,h1,cs,h2,h3⟩:=h;obtain⟨ca,e,rfl⟩:=QK h2;subst e;obtain⟨cs',ex,hr⟩:=(bq hg hf h1).fM;split at h3
  ·simp only[Option.bind_eq_some_iff]at h3;obtain⟨fl,h4,h5⟩:=h3;obtain⟨v',q1,q2⟩:=En hE (μ:=μ) h5 hr;have e:cs'.toList.toArray=cs':=by simp
   rw[e]at q2;refine⟨v',q1,fun w=>?_⟩;simp only[execOp,Instr.field,Sem.run_bind,aM hE hd w,Result.andThen_ok,h4,ex,asAgg,Sem.run_pure,q2 w]
  ·cases h3
 case indexAddr t x ix=>
  simp only[aO,Option.bind_eq_some_iff]at h;obtain⟨u,h1,u2,h2,h3⟩:=h;obtain⟨v',q1,q2⟩:=GM hE h3 (bq hg hf h1) (bq hg hf h2);refine⟨v',q1,fun w=>?_⟩;simp only[execOp,Sem.run_bind,q2 w,Result.andThen_ok,Sem.run_pure]
 case index t x ix=>
  simp only[aO,Option.bind_eq_some_iff]at h;obtain⟨u,h1,u2,h2,h3⟩:=h;obtain⟨v',q1,q2⟩:=Vw hE h3 (bq hg hf h1) (bq hg hf h2);refine⟨v',q1,fun w=>?_⟩;simp only[execOp,Sem.run_bind,q2 w,Result.andThen_ok,Sem.run_pure]
 case extract t ix=>
  simp only[aO,Option.bind_eq_some_iff]at h;obtain⟨u,h1,h2⟩:=h;split at h2
  ·obtain⟨oW,ex,hr⟩:=(bq hg hf h1).NP;obtain⟨v',k1,k2⟩:=hr.get h2;refine⟨v',k2,fun w=>?_⟩;have k1':oW[ix]? =some v':=by simpa using k1
   simp[execOp,Instr.extract,ex,k1']
  ·cases h2
 case lookup t x ix ok=>
  simp only[aO,Option.bind_eq_some_iff]at h;obtain⟨d,hd,m,h1,k,h2,h3⟩:=h;split at h3
  ·rename_i kt elem;simp only[Option.bind_eq_some_iff,aj,Bool.and_eq_true,Option.some.injEq]at h3;obtain⟨kd,ji,z,hz,⟨⟨s1,s2⟩,s3⟩,rfl⟩:=h3;have e1:a.eval x= .map none:=by
    have:=bq hg hf h1;generalize a.eval x=q at this;cases this;rfl
   have e2:=(bq hg hf h2).ar s2;have ahS:∀w,(Instr.checkKey true 10000 kt k).run P w= .ok () w:=fun w=>lF hE ji s1 true 9999 k w;have GO:∀w,(Instr.findKey kt k []).run P w= .ok none w:=by
    intro w;simp[Instr.findKey,aM hE ji w,Instr.findNow]
   refine⟨(if ok then .tuple #[z,.bool false]else z),?_,fun w=>?_⟩
   ·have tV:=aq.cG μ s3;cases ok with
    |true=>simp only[cond_true,if_true];exact .dS (by simpa using ax.cons tV (.cons (.bool μ false) .nil))
    |false=>simpa using tV
   ·simp[execOp,Instr.lookup,aM hE hd w,e1,e2,ahS w,GO w,lz hE hz w]
  ·cases h3
 case call c=>
  simp only[aO]at h;split at h
  ·rename_i b hb;simp only[Option.bind_eq_some_iff]at h;obtain⟨args,h1,h2⟩:=h;have hr:=kS hg hf h1;obtain⟨v',q1,q2⟩:=QJ hE (ts:=c.argTypes) (args':=c.args.map a.eval) type (c.args.map fun | .const _=>true|_=>false) h2 (by simpa using hr);refine⟨v',q1,fun w=>?_⟩;simp only[execOp,resolve,hb,Sem.run_bind,Sem.run_pure,Result.andThen_ok,invoke];exact q2 w
  ·cases h
 all_goals(simp only[aO]at h;cases h)
end
theorem dE (z:List Value):∀n,(aW z n).length=n*z.length
 |0=>by simp[aW]
 |n+1=>by simp[aW,dE z n,Nat.add_mul];omega
theorem xJ (z:List Value):∀(n i:Nat),i<n*z.length→(aW z n)[i]? =z[i % z.length]?
 |0,i,h=>by simp at h
 |n+1,i,h=>by
  simp only[aW];by_cases hi:i<z.length
  ·rw[List.getElem?_append_left hi,Nat.mod_eq_of_lt hi]
  ·rw[List.getElem?_append_right om,xJ z n (i - z.length) (by rw[Nat.add_mul]at h;omega)]
   congr 1
   rw[←Nat.mod_eq_sub_mod om]
theorem ax.aW {μ:bD} {z:List Value} (h:ax μ z z):∀n,ax μ (aW z n) (aW z n)
 |0=>.nil
 |n+1=>h.append (h.aW n)
theorem u3 (z:Array Value) (n:Nat) (hz:0<z.size):((Array.range (n*z.size)).map (z[· % z.size]!)).toList=aW z.toList n:=by
 apply List.ext_getElem?;intro i;by_cases hi:i<n*z.size
 ·rw[xJ z.toList n i (by simpa using hi)];have hm:i % z.size<z.size:=Nat.mod_lt _ hz;simp[hi,hm]
 ·have h1:(aW z.toList n)[i]? =none:=by
   rw[List.getElem?_eq_none_iff,dE];simpa using hi
  rw[h1];simp;omega
section
variable {P:Program} {E:Env} {μ:bD} {f:AF} {a:Act}
structure QL (P:Program) (μ:bD) (s:Sem Next) (md:Made) (hd:tM) (o':Obj) (n:Nat) (hv:Nat→Value):Prop where
 run:∀w:World,s.run P w= .ok (.value (hv w.heap.size)) {w with heap:=w.heap.push o'}
 val:∀(bd:bD) b r,bd b=some ⟨r,0,n⟩→aq bd (hd.val b) (hv r)
 obj:∀(bd:bD) h base b r,μ.le bd→jA bd h base b ⟨r,0,n⟩ (md.obj b) o'
theorem oe {cs cs':List Value} (hr:ax μ cs cs') (e:TypeId) (bd:bD) (h:ah) (base b r:Nat) (hle:μ.le bd) (f dj aS:Nat) (rest:Array Value) (c:Array Value) (hc:c.toList=cs'++rest.toList):
 jA bd h base b ⟨r,0,c.size⟩ (.cells cs f dj aS) (.cells c e (0,0)):=by
 have hl:=hr.length;have hs:c.size=cs'.length+rest.size:=by
  have:=congrArg List.length hc;simpa using this
 refine .cells rfl (by simp only;omega) (fun _=>Yr _) fun _ i v hv=>?_;obtain⟨v',h1,h2⟩:=hr.get hv;refine⟨v',?_,h2.mono hle⟩;have hi:=(List.getElem?_eq_some_iff.1 h1).1;rw[←Array.getElem?_toList,hc,Nat.zero_add,List.getElem?_append_left hi];exact h1
theorem oX (hE:bK P E) (hg:hZ E μ) (hf:du μ f a.tmps) {o:Oper} {md:Made} {hd:tM} (h:bt E f o=some (md,hd)):
 ∃o' n hv,QL P μ (execOp a.eval o) md hd o' n hv:=by
 obtain⟨dst,op,type,pos,after,guard⟩:=o;cases op
 case alloc t=>
  simp only[bt,Option.bind_eq_some_iff,Option.some.injEq,Prod.mk.injEq]at h;obtain⟨z,hz,rfl,rfl⟩:=h;have tV:=(aq.cG μ (hE.zero t z hz).2).cells;refine⟨.cells z.cells t (0,0),z.cells.size,fun r=>.pointer (some ⟨r,0,none⟩),fun w=>?_,fun bd b r hb=>?_,fun bd h base b r hle=>?_⟩
  ·simp[execOp,Instr.alloc,lz hE hz w,newVar,newRow]
  ·have:=aq.ptr (o:=0) hb;simpa[tM.val]using this
  ·exact oe tV t bd h base b r hle _ _ _ #[] z.cells (by simp)
 case box t x=>
  simp only[bt,Option.bind_eq_some_iff,Option.some.injEq,Prod.mk.injEq]at h;obtain⟨v,hv,rfl,rfl⟩:=h;have hr:=(bq hg hf hv).cells;refine⟨.cells (a.eval x).cells t (0,0),(a.eval x).cells.size,fun r=>.pointer (some ⟨r,0,none⟩),fun w=>?_,fun bd b r hb=>?_,fun bd h base b r hle=>?_⟩
  ·simp[execOp,Instr.box,newVar,newRow]
  ·have:=aq.ptr (o:=0) hb;simpa[tM.val]using this
  ·exact oe hr t bd h base b r hle _ _ _ #[] _ (by simp)
 case buildSlice t len parts=>
  simp only[bt,Option.bind_eq_some_iff]at h;obtain⟨d,Jy,ps,h1,h2⟩:=h;split at h2
  ·rename_i elem;simp only[Option.bind_eq_some_iff,aj,Bool.and_eq_true,aL,beq_iff,Option.some.injEq,Prod.mk.injEq]at h2;obtain⟨n,hn,z,hz,⟨hk,jZ⟩,cs,h3,rfl,rfl⟩:=h2;have hp:=qm hg hf h1;have tV:=(aq.cG μ (hE.zero elem z hz).2).cells
   let gL:Array Value:=(aW z.cells.toList len).toArray
   obtain⟨cs',q1,q2⟩:=uX (μ:=μ) (place':=fun i=>some (i*n,n)) (fun _ _ h=>h) (cells':=gL) (ps':=parts.toList.map fun p=>(p.1,a.eval p.2)) h3 (by simpa[gL]using tV.aW len) hp.1 hp.2;have fq:cs.length=len*n:=by
    have:∀{ps:List (Nat×Value)} {c r:List Value},kD (fun i=>some (i*n,n)) c ps=some r→r.length=c.length:=by
     intro ps
     induction ps with
     |nil=>intro c r h;simp only[kD,Option.some.injEq]at h;subst h;rfl
     |cons p ps ih=>
      intro c r h;simp only[kD,Option.bind_eq_some_iff,aj]at h;obtain⟨q,_,_,c1,h4,h5⟩:=h;rw[ih h5,(dL h4).2.1]
    rw[this h3,dE];simp[jZ]
   refine⟨.cells cs' elem (0,0),cs'.size,fun r=>.slice (some ⟨r,0,none⟩) len len,fun w=>?_,fun bd b r hb=>?_,fun bd h base b r hle=>?_⟩
   ·have e:(parts.map fun(i,x)=>(i,a.eval x))=(parts.toList.map fun p=>(p.1,a.eval p.2)).toArray:=by
     apply Array.ext';simp
    have ZA:len*n=0→∀g:Nat→Value,(Array.range (len*n)).map g=gL:=by
     intro h0 g;apply Array.ext';have:(aW z.cells.toList len)=[]:=by
      apply List.eq_nil_of_length_eq_zero;rw[dE];simpa[jZ]using h0
     simp[h0,gL,this]
    have ZB:len*n≠0→(Array.range (len*n)).map (z.cells[· % z.cells.size]!)=gL:=by
     intro h0;apply Array.ext';have BW:0<z.cells.size:=by
      rw[jZ];exact Nat.pos_of_ne_zero fun e=>h0 (by rw[e];simp)
     have:=u3 z.cells len BW;rw[jZ]at this;simp only[gL];rw[←this,jZ]
    unfold execOp;simp only[Sem.run_bind,Instr.buildSlice,aM hE Jy w,Result.andThen_ok,gF hE hn w];rw[if_neg om];by_cases h0:len*n=0
    ·rw[if_pos h0];simp only[Sem.run_bind,Sem.run_pure,Result.andThen_ok];rw[ZA h0,e,q1];rfl
    ·rw[if_neg h0];simp only[Sem.run_bind,Sem.run_pure,Result.andThen_ok,lz hE hz w];rw[ZB h0,e,q1];rfl
   ·have:=aq.slice (o:=0) (z:=n) hb (Nat.le_refl len) (Nat.le_refl len) (fun h=>h) (by simp only;have:=q2.length;simp at this;omega);simpa[tM.val]using this
   ·exact oe q2 elem bd h base b r hle _ _ _ #[] cs' (by simp)
  ·cases h2
 case makeMap t r=>
  cases r with
  |none=>
   simp only[bt,Option.some.injEq,Prod.mk.injEq]at h;obtain⟨rfl,rfl⟩:=h;refine⟨.map #[] 0,0,fun r=>.map (some r),fun w=>?_,fun bd b r hb=>?_,fun bd h base b r hle=>?_⟩
   ·simp[execOp,Instr.makeMap]
   ·exact .map hb
   ·exact .map (by simpa using cZ.nil)
  |some r=>simp only[bt]at h;cases h
 case makeSlice t l c=>
  simp only[bt,Option.bind_eq_some_iff]at h;obtain⟨d,Jy,lv,h1,cv,h2,l1,h3,c1,h4,h5⟩:=h;obtain⟨k1,e1⟩:=GN h3;subst e1;obtain⟨k2,e2⟩:=GN h4;subst e2;have el:=(bq hg hf h1).ar rfl;have ec:=(bq hg hf h2).ar rfl;split at h5
  ·rename_i elem;simp only[Option.bind_eq_some_iff,aj,Bool.and_eq_true,beq_iff,decide_eq_true_eq,Option.some.injEq,Prod.mk.injEq]at h5;obtain⟨n,hn,bytes,hb,z,hz,⟨⟨⟨jZ,y8⟩,NS⟩,mM⟩,rfl,rfl⟩:=h5;obtain⟨ti,Gw,U9⟩:=Em hE hb;have tV:=(aq.cG μ (hE.zero elem z hz).2).cells;obtain⟨ln,rfl⟩:=Int.eq_ofNat_of_zero_le y8;obtain⟨cn,rfl⟩:=Int.eq_ofNat_of_zero_le (show 0≤c1 by omega);have ahT:ln≤cn:=by omega
   have ahU:(cn+1)*(bytes+1)≤1099511627776:=by
    have:(((cn+1)*(bytes+1):Nat):Int)≤1099511627776:=by push_cast;exact mM
    omega
   have hcn:cn+1≤1099511627776:=Nat.le_trans (Nat.le_mul_of_pos_right _ om) ahU;have hbc:bytes*cn≤1099511627776:=by
    have:bytes*cn≤(cn+1)*(bytes+1):=by rw[Nat.mul_comm];exact Nat.mul_le_mul om om
    omega
   let gL:Array Value:=(aW z.cells.toList cn).toArray
   refine⟨.cells gL elem (0,0),gL.size,fun r=>.slice (some ⟨r,0,none⟩) ln cn,fun w=>?_,fun bd b r hb=>?_,fun bd h base b r hle=>?_⟩
   ·have wl:IntKind.i64.wrap (ln:Int)=ln:=IntWalk.i64_in _ om;have wc:IntKind.i64.wrap (cn:Int)=cn:=IntWalk.i64_in _ om;have nt:(decide ((cn:Int)<0)||decide ((ti.bytes:Int)*(cn:Int)>2 ^ 48))=false:=by
     rw[Gw];have:((bytes*cn:Nat):Int)≤1099511627776:=by omega
     simp only[Bool.or_eq_false_iff,decide_eq_false_iff_not];refine⟨om,?_⟩;have e:(2:Int) ^ 48=281474976710656:=by decide
     rw[e]
     push_cast at this
     omega
    have ZA:cn*n=0→∀g:Nat→Value,(Array.range (cn*n)).map g=gL:=by
     intro h0 g;apply Array.ext';have:(aW z.cells.toList cn)=[]:=by
      apply List.eq_nil_of_length_eq_zero;rw[dE];simpa[jZ]using h0
     simp[h0,gL,this]
    have ZB:cn*n≠0→(Array.range (cn*n)).map (z.cells[· % z.cells.size]!)=gL:=by
     intro h0;apply Array.ext';have BW:0<z.cells.size:=by
      rw[jZ];exact Nat.pos_of_ne_zero fun e=>h0 (by rw[e];simp)
     have:=u3 z.cells cn BW;rw[jZ]at this;simp only[gL];rw[←this,jZ]
    unfold execOp;simp only[Sem.run_bind,Instr.makeSlice,aM hE Jy w,Result.andThen_ok,el,ec,asInt,asIntOf,Sem.run_pure,U9 w,wl,wc,nt];rw[if_neg (by simp;omega)];simp only[Sem.run_bind,run_askRoom,Result.andThen_ok,gF hE hn w,Int.toNat_natCast];by_cases h0:cn*n=0
    ·rw[if_pos h0];simp only[Sem.run_bind,Sem.run_pure,Result.andThen_ok];rw[ZA h0];rfl
    ·rw[if_neg h0];simp only[Sem.run_bind,Sem.run_pure,Result.andThen_ok,lz hE hz w];rw[ZB h0];rfl
   ·have s9:gL.size=cn*n:=by simp[gL,dE,jZ]
    by_cases e:ln=cn
    ·subst e;have:=aq.slice (o:=0) (z:=n) hb (Nat.le_refl ln) (Nat.le_refl ln) (fun h=>h) (by simp only;omega);simpa[tM.val]using this
    ·have:=aq.slice (o:=0) (z:=n) (len:=ln) (cap:=ln+1) (cap':=cn) hb om ahT (fun h=>by omega) (by simp only;omega);simpa[tM.val,e,cu]using this
   ·have ZC:aW z.cells.toList cn=aW z.cells.toList ln++aW z.cells.toList (cn - ln):=by
     have:∀a b,aW z.cells.toList (a+b)=aW z.cells.toList a++aW z.cells.toList b:=by
      intro a b
      induction a with
      |zero=>simp[M.aW]
      |succ a ih=>rw[Nat.succ_add];simp[M.aW,ih]
     rw[←this];congr 1;omega
    exact oe (tV.aW ln) elem bd h base b r hle _ _ _ (aW z.cells.toList (cn - ln)).toArray gL (by simp[gL,ZC])
  ·cases h5
 case range t x=>
  simp only[bt,Option.bind_eq_some_iff]at h;obtain⟨d,Jy,v,h1,h2⟩:=h;split at h2
  ·rename_i s;simp only[Option.some.injEq,Prod.mk.injEq]at h2;obtain⟨rfl,rfl⟩:=h2;have ex:=(bq hg hf h1).ar rfl;refine⟨.stringIter s 0,0,fun r=>.pointer (some ⟨r,0,none⟩),fun w=>?_,fun bd b r hb=>?_,fun bd h base b r hle=>.jE rfl⟩
   ·simp[execOp,Instr.range,aM hE Jy w,ex]
   ·have:=aq.ptr (o:=0) hb;simpa[tM.val]using this
  ·simp only[Option.some.injEq,Prod.mk.injEq]at h2;obtain⟨rfl,rfl⟩:=h2;have ex:a.eval x= .map none:=by
    have:=bq hg hf h1;generalize a.eval x=q at this;cases this;rfl
   refine⟨.mapIter none 0 #[] 0,0,fun r=>.pointer (some ⟨r,0,none⟩),fun w=>?_,fun bd b r hb=>?_,fun bd h base b r hle=>.nh rfl⟩
   ·simp[execOp,Instr.range,aM hE Jy w,ex]
   ·have:=aq.ptr (o:=0) hb;simpa[tM.val]using this
  ·cases h2
 all_goals(simp only[bt]at h;cases h)
end
theorem run_getObj_map {P:Program} {w:World} {r:Nat} {o:Obj} (h:w.heap[r]? =some o) (ho:∀c e f,o≠ .cells c e f):(getObj r).run P w= .ok o w:=by
 unfold getObj;simp only[Sem.run,h]
theorem ke {μ:bD} {kd:TypeDesc} {k:Value}:∀{es cb:List MapEntry} {i:Nat} {r:Option (Nat×Value)},cZ μ es cb→Instr.findNow kd k es i=some r→
 ∃r',Instr.findNow kd k cb i=some r'∧(r=none→r'=none)∧(∀j v,r=some (j,v)→∃v',r'=some (j,v')∧aq μ v v')
 |[],cb,i,r,h,hr=>by
  cases h with
  |nil=>simp only[Instr.findNow,Option.some.injEq]at hr;subst hr;exact⟨none,rfl,fun _=>rfl,fun j v h=>by cases h⟩
 |e::es,cb,i,r,h,hr=>by
  cases h with
  |cons hk hv hb t=>
   rename_i e' cb;have hs:∀b,Instr.sameNow kd k e.key=some b→e'.key=e.key:=by
    intro b hs;have:scalar e.key=true:=by
     unfold Instr.sameNow at hs;split at hs
     ·rename_i h2;rw[h2];rfl
     ·rename_i h2;rw[h2];rfl
     ·rename_i h2;rw[h2];rfl
     ·cases hs
    exact hk.ar this
   simp only[Instr.findNow]at hr ⊢;split at hr
   ·rename_i hq;rw[hs _ hq,hq];simp only[Option.some.injEq]at hr;subst hr;exact⟨_,rfl,(fun h=>by cases h),fun j v h=>(by cases h;exact⟨_,rfl,hv⟩)⟩
   ·rename_i hq;rw[hs _ hq,hq];exact ke t hr
   ·cases hr
theorem run_loadCells {P:Program} {w:World} {a:Addr}:∀(n i:Nat) (acc:Array Value) (l:List Value),l.length=n→(∀(k:Nat) v,l[k]? =some v→w.cell? (a.add (i+k))=some v)→(loadCellsFrom a i n acc).run P w= .ok (acc++l.toArray) w
 |0,i,acc,l,h,_=>by
  have:l=[]:=List.eq_nil_of_length_eq_zero h;subst this;simp[loadCellsFrom]
 |n+1,i,acc,[],h,_=>by simp at h
 |n+1,i,acc,v::l,h,hc=>by
  have h0:=hc 0 v rfl;have ih:=run_loadCells (P:=P) n (i+1) (acc.push v) l (by simpa using h) (fun k u hu=>by have:=hc (k+1) u (by simpa using hu);rw[←this];congr 2;omega);simp only[Nat.add_zero]at h0;simp only[loadCellsFrom,Sem.run_bind,run_load,h0,Result.andThen_ok,ih];simp
section
variable {P:Program} {E:Env} {μ:bD} {f:AF} {a:Act} {base B:Nat} {h:ah} {w:World}
theorem bB.CG (H:bB E base B μ h w) {b o n:Nat} {m:MT} (hb:μ b=some m) {l:List Value} (hr:M.ai h b o n=some l):
 ∃l',ax μ l l'∧∀(i:Nat) v,l'[i]? =some v→w.cell? ⟨m.r,m.s+o+i,none⟩=some v:=by
 obtain⟨h1,h2⟩:=H.ai hb hr;have key:∀(l:List Value) (k:Nat),(∀(i:Nat) v,l[i]? =some v→∃v',w.cell? ⟨m.r,m.s+o+k+i,none⟩=some v'∧aq μ v v')→∃l',ax μ l l'∧∀(i:Nat) v,l'[i]? =some v→w.cell? ⟨m.r,m.s+o+k+i,none⟩=some v:=by
  intro l
  induction l with
  |nil=>intro k _;exact⟨[],.nil,fun i v h=>by simp at h⟩
  |cons v l ih=>
   intro k hl;obtain⟨v',q1,q2⟩:=hl 0 v rfl;obtain⟨l',r1,r2⟩:=ih (k+1) fun i u hu=>by
    obtain⟨u',k1,k2⟩:=hl (i+1) u (by simpa using hu);exact⟨u',by rw[←k1];congr 2;omega,k2⟩
   refine⟨v'::l',.cons q2 r1,fun i u hu=>?_⟩;cases i with
   |zero=>simp at hu;subst hu;simpa using q1
   |succ i=>
    simp at hu;rw[←r2 i u hu];congr 2;omega
 obtain⟨l',r1,r2⟩:=key l 0 (by simpa using h2);exact⟨l',r1,by simpa using r2⟩
theorem qn (hE:bK P E) {t:TypeId} {agg:Bool} {n:Nat} (hs:fi E t=some (agg,n)) {r o:Nat} {l':List Value} (hl:l'.length=n) (hc:∀(i:Nat) v,l'[i]? =some v→w.cell? ⟨r,o+i,none⟩=some v) {v':Value}
 (hv:da agg l'=some v'):(loadVar t ⟨r,o,none⟩).run P w= .ok v' w:=by
 obtain⟨d,k1,k2,k3,k4⟩:=xG hs;unfold loadVar;simp only[Sem.run_bind,L7 hE k1 w,Result.andThen_ok,k2];cases agg with
 |true=>
  simp only[da,Option.some.injEq]at hv;subst hv;simp only[if_true,Sem.run_bind,gF hE (k3 rfl) w,Result.andThen_ok,loadCells];rw[run_loadCells n 0 #[] l' hl (fun k v hv=>by rw[ij];simpa using hc k v hv)];simp
 |false=>
  have:=k4 rfl;subst this
  match l',hl with
  |[u],_=>
   simp only[da,Option.some.injEq]at hv;subst hv;have:=hc 0 u rfl;simp only[Nat.add_zero]at this;simp[this]
theorem wq (hE:bK P E) (hf:du μ f a.tmps) (H:bB E base B μ h w) {o:Oper} {q:RQ} {v:Value} (hq:bP E f o=some q) (hv:q.run h=some v):
 ∃v',aq μ v v'∧(execOp a.eval o).run P w= .ok (.value v') w:=by
 have hg:hZ E μ:=H.dN;obtain⟨dst,op,type,pos,after,guard⟩:=o;cases op
 case load t x=>
  simp only[bP,Option.bind_eq_some_iff,Option.some.injEq]at hq;obtain⟨u,h1,p,h2,⟨agg,n⟩,h3,rfl⟩:=hq;have e:=lE h2;subst e;obtain⟨m,hb,ex⟩:=(bq hg hf h1).kP;simp only[RQ.run,Option.bind_eq_some_iff]at hv;obtain⟨l,h4,h5⟩:=hv;obtain⟨l',r1,r2⟩:=H.CG hb h4;obtain⟨v',q1,q2⟩:=jY h5 r1;refine⟨v',q2,?_⟩;have hl:l'.length=n:=by rw[←r1.length];exact(H.ai hb h4).1
  simp only[execOp,Instr.loadAt,Sem.run_bind,ex,Instr.sureAddr,Sem.run_pure,Result.andThen_ok];rw[qn hE h3 hl r2 q1];rfl
 case lookup t x ix ok=>
  simp only[bP,Option.bind_eq_some_iff]at hq;obtain⟨d,hd,mv,h1,k,h2,h3⟩:=hq;split at h3
  ·rename_i kt elem r;simp only[Option.bind_eq_some_iff,aj,Bool.and_eq_true,Option.some.injEq]at h3;obtain⟨kd,ji,z,hz,⟨⟨s1,s2⟩,s3⟩,rfl⟩:=h3;obtain⟨m,hb,ex⟩:=(bq hg hf h1).mE;have ek:=(bq hg hf h2).ar s2;simp only[RQ.run,Option.bind_eq_some_iff]at hv;obtain⟨⟨es,clock⟩,h4,h5⟩:=hv;obtain⟨o1,o2,k1,k2,k3⟩:=H.obj r m hb;have hm:h.get r=some (.map es clock):=by
    unfold fj at h4;split at h4<;>simp at h4;obtain⟨rfl,rfl⟩:=h4;assumption
   rw[hm]at k1;cases k1;cases k3 with
   |map hs=>
    rename_i cb;have rZ:=run_getObj_map (P:=P) k2 (fun _ _ _=>by simp);simp only[kx,Option.bind_eq_some_iff,Option.some.injEq]at h5;obtain⟨fr,h6,h7⟩:=h5;obtain⟨Qj,q1,q2,q3⟩:=ke hs h6;have tV:=aq.cG μ s3;have GO:(Instr.findKey kt k cb.toList).run P w= .ok Qj w:=by
     simp only[Instr.findKey,Sem.run_bind,aM hE ji w,Result.andThen_ok,q1,Sem.run_pure]
    have yK:=lF (P:=P) hE ji s1 cb.isEmpty 9999 k w;have fin:∀(u u':Value) (b:Bool),aq μ u u'→aq μ (bif ok then .tuple #[u,.bool b]else u) (if ok=true then .tuple #[u',.bool b]else u'):=by
     intro u u' b hu;cases ok with
     |true=>simp only[cond_true,if_true];exact .dS (by simpa using ax.cons hu (.cons (.bool μ b) .nil))
     |false=>simpa using hu
    cases fr with
    |none=>
     have e:=q2 rfl;subst e;simp only at h7;subst h7;refine⟨_,fin z z false tV,?_⟩;simp only[execOp,Instr.lookup,Sem.run_bind,aM hE hd w,Result.andThen_ok,ex,ek,rZ,Sem.run_pure,yK,GO,lz hE hz w]
    |some jv=>
     obtain⟨v',e,hr⟩:=q3 jv.1 jv.2 rfl;subst e;simp only at h7;subst h7;refine⟨_,fin jv.2 v' true hr,?_⟩;simp only[execOp,Instr.lookup,Sem.run_bind,aM hE hd w,Result.andThen_ok,ex,ek,rZ,Sem.run_pure,yK,GO]
  ·cases h3
 case call c=>
  simp only[bP]at hq;split at hq
  ·rename_i t ts Es ZD;simp only[Option.bind_eq_some_iff]at hq;obtain⟨d,hd,args,h1,h2⟩:=hq;split at h2
   ·rename_i kt et r rest;simp only[Option.some.injEq]at h2;subst h2;have hr:=kS hg hf h1;cases mn:c.args.toList.map a.eval with
    |nil=>rw[mn]at hr;cases hr
    |cons u us=>
     rw[mn]at hr;cases hr with
     |cons hx _=>
      obtain⟨m,hb,rfl⟩:=hx.mE;simp only[RQ.run,Option.bind_eq_some_iff,Option.some.injEq]at hv;obtain⟨⟨es,clock⟩,h4,rfl⟩:=hv;obtain⟨o1,o2,k1,k2,k3⟩:=H.obj r m hb;have hm:h.get r=some (.map es clock):=by
       unfold fj at h4;split at h4<;>simp at h4;obtain⟨rfl,rfl⟩:=h4;assumption
      rw[hm]at k1;cases k1;cases k3 with
      |map hs=>
       rename_i cb;have rZ:=run_getObj_map (P:=P) k2 (fun _ _ _=>by simp);have e0:(c.args.map a.eval)[0]? =some (.map (some m.r)):=by
        have:(c.args.map a.eval).toList= .map (some m.r)::us:=by simpa using mn
        rw[←Array.getElem?_toList,this];rfl
       have e1:c.argTypes[0]? =some t:=by rw[←Array.getElem?_toList,ZD];rfl
       refine⟨goInt cb.size,?_,?_⟩
       ·have:=hs.length;simp only[Array.length_toList]at this;rw[this];exact .int μ _ _
       ·simp only[execOp,resolve,Es,Sem.run_bind,Sem.run_pure,Result.andThen_ok,invoke,builtin,Builtin.len_,e0,e1,aM hE hd w,rZ]
   ·cases h2
  ·cases hq
 all_goals(simp only[bP]at hq;cases hq)
end
theorem Et {v:Value} (h:fU v=true):v.oneCell'=true:=by cases v<;>simp[fU]at h<;>rfl
theorem lK {P:Program} {r off:Nat} {e:TypeId} {fr:Nat×Nat}:∀(vs:List Value) (i:Nat) (w:World) (c:Array Value),qi fr c.size→w.heap[r]? =some (.cells c e fr)→vs.all fU=true→off+i+vs.length≤c.size→
 ∃w' c',(storeCells ⟨r,off,none⟩ vs i).run P w= .ok () w'∧Ej w r (.cells c' e fr) w'∧c'.size=c.size∧∀k,c'[k]? =if off+i≤k∧k<off+i+vs.length then vs[k - (off+i)]? else c[k]?
 |[],i,w,c,_,hw,_,_=>by
  refine⟨w,c,by simp[storeCells],⟨rfl,rfl,rfl,rfl,fun k=>?_⟩,rfl,fun k=>?_⟩
  ·by_cases e:k=r
   ·subst e;rw[if_pos rfl,hw]
   ·rw[if_neg e]
  ·rw[if_neg (by simp)]
 |v::vs,i,w,c,hnf,hw,lL,hb=>by
  simp only[List.all_cons,Bool.and_eq_true]at lL;simp only[List.length_cons]at hb;have QM:w.cell? ⟨r,off+i,none⟩=some (c[off+i]' om):=by
   simp only[World.cell?,hw];simp
  have v8:w.frozen? ⟨r,off+i,none⟩=false:=by
   have:=hnf.at (off+i) om;simp only[World.frozen?,hw];simpa using this
  let w1:=w.setCell ⟨r,off+i,none⟩ v
  have eW:∀k,w1.heap[k]? =if k=r then some (.cells (c.setIfInBounds (off+i) v) e fr)else w.heap[k]? :=by
   intro k;simp only[w1,World.setCell,Array.getElem?_modify];by_cases ek:k=r
   ·subst ek;rw[if_pos rfl,if_pos rfl,hw];simp
   ·rw[if_neg (fun h=>ek h.symm),if_neg ek]
  obtain⟨w',c',q1,q2,q3,q4⟩:=lK (P:=P) (off:=off) vs (i+1) w1 (c.setIfInBounds (off+i) v) (by simpa using hnf) (by rw[eW,if_pos rfl]) lL.2 (by simp;omega);refine⟨w',c',?_,⟨q2.tape,q2.os,q2.output,by rw[q2.size];simp[w1,World.setCell],fun k=>?_⟩,by rw[q3];simp,fun k=>?_⟩
  ·simp only[storeCells,Sem.run_bind,ij,run_store P w _ v .plain (Et lL.1),QM,v8];simp only[Bool.false_eq_true,if_false,Result.andThen_ok];exact q1
  ·rw[q2.get];by_cases ek:k=r
   ·rw[if_pos ek,if_pos ek]
   ·rw[if_neg ek,if_neg ek,eW,if_neg ek]
  ·rw[q4 k];by_cases h1:off+(i+1)≤k∧k<off+(i+1)+vs.length
   ·rw[if_pos h1,if_pos (by simp;omega)];have:k - (off+i)=(k - (off+(i+1)))+1:=by omega
    rw[this,List.getElem?_cons_succ]
   ·rw[if_neg h1];by_cases h2:k=off+i
    ·subst h2;rw[if_pos (by simp),Array.getElem?_setIfInBounds_self_of_lt (show off+i<c.size by omega)];simp
    ·rw[if_neg (by simp;omega),Array.getElem?_setIfInBounds_ne om]
theorem CH (n:Nat):∀(rounds c:Nat),256≤c→Builtin.growBy n rounds c≤c*2 ^ rounds
 |0,c,_=>by simp[Builtin.growBy]
 |k+1,c,h=>by
  simp only[Builtin.growBy];split
  ·exact Nat.le_mul_of_pos_right _ (Nat.pow_pos om)
  ·have h1:c+(c+768) / 4≤c*2:=by omega
   have:=CH n k (c+(c+768) / 4) om
   calc _≤(c+(c+768) / 4)*2 ^ k:=this
    _≤(c*2)*2 ^ k:=Nat.mul_le_mul_right _ h1
    _=c*2 ^ (k+1):=by rw[Nat.pow_succ,Nat.mul_assoc,Nat.mul_comm 2]
theorem nextslicecap_le {n c:Nat} (h:c<n):Builtin.nextslicecap n c≤16*n:=by
 unfold Builtin.nextslicecap;split
 ·omega
 ·split
  ·omega
  ·have:=CH n 4 c om;omega
section
variable {P:Program} {E:Env} {μ:bD} {f:AF} {a:Act} {base B:Nat} {h:ah} {w:World}
theorem GP {x x':Value} {n:Nat} (h:nY x=some n) (hr:aq μ x x'):fX P (Builtin.lenOf x') n:=by
 unfold nY at h;split at h
 ·simp only[Option.some.injEq]at h;subst h;intro w;cases hr<;>rfl
 ·simp only[Option.some.injEq]at h;subst h;cases hr;intro w;rfl
 ·cases h
theorem oY (H:bB E base B μ h w) {size n L:Nat} {x x':Value} {l:List Value} (h1:fL h size n x=some l) (hr:aq μ x x') (hL:nY x=some L) (hn:n≤L):
 ∃l',ax μ l l'∧∀d,(Builtin.firstCells size n x').run P {w with drawn:=d}= .ok l'.toArray {w with drawn:=d}:=by
 unfold fL at h1;split at h1
 ·rename_i b o z len cap;cases hr with
  |lit hh=>simp[ay]at hh
  |slice hb k1 k2 k3 k4=>
   rename_i cap' m;obtain⟨l',r1,r2⟩:=H.CG hb h1;refine⟨l',r1,fun d=>?_⟩;simp only[Builtin.firstCells,loadCells];have hl:l'.length=n*size:=by rw[←r1.length];exact(H.ai hb h1).1
   rw[run_loadCells (n*size) 0 #[] l' hl (fun k v hv=>by rw[ij];have:=r2 k v hv;simpa[World.cell?]using this)];simp
  |dr=>
   simp only[nY,Option.some.injEq]at hL;have ta:n=0:=by omega
   subst ta;unfold M.ai at h1;simp only[Option.bind_eq_some_iff,bf]at h1;obtain⟨cs,_,_,rfl⟩:=h1;refine⟨[],by simpa using ax.nil,fun d=>?_⟩;simp[Builtin.firstCells,loadCells,loadCellsFrom]
 ·rename_i len cap;simp only[Option.some.injEq]at h1;subst h1;cases hr with
  |lit hh=>exact⟨[],.nil,fun d=>by simp[Builtin.firstCells]⟩
 ·rename_i s;simp only[Option.some.injEq]at h1;subst h1;cases hr.ar rfl;refine⟨_,ax.cG μ (by
   rw[List.all_eq_true];intro v hv;obtain⟨u,_,rfl⟩:=List.mem_map.1 hv;rfl),fun d=>?_⟩
  simp only[Builtin.firstCells,Sem.run_pure]
  congr 1
  apply Array.ext';simp[List.extract_eq_take_drop]
 ·cases h1
theorem wu (H:bB E base B μ h w) {b o:Nat} {m:MT} (hb:μ b=some m) {cs cs' vs oW:List Value} {h':ah} (gW:h.rd b=some cs) (ft:dz cs o vs=some cs') (lM:h.wr base b cs'=some h')
 (hr:ax μ vs oW) (lL:vs.all fU=true):∃w',(storeCells ⟨m.r,m.s+o,none⟩ oW).run P w= .ok () w'∧Step E base B μ h w μ h' w':=by
 obtain⟨c,e,fr,k1,k2,k3,k4,k5⟩:=H.read hb gW;obtain⟨f,aS,bG,_,_,_⟩:=L5 lM;have hnf:qi fr c.size:=by rw[k2];exact k4 bG
 obtain⟨s1,s2,s3⟩:=dL ft;have hl:=hr.length;have GQ:oW.all fU=true:=by
  rw[List.all_eq_true]at lL ⊢;intro v' CE;obtain⟨i,hi,rfl⟩:=List.mem_iff_getElem.1 CE;have h0:vs[i]? =some (vs[i]' om):=by simp
  obtain⟨u,q1,q2⟩:=hr.get h0;have:oW[i]? =some oW[i]:=by simp[hi]
  rw[this]at q1;cases q1;exact q2.fU (lL _ (List.getElem_mem _))
 obtain⟨w',c',q1,q2,q3,q4⟩:=lK (P:=P) oW 0 w c hnf k1 GQ (off:=m.s+o) om;obtain⟨r,_,_,s9⟩:=rd_some gW;refine⟨w',q1,Step.wr H hb s9 s2 lM k1 q3 q2 fun i v hv=>?_⟩;rw[s3 i]at hv;rw[q4 (m.s+i)];by_cases hi:o≤i∧i<o+vs.length
 ·rw[if_pos hi]at hv;rw[if_pos om];obtain⟨v',z1,z2⟩:=hr.get hv;exact⟨v',by rw[←z1];congr 1;omega,z2⟩
 ·rw[if_neg hi]at hv;rw[if_neg om];exact k5 i v hv
end
section
variable {P:Program} {E:Env} {μ:bD} {f:AF} {a:Act} {base B:Nat} {h:ah} {w:World}
def BX (b:Option Addr) (k:Nat) (new:List Value):Sem Unit:=match b with|some a=>storeCells (a.add k) new|none=>pure ()
theorem qo (z:Array Value) (n:Nat):(Builtin.zeroCells z n).size=n*z.size:=by simp[Builtin.zeroCells]
theorem oZ (hE:bK P E) {st xt ty elem:TypeId} {xd:TypeDesc} {size bytes n len cap:Nat} {z0:Value} {base':Option Addr} {x':Value} {old new:List Value}
 (bz:E.desc st=some (.slice elem)) (Vx:E.desc xt=some xd) (QH:lq xd=false) (hs:E.size elem=some size) (Jz:E.bytes elem=some bytes) (hz:E.zero elem=some z0) (jZ:z0.cells.size=size)
 (Vy:fX P (Builtin.lenOf x') n)
 (ml:∀d,(Builtin.firstCells size n x').run P {w with drawn:=d}= .ok new.toArray {w with drawn:=d}):
 (len+n≤cap→∀w',(BX base' (len*size) new).run P w= .ok () w'→(Builtin.append_ #[st,xt] ty #[.slice base' len cap,x']).run P w= .ok (.slice base' (len+n) cap) w')∧
 (cap<len+n→(len+n+1)*(bytes+1)≤1099511627776→(∀d,(Builtin.firstCells size len (.slice base' len cap)).run P {w with drawn:=d}= .ok old.toArray {w with drawn:=d})→∃dO rest,len+n≤dO∧rest.size=(dO - (len+n))*size∧
  (Builtin.append_ #[st,xt] ty #[.slice base' len cap,x']).run P w= .ok (.slice (some ⟨w.heap.size,0,none⟩) (len+n) dO) {w with heap:=w.heap.push (.cells (old.toArray++new.toArray++rest) elem (0,0)),drawn:=w.drawn+1}):=by
 obtain⟨ti,Gw,U9⟩:=Em hE Jz;have hw:({w with drawn:=w.drawn}:World)=w:=rfl;constructor
 ·intro mq w' QO;unfold Builtin.append_;simp only[List.getElem?_toArray,List.getElem?_cons_zero,List.getElem?_cons_succ,Sem.run_bind,aM hE bz w,aM hE Vx w,Result.andThen_ok,gF hE hs w,Sem.run_pure];split
  ·simp[lq]at QH
  simp only[Bool.false_eq_true,if_false,Sem.run_bind,Vy w,Result.andThen_ok];rw[if_pos mq];have:=ml w.drawn;simp only[Bool.not_false,if_true,Sem.run_bind];rw[show(Builtin.firstCells size n x').run P w= .ok new.toArray w from this];cases base' with
  |none=>
   simp only[BX,Sem.run_pure]at QO;cases QO;simp
  |some a=>
   simp only[BX]at QO;simp[QO]
 ·intro adH mM hold;have hn1:len+n+1≤1099511627776:=Nat.le_trans (Nat.le_mul_of_pos_right _ om) mM;have ZE:¬(((len+n:Nat):Int)>IntKind.i64.max):=by
   have e:IntKind.i64.max=9223372036854775807:=by decide
   rw[e];omega
  have ik:¬(Builtin.nextslicecap (len+n) cap*ti.bytes>2 ^ 48):=by
   have h1:=nextslicecap_le adH;have h2:Builtin.nextslicecap (len+n) cap*ti.bytes≤16*(len+n)*bytes:=by rw[Gw];exact Nat.mul_le_mul_right _ h1
   have h3:16*(len+n)*bytes≤16*((len+n+1)*(bytes+1)):=by
    rw[Nat.mul_assoc];exact Nat.mul_le_mul_left _ (Nat.mul_le_mul om om)
   have e:(2:Nat) ^ 48=281474976710656:=by decide
   rw[e];omega
  let nc:=(Question.appendCap (len+n) cap elem).cut (w.tape w.drawn (Question.appendCap (len+n) cap elem))
  refine⟨nc,Builtin.zeroCells z0.cells (nc - (len+n)),?_,by rw[qo,jZ],?_⟩
  ·simp only[nc,Question.cut];omega
  ·unfold Builtin.append_;simp only[List.getElem?_toArray,List.getElem?_cons_zero,List.getElem?_cons_succ,Sem.run_bind,aM hE bz w,aM hE Vx w,Result.andThen_ok,gF hE hs w,Sem.run_pure];split
   ·simp[lq]at QH
   simp only[Bool.false_eq_true,if_false,Sem.run_bind,Vy w,Result.andThen_ok];rw[if_neg om];simp only[Sem.run_bind,U9 w,Result.andThen_ok];rw[if_neg (fun hh=>ZE hh.1)];simp only[Sem.run_bind,U9 w,Result.andThen_ok];rw[if_neg ik];have ho:=hold (w.drawn+1);have hn:=ml (w.drawn+1);simp only[Sem.run_bind,run_choose,Question.forced,Bool.false_eq_true,if_false,Result.andThen_ok,U9 _,run_askRoom,ho,hn,Bool.not_false,if_true,lz hE hz _];rfl
end
section
variable {P:Program} {E:Env} {μ:bD} {f:AF} {a:Act} {base B:Nat} {h:ah} {w:World}
def kz (P:Program) (E:Env) (base B:Nat) (μ:bD) (h:ah) (w:World) (s:Sem Value) (v:Value) (h':ah):Prop:=
 ∃bd v' w',s.run P w= .ok v' w'∧aq bd v v'∧Step E base B μ h w bd h' w'
theorem wv (H:bB E base B μ h w) {cs:List Value} {cs':List Value} (hr:ax μ cs cs') {rest:Array Value} {elem:TypeId} {size len dO:Nat} (hl:len≤dO) (hlen:cs.length=len*size) (GJ:rest.size=(dO - len)*size) (d:Nat):
 ∃bd,aq bd (fresh h cs size len).1 (.slice (some ⟨w.heap.size,0,none⟩) len dO)∧
  Step E base B μ h w bd (fresh h cs size len).2 {w with heap:=w.heap.push (.cells (cs'.toArray++rest) elem (0,0)),drawn:=d}:=by
 have hs:(cs'.toArray++rest).size=dO*size:=by
  have:=hr.length;simp only[Array.size_append,List.size_toArray,GJ,←this,hlen];rw[←Nat.add_mul];congr 1;omega
 have hd:=Step.drawn H d;have dh:=GI.mk' {w with drawn:=d} (.cells (cs'.toArray++rest) elem (0,0));have st:=Step.alloc hd.rel dh (dO*size) (o:=.cells cs h.size h.size 0) (fun cs f dj aS hh=>by cases hh;exact⟨rfl,rfl⟩) (by
  have:=oe (base:=base) (b:=h.size) (r:=w.heap.size) hr elem (lr μ h.size ⟨w.heap.size,0,dO*size⟩) (h.push (.cells cs h.size h.size 0)) (g9 H.fresh) h.size h.size 0 rest (cs'.toArray++rest) (by simp);rw[hs]at this;exact this)
 refine⟨_,?_,hd.trans st⟩;have:=aq.slice (o:=0) (z:=size) (len:=len) (cap:=len+1) (cap':=dO) (bY μ h.size ⟨w.heap.size,0,dO*size⟩) om hl (fun h=>by omega) (by simp only;omega);simpa[fresh]using this
theorem BY {b o:Nat} {l:List Value} (hr:M.ai h b o 0=some l):l=[]:=by
 unfold M.ai at hr;simp only[Option.bind_eq_some_iff,bf]at hr;obtain⟨cs,_,_,rfl⟩:=hr;simp
set_option maxHeartbeats 1000000 in
set_option maxHeartbeats 1000000 in
theorem JR (hE:bK P E) (H:bB E base B μ h w) {st xt ty:TypeId} {s x s' x' v:Value} {h':ah} (ha:bQ E base h st xt s x=some (v,h')) (hs:aq μ s s') (hx:aq μ x x'):
 kz P E base B μ h w (Builtin.append_ #[st,xt] ty #[s',x']) v h':=by
 unfold bQ at ha;simp only[Option.bind_eq_some_iff]at ha;obtain⟨sd,bz,xd,Vx,ha⟩:=ha;split at ha
 ·rename_i elem;simp only[Option.bind_eq_some_iff,aj,Bool.and_eq_true,Bool.not_eq_true',beq_iff]at ha;obtain⟨size,fq,bytes,Jz,z0,hz,n,hn,⟨QH,jZ⟩,ha⟩:=ha;have Vy:=GP (P:=P) hn hx;have hxz:∀d,(Builtin.firstCells size 0 x').run P {w with drawn:=d}= .ok ([]:List Value).toArray {w with drawn:=d}:=by
   intro d;unfold nY at hn;split at hn
   ·cases hx with
    |lit hh=>
     unfold ay at hh;split at hh<;>simp_all[Builtin.firstCells]
    |slice=>simp[Builtin.firstCells,loadCells,loadCellsFrom]
    |dr=>simp[Builtin.firstCells,loadCells,loadCellsFrom]
   ·cases hx with
    |lit hh=>simp[Builtin.firstCells]
   ·cases hn
  split at ha
  ·-- a nil slice
   have es:s'= .slice none 0 0:=by cases hs;rfl
   subst es;have rap:=fun new ml=>oZ (w:=w) (ty:=ty) (base':=none) (cap:=0) (len:=0) (old:=[]) (new:=new) hE bz Vx QH fq Jz hz jZ Vy ml;rw[cu]at ha;split at ha
   ·rename_i h0;rw[beq_iff]at h0;subst h0;simp only[Option.some.injEq,Prod.mk.injEq]at ha;obtain⟨rfl,rfl⟩:=ha;exact⟨μ,_,w,(rap [] hxz).1 (Nat.le_refl _) w rfl,.lit rfl,.refl H⟩
   ·rename_i h0;rw[beq_iff]at h0;simp only[aj,aL,beq_iff,Option.bind_eq_some_iff,Option.some.injEq]at ha;obtain⟨mM,new,ml,hl,ha⟩:=ha;obtain⟨yL,r1,r2⟩:=oY (P:=P) H ml hx hn (Nat.le_refl _);obtain⟨dO,rest,k1,k2,k3⟩:=(rap yL r2).2 om (by simpa using mM) (fun d=>by simp[Builtin.firstCells]);obtain⟨bd,q1,q2⟩:=wv (elem:=elem) H r1 (rest:=rest) (by simpa using k1) hl (by simpa using k2) (w.drawn+1);simp only[Nat.zero_add]at k3 ha;rw[ha]at q1 q2;refine⟨bd,_,_,k3,q1,?_⟩;simpa using q2
  ·rename_i b o z len cap;rw[cu]at ha;split at ha
   ·-- nothing is appended
    rename_i h0;rw[beq_iff]at h0;subst h0;simp only[Option.some.injEq,Prod.mk.injEq]at ha;obtain⟨rfl,rfl⟩:=ha;have fin:∀(a':Addr) (cap':Nat),s'= .slice (some a') len cap'→len≤cap'→kz P E base B μ h w (Builtin.append_ #[st,xt] ty #[s',x']) (.slice (some ⟨b,o,some z⟩) len cap) h:=by
     intro a' cap' e NS;subst e;have ra:=(oZ (w:=w) (ty:=ty) (base':=some a') (cap:=cap') (len:=len) (old:=[]) hE bz Vx QH fq Jz hz jZ Vy hxz).1 om w (by simp[BX,storeCells]);exact⟨μ,_,w,ra,hs,.refl H⟩
    generalize hv:Value.slice (some ⟨b,o,some z⟩) len cap=v at hs;cases hs with
    |slice hb k1 k2 k3 k4=>cases hv;exact fin _ _ rfl k2
    |dr=>cases hv;exact fin _ _ rfl (Nat.le_refl _)
    |_=>cases hv<;>simp[ay]at*
   ·rename_i h0;rw[beq_iff]at h0;simp only[aj,Bool.and_eq_true,aL,beq_iff,Option.bind_eq_some_iff]at ha;obtain⟨⟨hzz,mM⟩,old,hold,new,ml,hl,ha⟩:=ha;subst hzz;obtain⟨yL,r1,r2⟩:=oY (P:=P) H ml hx hn (Nat.le_refl _)
    -- the elder cells
    have adI:∃BZ,ax μ old BZ∧(∀d,(Builtin.firstCells z len s').run P {w with drawn:=d}= .ok BZ.toArray {w with drawn:=d}):=
     oY (P:=P) H (x:=.slice (some ⟨b,o,some z⟩) len cap) (x':=s') hold hs rfl (Nat.le_refl _)
    obtain⟨BZ,o1,o2⟩:=adI;have adK:old.length=len*z:=by
     unfold M.ai at hold;simp only[Option.bind_eq_some_iff,bf]at hold;obtain⟨cs,_,h3,rfl⟩:=hold;simp at h3 ⊢;omega
    have QP:ax μ (old++new) (BZ++yL):=o1.append r1;have L8:(old++new).length=(len+n)*z:=by rw[List.length_append,adK,hl,Nat.add_mul]
    have Yx:∀(a':Addr) (cap':Nat),s'= .slice (some a') len cap'→cap'<len+n→∃dO rest,len+n≤dO∧rest.size=(dO - (len+n))*z∧
     (Builtin.append_ #[st,xt] ty #[s',x']).run P w= .ok (.slice (some ⟨w.heap.size,0,none⟩) (len+n) dO) {w with heap:=w.heap.push (.cells ((BZ++yL).toArray++rest) elem (0,0)),drawn:=w.drawn+1}:=by
     intro a' cap' e hc;subst e;obtain⟨dO,rest,q1,q2,q3⟩:=(oZ (w:=w) (ty:=ty) (base':=some a') (cap:=cap') (len:=len) (old:=BZ) hE bz Vx QH fq Jz hz jZ Vy r2).2 hc mM o2;refine⟨dO,rest,q1,q2,?_⟩;rw[q3];simp
    rw[cu]at ha;split at ha
    ·-- no room
     rename_i cH;rw[beq_iff]at cH;subst cH;simp only[Option.some.injEq]at ha;have fin:∀(a':Addr) (cap':Nat),s'= .slice (some a') cap cap'→cap'<cap+n→kz P E base B μ h w (Builtin.append_ #[st,xt] ty #[s',x']) v h':=by
      intro a' cap' e hc;obtain⟨dO,rest,q1,q2,q3⟩:=Yx a' cap' e hc;obtain⟨bd,p1,p2⟩:=wv (elem:=elem) H QP (rest:=rest) q1 L8 q2 (w.drawn+1);rw[ha]at p1 p2;exact⟨bd,_,_,q3,p1,p2⟩
     generalize hv:Value.slice (some ⟨b,o,some z⟩) cap cap=sv at hs;cases hs with
     |slice hb k1 k2 k3 k4=>cases hv;exact fin _ _ rfl (by have:=k3 rfl;omega)
     |dr=>cases hv;exact fin _ _ rfl om
     |_=>cases hv<;>simp[ay]at*
    ·-- the last block of a family goes on
     rename_i cH;rw[beq_iff]at cH;simp only[Option.bind_eq_some_iff,aj,Bool.and_eq_true,aL,beq_iff,Option.some.injEq,Prod.mk.injEq]at ha;obtain⟨cs,s9,⟨f,dj,aS⟩,oc,⟨⟨eF,adL⟩,lL⟩,rfl,rfl⟩:=ha;simp only at eF adL;subst adL;obtain⟨dA,JA⟩:∃t,t=(bif Nat.beq (o+len*z) cs.length then aS else h.size):=⟨_,rfl⟩;simp only
     rw[←JA];have Ek:∀x,x<h.size→dA≤x→aS≤x:=by
      intro x hx h7;cases Qh:Nat.beq (o+len*z) cs.length<;>rw[Qh]at JA<;>simp only[cond_true,cond_false]at JA<;>omega
     have Yy:dA<h.size→o+len*z=cs.length:=by
      intro h7;cases Qh:Nat.beq (o+len*z) cs.length<;>rw[Qh]at JA<;>simp only[cond_true,cond_false]at JA
      ·omega
      ·exact beq_iff.1 Qh
     have hmk:∀mt:MT,mt.s+0+(len+n)*z≤mt.n→∀Vz,len+n≤Vz→mt.s+0+Vz*z≤mt.n→
      aq (lr μ h.size mt) (.slice (some ⟨h.size,0,some z⟩) (len+n) (len+n+1)) (.slice (some ⟨mt.r,mt.s+0,none⟩) (len+n) Vz):=by
      intro mt _ Vz hc mq;exact .slice (bY μ h.size mt) om hc (fun h=>by omega) mq
     have L9:∀(a':Addr) (cap':Nat) (m:MT),μ dj=some m→s'= .slice (some a') len cap'→cap'<len+n→kz P E base B μ h w (Builtin.append_ #[st,xt] ty #[s',x']) (.slice (some ⟨h.size,0,some z⟩) (len+n) (len+n+1)) ((h.bM f h.size dA).push (.cells (old++new) f 0 0)):=by
      intro a' cap' m hb e hc;obtain⟨dO,rest,q1,q2,q3⟩:=Yx a' cap' e hc;have ahW:((BZ++yL).toArray++rest).size=dO*z:=by
       have:=QP.length;simp only[Array.size_append,List.size_toArray,q2,←this,L8];rw[←Nat.add_mul];congr 1;omega
      let mt:MT:=⟨w.heap.size,0,dO*z⟩
      have hle:dO*z≥(len+n)*z:=Nat.mul_le_mul_right _ q1
      have st:=Step.ext (w':={w with heap:=w.heap.push (.cells ((BZ++yL).toArray++rest) elem (0,0)),drawn:=w.drawn+1}) H dA Ek hb oc eF (cs:=cs) (new:=old++new) mt (by simp) rfl rfl rfl
       ⟨(BZ++yL).toArray++rest,elem,(0,0),by simp[mt],Yr _,ahW,by simp only[mt];omega,fun i v hv=>by
        obtain⟨v',z1,z2⟩:=QP.get hv;refine⟨v',?_,z2⟩;have hi:=(List.getElem?_eq_some_iff.1 z1).1;simp only[mt,Nat.zero_add];rw[←Array.getElem?_toList,Array.toList_append,List.getElem?_append_left (by simpa using hi)];exact z1⟩ s9
       (fun r hr bC=>by simp only[mt]at bC;simp only[Array.getElem?_push];rw[if_neg om]) H.low (.inl (Nat.le_refl _))
      refine⟨_,_,_,q3,?_,st⟩;have:=hmk mt (by simp only[mt];omega) dO q1 (by simp only[mt];omega);simpa[mt]using this
     generalize hv:Value.slice (some ⟨dj,o,some z⟩) len cap=sv at hs;cases hs with
     |slice hb k1 k2 k3 k4=>
      rename_i b1 o1' z1 VA adM cap' m;cases hv;by_cases mq:len+n≤cap'
      ·-- in place
       obtain⟨c,e,fr,w1,w2,w3,w4,w5⟩:∃c e fr,w.heap[m.r]? =some (.cells c e fr)∧c.size=m.n∧m.s+cs.length≤m.n∧(base≤dj→qi fr m.n)∧∀(i:Nat) v,cs[i]? =some v→∃v',c[m.s+i]? =some v'∧aq μ v v':=by
        unfold M.ai at hold;simp only[Option.bind_eq_some_iff]at hold;obtain⟨cs2,gW,_⟩:=hold;obtain⟨_,_,_,h9⟩:=rd_some gW;rw[s9]at h9;cases h9;exact H.read hb gW
       have hft:=H.dQ dj m _ hb oc;simp only at hft;have hbt:base≤dj:=by omega
       have hnf:qi fr c.size:=by rw[w2];exact w4 hbt
       have GQ:yL.all fU=true:=by
        rw[List.all_eq_true]at lL ⊢;intro v' CE;obtain⟨i,hi,rfl⟩:=List.mem_iff_getElem.1 CE;have alQ:=r1.length;have h0:new[i]? =some (new[i]' om):=by simp
        obtain⟨u,q1,q2⟩:=r1.get h0;have:yL[i]? =some yL[i]:=by simp[hi]
        rw[this]at q1;cases q1;exact q2.fU (lL _ (List.getElem_mem _))
       have u4:yL.length=n*z:=by rw[←r1.length];exact hl
       have hmul:(len+n)*z=len*z+n*z:=Nat.add_mul _ _ _;have iG:(len+n)*z≤cap'*z:=Nat.mul_le_mul_right _ mq;obtain⟨w',c',q1,q2,q3,q4⟩:=lK (P:=P) (off:=m.s+o+len*z) yL 0 w c hnf w1 GQ om;have ra:=(oZ (w:=w) (ty:=ty) (base':=some ⟨m.r,m.s+o,none⟩) (cap:=cap') (len:=len) (old:=BZ) hE bz Vx QH fq Jz hz jZ Vy r2).1 mq w' (by simp only[BX,ij];exact q1)
       let mt:MT:=⟨m.r,m.s+o,m.n⟩
       have adN:∀(i:Nat) v,old[i]? =some v→∃v',c[m.s+o+i]? =some v'∧aq μ v v':=by
        intro i v hv;unfold M.ai at hold;simp only[Option.bind_eq_some_iff,bf]at hold;obtain⟨cs2,gW,h3,rfl⟩:=hold;obtain⟨_,_,_,h9⟩:=rd_some gW;rw[s9]at h9;cases h9;have hi:=(List.getElem?_eq_some_iff.1 hv).1;simp at hi;rw[List.getElem?_take,if_pos om,List.getElem?_drop]at hv;obtain⟨v',z1,z2⟩:=w5 _ v hv;exact⟨v',by rw[Nat.add_assoc];exact z1,z2⟩
       have st:=Step.ext (w':=w') H dA Ek hb oc eF (cs:=cs) (new:=old++new) mt (by rw[q2.size];exact Nat.le_refl _) q2.tape q2.os q2.output
        ⟨c',e,fr,by rw[q2.get,if_pos rfl],w4 hbt,by rw[q3,w2],by simp only[mt];omega,fun i v hv=>by
         simp only[mt];rw[q4];by_cases hi:i<old.length
         ·rw[List.getElem?_append_left hi]at hv;obtain⟨v',z1,z2⟩:=adN i v hv;refine⟨v',?_,z2⟩;rw[if_neg om];exact z1
         ·rw[List.getElem?_append_right om]at hv;have hi2:=(List.getElem?_eq_some_iff.1 hv).1;obtain⟨v',z1,z2⟩:=r1.get hv;refine⟨v',?_,z2⟩;rw[if_pos om,←z1];congr 1;omega⟩ s9
        (fun r hr bC=>by rw[q2.get,if_neg bC]) (H.own dj m hb hbt)
        (.inr ⟨rfl,rfl,fun h7=>by have:=Yy h7;simp only[mt];omega,fun c2 e2 fr2 hh=>by
         rw[w1]at hh;cases hh;exact⟨c',by rw[q2.get,if_pos rfl],q3,fun h7 i hi=>by have:=Yy h7;rw[q4,if_neg om]⟩⟩)
       refine⟨_,_,w',ra,?_,st⟩;have:=hmk mt (by simp only[mt];omega) cap' mq (by simp only[mt];omega);simpa[mt]using this
      ·exact L9 _ _ m hb rfl om
     |dr hb=>cases hv;obtain⟨m0,hb⟩:=hb om;exact L9 _ _ _ hb rfl om
     |_=>cases hv<;>simp[ay]at*
  ·cases ha
 ·cases ha
end
theorem Ej.set (w:World) (r:Nat) (o:Obj) (hr:r<w.heap.size):Ej w r o {w with heap:=w.heap.setIfInBounds r o}:=
 ⟨rfl,rfl,rfl,by simp,fun k=>by
  by_cases e:k=r
  ·subst e;rw[if_pos rfl,Array.getElem?_setIfInBounds_self_of_lt hr]
  ·rw[if_neg e,Array.getElem?_setIfInBounds_ne (fun h=>e h.symm)]⟩
theorem cJ {P:Program} {w:World} {r:Nat} {o1 o:Obj} (h:w.heap[r]? =some o1) (ho:∀c e f,o1≠ .cells c e f):(setObj r o).run P w= .ok () {w with heap:=w.heap.setIfInBounds r o}:=by
 unfold setObj;simp only[Sem.run,h]
section
variable {P:Program} {E:Env} {μ:bD} {f:AF} {a:Act} {base B:Nat} {h:ah} {w:World}
theorem QR (hE:bK P E) (H:bB E base B μ h w) {dt ty:TypeId} {d s d' s' v:Value} {h':ah} (ha:Qz E base h dt d s=some (v,h')) (hd:aq μ d d') (hs:aq μ s s') (ts:Array TypeId) (ht:ts[0]? =some dt):
 kz P E base B μ h w (Builtin.copy_ ts ty #[d',s']) v h':=by
 unfold Qz at ha;simp only[Option.bind_eq_some_iff]at ha;obtain⟨dd,Ma,ha⟩:=ha;split at ha
 ·rename_i elem ad Ec alS;simp only[Option.bind_eq_some_iff]at ha;obtain⟨size,fq,sl,yM,ha⟩:=ha;have Vy:=GP (P:=P) yM hs;have hd':∃ad' cap',d'= .slice ad' Ec cap':=by cases hd<;>exact⟨_,_,rfl⟩
  obtain⟨ad',cap',rfl⟩:=hd';have run:∀(cells:List Value) (w':World),(Builtin.firstCells size (Nat.min sl Ec) s').run P w= .ok cells.toArray w→(BX ad' 0 cells).run P w= .ok () w'→(Builtin.copy_ ts ty #[.slice ad' Ec cap',s']).run P w= .ok (goInt (Nat.min sl Ec)) w':=by
   intro cells w' h1 h2;unfold Builtin.copy_;simp only[ht,List.getElem?_toArray,List.getElem?_cons_zero,List.getElem?_cons_succ,Sem.run_bind,aM hE Ma w,Result.andThen_ok,Vy w,gF hE fq w,h1];cases ad' with
   |none=>simp only[BX,Sem.run_pure]at h2;cases h2;simp
   |some aa=>
    simp only[BX]at h2;have:aa.add 0=aa:=by simp[Addr.add]
    rw[this]at h2;simp[h2]
  rw[cu]at ha;split at ha
  ·rename_i h0;rw[beq_iff]at h0;simp only[Option.some.injEq,Prod.mk.injEq]at ha;obtain⟨rfl,rfl⟩:=ha;have u5:(Builtin.firstCells size (Nat.min sl Ec) s').run P w= .ok ([]:List Value).toArray w:=by
    rw[h0];unfold nY at yM;split at yM
    ·cases hs with
     |lit hh=>unfold ay at hh;split at hh<;>simp_all[Builtin.firstCells]
     |slice=>simp[Builtin.firstCells,loadCells,loadCellsFrom]
     |dr=>simp[Builtin.firstCells,loadCells,loadCellsFrom]
    ·cases hs with
     |lit hh=>simp[Builtin.firstCells]
    ·cases yM
   have:=run [] w u5 (by cases ad'<;>simp[BX,storeCells]);rw[h0]at this;exact⟨μ,_,w,this,.int μ _ _,.refl H⟩
  ·rename_i h0;rw[beq_iff]at h0;split at ha
   ·rename_i b o z;simp only[Option.bind_eq_some_iff,aj,Option.some.injEq,Prod.mk.injEq]at ha;obtain⟨cells,hc,lL,cs,gW,cs',ft,h1,lM,rfl,rfl⟩:=ha;obtain⟨cells',r1,r2⟩:=oY (P:=P) H hc hs yM (Nat.min_le_left _ _);cases hd with
    |slice hb k1 k2 k3 k4=>
     obtain⟨w',q1,q2⟩:=wu (P:=P) H hb gW ft lM r1 lL;exact⟨μ,_,w',run cells' w' (r2 w.drawn) (by simp only[BX,ij];exact q1),.int μ _ _,q2⟩
    |dr=>exact absurd (Nat.min_zero _) h0
    |lit hh=>simp[ay]at hh
   ·cases ha
 ·cases ha
theorem NU (hE:bK P E) (H:bB E base B μ h w) {t ty:TypeId} {x x' v:Value} {h':ah} (ha:tN E base h t x=some (v,h')) (hx:aq μ x x') (ts:Array TypeId) (ht:ts[0]? =some t) (args:Array Value) (kH:args[0]? =some x')
 (hu:∃d,E.desc t=some d):kz P E base B μ h w (Builtin.clear_ ts ty args) v h':=by
 obtain⟨d,Ma⟩:=hu;unfold tN at ha;split at ha
 ·simp only[Option.some.injEq,Prod.mk.injEq]at ha;obtain⟨rfl,rfl⟩:=ha;have ex:x'= .map none:=by cases hx;rfl
  subst ex;refine⟨μ,.tuple #[],w,?_,aq.undef μ,.refl H⟩;unfold Builtin.clear_;simp only[ht,kH,Sem.run_bind,aM hE Ma w,Result.andThen_ok];rfl
 ·simp only[Option.some.injEq,Prod.mk.injEq]at ha;obtain⟨rfl,rfl⟩:=ha;have ex:∃n c,x'= .slice none n c:=by cases hx;exact⟨_,_,rfl⟩
  obtain⟨n,c,rfl⟩:=ex;refine⟨μ,.tuple #[],w,?_,aq.undef μ,.refl H⟩;unfold Builtin.clear_;simp only[ht,kH,Sem.run_bind,aM hE Ma w,Result.andThen_ok];rfl
 ·rename_i b o z n cap;have shape:∃a' cap',x'= .slice (some a') n cap':=by
   cases hx with
   |lit hh=>simp[ay]at hh
   |slice=>exact⟨_,_,rfl⟩
   |dr=>exact⟨_,_,rfl⟩
  rw[cu]at ha;split at ha
  ·rename_i h0;rw[beq_iff]at h0;subst h0;simp only[Option.some.injEq,Prod.mk.injEq]at ha;obtain⟨rfl,rfl⟩:=ha;obtain⟨a',cap',rfl⟩:=shape;refine⟨μ,.tuple #[],w,?_,aq.undef μ,.refl H⟩;unfold Builtin.clear_;simp only[ht,kH,Sem.run_bind,aM hE Ma w,Result.andThen_ok];rfl
  ·rename_i h0;rw[beq_iff]at h0;simp only[Option.bind_eq_some_iff]at ha;obtain⟨d2,adO,ha⟩:=ha;rw[Ma]at adO;cases adO;split at ha
   ·rename_i elem;simp only[Option.bind_eq_some_iff,aj,Option.some.injEq,Prod.mk.injEq]at ha;obtain⟨zv,hz,lL,cs,gW,cs',ft,h1,lM,rfl,rfl⟩:=ha;have tV:=(aq.cG μ (hE.zero elem zv hz).2).cells;have GQ:(aW zv.cells.toList n).all fU=true:=by
     have:∀k,(aW zv.cells.toList k).all fU=true:=by
      intro k
      induction k with
      |zero=>rfl
      |succ k ih=>simp only[M.aW,List.all_append,lL,ih,Bool.and_self]
     exact this n
    cases hx with
    |lit hh=>simp[ay]at hh
    |slice hb k1 k2 k3 k4=>
     rename_i cap' m;obtain⟨w',q1,q2⟩:=wu (P:=P) H hb gW ft lM (tV.aW n) GQ;refine⟨μ,.tuple #[],w',?_,aq.undef μ,q2⟩;have hzc:(Builtin.zeroCells zv.cells n).toList=aW zv.cells.toList n:=by
      unfold Builtin.zeroCells;by_cases BW:0<zv.cells.size
      ·exact u3 zv.cells n BW
      ·have e0:zv.cells.size=0:=by omega
       have e1:(aW zv.cells.toList n)=[]:=by
        apply List.eq_nil_of_length_eq_zero;rw[dE];simp[e0]
       rw[e1];simp[e0]
     obtain⟨n',rfl⟩:∃n',n=n'+1:=⟨n - 1,om⟩;unfold Builtin.clear_;simp only[ht,kH,Sem.run_bind,aM hE Ma w,Result.andThen_ok,lz hE hz w,hzc,q1,Sem.run_pure]
    |dr=>exact absurd rfl h0
   ·cases ha
 ·rename_i r;simp only[aj,aL]at ha;obtain⟨bG,ha⟩:=ha;split at ha
  ·rename_i es clock hg;simp only[Option.some.injEq,Prod.mk.injEq]at ha;obtain⟨rfl,rfl⟩:=ha;obtain⟨m,hb,rfl⟩:=hx.mE;obtain⟨o1,o2,k1,k2,k3⟩:=H.obj r m hb;rw[hg]at k1;cases k1;cases k3 with
   |map hs=>
    have st:=Step.put H hb bG hg rfl rfl (Ej.set w m.r (.map #[] clock) (H.lt hb)) (.map (by simpa using cZ.nil));refine⟨μ,.tuple #[],_,?_,aq.undef μ,st⟩;unfold Builtin.clear_;simp only[ht,kH,Sem.run_bind,aM hE Ma w,Result.andThen_ok,run_getObj_map (P:=P) k2 (fun _ _ _=>by simp),cJ (P:=P) k2 (fun _ _ _=>by simp),Sem.run_pure]
  ·cases ha
 ·cases ha
theorem zQ {kd:TypeDesc} {k:Value}:∀{es:List MapEntry} {i j:Nat} {v:Value},Instr.findNow kd k es i=some (some (j,v))→i≤j∧j<i+es.length
 |[],i,j,v,h=>by simp[Instr.findNow]at h
 |e::es,i,j,v,h=>by
  simp only[Instr.findNow]at h;split at h
  ·simp only[Option.some.injEq,Prod.mk.injEq]at h;obtain⟨rfl,_⟩:=h;simp
  ·have:=zQ h;simp;omega
  ·cases h
theorem cZ.eraseIdx {l l':List MapEntry} (hs:cZ μ l l'):∀i,cZ μ (l.eraseIdx i) (l'.eraseIdx i):=by
 induction hs with
 |nil=>intro i;simpa using cZ.nil
 |cons hk hv hb t ih=>intro i;cases i with
  |zero=>simpa using t
  |succ i=>simpa using cZ.cons hk hv hb (ih i)
theorem cZ.append {l l' k k':List MapEntry} (hs:cZ μ l l') (hk:cZ μ k k'):cZ μ (l++k) (l'++k'):=by
 induction hs with
 |nil=>exact hk
 |cons a b c _ ih=>exact .cons a b c ih
theorem cZ.modify {l l':List MapEntry} (hs:cZ μ l l') {g g':MapEntry→MapEntry} (hg:∀e e',aq μ e.key e'.key→aq μ e.val e'.val→e.born=e'.born→aq μ (g e).key (g' e').key∧aq μ (g e).val (g' e').val∧(g e).born=(g' e').born):∀i,cZ μ (l.modify i g) (l'.modify i g'):=by
 induction hs with
 |nil=>intro i;simpa using cZ.nil
 |cons hk hv hb t ih=>intro i;cases i with
  |zero=>obtain⟨a,b,c⟩:=hg _ _ hk hv hb;simpa using cZ.cons a b c t
  |succ i=>simpa using cZ.cons hk hv hb (ih i)
theorem JS (hE:bK P E) (H:bB E base B μ h w) {t ty:TypeId} {mv k mv' k' v:Value} {h':ah} (ha:uR E base h t mv k=some (v,h')) (hm:aq μ mv mv') (hk:aq μ k k') (ts:Array TypeId) (ht:ts[0]? =some t):
 kz P E base B μ h w (Builtin.delete_ ts ty #[mv',k']) v h':=by
 unfold uR at ha;simp only[Option.bind_eq_some_iff]at ha;obtain⟨d,hd,ha⟩:=ha;split at ha
 ·rename_i kt et r;simp only[aj,Bool.and_eq_true,aL,Option.bind_eq_some_iff]at ha;obtain⟨⟨bG,CI⟩,kd,ji,bz,ha⟩:=ha;split at ha
  ·rename_i es clock hg;obtain⟨m,hb,rfl⟩:=hm.mE;have ek:=hk.ar CI;subst ek;obtain⟨o1,o2,k1,k2,k3⟩:=H.obj r m hb;rw[hg]at k1;cases k1;cases k3 with
   |map hs=>
    rename_i cb;simp only[Option.bind_eq_some_iff]at ha;obtain⟨fr,v8,ha⟩:=ha;obtain⟨Qj,q1,q2,q3⟩:=ke hs v8;have GO:(Instr.findKey kt k' cb.toList).run P w= .ok Qj w:=by
     simp only[Instr.findKey,Sem.run_bind,aM hE ji w,Result.andThen_ok,q1,Sem.run_pure]
    have yK:=lF (P:=P) hE ji bz cb.isEmpty 9999 k' w;have rZ:=run_getObj_map (P:=P) k2 (fun _ _ _=>by simp);have Mb:=fun o=>cJ (P:=P) (o:=o) k2 (fun _ _ _=>by simp);cases fr with
    |none=>
     have e:=q2 rfl;subst e;simp only[Option.some.injEq,Prod.mk.injEq]at ha;obtain⟨rfl,rfl⟩:=ha;have st:=Step.put H hb bG hg rfl rfl (Ej.set w m.r (.map cb clock) (H.lt hb)) (.map hs);refine⟨μ,.tuple #[],_,?_,aq.undef μ,st⟩;unfold Builtin.delete_;simp only[ht,List.getElem?_toArray,List.getElem?_cons_zero,List.getElem?_cons_succ,Sem.run_bind,aM hE hd w,Result.andThen_ok,rZ,yK,GO,Mb,Sem.run_pure]
    |some jv=>
     obtain⟨v',e,hr⟩:=q3 jv.1 jv.2 rfl;subst e;simp only[Option.some.injEq,Prod.mk.injEq]at ha;obtain⟨rfl,rfl⟩:=ha;have bw:=(zQ v8).2;have hl:=hs.length;have st:=Step.put H hb bG hg rfl rfl (Ej.set w m.r (.map (cb.eraseIdxIfInBounds jv.1) clock) (H.lt hb)) (.map (by
      have Zy:jv.1<cb.size:=by simp at hl bw;omega
      have:(cb.eraseIdxIfInBounds jv.1).toList=cb.toList.eraseIdx jv.1:=by
       simp[Array.eraseIdxIfInBounds,Zy]
      rw[this];exact hs.eraseIdx jv.1))
     refine⟨μ,.tuple #[],_,?_,aq.undef μ,st⟩;unfold Builtin.delete_;simp only[ht,List.getElem?_toArray,List.getElem?_cons_zero,List.getElem?_cons_succ,Sem.run_bind,aM hE hd w,Result.andThen_ok,rZ,yK,GO,Mb,Sem.run_pure]
  ·cases ha
 ·cases ha
end
section
variable {P:Program} {E:Env} {μ:bD} {f:AF} {a:Act} {base B:Nat} {h:ah} {w:World}
theorem GR (hE:bK P E) (H:bB E base B μ h w) {st xt ty:TypeId} {s x s' x' v:Value} {h':ah} (ha:jg E h st xt s x=some (v,h')) (hs:aq μ s s') (hx:aq μ x x'):
 kz P E base B μ h w (Builtin.append_ #[st,xt] ty #[s',x']) v h':=by
 unfold jg at ha;simp only[Option.bind_eq_some_iff]at ha;obtain⟨sd,bz,xd,Vx,ha⟩:=ha;split at ha
 ·rename_i elem l;simp only[Option.bind_eq_some_iff,aj,Bool.and_eq_true,beq_iff,bc,aL,Option.some.injEq]at ha;obtain⟨size,fq,bytes,Jz,z0,hz,⟨⟨⟨⟨QH,jZ⟩,hs0⟩,y8⟩,mM⟩,ha⟩:=ha;have es:s'= .slice none 0 0:=by cases hs;rfl
  subst es;have ex:x'= .int .i64 l:=hx.ar rfl;subst ex;obtain⟨ti,Gw,U9⟩:=Em hE Jz;obtain⟨n,hn⟩:∃n:Nat,l=n:=⟨l.toNat,om⟩;subst hn;simp only[Int.toNat_natCast]at y8 mM ha;have hn1:n+1≤1099511627776:=Nat.le_trans (Nat.le_mul_of_pos_right _ om) mM;have hwl:IntKind.i64.wrap (n:Int)=n:=IntWalk.i64_in _ om;have hmul:((n:Int)*(ti.bytes:Int))≤1099511627776:=by
   rw[Gw];have h1:n*bytes≤(n+1)*(bytes+1):=Nat.mul_le_mul om om;have h2:=Int.ofNat_le.2 (Nat.le_trans h1 mM)
   rwa [Int.natCast_mul]at h2
  have ZE:¬(((0+n:Nat):Int)>IntKind.i64.max):=by
   have e:IntKind.i64.max=9223372036854775807:=by decide
   rw[e];omega
  have ik:¬(Builtin.nextslicecap (0+n) 0*ti.bytes>2 ^ 48):=by
   have h1:=nextslicecap_le (n:=0+n) (c:=0) om;have h2:Builtin.nextslicecap (0+n) 0*ti.bytes≤16*(0+n)*bytes:=by rw[Gw];exact Nat.mul_le_mul_right _ h1
   have h3:16*(0+n)*bytes≤16*((n+1)*(bytes+1)):=by
    rw[Nat.mul_assoc];exact Nat.mul_le_mul_left _ (Nat.mul_le_mul om om)
   have e:(2:Nat) ^ 48=281474976710656:=by decide
   rw[e];omega
  have tV:=(aq.cG μ (hE.zero elem z0 hz).2).cells;have hzc:Builtin.zeroCells z0.cells n=(aW z0.cells.toList n).toArray:=by
   apply Array.ext';unfold Builtin.zeroCells;rw[u3 z0.cells n om]
  have Ep:¬n*size=0:=by
   intro e;rcases Nat.mul_eq_zero.1 e with e|e<;>omega
  let nc:=(Question.appendCap (0+n) 0 elem).cut (w.tape w.drawn (Question.appendCap (0+n) 0 elem))
  have JB:n≤nc:=by simp only[nc,Question.cut];omega
  have run:(Builtin.append_ #[st,xt] ty #[.slice none 0 0,.int .i64 (n:Int)]).run P w= .ok (.slice (some ⟨w.heap.size,0,none⟩) n nc) {w with heap:=w.heap.push (.cells ((aW z0.cells.toList n).toArray++Builtin.zeroCells z0.cells (nc - n)) elem (0,0)),drawn:=w.drawn+1}:=by
   unfold Builtin.append_;simp only[List.getElem?_toArray,List.getElem?_cons_zero,List.getElem?_cons_succ,Sem.run_bind,aM hE bz w,aM hE Vx w,Result.andThen_ok,gF hE fq w,Sem.run_pure];split
   ·simp only[if_true,Sem.run_bind,asInt,asIntOf,Sem.run_pure,Result.andThen_ok,hwl];rw[if_neg (show¬((n:Nat):Int)<0 by omega)];simp only[Sem.run_bind,U9 w,Result.andThen_ok]
    rw[if_neg (show¬((n:Int)*(ti.bytes:Int)>2 ^ 48) by have e:(2:Int) ^ 48=281474976710656:=by decide
                                                       rw[e];omega)]
    simp only[Sem.run_bind,Sem.run_pure,Result.andThen_ok,Int.toNat_natCast];rw[if_neg (show¬(0+n≤0) by omega)];simp only[Sem.run_bind,U9 w,Result.andThen_ok];rw[if_neg (fun hh=>ZE hh.1)];simp only[Sem.run_bind,U9 w,Result.andThen_ok];rw[if_neg ik];simp only[Sem.run_bind,run_choose,Question.forced,Bool.false_eq_true,if_false,Result.andThen_ok,U9 _,run_askRoom,Builtin.firstCells,Sem.run_pure,Bool.not_true,Ep,lz hE hz _,hzc];simp only[nc,Nat.zero_add,Array.empty_append];rfl
   ·rename_i bC;cases xd<;>simp[lq]at QH;exact absurd rfl (bC _)
  have hlen:(aW z0.cells.toList n).length=n*size:=by rw[dE];simp[jZ]
  obtain⟨bd,q1,q2⟩:=wv (elem:=elem) H (tV.aW n) (rest:=Builtin.zeroCells z0.cells (nc - n)) JB hlen (by rw[qo,jZ]) (w.drawn+1);rw[ha]at q1 q2;exact⟨bd,_,_,run,q1,q2⟩
 ·cases ha
theorem JT (hE:bK P E) (H:bB E base B μ h w) {b:Builtin} {ts:Array TypeId} {args:List Value} {args':Array Value} {v:Value} {h':ah} (ty:TypeId) (ha:y6 E base h b ts.toList args=some (v,h')) (hr:ax μ args args'.toList):
 ∃s,kz P E base B μ h w s v h'∧∀cs,builtin b ts ty cs args'=(do pure (.value (←s))):=by
 obtain⟨ts⟩:=ts;obtain⟨args'⟩:=args';simp only at ha hr;unfold y6 at ha;split at ha
 ·cases hr with
  |cons hs hr=>cases hr with
   |cons hx hr=>cases hr with
    |nil=>
     split at ha
     ·rename_i r hr;simp only[Option.some.injEq]at ha;exact⟨_,JR (ty:=ty) hE H (hr.trans (congrArg some ha)) hs hx,fun _=>rfl⟩
     ·exact⟨_,GR (ty:=ty) hE H ha hs hx,fun _=>rfl⟩
 ·cases hr with
  |cons hs hr=>cases hr with
   |cons hx hr=>cases hr with
    |nil=>exact⟨_,QR (ty:=ty) hE H ha hs hx _ rfl,fun _=>rfl⟩
 ·cases hr with
  |cons hs hr=>
   simp only[Option.bind_eq_some_iff]at ha;obtain⟨d,hd,ha⟩:=ha;exact⟨_,NU (ty:=ty) hE H ha hs _ rfl _ rfl ⟨d,hd⟩,fun _=>rfl⟩
 ·cases hr with
  |cons hs hr=>cases hr with
   |cons hx hr=>cases hr with
    |nil=>exact⟨_,JS (ty:=ty) hE H ha hs hx _ rfl,fun _=>rfl⟩
 ·cases ha
theorem qp {v:Value} {r:Nat} (h:oT v=some r):v= .pointer (some ⟨r,0,none⟩):=by
 unfold oT at h;split at h<;>simp at h;subst h;rfl
theorem cZ.filter {l l':List MapEntry} (hs:cZ μ l l') (p:Nat→Bool):cZ μ (l.filter fun e=>p e.born) (l'.filter fun e=>p e.born):=by
 induction hs with
 |nil=>exact .nil
 |cons hk hv hb t ih=>
  simp only[List.filter_cons,hb];split
  ·exact .cons hk hv hb ih
  ·exact ih
theorem cZ.GS {l l':List MapEntry} (hs:cZ μ l l') (p:Nat→Bool):(l.all fun e=>p e.born)=(l'.all fun e=>p e.born):=by
 induction hs with
 |nil=>rfl
 |cons hk hv hb t ih=>simp only[List.all_cons,hb,ih]
theorem cZ.find {l l':List MapEntry} (hs:cZ μ l l') (p:Nat→Bool) {e:MapEntry} (he:l.find? (fun e=>p e.born)=some e):∃e',l'.find? (fun e=>p e.born)=some e'∧aq μ e.key e'.key∧aq μ e.val e'.val:=by
 induction hs with
 |nil=>simp at he
 |cons hk hv hb t ih=>
  simp only[List.find?_cons]at he ⊢;rw[←hb];split at he
  ·cases he;exact⟨_,rfl,hk,hv⟩
  ·exact ih he
theorem QT (H:bB E base B μ h w) {isStr:Bool} {r:Nat} {m:MT} {v:Value} {h':ah} (ty:TypeId) (ha:LZ h isStr r base=some (v,h')) (hb:μ r=some m):
 kz P E base B μ h w (Instr.next (.pointer (some ⟨m.r,0,none⟩)) isStr ty) v h':=by
 unfold LZ at ha;simp only[aj,aL]at ha;obtain⟨bG,ha⟩:=ha;obtain⟨o1,o2,k1,k2,k3⟩:=H.obj r m hb;split at ha
 ·rename_i s pos hg;rw[hg]at k1;cases k1;cases k3 with
  |jE kc=>
   have rZ:=run_getObj_map (P:=P) k2 (fun _ _ _=>by simp);have Mb:=fun o=>cJ (P:=P) (o:=o) k2 (fun _ _ _=>by simp);rw[cu]at ha;split at ha
   ·rename_i bw;rw[bc]at bw;simp only[Option.some.injEq,Prod.mk.injEq]at ha;obtain⟨rfl,rfl⟩:=ha;have st:=Step.put H hb bG hg rfl rfl (Ej.set w m.r (.stringIter s (pos+(Utf8.decode s pos).2)) (H.lt hb)) (.jE kc);refine⟨μ,_,_,?_,.dS (by simpa[goInt]using ax.cons (.bool μ true) (.cons (.int μ .i64 pos) (.cons (.int μ .i32 (Utf8.decode s pos).1) .nil))),st⟩;unfold Instr.next;simp only[Sem.run_bind,rZ,Result.andThen_ok];rw[if_pos bw];simp only[Sem.run_bind,Mb,Result.andThen_ok,Sem.run_pure];rfl
   ·rename_i bw;rw[bc]at bw;simp only[Option.some.injEq,Prod.mk.injEq]at ha;obtain⟨rfl,rfl⟩:=ha;refine⟨μ,_,w,?_,.dS (by simpa using ax.cons (.bool μ false) .nil),.refl H⟩;unfold Instr.next;simp only[Sem.run_bind,rZ,Result.andThen_ok];rw[if_neg bw];rfl
 ·rename_i hg;rw[hg]at k1;cases k1;cases k3 with
  |nh kc=>
   have rZ:=run_getObj_map (P:=P) k2 (fun _ _ _=>by simp);simp only[Option.some.injEq,Prod.mk.injEq]at ha;obtain⟨rfl,rfl⟩:=ha;refine⟨μ,_,w,?_,.dS (by simpa using ax.cons (.bool μ false) .nil),.refl H⟩;unfold Instr.next;simp only[Sem.run_bind,rZ,Result.andThen_ok];rfl
 ·rename_i mm since seen last hg;rw[hg]at k1;cases k1;cases k3 with
  |cV hk kc=>
   rename_i mk;have rZ:=run_getObj_map (P:=P) k2 (fun _ _ _=>by simp);have Mb:=fun o=>cJ (P:=P) (o:=o) k2 (fun _ _ _=>by simp);split at ha
   ·rename_i es clock QU;obtain⟨p1,p2,j1,j2,j3⟩:=H.obj mm mk hk;rw[QU]at j1;cases j1;cases j3 with
    |map hs=>
     rename_i cb;have JU:=run_getObj_map (P:=P) j2 (fun _ _ _=>by simp);simp only[aj]at ha;obtain⟨kR,ha⟩:=ha;have hlen:=hs.length;have ZF:cb.isEmpty=es.isEmpty:=by
      cases es<;>cases h9:cb.toList<;>rw[h9]at hlen<;>simp at hlen
      ·have:cb= #[]:=by apply Array.ext';simp[h9]
       simp[this]
      ·have:cb.size≠0:=by have:=congrArg List.length h9;simp at this;omega
       simp[Array.isEmpty,this]
     have ni:(cb.all fun e=>decide (e.born≥last))=es.all (fun e=>Nat.ble last e.born):=by
      rw[←Array.all_toList,←hs.GS (fun n=>decide (n≥last))]
      congr 1
      funext e
      rw[Bool.eq_iff_iff,aL];simp
     have GU:(!seen.toArray.isEmpty&& !cb.isEmpty&&cb.all fun e=>decide (e.born≥last))=false:=by
      rw[ZF,ni];have:seen.toArray.isEmpty=seen.isEmpty:=by cases seen<;>simp
      rw[this];simpa only[Bool.not_eq_true']using kR
     have sW:=hs.filter (fun n=> !seen.contains n);have CJ:(cb.filter fun e=> !seen.toArray.contains e.born).toList=cb.toList.filter (fun e=> !seen.contains e.born):=by
      simp
     split at ha
     ·rename_i hf;simp only[Option.some.injEq,Prod.mk.injEq]at ha;obtain⟨rfl,rfl⟩:=ha;rw[hf]at sW;have y8:(cb.filter fun e=> !seen.toArray.contains e.born)= #[]:=by
       apply Array.ext';rw[CJ];cases zR:cb.toList.filter (fun e=> !seen.contains e.born)with
       |nil=>rfl
       |cons x y=>rw[zR]at sW;cases sW
      refine⟨μ,_,w,?_,.dS (by simpa using ax.cons (.bool μ false) .nil),.refl H⟩;unfold Instr.next;simp only[Sem.run_bind,rZ,JU,Result.andThen_ok,GU,Bool.false_eq_true,if_false,y8];simp[Question.forced]
     ·rename_i e hf;simp only[aj,bc,Option.some.injEq,Prod.mk.injEq]at ha;obtain⟨akg,rfl,rfl⟩:=ha;rw[hf]at sW;cases zR:cb.toList.filter (fun e=> !seen.contains e.born)with
      |nil=>rw[zR]at sW;cases sW
      |cons e' rest=>
       rw[zR]at sW;cases sW with
       |cons q1 q2 q3 q4=>cases q4 with
        |nil=>
        have JC:(cb.filter fun e=> !seen.toArray.contains e.born)= #[e']:=by
         apply Array.ext';rw[CJ,zR]
        have hbe:e'.born<since:=by omega
        have st:=Step.put (o:=.cV (some mm) since (seen++[e.born]) clock) H hb bG hg rfl rfl (Ej.set w m.r (.mapIter (some mk.r) since (seen.toArray.push e'.born) clock) (H.lt hb)) (by
         have:=jA.cV (μ:=μ) (h:=h.put r (.cV (some mm) since (seen++[e.born]) clock)) (base:=base) (b:=r) (m:=m) (since:=since) (last:=clock) (seen:=seen++[e.born]) hk kc;rw[q3]at this ⊢;simpa using this)
        refine⟨μ,_,_,?_,.dS (by simpa using ax.cons (.bool μ true) (.cons q1 (.cons q2 .nil))),st⟩;unfold Instr.next;simp only[Sem.run_bind,rZ,JU,Result.andThen_ok,GU,Bool.false_eq_true,if_false,JC];have f1:(#[e'].filter fun x=>decide (x.born<since))= #[e']:=by simp[hbe]
        have f2:(#[e'].filter fun x=>decide (x.born≥since))= #[]:=by simp;omega
        simp only[f1,f2];simp[Question.forced,Mb]
     ·cases ha
   ·cases ha
 ·cases ha
theorem NV (H:bB E base B μ h w) {r:Nat} {m:MT} {v:Value} (ha:qg h r=some v) (hb:μ r=some m):
 ∃v',aq μ v v'∧(Instr.entry (.pointer (some ⟨m.r,0,none⟩))).run P w= .ok v' w:=by
 unfold qg at ha;obtain⟨o1,o2,k1,k2,k3⟩:=H.obj r m hb;split at ha
 ·rename_i mm since seen L1 hg;rw[hg]at k1;cases k1;cases k3 with
  |cV hk kc=>
   rename_i mk;have rZ:=run_getObj_map (P:=P) k2 (fun _ _ _=>by simp);split at ha
   ·rename_i es clock QU;obtain⟨p1,p2,j1,j2,j3⟩:=H.obj mm mk hk;rw[QU]at j1;cases j1;cases j3 with
    |map hs=>
     rename_i cb;have JU:=run_getObj_map (P:=P) j2 (fun _ _ _=>by simp);simp only[Option.bind_eq_some_iff,aj,beq_iff,Option.some.injEq]at ha;obtain⟨GH,h1,h2,e,h3,rfl⟩:=ha;obtain⟨e',q1,q2,q3⟩:=hs.find (fun n=>n==GH) h3;refine⟨_,.dS (by simpa using ax.cons q2 (.cons q3 .nil)),?_⟩;have adP:seen.toArray.back? =some GH:=by simpa using h1
     have adQ:cb.find? (fun e=>e.born==GH)=some e':=by rw[←Array.find?_toList];exact q1
     subst h2;unfold Instr.entry;simp only[Sem.run_bind,rZ,JU,Result.andThen_ok,adP,adQ];simp
   ·cases ha
 ·cases ha
end
end Go.M
